/- Texts of a proof, one behind the other: Q2 Q3 Q4 Q5 Q6 X1 X2 X3 Q7 Q14 Gqs0 Q15 Q10 Q16 X4 X5 Gql0 Q17 Gzd0 Q18 Gzf0 X6. No condition. -/
import Derived.Test.YtaidhghnflnmnaaGreatMa77faac4
import Derived.Test.YtaidhghnflnmnaaGreatM125e25b3
import Derived.Test.YtaidhghnflnmnaaGreatM48a2d4cf
namespace Go.Sp
open Go Go.Proofs
set_option linter.unusedSimpArgs false
set_option linter.unusedVariables false
set_option maxRecDepth 10000
theorem at_set {P : Po} {i j : Nat} {f : Fr} (hi : i < P.fs.length) : (P.mod i f).at j = if i = j then f else P.at j := by
  unfold Po.at Po.mod
  dsimp only
  rw [List.getD_eq_getElem?_getD, List.getD_eq_getElem?_getD, List.getElem?_set]
  by_cases h : i = j
  · subst h
    rw [if_pos rfl, if_pos rfl, if_pos hi]
    rfl
  · rw [if_neg h, if_neg h]
def ulk (P P' : Po) : Prop := ∀ i, i < P.fs.length → ∃ u, P'.at i = { P.at i with used := u }
theorem ulk.rf {P : Po} : ulk P P := fun i _ => ⟨(P.at i).used, rfl⟩
theorem ulk.tr {P P' P2 : Po} (a : ulk P P') (hl : P'.fs.length = P.fs.length) (b : ulk P' P2) : ulk P P2 := fun i hi => by
  obtain ⟨u, h1⟩ := a i hi
  obtain ⟨v, h2⟩ := b i (by rw [hl]; exact hi)
  exact ⟨v, by rw [h2, h1]⟩
theorem ulk_use {P : Po} {i : Nat} (hi : i < P.fs.length) (u : Bool) (h : Nat) : ulk P { P with fs := P.fs.set i { P.at i with used := u }, hand := h } := fun j hj => by
  have e : ({ P with fs := P.fs.set i { P.at i with used := u }, hand := h } : Po).at j = (P.mod i { P.at i with used := u }).at j := rfl
  rw [e, at_set hi]
  by_cases hc : i = j
  · subst hc
    exact ⟨u, if_pos rfl⟩
  · rw [if_neg hc]
    exact ⟨(P.at j).used, rfl⟩
theorem vic_ulk : ∀ (k : Nat) (P : Po), P.ok → ulk P (vic k P).2 ∧ ∀ i, (vic k P).1 = some i → (P.at i).filled = false ∨ (P.at i).pins ≤ 0
  | 0, P, h => ⟨.rf, fun i e => by cases e⟩
  | k + 1, P, h => by
    have t1 : ulk P P.turn := fun i _ => ⟨(P.at i).used, rfl⟩
    unfold vic
    split
    · rename_i h0
      exact ⟨t1, fun i e => by cases e; exact .inl h0⟩
    · split
      · obtain ⟨a, b⟩ := vic_ulk k P.turn (turn_ok h)
        exact ⟨t1.tr rfl a, fun i e => b i e⟩
      · rename_i h1
        split
        · have hl : P.like { P.turn with fs := P.fs.set P.hand { P.at P.hand with used := false } } := ⟨rfl, rfl, rfl, rfl, List.length_set⟩
          obtain ⟨a, b⟩ := vic_ulk k _ (hl.ok h (turn_ok h).h)
          obtain ⟨_, _, c⟩ := vic_like k _ (hl.ok h (turn_ok h).h)
          have t2 : ulk P { P.turn with fs := P.fs.set P.hand { P.at P.hand with used := false } } := ulk_use h.h false _
          refine ⟨t2.tr hl.n a, fun i e => ?_⟩
          have hi := c i e
          rw [hl.n] at hi
          obtain ⟨u, hu⟩ := t2 i hi
          have := b i e
          rw [hu] at this
          exact this
        · exact ⟨t1, fun i e => by cases e; exact .inr (by omega)⟩
def dst (n h j : Nat) : Nat := if h ≤ j then j - h else n + j - h
theorem vic_some : ∀ (k : Nat) (P : Po) (j : Nat), P.ok → j < P.fs.length → ((P.at j).filled = false ∨ (P.at j).pins ≤ 0) → dst P.fs.length P.hand j + (if (P.at j).used = true then P.fs.length else 0) < k → (vic k P).1 ≠ none
  | 0, P, j, h, hj, hf, hk => by omega
  | k + 1, P, j, h, hj, hf, hk => by
    have hh := h.h
    have h2 := h.n2
    have hd : ∀ x, P.hand ≠ j → dst P.fs.length ((P.hand + 1) % P.fs.length) j + 1 = dst P.fs.length P.hand j ∨ x = (0 : Nat) ∧ False := fun x hne => by
      left
      unfold dst
      rcases Nat.lt_or_ge (P.hand + 1) P.fs.length with y | y
      · rw [Nat.mod_eq_of_lt y]
        split <;> split <;> omega
      · have : P.hand + 1 = P.fs.length := by omega
        rw [this, Nat.mod_self]
        split <;> split <;> omega
    unfold vic
    split
    · simp
    · rename_i c1
      split
      · rename_i c2
        have hne : P.hand ≠ j := fun e => by
          subst e
          rcases hf with x | x
          · exact c1 x
          · omega
        refine vic_some k P.turn j (turn_ok h) hj hf ?_
        rcases hd 0 hne with x | x
        · show dst P.fs.length ((P.hand + 1) % P.fs.length) j + (if (P.at j).used = true then P.fs.length else 0) < k
          omega
        · exact x.2.elim
      · split
        · rename_i c2 c3
          have hl : P.like { P.turn with fs := P.fs.set P.hand { P.at P.hand with used := false } } := ⟨rfl, rfl, rfl, rfl, List.length_set⟩
          have e : ({ P.turn with fs := P.fs.set P.hand { P.at P.hand with used := false } } : Po).at j = if P.hand = j then { P.at P.hand with used := false } else P.at j := at_set hh
          by_cases hne : P.hand = j
          · rw [if_pos hne] at e
            subst hne
            refine vic_some k _ P.hand (hl.ok h (turn_ok h).h) (by rw [hl.n]; exact hj) (by rw [e]; exact hf) ?_
            rw [e, hl.n]
            dsimp only
            rw [if_pos c3] at hk
            have hx : dst P.fs.length ((P.hand + 1) % P.fs.length) P.hand < P.fs.length := by
              unfold dst
              rcases Nat.lt_or_ge (P.hand + 1) P.fs.length with y | y
              · rw [Nat.mod_eq_of_lt y]
                split <;> omega
              · have : P.hand + 1 = P.fs.length := by omega
                rw [this, Nat.mod_self]
                split <;> omega
            have hz : dst P.fs.length P.hand P.hand = 0 := by unfold dst; rw [if_pos (Nat.le_refl _)]; omega
            show dst P.fs.length ((P.hand + 1) % P.fs.length) P.hand + (if false = true then P.fs.length else 0) < k
            rw [if_neg (by decide)]
            omega
          · rw [if_neg hne] at e
            refine vic_some k _ j (hl.ok h (turn_ok h).h) (by rw [hl.n]; exact hj) (by rw [e]; exact hf) ?_
            rw [e, hl.n]
            rcases hd 0 hne with x | x
            · show dst P.fs.length ((P.hand + 1) % P.fs.length) j + (if (P.at j).used = true then P.fs.length else 0) < k
              omega
            · exact x.2.elim
        · simp
theorem vic_none {P : Po} (h : P.ok) (hv : (vic (2 * P.fs.length + 1) P).1 = none) {j : Nat} (hj : j < P.fs.length) : (P.at j).filled = true ∧ 0 < (P.at j).pins := by
  have hh := h.h
  have hd : dst P.fs.length P.hand j < P.fs.length := by unfold dst; split <;> omega
  by_cases hf : (P.at j).filled = false ∨ (P.at j).pins ≤ 0
  · exact absurd hv (vic_some _ P j h hj hf (by split <;> omega))
  · refine ⟨?_, by omega⟩
    cases hc : (P.at j).filled
    · exact absurd (.inl hc) hf
    · rfl
abbrev Gh.T (g : Gh) (p : Nat) : List UInt8 := g.txt.getD p []
abbrev Gh.N (g : Gh) (p : Nat) : Int := g.lsn.getD p 0
abbrev Gh.P (g : Gh) (p : Nat) : Int := g.pin.getD p 0
structure Fok (g : Gh) (p : Nat) (f : Fr) : Prop where
  id : f.id = (p : Int)
  t : f.text = g.T p
  n : f.lsn = g.N p
  p : f.pins = g.P p
  d : f.dirty = true → 1 ≤ f.first ∧ f.first ≤ f.lsn
def Rsd (P : Po) (p : Nat) : Prop := ∃ i, i < P.fs.length ∧ (P.at i).filled = true ∧ (P.at i).id = (p : Int)
def Drt (P : Po) (p : Nat) : Prop := ∃ i, i < P.fs.length ∧ (P.at i).filled = true ∧ (P.at i).id = (p : Int) ∧ (P.at i).dirty = true
structure Pv (S : St) (sb : Nat) (w : Wo) (g : Gh) : Prop where
  ok : w.ok S sb 80
  gok : g.ok
  sp : S.pages = 8
  bs : w.G.base + w.G.sectors ≤ S.base
  sec : w.G.sectors = 40
  wi : ∃ ρ, Wi w.Z sb 80 w.G ρ
  fr : ∀ i, i < w.P.fs.length → (w.P.at i).filled = true → ∃ p, p < 8 ∧ Fok g p (w.P.at i)
  un : ∀ i j, i < w.P.fs.length → j < w.P.fs.length → (w.P.at i).filled = true → (w.P.at j).filled = true → (w.P.at i).id = (w.P.at j).id → i = j
  cl : ∀ p, p < 8 → ¬ Drt w.P p → (w.Z.rpg S (p : Int) = ([], 0, 8) ∧ g.N p = 0 ∧ g.T p = []) ∨ (w.Z.rpg S (p : Int) = (g.T p, g.N p, 0) ∧ 1 ≤ g.N p ∧ g.N p ≤ (w.G.durable : Int))
  di : ∀ p, p < 8 → Drt w.P p → w.Z.rpg S (p : Int) = ([], 0, 8) ∨ ∃ t n, w.Z.rpg S (p : Int) = (t, n, 0) ∧ 1 ≤ n ∧ n ≤ (w.G.durable : Int) ∧ n < g.N p
  ls : ∀ p, p < 8 → 0 ≤ g.N p ∧ g.N p ≤ (w.G.all.length : Int)
  tx : ∀ p, p < 8 → 1 ≤ g.N p → (g.T p).length = 224
  pn : ∀ p, p < 8 → 0 ≤ g.P p ∧ (0 < g.P p → Rsd w.P p)
theorem Fok.use {g : Gh} {p : Nat} {f : Fr} (h : Fok g p f) (u : Bool) : Fok g p { f with used := u } := ⟨h.id, h.t, h.n, h.p, h.d⟩
theorem Rsd.ul {P P' : Po} (h : ulk P P') (hl : P'.fs.length = P.fs.length) (p : Nat) : Rsd P' p ↔ Rsd P p := by
  constructor
  · rintro ⟨i, h1, h2, h3⟩
    rw [hl] at h1
    obtain ⟨u, hu⟩ := h i h1
    rw [hu] at h2 h3
    exact ⟨i, h1, h2, h3⟩
  · rintro ⟨i, h1, h2, h3⟩
    obtain ⟨u, hu⟩ := h i h1
    exact ⟨i, by rw [hl]; exact h1, by rw [hu]; exact h2, by rw [hu]; exact h3⟩
theorem Drt.ul {P P' : Po} (h : ulk P P') (hl : P'.fs.length = P.fs.length) (p : Nat) : Drt P' p ↔ Drt P p := by
  constructor
  · rintro ⟨i, h1, h2, h3, h4⟩
    rw [hl] at h1
    obtain ⟨u, hu⟩ := h i h1
    rw [hu] at h2 h3 h4
    exact ⟨i, h1, h2, h3, h4⟩
  · rintro ⟨i, h1, h2, h3, h4⟩
    obtain ⟨u, hu⟩ := h i h1
    exact ⟨i, by rw [hl]; exact h1, by rw [hu]; exact h2, by rw [hu]; exact h3, by rw [hu]; exact h4⟩
theorem Pv.ul {S : St} {sb : Nat} {w : Wo} {g : Gh} (h : Pv S sb w g) {P' : Po} (l : w.P.like P') (hh : P'.hand < w.P.fs.length) (u : ulk w.P P') : Pv S sb ⟨P', w.G, w.Z⟩ g := by
  have hn := l.n
  refine ⟨h.ok.mvP l hh, h.gok, h.sp, h.bs, h.sec, h.wi, fun i h1 h2 => ?_, fun i j h1 h2 h3 h4 h5 => ?_, fun p hp hd => h.cl p hp (fun x => hd ((Drt.ul u hn p).2 x)), fun p hp hd => h.di p hp ((Drt.ul u hn p).1 hd), h.ls, h.tx, fun p hp => ⟨(h.pn p hp).1, fun x => (Rsd.ul u hn p).2 ((h.pn p hp).2 x)⟩⟩
  · dsimp only at h1 h2 ⊢
    rw [hn] at h1
    obtain ⟨v, hv⟩ := u i h1
    rw [hv] at h2 ⊢
    obtain ⟨p, hp, hf⟩ := h.fr i h1 h2
    exact ⟨p, hp, hf.use v⟩
  · dsimp only at h1 h2 h3 h4 h5
    rw [hn] at h1 h2
    obtain ⟨v, hv⟩ := u i h1
    obtain ⟨v', hv'⟩ := u j h2
    rw [hv] at h3 h5
    rw [hv'] at h4 h5
    exact h.un i j h1 h2 h3 h4 h5
theorem cln_at {P : Po} {i : Nat} (hi : i < P.fs.length) (j : Nat) : (P.cln i).at j = if i = j then { P.at i with dirty := false, first := 0 } else P.at j := at_set hi
theorem Pv.save {S : St} {sb : Nat} {w : Wo} {g : Gh} (h : Pv S sb w g) {i : Nat} (hi : i < w.P.fs.length) (hf : (w.P.at i).filled = true) :
    (svp S w i).1 = 0 ∧ Pv S sb (svp S w i).2 g ∧ w.P.like (svp S w i).2.P ∧ ((svp S w i).2.P.at i).filled = true ∧ ((svp S w i).2.P.at i).dirty = false ∧ ((svp S w i).2.P.at i).pins = (w.P.at i).pins ∧
      (∀ p, Rsd (svp S w i).2.P p ↔ Rsd w.P p) ∧ (svp S w i).2.G.all = w.G.all ∧ ∀ j, j ≠ i → (svp S w i).2.P.at j = w.P.at j := by
  cases hd : (w.P.at i).dirty
  · have e : svp S w i = (0, w) := by unfold svp; rw [if_pos hd]
    rw [e]
    exact ⟨rfl, h, .rfl', hf, hd, rfl, fun p => Iff.rfl, rfl, fun j _ => rfl⟩
  · obtain ⟨p, hp, F⟩ := h.fr i hi hf
    obtain ⟨ρ, hW⟩ := h.wi
    obtain ⟨d1, d2⟩ := F.d hd
    have hn1 : 1 ≤ g.N p := by rw [← F.n]; omega
    have hls := h.ls p hp
    obtain ⟨Y, ρ', d, e, W2, dd, dl, r1, r2⟩ := svp_calm h.ok hW h.bs hi F.id (by rw [h.sp]; exact hp) hd (by rw [F.t]; exact h.tx p hp hn1) (by omega) (by rw [F.n]; exact hls.2)
    have sok := (svp_ok h.ok hi).1
    rw [e] at sok ⊢
    have ca := cln_at hi
    have hlen : (w.P.cln i).fs.length = w.P.fs.length := List.length_set
    have hD : ∀ q, q ≠ p → (Drt (w.P.cln i) q ↔ Drt w.P q) := fun q hq => by
      constructor
      · rintro ⟨j, h1, h2, h3, h4⟩
        rw [hlen] at h1
        rw [ca] at h2 h3 h4
        by_cases hj : i = j
        · rw [if_pos hj] at h4
          cases h4
        · rw [if_neg hj] at h2 h3 h4
          exact ⟨j, h1, h2, h3, h4⟩
      · rintro ⟨j, h1, h2, h3, h4⟩
        have hj : ¬ i = j := fun x => by
          subst x
          rw [F.id] at h3
          omega
        exact ⟨j, by rw [hlen]; exact h1, by rw [ca, if_neg hj]; exact h2, by rw [ca, if_neg hj]; exact h3, by rw [ca, if_neg hj]; exact h4⟩
    have hDp : ¬ Drt (w.P.cln i) p := by
      rintro ⟨j, h1, h2, h3, h4⟩
      rw [hlen] at h1
      rw [ca] at h2 h3 h4
      by_cases hj : i = j
      · rw [if_pos hj] at h4
        cases h4
      · rw [if_neg hj] at h2 h3 h4
        exact hj (h.un i j hi h1 hf h2 (by rw [F.id, h3]))
    have hR : ∀ q, Rsd (w.P.cln i) q ↔ Rsd w.P q := fun q => by
      constructor
      · rintro ⟨j, h1, h2, h3⟩
        rw [hlen] at h1
        rw [ca] at h2 h3
        by_cases hj : i = j
        · rw [if_pos hj] at h3
          exact ⟨i, hi, hf, h3⟩
        · rw [if_neg hj] at h2 h3
          exact ⟨j, h1, h2, h3⟩
      · rintro ⟨j, h1, h2, h3⟩
        by_cases hj : i = j
        · exact ⟨i, by rw [hlen]; exact hi, by rw [ca, if_pos rfl]; exact hf, by rw [ca, if_pos rfl]; rw [hj]; exact h3⟩
        · exact ⟨j, by rw [hlen]; exact h1, by rw [ca, if_neg hj]; exact h2, by rw [ca, if_neg hj]; exact h3⟩
    have hat : (w.P.cln i).at i = { w.P.at i with dirty := false, first := 0 } := by rw [ca, if_pos rfl]
    refine ⟨rfl, ⟨sok, h.gok, h.sp, h.bs, h.sec, ⟨ρ', W2⟩, fun j h1 h2 => ?_, fun a b h1 h2 h3 h4 h5 => ?_, fun q hq hd' => ?_, fun q hq hd' => ?_, h.ls, h.tx, fun q hq => ⟨(h.pn q hq).1, fun x => (hR q).2 ((h.pn q hq).2 x)⟩⟩, ⟨rfl, rfl, rfl, rfl, hlen⟩, by dsimp only; rw [hat]; exact hf, by dsimp only; rw [hat], by dsimp only; rw [hat], hR, rfl, fun j hj => by dsimp only; rw [ca, if_neg (fun x => hj x.symm)]⟩
    · dsimp only at h1 h2 ⊢
      rw [hlen] at h1
      rw [ca] at h2 ⊢
      by_cases hj : i = j
      · rw [if_pos hj]
        exact ⟨p, hp, F.id, F.t, F.n, F.p, fun x => by cases x⟩
      · rw [if_neg hj] at h2 ⊢
        exact h.fr j h1 h2
    · dsimp only at h1 h2 h3 h4 h5
      rw [hlen] at h1 h2
      rw [ca] at h3 h5
      rw [ca] at h4 h5
      have key : ∀ x, (if i = x then { w.P.at i with dirty := false, first := 0 } else w.P.at x).filled = (w.P.at x).filled ∧ (if i = x then { w.P.at i with dirty := false, first := 0 } else w.P.at x).id = (w.P.at x).id := fun x => by
        by_cases hx : i = x
        · rw [if_pos hx, ← hx]
          exact ⟨rfl, rfl⟩
        · rw [if_neg hx]
          exact ⟨rfl, rfl⟩
      rw [(key a).1] at h3
      rw [(key b).1] at h4
      rw [(key a).2, (key b).2] at h5
      exact h.un a b h1 h2 h3 h4 h5
    · dsimp only at hd' ⊢
      by_cases hqp : q = p
      · subst hqp
        right
        refine ⟨by rw [r1, F.t, F.n], hn1, ?_⟩
        rw [← F.n]
        exact dl
      · rw [r2 q (by rw [h.sp]; exact hq) hqp]
        rcases h.cl q hq (fun x => hd' ((hD q hqp).2 x)) with x | ⟨x, y, z⟩
        · exact .inl x
        · exact .inr ⟨x, y, by omega⟩
    · dsimp only at hd' ⊢
      have hqp : q ≠ p := fun x => by subst x; exact hDp hd'
      rw [r2 q (by rw [h.sp]; exact hq) hqp]
      rcases h.di q hq ((hD q hqp).1 hd') with x | ⟨t, n, x, y, z, u⟩
      · exact .inl x
      · exact .inr ⟨t, n, x, y, by omega, u⟩
theorem put_at {P : Po} {i : Nat} {f : Fr} (hi : i < P.fs.length) (j : Nat) : (P.put i f).at j = if i = j then f else P.at j := at_set hi
theorem Pv.put {S : St} {sb : Nat} {w : Wo} {g : Gh} (h : Pv S sb w g) {i : Nat} (hi : i < w.P.fs.length) (hc : (w.P.at i).filled = false ∨ ((w.P.at i).dirty = false ∧ (w.P.at i).pins ≤ 0)) {p : Nat} (hp : p < 8) (hr : ¬ Rsd w.P p) :
    Pv S sb ⟨w.P.put i (nfr (w.Z.rpg S (p : Int)) (p : Int)), w.G, w.Z⟩ g ∧ w.P.like (w.P.put i (nfr (w.Z.rpg S (p : Int)) (p : Int))) := by
  have hnd : ¬ Drt w.P p := fun ⟨j, a, b, c, _⟩ => hr ⟨j, a, b, c⟩
  have hcl := h.cl p hp hnd
  have hpn := h.pn p hp
  have hT : (w.Z.rpg S (p : Int)).1 = g.T p := by
    rcases hcl with ⟨e, _, e2⟩ | ⟨e, _, _⟩
    · rw [e, e2]
    · rw [e]
  have hN : (w.Z.rpg S (p : Int)).2.1 = g.N p := by
    rcases hcl with ⟨e, e2, _⟩ | ⟨e, _, _⟩
    · rw [e, e2]
    · rw [e]
  have hP : g.P p = 0 := by
    rcases Int.lt_or_le 0 (g.P p) with x | x
    · exact absurd (hpn.2 x) hr
    · omega
  generalize w.Z.rpg S (p : Int) = r at hT hN
  have hl : w.P.like (w.P.put i (nfr r (p : Int))) := ⟨rfl, rfl, rfl, rfl, List.length_set⟩
  have hlen := hl.n
  have pa := put_at (f := nfr r (p : Int)) hi
  have F : Fok g p (nfr r (p : Int)) := ⟨rfl, hT, hN, hP.symm, fun x => by cases x⟩
  have other : ∀ j, i ≠ j → (w.P.put i (nfr r (p : Int))).at j = w.P.at j := fun j hj => by rw [pa, if_neg hj]
  have self : (w.P.put i (nfr r (p : Int))).at i = nfr r (p : Int) := by rw [pa, if_pos rfl]
  have hhd : (w.P.put i (nfr r (p : Int))).hand < w.P.fs.length := h.ok.p.h
  generalize w.P.put i (nfr r (p : Int)) = P' at *
  have hD : ∀ q, Drt P' q ↔ Drt w.P q := fun q => by
    constructor
    · rintro ⟨j, h1, h2, h3, h4⟩
      rw [hlen] at h1
      by_cases hj : i = j
      · subst hj
        rw [self] at h4
        cases h4
      · rw [other j hj] at h2 h3 h4
        exact ⟨j, h1, h2, h3, h4⟩
    · rintro ⟨j, h1, h2, h3, h4⟩
      have hj : i ≠ j := fun x => by
        subst x
        rcases hc with c | c
        · rw [c] at h2; cases h2
        · rw [c.1] at h4; cases h4
      exact ⟨j, by rw [hlen]; exact h1, by rw [other j hj]; exact h2, by rw [other j hj]; exact h3, by rw [other j hj]; exact h4⟩
  refine ⟨⟨h.ok.mvP hl ?_, h.gok, h.sp, h.bs, h.sec, h.wi, fun j h1 h2 => ?_, fun a b h1 h2 h3 h4 h5 => ?_, fun q hq hd => h.cl q hq (fun x => hd ((hD q).2 x)), fun q hq hd => h.di q hq ((hD q).1 hd), h.ls, h.tx, fun q hq => ⟨(h.pn q hq).1, fun x => ?_⟩⟩, hl⟩
  · exact hhd
  · dsimp only at h1 h2 ⊢
    rw [hlen] at h1
    by_cases hj : i = j
    · subst hj
      rw [self]
      exact ⟨p, hp, F⟩
    · rw [other j hj] at h2 ⊢
      exact h.fr j h1 h2
  · dsimp only at h1 h2 h3 h4 h5
    rw [hlen] at h1 h2
    by_cases ha : i = a
    · by_cases hb : i = b
      · omega
      · subst ha
        rw [other b hb] at h4 h5
        rw [self] at h5
        exact absurd ⟨b, h2, h4, h5.symm⟩ hr
    · by_cases hb : i = b
      · subst hb
        rw [other a ha] at h3 h5
        rw [self] at h5
        exact absurd ⟨a, h1, h3, h5⟩ hr
      · rw [other a ha] at h3 h5
        rw [other b hb] at h4 h5
        exact h.un a b h1 h2 h3 h4 h5
  · obtain ⟨j, h1, h2, h3⟩ := (h.pn q hq).2 x
    have hj : i ≠ j := fun y => by
      subst y
      rcases hc with c | c
      · rw [c] at h2; cases h2
      · obtain ⟨q', hq', F'⟩ := h.fr i h1 h2
        have : q' = q := by have := F'.id; omega
        subst this
        have := F'.p
        omega
    exact ⟨j, by dsimp only; rw [hlen]; exact h1, by dsimp only; rw [other j hj]; exact h2, by dsimp only; rw [other j hj]; exact h3⟩
theorem fndf_none (id : Int) : ∀ (fs : List Fr) (a : Nat), fndf id fs a = none → ∀ (i : Nat) (f : Fr), fs[i]? = some f → ¬ (f.filled = true ∧ f.id = id)
  | [], a, h, i, f, hf => by simp at hf
  | x :: r, a, h, i, f, hf => by
    unfold fndf at h
    by_cases hc : x.filled = true ∧ x.id = id
    · rw [if_pos hc] at h; cases h
    · rw [if_neg hc] at h
      cases i with
      | zero =>
        obtain rfl : x = f := by simpa using hf
        exact hc
      | succ i => exact fndf_none id r (a + 1) h i f (by simpa using hf)
theorem find_none {P : Po} {p : Nat} (h : P.find (p : Int) = none) : ¬ Rsd P p := fun ⟨i, h1, h2, h3⟩ => fndf_none _ _ _ h i _ (at_get h1) ⟨h2, h3⟩
theorem find_some {P : Po} {id : Int} {i : Nat} (h : P.find id = some i) : i < P.fs.length ∧ (P.at i).filled = true ∧ (P.at i).id = id := by
  obtain ⟨_, h2, f, h3, h4, h5⟩ := fndf_lt _ _ _ _ h
  have hi := find_lt h
  have e := at_get hi
  rw [Nat.sub_zero] at h3
  rw [e] at h3
  obtain rfl : P.at i = f := by simpa using h3
  exact ⟨hi, h4, h5⟩
theorem Pv.hold {S : St} {sb : Nat} {w : Wo} {g : Gh} (h : Pv S sb w g) {p : Nat} (hp : p < 8) : Pv S sb (hld S w (p : Int)).2 g ∧ (hld S w (p : Int)).2.G.all = w.G.all ∧ (hld S w (p : Int)).2.P.fs.length = w.P.fs.length ∧
    ((∃ i, (hld S w (p : Int)).1 = (some i, 0) ∧ i < w.P.fs.length ∧ ((hld S w (p : Int)).2.P.at i).filled = true ∧ ((hld S w (p : Int)).2.P.at i).id = (p : Int)) ∨
      ((hld S w (p : Int)).1 = (none, 7) ∧ ∀ j, j < w.P.fs.length → ((hld S w (p : Int)).2.P.at j).filled = true ∧ 0 < ((hld S w (p : Int)).2.P.at j).pins)) := by
  have hok := h.ok.p
  unfold hld
  cases hf : w.P.find (p : Int) with
  | some i =>
    obtain ⟨h1, h2, h3⟩ := find_some hf
    have l : w.P.like (w.P.use i) := ⟨rfl, rfl, rfl, rfl, List.length_set⟩
    have u : ulk w.P (w.P.use i) := ulk_use h1 true w.P.hand
    have e : (w.P.use i).at i = { w.P.at i with used := true } := by
      have := at_set (f := { w.P.at i with used := true }) (j := i) h1
      rw [if_pos rfl] at this
      exact this
    refine ⟨h.ul l hok.h u, rfl, l.n, .inl ⟨i, rfl, h1, ?_, ?_⟩⟩
    · dsimp only; rw [e]; exact h2
    · dsimp only; rw [e]; exact h3
  | none =>
    have hr := find_none hf
    have hnd : ¬ Drt w.P p := fun ⟨j, a, b, c, _⟩ => hr ⟨j, a, b, c⟩
    have he : (w.Z.rpg S (p : Int)).2.2 = 0 ∨ (w.Z.rpg S (p : Int)).2.2 = 8 := by
      rcases h.cl p hp hnd with ⟨e, _⟩ | ⟨e, _⟩
      · rw [e]; exact .inr rfl
      · rw [e]; exact .inl rfl
    dsimp only
    unfold hl1
    rw [if_neg (by omega)]
    obtain ⟨v1, v2, v3⟩ := vic_like (2 * w.P.fs.length + 1) w.P hok
    obtain ⟨v4, v5⟩ := vic_ulk (2 * w.P.fs.length + 1) w.P hok
    have v6 := fun hv j hj => vic_none (P := w.P) hok hv (j := j) hj
    generalize vic (2 * w.P.fs.length + 1) w.P = v at *
    obtain ⟨o, V⟩ := v
    dsimp only at v1 v2 v3 v4 v5 v6
    have hV : Pv S sb ⟨V, w.G, w.Z⟩ g := h.ul v1 (by have := v2.h; rw [v1.n] at this; exact this) v4
    have hrV : ¬ Rsd V p := fun x => hr ((Rsd.ul v4 v1.n p).1 x)
    unfold hl2
    cases o with
    | none =>
      refine ⟨hV, rfl, v1.n, .inr ⟨rfl, fun j hj => ?_⟩⟩
      obtain ⟨u, hu⟩ := v4 j hj
      dsimp only
      rw [hu]
      exact v6 rfl j hj
    | some i =>
      have hi := v3 i rfl
      have hiV : i < V.fs.length := by rw [v1.n]; exact hi
      obtain ⟨u, hu⟩ := v4 i hi
      have hc0 : (V.at i).filled = false ∨ (V.at i).pins ≤ 0 := by rw [hu]; exact v5 i rfl
      dsimp only
      by_cases c5 : (V.at i).filled = true
      · rw [if_pos c5]
        obtain ⟨s1, s2, s3, s4, s5, s6, s7, s8, s9⟩ := hV.save (i := i) hiV c5
        have hz : (svp S ⟨V, w.G, w.Z⟩ i).2.Z.rpg S (p : Int) = w.Z.rpg S (p : Int) := by
          have hnd2 : ¬ Drt (svp S ⟨V, w.G, w.Z⟩ i).2.P p := fun ⟨j, a, b, c, _⟩ => hrV ((s7 p).1 ⟨j, a, b, c⟩)
          rcases s2.cl p hp hnd2 with ⟨e, e1, e2⟩ | ⟨e, e1, e2⟩
          · rcases h.cl p hp hnd with ⟨f, f1, f2⟩ | ⟨f, f1, f2⟩
            · rw [e, f]
            · omega
          · rcases h.cl p hp hnd with ⟨f, f1, f2⟩ | ⟨f, f1, f2⟩
            · omega
            · rw [e, f]
        generalize svp S ⟨V, w.G, w.Z⟩ i = sv at *
        obtain ⟨e2, w2⟩ := sv
        dsimp only at s1 s2 s3 s4 s5 s6 s7 s8 s9 hz ⊢
        subst s1
        rw [if_pos rfl]
        have hi2 : i < w2.P.fs.length := by rw [s3.n]; exact hiV
        have hpi : (w2.P.at i).pins ≤ 0 := by
          rw [s6]
          rcases hc0 with x | x
          · rw [x] at c5; cases c5
          · exact x
        obtain ⟨q1, q2⟩ := s2.put hi2 (.inr ⟨s5, hpi⟩) hp (fun x => hrV ((s7 p).1 x))
        rw [hz] at q1 q2
        have pa := put_at (f := nfr (w.Z.rpg S (p : Int)) (p : Int)) hi2 i
        rw [if_pos rfl] at pa
        refine ⟨q1, s8, q2.n.trans (s3.n.trans v1.n), .inl ⟨i, rfl, hi, ?_, ?_⟩⟩
        · dsimp only; rw [pa]
        · dsimp only; rw [pa]
      · have c5' : (V.at i).filled = false := by simpa using c5
        rw [if_neg c5]
        obtain ⟨q1, q2⟩ := hV.put hiV (.inl c5') hp hrV
        have pa := put_at (f := nfr (w.Z.rpg S (p : Int)) (p : Int)) hiV i
        rw [if_pos rfl] at pa
        refine ⟨q1, rfl, q2.n.trans v1.n, .inl ⟨i, rfl, hi, ?_, ?_⟩⟩
        · dsimp only; rw [pa]
        · dsimp only; rw [pa]
theorem Pv.hold_out {S : St} {sb : Nat} {w : Wo} {g : Gh} (h : Pv S sb w g) {id : Int} (hid : id < 0 ∨ 8 ≤ id) : hld S w id = ((none, 6), w) := by
  have hsp := h.sp
  have hc : S.chk id = 6 := by unfold St.chk; rw [if_pos (by omega)]
  have hr : w.Z.rpg S id = ([], 0, 6) := by unfold Dk.rpg; rw [if_neg (by rw [hc]; decide)]
  unfold hld
  cases hf : w.P.find id with
  | some i =>
    obtain ⟨h1, h2, h3⟩ := find_some hf
    obtain ⟨p, hp, F⟩ := h.fr i h1 h2
    have := F.id
    omega
  | none =>
    dsimp only
    unfold hl1
    rw [hr, if_pos (by decide)]
theorem Pv.app {S : St} {sb : Nat} {w : Wo} {g : Gh} (h : Pv S sb w g) (c : Rc) : Pv S sb ⟨w.P, (w.G.append c).2, w.Z⟩ g := by
  obtain ⟨ρ, hW⟩ := h.wi
  obtain ⟨a1, a2⟩ := append_okG h.ok.g c
  have hA := hW.app c
  have e : (w.G.append c).2 = { w.G with all := (w.G.append c).2.all } ∧ w.G.all.length ≤ (w.G.append c).2.all.length := by
    rw [append_is hW.dead]
    split
    · split
      · exact ⟨rfl, by dsimp only; rw [List.length_append]; omega⟩
      · exact ⟨rfl, Nat.le_refl _⟩
    · exact ⟨rfl, Nat.le_refl _⟩
  obtain ⟨e1, e2⟩ := e
  generalize (w.G.append c).2 = G2 at *
  have eb : G2.base = w.G.base := by rw [e1]
  have es : G2.sectors = w.G.sectors := by rw [e1]
  have ed : G2.durable = w.G.durable := by rw [e1]
  refine ⟨⟨h.ok.p, h.ok.z, h.ok.sb, h.ok.nn, a1, h.ok.s, h.ok.st, h.ok.lg.trans a2.symm⟩, h.gok, h.sp, by dsimp only; rw [eb, es]; exact h.bs, es.trans h.sec, ⟨ρ, hA⟩, h.fr, h.un, by dsimp only; rw [ed]; exact h.cl, by dsimp only; rw [ed]; exact h.di, fun p hp => ⟨(h.ls p hp).1, ?_⟩, h.tx, h.pn⟩
  have := (h.ls p hp).2
  dsimp only
  omega
theorem put_T {g : Gh} (hg : g.ok) {p : Nat} (hp : p < 8) (t : List UInt8) (n : Int) (q : Nat) : (g.put p t n).T q = if p = q then t else g.T q := by
  have := hg.t
  unfold Gh.T Gh.put
  dsimp only
  rw [List.getD_eq_getElem?_getD, List.getD_eq_getElem?_getD, List.getElem?_set]
  by_cases h : p = q
  · rw [if_pos h, if_pos h, if_pos (by omega)]
    rfl
  · rw [if_neg h, if_neg h]
theorem put_N {g : Gh} (hg : g.ok) {p : Nat} (hp : p < 8) (t : List UInt8) (n : Int) (q : Nat) : (g.put p t n).N q = if p = q then n else g.N q := by
  have := hg.l
  unfold Gh.N Gh.put
  dsimp only
  rw [List.getD_eq_getElem?_getD, List.getD_eq_getElem?_getD, List.getElem?_set]
  by_cases h : p = q
  · rw [if_pos h, if_pos h, if_pos (by omega)]
    rfl
  · rw [if_neg h, if_neg h]
theorem Pv.turn {S : St} {sb : Nat} {w : Wo} {g : Gh} (h : Pv S sb w g) {p i : Nat} (hp : p < 8) (hi : i < w.P.fs.length) (hf : (w.P.at i).filled = true) (hid : (w.P.at i).id = (p : Int)) {text : List UInt8} (ht : text.length = 224) {lsn : Int} (h1 : 1 ≤ lsn) (hN : g.N p < lsn) (hl : lsn ≤ (w.G.all.length : Int)) :
    Pv S sb ⟨w.P.mod i (sfr (w.P.at i) text lsn), w.G, w.Z⟩ (g.put p text lsn) ∧ Drt (w.P.mod i (sfr (w.P.at i) text lsn)) p := by
  obtain ⟨p', hp', F⟩ := h.fr i hi hf
  have : p' = p := by have := F.id; omega
  subst this
  have ma := fun j => at_set (f := sfr (w.P.at i) text lsn) (j := j) hi
  have hl' := mod_like w.P i (sfr (w.P.at i) text lsn)
  have hlen := hl'.n
  have hhd : (w.P.mod i (sfr (w.P.at i) text lsn)).hand < w.P.fs.length := h.ok.p.h
  have self : (w.P.mod i (sfr (w.P.at i) text lsn)).at i = sfr (w.P.at i) text lsn := by rw [ma, if_pos rfl]
  have other : ∀ j, i ≠ j → (w.P.mod i (sfr (w.P.at i) text lsn)).at j = w.P.at j := fun j hj => by rw [ma, if_neg hj]
  have pT := put_T h.gok hp text lsn
  have pN := put_N h.gok hp text lsn
  have hdD : ∀ q, p' ≠ q → (Drt (w.P.mod i (sfr (w.P.at i) text lsn)) q ↔ Drt w.P q) := fun q hq => by
    constructor
    · rintro ⟨j, a, b, c, d⟩
      rw [hlen] at a
      by_cases hj : i = j
      · subst hj
        rw [self] at c
        have : (w.P.at i).id = (q : Int) := c
        omega
      · rw [other j hj] at b c d
        exact ⟨j, a, b, c, d⟩
    · rintro ⟨j, a, b, c, d⟩
      have hj : i ≠ j := fun x => by subst x; omega
      exact ⟨j, by rw [hlen]; exact a, by rw [other j hj]; exact b, by rw [other j hj]; exact c, by rw [other j hj]; exact d⟩
  have hdr : Drt (w.P.mod i (sfr (w.P.at i) text lsn)) p' := ⟨i, by rw [hlen]; exact hi, by rw [self]; exact hf, by rw [self]; exact hid, by rw [self]; rfl⟩
  have hR : ∀ q, Rsd w.P q → Rsd (w.P.mod i (sfr (w.P.at i) text lsn)) q := by
    rintro q ⟨j, a, b, c⟩
    by_cases hj : i = j
    · subst hj
      exact ⟨i, by rw [hlen]; exact hi, by rw [self]; exact hf, by rw [self]; exact c⟩
    · exact ⟨j, by rw [hlen]; exact a, by rw [other j hj]; exact b, by rw [other j hj]; exact c⟩
  have Fn : Fok (g.put p' text lsn) p' (sfr (w.P.at i) text lsn) := by
    refine ⟨hid, by rw [pT, if_pos rfl]; rfl, by rw [pN, if_pos rfl]; rfl, F.p, fun _ => ?_⟩
    show 1 ≤ (if (w.P.at i).dirty then (w.P.at i).first else lsn) ∧ (if (w.P.at i).dirty then (w.P.at i).first else lsn) ≤ lsn
    cases hd : (w.P.at i).dirty
    · simp only [Bool.false_eq_true, if_false]; omega
    · obtain ⟨a, b⟩ := F.d hd
      have := F.n
      simp only [if_true]
      omega
  generalize w.P.mod i (sfr (w.P.at i) text lsn) = P' at *
  generalize sfr (w.P.at i) text lsn = f' at *
  refine ⟨⟨h.ok.mvP hl' hhd, Gh.put_ok h.gok _ _ _, h.sp, h.bs, h.sec, h.wi, fun j a b => ?_, fun a b c1 c2 c3 c4 c5 => ?_, fun q hq hd => ?_, fun q hq hd => ?_, fun q hq => ?_, fun q hq hx => ?_, fun q hq => ⟨(h.pn q hq).1, fun x => hR q ((h.pn q hq).2 x)⟩⟩, hdr⟩
  · dsimp only at a b ⊢
    rw [hlen] at a
    by_cases hj : i = j
    · subst hj
      rw [self]
      exact ⟨p', hp, Fn⟩
    · rw [other j hj] at b ⊢
      obtain ⟨q, hq, Fq⟩ := h.fr j a b
      have hqp : p' ≠ q := fun x => by
        subst x
        exact hj (h.un i j hi a hf b (by rw [hid, Fq.id]))
      exact ⟨q, hq, Fq.id, by rw [pT, if_neg hqp]; exact Fq.t, by rw [pN, if_neg hqp]; exact Fq.n, Fq.p, Fq.d⟩
  · dsimp only at c1 c2 c3 c4 c5
    rw [hlen] at c1 c2
    have key : ∀ x, x < w.P.fs.length → (P'.at x).filled = true → (w.P.at x).filled = true ∧ (P'.at x).id = (w.P.at x).id := fun x hx hfx => by
      by_cases hj : i = x
      · subst hj
        exact ⟨hf, by rw [self, Fn.id, hid]⟩
      · rw [other x hj] at hfx ⊢
        exact ⟨hfx, rfl⟩
    obtain ⟨k1, k2⟩ := key a c1 c3
    obtain ⟨k3, k4⟩ := key b c2 c4
    exact h.un a b c1 c2 k1 k3 (by rw [← k2, ← k4]; exact c5)
  · dsimp only at hd ⊢
    have hqp : p' ≠ q := fun x => by subst x; exact hd hdr
    rw [pT, pN, if_neg hqp, if_neg hqp]
    exact h.cl q hq (fun x => hd ((hdD q hqp).2 x))
  · dsimp only at hd ⊢
    by_cases hqp : p' = q
    · subst hqp
      rw [pN, if_pos rfl]
      by_cases hD : Drt w.P p'
      · rcases h.di p' hp hD with x | ⟨t, n, x, y, z, u⟩
        · exact .inl x
        · exact .inr ⟨t, n, x, y, z, by omega⟩
      · rcases h.cl p' hp hD with ⟨x, _⟩ | ⟨x, y, z⟩
        · exact .inl x
        · exact .inr ⟨_, _, x, y, z, hN⟩
    · rw [pN, if_neg hqp]
      exact h.di q hq ((hdD q hqp).1 hd)
  · rw [pN]
    by_cases hqp : p' = q
    · rw [if_pos hqp]
      exact ⟨by omega, hl⟩
    · rw [if_neg hqp]
      exact h.ls q hq
  · rw [pT]
    rw [pN] at hx
    by_cases hqp : p' = q
    · rw [if_pos hqp]
      exact ht
    · rw [if_neg hqp] at hx ⊢
      exact h.tx q hq hx
theorem npn_mono (l : List Int) (i : Nat) : npn l i ≤ npn l (i + 1) := by
  show _ ≤ (if 0 < l.getD i 0 then npn l i + 1 else npn l i)
  split <;> omega
theorem npn_up (l : List Int) {i : Nat} (h : 0 < l.getD i 0) : npn l (i + 1) = npn l i + 1 := if_pos h
theorem npn_le2 (l : List Int) {i : Nat} : ∀ {j : Nat}, i ≤ j → npn l i ≤ npn l j
  | 0, h => by
    obtain rfl : i = 0 := by omega
    exact Nat.le_refl _
  | j + 1, h => by
    rcases Nat.lt_or_ge i (j + 1) with x | x
    · exact Nat.le_trans (npn_le2 l (by omega : i ≤ j)) (npn_mono l j)
    · obtain rfl : i = j + 1 := by omega
      exact Nat.le_refl _
theorem npn_two {l : List Int} {a b : Nat} (ha : 0 < l.getD a 0) (hb : 0 < l.getD b 0) (hab : a < b) (h8 : b < 8) : 2 ≤ npn l 8 := by
  have h1 := npn_up l ha
  have h2 := npn_up l hb
  have h3 := npn_le2 l (by omega : a + 1 ≤ b)
  have h4 := npn_le2 l (by omega : b + 1 ≤ 8)
  omega
theorem Pv.full {S : St} {sb : Nat} {w : Wo} {g : Gh} (h : Pv S sb w g) (ha : ∀ j, j < w.P.fs.length → (w.P.at j).filled = true ∧ 0 < (w.P.at j).pins) : 2 ≤ npn g.pin 8 := by
  have h2 := h.ok.p.n2
  obtain ⟨a1, a2⟩ := ha 0 (by omega)
  obtain ⟨b1, b2⟩ := ha 1 (by omega)
  obtain ⟨p, hp, F⟩ := h.fr 0 (by omega) a1
  obtain ⟨q, hq, G⟩ := h.fr 1 (by omega) b1
  have e1 := F.p
  have e2 := G.p
  have hne : p ≠ q := fun x => by
    subst x
    have := h.un 0 1 (by omega) (by omega) a1 b1 (by rw [F.id, G.id])
    omega
  rcases Nat.lt_or_ge p q with x | x
  · exact npn_two (a := p) (b := q) (by show 0 < g.P p; omega) (by show 0 < g.P q; omega) x hq
  · exact npn_two (a := q) (b := p) (by show 0 < g.P q; omega) (by show 0 < g.P p; omega) (by omega) hp
theorem fl_224 (c : UInt8) : (fl c).length = 224 := List.length_replicate
theorem Pv.wset {S : St} {sb : Nat} {w : Wo} {g : Gh} (h : Pv S sb w g) {p : Nat} (hp : p < 8) {text : List UInt8} (ht : text.length = 224) {lsn : Int} (h1 : 1 ≤ lsn) (hN : g.N p < lsn) (hl : lsn ≤ (w.G.all.length : Int)) :
    (wset S w (p : Int) text lsn).2.G.all = w.G.all ∧ (wset S w (p : Int) text lsn).2.P.fs.length = w.P.fs.length ∧
    (((wset S w (p : Int) text lsn).1 = 0 ∧ Pv S sb (wset S w (p : Int) text lsn).2 (g.put p text lsn) ∧ Drt (wset S w (p : Int) text lsn).2.P p) ∨
    ((wset S w (p : Int) text lsn).1 = 7 ∧ Pv S sb (wset S w (p : Int) text lsn).2 g ∧ ∀ j, j < w.P.fs.length → ((wset S w (p : Int) text lsn).2.P.at j).filled = true ∧ 0 < ((wset S w (p : Int) text lsn).2.P.at j).pins)) := by
  obtain ⟨a1, a2, a3, a4⟩ := h.hold hp
  unfold Go.Sp.wset
  rw [if_neg (by omega), if_neg (by omega)]
  generalize hld S w (p : Int) = r at *
  obtain ⟨⟨o, e⟩, w2⟩ := r
  dsimp only at a1 a2 a3 a4
  rcases a4 with ⟨i, b1, b2, b3, b4⟩ | ⟨b1, b2⟩
  · obtain ⟨rfl, rfl⟩ := Prod.mk.inj b1
    obtain ⟨t1, t2⟩ := a1.turn hp (i := i) (by rw [a3]; exact b2) b3 b4 ht h1 hN (by rw [a2]; exact hl)
    exact ⟨a2, (mod_like _ _ _).n.trans a3, .inl ⟨rfl, t1, t2⟩⟩
  · obtain ⟨rfl, rfl⟩ := Prod.mk.inj b1
    exact ⟨a2, a3, .inr ⟨rfl, a1, b2⟩⟩
theorem cm_fits (c : UInt8) : fitN (c.toNat : Int) 6 := by
  have := c.toNat_lt
  exact ⟨by omega, by rw [show ((256 ^ 6 : Nat) : Int) = 281474976710656 by decide]; omega⟩
theorem Pv.len {S : St} {sb : Nat} {w : Wo} {g : Gh} (h : Pv S sb w g) : w.G.all.length ≤ 2320 := by
  have := h.ok.g.le
  have := h.sec
  omega
theorem Pv.wst {S : St} {sb : Nat} {w : Wo} {g : Gh} (h : Pv S sb w g) (id : Int) (c : UInt8) : (wst S w g id c).1 = true ∧ Pv S sb (wst S w g id c).2.1 (wst S w g id c).2.2 ∧ (wst S w g id c).2.1.P.fs.length = w.P.fs.length ∧ (wst S w g id c).2.2.pin = g.pin ∧
    (w.G.all.length + 19 ≤ 2320 → (∀ q, q < 8 → g.P q ≤ 0) → ∀ p : Nat, p < 8 → id = (p : Int) → (wst S w g id c).2.2 = g.put p (fl c) ((w.G.all.length : Int) + 1) ∧ Drt (wst S w g id c).2.1.P p ∧ (wst S w g id c).2.1.G.all.length = w.G.all.length + 19) := by
  obtain ⟨ρ, hW⟩ := h.wi
  obtain ⟨f, c1, c2⟩ := cm_frame (cm_fits c)
  have hA := h.app (cm (c.toNat : Int))
  unfold Go.Sp.wst
  have e := append_is (G := w.G) hW.dead (cm (c.toNat : Int))
  have hs := h.sec
  rw [c1, if_pos rfl, c2] at e
  by_cases hf : w.G.all.length + 19 ≤ 2320
  · rw [if_pos (by omega)] at e
    rw [e] at hA ⊢
    dsimp only at hA ⊢
    rw [if_pos rfl]
    have hl2 : (w.G.all ++ f).length = w.G.all.length + 19 := by rw [List.length_append, c2]
    generalize hG2 : ({ w.G with all := w.G.all ++ f } : Lg) = G2 at *
    have hG2l : G2.all.length = w.G.all.length + 19 := by rw [← hG2]; exact hl2
    by_cases hr : id < 0 ∨ 8 ≤ id
    · have ho := hA.hold_out hr
      have ew : Go.Sp.wset S ⟨w.P, G2, w.Z⟩ id (fl c) ((w.G.all.length + 1 : Nat) : Int) = (6, ⟨w.P, G2, w.Z⟩) := by
        unfold Go.Sp.wset
        rw [if_neg (by rw [fl_224]; simp), if_neg (by omega), ho]
      rw [ew]
      unfold wst2
      rw [if_pos hr]
      exact ⟨rfl, hA, rfl, rfl, fun _ _ p hp hid => by omega⟩
    · obtain ⟨p, rfl⟩ : ∃ p : Nat, id = (p : Int) := ⟨id.toNat, by omega⟩
      have hp : p < 8 := by omega
      have hls := (h.ls p hp).2
      obtain ⟨s1, s2, s3⟩ := hA.wset hp (fl_224 c) (lsn := ((w.G.all.length + 1 : Nat) : Int)) (by omega) (by omega) (by dsimp only; omega)
      generalize Go.Sp.wset S ⟨w.P, G2, w.Z⟩ (p : Int) (fl c) ((w.G.all.length + 1 : Nat) : Int) = b at *
      obtain ⟨e2, w2⟩ := b
      dsimp only at s1 s2 s3
      unfold wst2
      rw [if_neg hr]
      dsimp only
      rcases s3 with ⟨rfl, t1, t2⟩ | ⟨rfl, t1, t2⟩
      · rw [if_neg (by decide)]
        refine ⟨rfl, t1, s2, rfl, fun _ _ q hq hid => ?_⟩
        obtain rfl : q = p := by omega
        exact ⟨rfl, t2, by rw [s1]; exact hG2l⟩
      · rw [if_pos rfl]
        have h2p := t1.full (by rw [s2]; exact t2)
        refine ⟨decide_eq_true h2p, t1, s2, rfl, fun _ hz q hq hid => ?_⟩
        have hn := h.ok.p.n2
        obtain ⟨u1, u2⟩ := t2 0 (by omega)
        obtain ⟨p0, hp0, F⟩ := t1.fr 0 (by omega) u1
        have := hz p0 hp0
        have := F.p
        omega
  · rw [if_neg (by omega)] at e
    rw [e]
    dsimp only
    rw [if_neg (by decide)]
    exact ⟨rfl, h, rfl, rfl, fun hx => absurd hx hf⟩
theorem zf_at {q fb st lg n i : Nat} : ((Po.new q fb st lg n).at i).filled = false := by
  unfold Po.at Po.new
  dsimp only
  rw [List.getD_eq_getElem?_getD, List.getElem?_replicate]
  split <;> rfl
theorem Wnew.pv {S : St} {sb n : Nat} {w : Wo} (h : Wnew S sb n w) : Pv S sb w g0 := by
  obtain ⟨hok, hwi, hg, hs, hp, hz, _⟩ := h
  have hu : ∀ i, (w.P.at i).filled = false := fun i => by rw [hp]; exact zf_at
  have hS : S.base = 40 ∧ S.pages = 8 := by rw [hs]; exact ⟨rfl, rfl⟩
  have hG : w.G.base = 0 ∧ w.G.sectors = 40 := by rw [hg]; exact ⟨rfl, rfl⟩
  have g0T : ∀ p, g0.T p = [] := fun p => by unfold Gh.T g0; rw [List.getD_eq_getElem?_getD, List.getElem?_replicate]; split <;> rfl
  have g0N : ∀ p, g0.N p = 0 := fun p => by unfold Gh.N g0; rw [List.getD_eq_getElem?_getD, List.getElem?_replicate]; split <;> rfl
  have g0P : ∀ p, g0.P p = 0 := fun p => by unfold Gh.P g0; rw [List.getD_eq_getElem?_getD, List.getElem?_replicate]; split <;> rfl
  obtain ⟨ρ, hW⟩ := hwi
  refine ⟨hok, g0_ok, hS.2, by rw [hG.1, hG.2, hS.1]; decide, hG.2, ⟨ρ, hW⟩, fun i _ hf => ?_, fun i j _ _ hf => ?_, fun p hp' _ => .inl ⟨?_, g0N p, g0T p⟩, fun p _ hd => ?_, fun p _ => ?_, fun p _ hx => ?_, fun p _ => ?_⟩
  · rw [hu] at hf; cases hf
  · rw [hu] at hf; cases hf
  · refine rpg_none hok.s (by rw [hS.2]; exact hp') hW.calm.up fun i hi => ?_
    rw [hS.1]
    exact hz _ (by omega) (by omega)
  · obtain ⟨i, _, hf, _⟩ := hd
    rw [hu] at hf; cases hf
  · rw [g0N]; omega
  · rw [g0N] at hx; omega
  · rw [g0P]
    exact ⟨Int.le_refl _, fun x => by omega⟩
theorem Pv.dirt {S : St} {sb : Nat} {w : Wo} {g : Gh} (h : Pv S sb w g) (p : Nat) : w.P.dirt (p : Int) = true ↔ Drt w.P p := by
  unfold Po.dirt
  cases hf : w.P.find (p : Int) with
  | none =>
    have := find_none hf
    exact ⟨fun x => (by cases x), fun ⟨i, a, b, c, _⟩ => absurd ⟨i, a, b, c⟩ this⟩
  | some i =>
    obtain ⟨h1, h2, h3⟩ := find_some hf
    refine ⟨fun x => ⟨i, h1, h2, h3, x⟩, fun ⟨j, a, b, c, d⟩ => ?_⟩
    obtain rfl : i = j := h.un i j h1 a h2 b (by rw [h3, c])
    exact d
theorem Pv.two {S : St} {sb : Nat} {w : Wo} {g : Gh} (h : Pv S sb w g) (hn : w.P.fs.length = 2) (h0 : Drt w.P 0) (h1 : Drt w.P 1) (h2 : Drt w.P 2) : False := by
  obtain ⟨a, a1, _, a3, _⟩ := h0
  obtain ⟨b, b1, _, b3, _⟩ := h1
  obtain ⟨c, c1, _, c3, _⟩ := h2
  rw [hn] at a1 b1 c1
  have ab : a ≠ b := fun x => by subst x; omega
  have ac : a ≠ c := fun x => by subst x; omega
  have bc : b ≠ c := fun x => by subst x; omega
  omega
def cfr (c : UInt8) : List UInt8 := (cm (c.toNat : Int)).frame.1
def lgA (cs : List UInt8) : List UInt8 := (cs.map cfr).flatten
theorem cfr_ok (c : UInt8) : (cm (c.toNat : Int)).frame = (cfr c, 0) ∧ (cfr c).length = 19 := by
  obtain ⟨f, h1, h2⟩ := cm_frame (cm_fits c)
  unfold cfr
  rw [h1]
  exact ⟨rfl, h2⟩
theorem cm_short (n : Int) : (cm n).short := ⟨by simp [cm, Rc.z], by simp [cm, Rc.z]⟩
theorem lgA_cons (c : UInt8) (cs : List UInt8) : lgA (c :: cs) = cfr c ++ lgA cs := rfl
theorem lgA_len : ∀ cs, (lgA cs).length = 19 * cs.length
  | [] => rfl
  | c :: cs => by
    rw [lgA_cons, List.length_append, (cfr_ok c).2, lgA_len cs, List.length_cons]
    omega
theorem lgA_snoc (cs : List UInt8) (c : UInt8) : lgA (cs ++ [c]) = lgA cs ++ cfr c := by
  unfold lgA
  simp
theorem lgA_app (a b : List UInt8) : lgA (a ++ b) = lgA a ++ lgA b := by
  unfold lgA
  simp
theorem lgA_frs (cs : List UInt8) : Frs (cs.map cfr) := fun f hf => by
  obtain ⟨c, _, rfl⟩ := List.mem_map.1 hf
  exact ⟨_, cm_short _, (cfr_ok c).1⟩
theorem lgA_take (cs : List UInt8) (k : Nat) (hk : k ≤ cs.length) : (lgA cs).take (19 * k) = lgA (cs.take k) ∧ (lgA cs).drop (19 * k) = lgA (cs.drop k) := by
  have e : lgA cs = lgA (cs.take k) ++ lgA (cs.drop k) := by rw [← lgA_app, List.take_append_drop]
  have hl : (lgA (cs.take k)).length = 19 * k := by rw [lgA_len, List.length_take]; omega
  rw [e]
  exact ⟨List.take_left' hl, List.drop_left' hl⟩
theorem lgA_at {cs : List UInt8} {j : Nat} {c : UInt8} (h : cs[j]? = some c) : (lgA cs).drop (19 * j) = cfr c ++ lgA (cs.drop (j + 1)) := by
  obtain ⟨hj, e⟩ := List.getElem?_eq_some_iff.1 h
  rw [(lgA_take cs j (by omega)).2, List.drop_eq_getElem_cons hj, e, lgA_cons]
theorem lgA_opn {cs : List UInt8} {j : Nat} {c : UInt8} (h : cs[j]? = some c) : opn (lgA cs) ((19 * j : Nat) : Int) = (cm (c.toNat : Int), 19, 0) := by
  obtain ⟨hj, e⟩ := List.getElem?_eq_some_iff.1 h
  obtain ⟨c1, c2⟩ := cfr_ok c
  rw [opn_nat (by rw [lgA_len]; omega), lgA_at h, opn0_frame (cm_short _) c1, c2]
  rfl
theorem lgA_whole {cs : List UInt8} {n : Nat} (hn : n ≤ (lgA cs).length) : whole ((lgA cs).take n) = 19 * (n / 19) := by
  have hl := lgA_len cs
  have hk : n / 19 ≤ cs.length := by omega
  obtain ⟨t1, t2⟩ := lgA_take cs (n / 19) hk
  have e : (lgA cs).take n = ((cs.take (n / 19)).map cfr).flatten ++ ((lgA cs).drop (19 * (n / 19))).take (n % 19) := by
    show _ = lgA (cs.take (n / 19)) ++ _
    rw [← t1, ← List.take_add]
    congr 1
    omega
  have hY : (opn0 (((lgA cs).drop (19 * (n / 19))).take (n % 19))).2.2 ≠ 0 := by
    by_cases hlt : n / 19 < cs.length
    · have hc : cs[n / 19]? = some cs[n / 19] := List.getElem?_eq_getElem hlt
      obtain ⟨c1, c2⟩ := cfr_ok cs[n / 19]
      rw [lgA_at hc, List.take_append_of_le_length (by omega)]
      exact opn0_cut (cm_short _) c1 (by omega)
    · rw [show n % 19 = 0 by omega, List.take_zero]
      exact opn0_nil
  have hlen : ((lgA cs).take n).length = n := by rw [List.length_take]; omega
  unfold whole
  rw [whl_frs _ ((lgA cs).take n) _ _ 0 (lgA_frs _) (by omega) (by rw [List.drop_zero]; exact e) hY (by rw [List.length_map, List.length_take, hlen]; omega)]
  have := lgA_len (cs.take (n / 19))
  unfold lgA at this
  rw [this, List.length_take]
  omega
def Ls (A : List UInt8) (d i : Nat) (v : List UInt8) : Prop :=
  (v = wh [] ∧ d ≤ 58 * i) ∨ ∃ m, m ≤ 58 ∧ v = wh (secb 1 ((A.drop (58 * i)).take m)) ∧ 58 * i + m ≤ A.length ∧ (d ≤ 58 * i + m ∨ m = 58)
theorem Ls.mono {A : List UInt8} {d i : Nat} {v : List UInt8} (h : Ls A d i v) (B : List UInt8) : Ls (A ++ B) d i v := by
  rcases h with h | ⟨m, h1, h2, h3, h4⟩
  · exact .inl h
  · refine .inr ⟨m, h1, ?_, by rw [List.length_append]; omega, h4⟩
    rw [h2, List.drop_append_of_le_length (by omega), List.take_append_of_le_length (by rw [List.length_drop]; omega)]
theorem Ls.sec (A : List UInt8) {d i : Nat} (hd : d ≤ A.length) (hi : 58 * i ≤ A.length) : Ls A d i (wh (secb 1 (part A i))) := by
  have hp := part_len A i
  refine .inr ⟨min 58 (A.length - 58 * i), by omega, ?_, by omega, by omega⟩
  unfold part
  by_cases h : 58 ≤ A.length - 58 * i
  · rw [Nat.min_eq_left h]
  · rw [Nat.min_eq_right (by omega), List.take_of_length_le (by rw [List.length_drop]; omega), List.take_of_length_le (by rw [List.length_drop]; omega)]
theorem Ls.up {A : List UInt8} {d i : Nat} {v : List UInt8} (h : Ls A d i v) (hi : 58 * (i + 1) ≤ d ∨ A.length ≤ 58 * i) : Ls A A.length i v := by
  rcases h with ⟨h1, h2⟩ | ⟨m, h1, h2, h3, h4⟩
  · exact .inl ⟨h1, by omega⟩
  · exact .inr ⟨m, h1, h2, h3, by omega⟩
theorem scn_ls {Z : Dk} {A : List UInt8} {d : Nat} (h : ∀ i, i < 40 → Ls A d i (Z.get ((0 + i : Nat) : Int))) (hd : d ≤ A.length) (hA : A.length ≤ 2320) : ∀ k i, i + k = 40 → 58 * i ≤ A.length →
    ∃ n, d ≤ 58 * i + n ∧ 58 * i + n ≤ A.length ∧ Z.scn 0 2 k i 1 = (A.drop (58 * i)).take n
  | 0, i, hk, hi => ⟨0, by omega, by omega, rfl⟩
  | k + 1, i, hk, hi => by
    have hz : be ((wh []).take 4) = 0 := at4_nil
    unfold Dk.scn
    rcases h i (by omega) with ⟨e, h2⟩ | ⟨m, h1, e, h3, h4⟩
    · rw [e, hz, if_pos (.inl (by decide))]
      exact ⟨0, by omega, by omega, rfl⟩
    · have hl : ((A.drop (58 * i)).take m).length = m := by rw [List.length_take, List.length_drop]; omega
      obtain ⟨a1, a2, a3⟩ := secb_rd (r := 1) (p := (A.drop (58 * i)).take m) (by decide) (by omega)
      unfold at4 at a1
      unfold n2 at a2
      rw [hl] at a2 a3
      rw [e, a1, a2, a3, if_neg (by omega)]
      by_cases h58 : m < 58
      · rw [if_pos h58, List.append_nil]
        exact ⟨m, by omega, h3, rfl⟩
      · obtain rfl : m = 58 := by omega
        rw [if_neg h58]
        obtain ⟨n, b1, b2, b3⟩ := scn_ls h hd hA k (i + 1) (by omega) (by omega)
        refine ⟨58 + n, by omega, by omega, ?_⟩
        rw [b3, List.take_add, List.drop_drop, show 58 * (i + 1) = 58 * i + 58 by omega]
theorem found_ls {Z : Dk} {cs : List UInt8} {k : Nat} (h : ∀ i, i < 40 → Ls (lgA cs) (19 * k) i (Z.get ((0 + i : Nat) : Int))) (hk : k ≤ cs.length) (hA : (lgA cs).length ≤ 2320) (q : Nat) :
    ∃ j, k ≤ j ∧ j ≤ cs.length ∧ Z.found q 0 40 2 = ⟨q, 0, 40, 2, lgA (cs.take j), 19 * j, false⟩ := by
  have hl := lgA_len cs
  obtain ⟨n, h1, h2, h3⟩ := scn_ls h (by omega) hA 40 0 (by omega) (by omega)
  rw [Nat.mul_zero, List.drop_zero] at h3
  rw [Nat.mul_zero, Nat.zero_add] at h1 h2
  refine ⟨n / 19, by omega, by omega, ?_⟩
  unfold Dk.found
  rw [h3, lgA_whole h2, List.take_take, Nat.min_eq_left (by omega), (lgA_take cs (n / 19) (by omega)).1]
def Ps (cs : List UInt8) (d i : Nat) (v : List UInt8) : Prop :=
  v = wh [] ∨ ∃ (j : Nat) (c : UInt8), cs[j]? = some c ∧ 19 * j + 1 ≤ d ∧ v = mk8 1 ((19 * j + 1 : Nat) : Int) ++ pt (fl c) i
def Sv (cs : List UInt8) (d j : Nat) (v : List UInt8) : Prop := (j < 40 → Ls (lgA cs) d j v) ∧ (40 ≤ j → j < 72 → Ps cs d ((j - 40) % 4) v)
theorem Ps.up {cs : List UInt8} {d i : Nat} {v : List UInt8} (h : Ps cs d i v) {e : Nat} (he : d ≤ e) : Ps cs e i v := by
  rcases h with h | ⟨j, c, h1, h2, h3⟩
  · exact .inl h
  · exact .inr ⟨j, c, h1, by omega, h3⟩
theorem snoc_at {cs : List UInt8} {j : Nat} {c x : UInt8} (h : cs[j]? = some c) : (cs ++ [x])[j]? = some c := by
  obtain ⟨hj, _⟩ := List.getElem?_eq_some_iff.1 h
  rw [List.getElem?_append_left hj, h]
theorem Sv.snoc {cs : List UInt8} {d j : Nat} {v : List UInt8} (h : Sv cs d j v) (x : UInt8) : Sv (cs ++ [x]) d j v := by
  refine ⟨fun hj => ?_, fun h1 h2 => ?_⟩
  · rw [lgA_snoc]
    exact (h.1 hj).mono _
  · rcases h.2 h1 h2 with e | ⟨k, c, e1, e2, e3⟩
    · exact .inl e
    · exact .inr ⟨k, c, snoc_at e1, e2, e3⟩
theorem All.imp {P Q : Nat → List UInt8 → Prop} {Z : Dk} (h : All P Z) (f : ∀ j v, P j v → Q j v) : All Q Z := fun j hj => ⟨f _ _ (h j hj).1, fun v hv => f _ _ ((h j hj).2 v hv)⟩
theorem act_get {Z : Dk} (h : Z.act.1 = 0) (j : Int) : Z.act.2.get j = Z.get j ∧ Z.act.2.sure.length = Z.sure.length := by
  unfold Dk.act at *
  split
  · rename_i h0
    rw [if_pos h0] at h
    cases h
  · exact ⟨rfl, rfl⟩
theorem write_get {Z : Dk} {i : Nat} {s : List UInt8} (h : (Z.write (i : Int) s).1 = 0) (j : Nat) : (Z.write (i : Int) s).2.get (j : Int) = if i = j then wh s else Z.get (j : Int) := by
  unfold Dk.write at *
  split
  · rename_i h0
    rw [if_pos h0] at h
    split
    · rename_i h1
      rw [if_pos h1] at h
      cases h
    · rename_i h1
      rw [if_neg h1] at h
      split
      · rename_i h2
        have e : gk (Z.act.2.put (i : Int) (wh s)).es (j : Int) = if (i : Int) = (j : Int) then some (wh s) else gk Z.act.2.es (j : Int) := gk_pk _ _ _ _ _
        have e2 := (act_get h2 (j : Int)).1
        show (gk (Z.act.2.put (i : Int) (wh s)).es (j : Int)).getD (wh (Z.act.2.sure.getD (j : Int).toNat [])) = _
        rw [e]
        by_cases hij : i = j
        · rw [if_pos (by omega), if_pos hij]
          rfl
        · rw [if_neg (by omega), if_neg hij, ← e2]
          rfl
      · rename_i h2
        rw [if_neg h2] at h
        exact absurd h h2
  · rename_i h0
    rw [if_neg h0] at h
    exact absurd h h0
theorem flush_all {Q : Nat → List UInt8 → Prop} {Z : Dk} (hok : Z.ok) (h : ∀ j, j < Z.sure.length → Q j (Z.get (j : Int))) : All Q Z.flush := fun j hj => by
  have hj' : j < Z.sure.length := by rw [← sy_len Z.es Z.sure]; exact hj
  refine ⟨?_, fun v hv => by cases hv⟩
  have e := Dk.flush_get hok hj'
  have e2 : Z.flush.get (j : Int) = wh (Z.flush.sure.getD j []) := by
    unfold Dk.get
    simp [Dk.flush, gk]
  rw [← e2, e]
  exact h j hj'
structure Lb (G : Lg) (cs : List UInt8) : Prop where
  b : G.base = 0
  s : G.sectors = 40
  r : G.run = 1
  a : G.all = lgA cs
  m : ∃ k, G.durable = 19 * k
  d : G.durable ≤ G.all.length
  l : G.all.length ≤ 2320
theorem lw_all {Z : Dk} (hok : Z.ok) {G : Lg} {cs : List UInt8} (hb : Lb G cs) (h : All (Sv cs G.durable) Z) {i : Nat} (hi : 58 * i < G.all.length) : All (Sv cs G.durable) (Z.lw G i).2 := by
  unfold Dk.lw
  split
  · exact h
  · rename_i h4
    rw [hb.s] at h4
    have := hb.d
    have e : G.base + i = i := by rw [hb.b]; omega
    rw [e]
    refine All.write hok h fun _ => ⟨fun _ => ?_, fun h1 => by omega⟩
    rw [sec_b, hb.r, hb.a]
    exact Ls.sec _ (by rw [← hb.a]; exact hb.d) (by rw [← hb.a]; omega)
theorem lws_all {G : Lg} {cs : List UInt8} (hb : Lb G cs) : ∀ (k i : Nat) {Z : Dk}, Z.ok → All (Sv cs G.durable) Z → All (Sv cs G.durable) (lws G k i Z).2
  | 0, _, _, _, h => h
  | k + 1, i, Z, hok, h => by
    unfold lws
    split
    · rename_i hi
      have a := lw_all hok hb h hi
      split
      · exact lws_all hb k (i + 1) (Dk.lw_ok hok G i).1 a
      · exact a
    · exact h
theorem lws_get {G : Lg} {cs : List UInt8} (hb : Lb G cs) : ∀ (k i : Nat) {Z : Dk}, 41 ≤ k + i → (lws G k i Z).1 = 0 → ∀ j : Nat, (lws G k i Z).2.get (j : Int) = if i ≤ j ∧ 58 * j < G.all.length then wh (G.sec j) else Z.get (j : Int)
  | 0, i, Z, hk, _, j => by
    have := hb.l
    rw [if_neg (by omega)]
    rfl
  | k + 1, i, Z, hk, h, j => by
    have hl := hb.l
    unfold lws at *
    by_cases hi : 58 * i < G.all.length
    · rw [if_pos hi] at h ⊢
      by_cases h0 : (Z.lw G i).1 = 0
      · rw [if_pos h0] at h ⊢
        rw [lws_get hb k (i + 1) (by omega) h j]
        have e : (Z.lw G i).2.get (j : Int) = if i = j then wh (G.sec i) else Z.get (j : Int) := by
          have e0 : G.base + i = i := by rw [hb.b]; omega
          unfold Dk.lw at h0 ⊢
          rw [if_neg (by rw [hb.s]; omega), e0] at h0 ⊢
          exact write_get h0 j
        rw [e]
        by_cases hij : i = j
        · subst hij
          rw [if_neg (by omega), if_pos rfl, if_pos ⟨Nat.le_refl _, hi⟩]
        · rw [if_neg hij]
          by_cases hj : i + 1 ≤ j ∧ 58 * j < G.all.length
          · rw [if_pos hj, if_pos ⟨by omega, hj.2⟩]
          · rw [if_neg hj, if_neg (by omega)]
      · rw [if_neg h0] at h
        exact absurd h h0
    · rw [if_neg hi, if_neg (by omega)]
theorem Lb.down {G : Lg} {cs : List UInt8} (h : Lb G cs) (e : Int) : Lb (G.down e) cs := by
  unfold Lg.down
  split
  · exact h
  · exact ⟨h.b, h.s, h.r, h.a, h.m, h.d, h.l⟩
theorem down_dur (G : Lg) (e : Int) : (G.down e).durable = G.durable := by unfold Lg.down; split <;> rfl
theorem Lb.full {G : Lg} {cs : List UInt8} (h : Lb G cs) : Lb { G with durable := G.all.length } cs := ⟨h.b, h.s, h.r, h.a, ⟨cs.length, by dsimp only; rw [h.a, lgA_len]⟩, Nat.le_refl _, h.l⟩
theorem lflush_lb {Z : Dk} (hok : Z.ok) (hn : Z.sure.length = 80) {G : Lg} {cs : List UInt8} (hb : Lb G cs) (h : All (Sv cs G.durable) Z) :
    Lb (Z.lflush G).2.2 cs ∧ All (Sv cs (Z.lflush G).2.2.durable) (Z.lflush G).2.1 ∧ G.durable ≤ (Z.lflush G).2.2.durable ∧ ((Z.lflush G).1 = 0 → (Z.lflush G).2.2.durable = G.all.length) := by
  unfold Dk.lflush
  split
  · exact ⟨hb, h, Nat.le_refl _, fun x => by cases x⟩
  split
  · rename_i e
    exact ⟨hb, h, Nat.le_refl _, fun _ => e⟩
  obtain ⟨k1, k2, k3⟩ := lws_ok G (G.sectors + 1) (G.durable / 58) hok
  have al := lws_all hb (G.sectors + 1) (G.durable / 58) hok h
  have gt := lws_get (Z := Z) hb (G.sectors + 1) (G.durable / 58) (by rw [hb.s]; omega)
  generalize lws G (G.sectors + 1) (G.durable / 58) Z = T at *
  obtain ⟨e, Y⟩ := T
  dsimp only at k1 k2 k3 al gt ⊢
  have hl := hb.l
  have hd := hb.d
  split
  · rename_i he
    have g0 := gt he
    have asy := All.sync k1 al
    split
    · rename_i hs
      refine ⟨hb.full, ?_, hd, fun _ => rfl⟩
      dsimp only
      unfold Dk.sync at hs ⊢
      split
      · rename_i hc
        rw [if_pos hc] at hs
        split
        · rename_i ha
          obtain ⟨_, al2⟩ := act_get ha 0
          refine flush_all (Dk.act_ok k1) fun j hj => ?_
          rw [(act_get ha (j : Int)).1, g0 j]
          rw [al2, k3, hn] at hj
          have h0 := h.get (j := j) (by rw [hn]; exact hj)
          split
          · rename_i hj2
            refine ⟨fun _ => ?_, fun x => by omega⟩
            rw [sec_b, hb.r, hb.a]
            exact Ls.sec _ (Nat.le_refl _) (by rw [← hb.a]; omega)
          · rename_i hj2
            refine ⟨fun h40 => ?_, fun x y => (h0.2 x y).up hd⟩
            have := (h0.1 h40).up (by rw [← hb.a]; omega)
            rw [hb.a]
            exact this
        · rename_i ha
          rw [if_neg ha] at hs
          exact absurd hs ha
      · rename_i hc
        rw [if_neg hc] at hs
        exact absurd hs hc
    · rename_i hs
      exact ⟨hb.down _, by dsimp only; rw [down_dur]; exact asy, by dsimp only; rw [down_dur]; exact Nat.le_refl _, fun x => absurd x hs⟩
  · rename_i he
    exact ⟨hb.down _, by dsimp only; rw [down_dur]; exact al, by dsimp only; rw [down_dur]; exact Nat.le_refl _, fun x => absurd x he⟩
theorem lneed_lb {Z : Dk} (hok : Z.ok) (hn : Z.sure.length = 80) {G : Lg} {cs : List UInt8} (hb : Lb G cs) (h : All (Sv cs G.durable) Z) {lsn : Int} (hl : lsn ≤ (G.all.length : Int)) :
    Lb (Z.lneed G lsn).2.2 cs ∧ All (Sv cs (Z.lneed G lsn).2.2.durable) (Z.lneed G lsn).2.1 ∧ ((Z.lneed G lsn).1 = 0 → lsn ≤ ((Z.lneed G lsn).2.2.durable : Int)) := by
  unfold Dk.lneed
  split
  · exact ⟨hb, h, fun x => by cases x⟩
  split
  · rename_i h1
    exact ⟨hb, h, fun _ => by dsimp only; omega⟩
  · obtain ⟨a, b, c, d⟩ := lflush_lb hok hn hb h
    exact ⟨a, b, fun x => by rw [d x]; exact hl⟩
theorem wset_fq {wb : Nat} {S : St} {sb : Nat} {w : Wo} {g : Gh} (h : Pv S sb w g) (id : Int) (c : UInt8) : ∃ (w' : Wo) (g' : Gh), Fq eB Tryz.prog 47 #[.pointer (some ⟨wb, 0, none⟩), .int .i64 id, .int .u8 (c.toNat : Int)] (wld wb sb S.q w.G.q w.P.q g :: wos S sb w) (wld wb sb S.q w'.G.q w'.P.q g' :: wos S sb w') true ∧ Pv S sb w' g' ∧ w'.P.fs.length = w.P.fs.length ∧ g'.pin = g.pin ∧
    (w.G.all.length + 19 ≤ 2320 → (∀ q, q < 8 → g.P q ≤ 0) → ∀ p : Nat, p < 8 → id = (p : Int) → g' = g.put p (fl c) ((w.G.all.length : Int) + 1) ∧ Drt w'.P p ∧ w'.G.all.length = w.G.all.length + 19) := by
  have F := g47 wb S sb 80 w h.ok g h.gok id c
  obtain ⟨a1, a2, a3, a4, a5⟩ := h.wst id c
  obtain ⟨b1, b2, b3, b4⟩ := wst_ok h.ok h.gok id c
  rw [a1, ← b3, ← b2.q] at F
  exact ⟨_, _, by rw [b3, b2.q] at F ⊢; exact F, a2, a3, a4, a5⟩
theorem g0P (p : Nat) : g0.P p = 0 := by
  unfold Gh.P g0
  rw [List.getD_eq_getElem?_getD, List.getElem?_replicate]
  split <;> rfl
theorem Pv.there {S : St} {sb : Nat} {w : Wo} {g : Gh} (h : Pv S sb w g) {p : Nat} (hp : p < 8) (hN : 1 ≤ g.N p) (hd : ¬ Drt w.P p) : (w.Z.rpg S (p : Int)).2.2 = 0 := by
  rcases h.cl p hp hd with ⟨_, x, _⟩ | ⟨x, _⟩
  · omega
  · rw [x]
set_option maxHeartbeats 1000000 in
theorem g44 : Fp eB Tryz.prog 44 #[] [] true := fun L => by
  refine c44_fn rfl rfl ?_
  repeat' (first | (with_reducible first | refine d_seq fun K hK => ?_ | (refine hK _ _ ?_; clear hK K) | (refine SG.p ?_; try intro b)) | refine i_c ?_ ?_ <;> intro hc <;> try simp only [push_cast, seval] at hc | refine i_x ?_ | clear hK K)
  refine i_cal (g41 2 (by decide) (by decide)) ?_
  rintro y X ⟨wb, sb, S, w, rfl, rfl, hNw⟩
  have h0 := hNw.pv
  have hl0 : w.G.all.length = 0 := by rw [hNw.g]; rfl
  have hn0 : w.P.fs.length = 2 := by rw [hNw.p]; simp [Po.new]
  obtain ⟨w1, g1, F1, h1, n1, p1, q1⟩ := wset_fq (wb := wb) h0 0 1
  obtain ⟨r1, d1, l1⟩ := q1 (by omega) (fun q _ => by rw [g0P]; exact Int.le_refl _) 0 (by decide) rfl
  have z1 : ∀ q, q < 8 → g1.P q ≤ 0 := fun q _ => by
    show g1.pin.getD q 0 ≤ 0
    rw [p1]
    exact Int.le_of_eq (g0P q)
  obtain ⟨w2, g2, F2, h2, n2, p2, q2⟩ := wset_fq (wb := wb) h1 1 2
  obtain ⟨r2, d2, l2⟩ := q2 (by omega) z1 1 (by decide) rfl
  have z2 : ∀ q, q < 8 → g2.P q ≤ 0 := fun q hq => by
    show g2.pin.getD q 0 ≤ 0
    rw [p2]
    exact z1 q hq
  obtain ⟨w3, g3, F3, h3, n3, p3, q3⟩ := wset_fq (wb := wb) h2 2 3
  obtain ⟨r3, d3, l3⟩ := q3 (by omega) z2 2 (by decide) rfl
  have N0 : 1 ≤ g3.N 0 := by
    rw [r3, put_N h2.gok (by decide), if_neg (by decide), r2, put_N h1.gok (by decide), if_neg (by decide), r1, put_N h0.gok (by decide), if_pos rfl]
    omega
  have N1 : 1 ≤ g3.N 1 := by
    rw [r3, put_N h2.gok (by decide), if_neg (by decide), r2, put_N h1.gok (by decide), if_pos rfl]
    omega
  have R0 := f49 S w3.Z h3.ok.z (by rw [h3.ok.nn]; exact h3.ok.s) 0
  have R1 := f49 S w3.Z h3.ok.z (by rw [h3.ok.nn]; exact h3.ok.s) 1
  rw [h3.ok.sb] at R0 R1
  have DT := g45 w3.P h3.ok.p 2
  rw [show w3.P.dirt 2 = true from (h3.dirt 2).2 d3] at DT
  have he : (w3.Z.rpg S 0).2.2 = 0 ∨ (w3.Z.rpg S 1).2.2 = 0 := by
    by_cases c0 : Drt w3.P 0
    · by_cases c1 : Drt w3.P 1
      · exact (h3.two (by omega) c0 c1 d3).elim
      · exact .inr (h3.there (p := 1) (by decide) N1 c1)
    · exact .inl (h3.there (p := 0) (by decide) N0 c0)
  generalize w3.Z.rpg S 0 = a0 at *
  generalize w3.Z.rpg S 1 = a1 at *
  obtain ⟨a01, a02, a03⟩ := a0
  obtain ⟨a11, a12, a13⟩ := a1
  dsimp only at he
  rw [show (((1 : UInt8).toNat : Nat) : Int) = 1 from rfl] at F1
  rw [show (((2 : UInt8).toNat : Nat) : Int) = 2 from rfl] at F2
  rw [show (((3 : UInt8).toNat : Nat) : Int) = 3 from rfl] at F3
  dsimp only [List.cons_append, List.nil_append]
  repeat' (first | (with_reducible first | refine d_seq fun K hK => ?_ | (refine hK _ _ ?_; clear hK K) | (refine SG.p ?_; try intro b)) | refine i_c ?_ ?_ <;> intro hc <;> try simp only [push_cast, seval] at hc | refine i_x ?_ | clear hK K)
  all_goals try contradiction
  refine i_clq F1 ?_
  repeat' (first | (with_reducible first | refine d_seq fun K hK => ?_ | (refine hK _ _ ?_; clear hK K) | (refine SG.p ?_; try intro b)) | refine i_c ?_ ?_ <;> intro hc <;> try simp only [push_cast, seval] at hc | refine i_x ?_ | clear hK K)
  all_goals try contradiction
  refine i_clq F2 ?_
  repeat' (first | (with_reducible first | refine d_seq fun K hK => ?_ | (refine hK _ _ ?_; clear hK K) | (refine SG.p ?_; try intro b)) | refine i_c ?_ ?_ <;> intro hc <;> try simp only [push_cast, seval] at hc | refine i_x ?_ | clear hK K)
  all_goals try contradiction
  refine i_clq F3 ?_
  repeat' (first | (with_reducible first | refine d_seq fun K hK => ?_ | (refine hK _ _ ?_; clear hK K) | (refine SG.p ?_; try intro b)) | refine i_c ?_ ?_ <;> intro hc <;> try simp only [push_cast, seval] at hc | refine i_x ?_ | clear hK K)
  all_goals try contradiction
  refine i_clp R0 ?_
  repeat' (first | (with_reducible first | refine d_seq fun K hK => ?_ | (refine hK _ _ ?_; clear hK K) | (refine SG.p ?_; try intro b)) | refine i_c ?_ ?_ <;> intro hc <;> try simp only [push_cast, seval] at hc | refine i_x ?_ | clear hK K)
  refine i_clp R1 ?_
  repeat' (first | (with_reducible first | refine d_seq fun K hK => ?_ | (refine hK _ _ ?_; clear hK K) | (refine SG.p ?_; try intro b)) | refine i_c ?_ ?_ <;> intro hc <;> try simp only [push_cast, seval] at hc | refine i_x ?_ | clear hK K)
  · refine i_clp DT ?_
    repeat' (first | (with_reducible first | refine d_seq fun K hK => ?_ | (refine hK _ _ ?_; clear hK K) | (refine SG.p ?_; try intro b)) | refine i_c ?_ ?_ <;> intro hc <;> try simp only [push_cast, seval] at hc | refine i_x ?_ | clear hK K)
    (with_reducible first | apply i_ret0 | apply i_ret2 | apply i_ret3 | apply i_ret); exact rfl
    rfl
  · refine i_clp DT ?_
    repeat' (first | (with_reducible first | refine d_seq fun K hK => ?_ | (refine hK _ _ ?_; clear hK K) | (refine SG.p ?_; try intro b)) | refine i_c ?_ ?_ <;> intro hc <;> try simp only [push_cast, seval] at hc | refine i_x ?_ | clear hK K)
    (with_reducible first | apply i_ret0 | apply i_ret2 | apply i_ret3 | apply i_ret); exact rfl
    rfl
  · exfalso
    rcases he with x | x
    · contradiction
    · contradiction
abbrev cDt (d : api_Dirty) : List Value := [.int .i64 d.Page, .int .i64 d.Rec]
def drd (P : Po) (i : Nat) : List api_Dirty := match P.find (i : Int) with
  | none => []
  | some j => if (P.at j).dirty = true then [⟨(i : Int), (P.at j).first⟩] else []
def drl (P : Po) : Nat → List api_Dirty
  | 0 => []
  | i + 1 => drl P i ++ drd P i
set_option maxHeartbeats 1000000 in
theorem g58 (P : Po) (h : P.ok) (S : St) (sb : Nat) (hs : P.st = S.q) (h8 : S.pages = 8) : Fn eSl Tryz.prog 58 #[P.p] [ppt P, pfs P, spt S sb] fun y X => X = [ow 137 2 y ((drl P 8).flatMap cDt), ppt P, pfs P, spt S sb] := fun L => by
  have FP := f57 S sb
  rw [h8] at FP
  refine c58_fn rfl rfl ?_
  repeat' (first | (with_reducible first | refine d_seq fun K hK => ?_ | (refine hK _ _ ?_; clear hK K) | (refine SG.p ?_; try intro b)) | refine i_c ?_ ?_ <;> intro hc <;> try simp only [push_cast, seval] at hc | refine i_x ?_ | clear hK K)
  refine i_clp (g89 P h) ?_
  repeat' (first | (with_reducible first | refine d_seq fun K hK => ?_ | (refine hK _ _ ?_; clear hK K) | (refine SG.p ?_; try intro b)) | refine i_c ?_ ?_ <;> intro hc <;> try simp only [push_cast, seval] at hc | refine i_x ?_ | clear hK K)
  all_goals try contradiction
  rw [hs]
  refine i_clp FP ?_
  repeat' (first | (with_reducible first | refine d_seq fun K hK => ?_ | (refine hK _ _ ?_; clear hK K) | (refine SG.p ?_; try intro b)) | refine i_c ?_ ?_ <;> intro hc <;> try simp only [push_cast, seval] at hc | refine i_x ?_ | clear hK K)
  refine r_nilow 137 2 ?_
  refine d_lp [0, 3, 12, 13] (fun t : Nat × SlV => [(0, .pointer (some ⟨P.q, 0, none⟩)), (3, .slice t.2.1 t.2.2.1 t.2.2.2), (12, .int .i64 8), (13, .int .i64 (t.1 : Int))])
    (fun t => ow 137 2 t.2 ((drl P t.1).flatMap cDt) :: ppt P :: pfs P :: spt S sb :: L) (fun t => t.1 ≤ 8 ∧ t.2.2.1 ≤ t.1) (fun t => 8 - t.1) (0, (none, 0, 0)) rfl ?_ ⟨by dsimp only; omega, by dsimp only; omega⟩ ?_
  · show Sub (ow 137 2 (none, 0, 0) [] :: ppt P :: pfs P :: spt S sb :: L) _
    exact SX.p
  rintro ⟨i, ⟨p, pn, pc⟩⟩ ⟨hi, hp⟩
  dsimp only at hi hp ⊢
  repeat' (first | (with_reducible first | refine d_seq fun K hK => ?_ | (refine hK _ _ ?_; clear hK K) | (refine SG.p ?_; try intro b)) | refine i_c ?_ ?_ <;> intro hc <;> try simp only [push_cast, seval] at hc | refine i_x ?_ | clear hK K)
  · have F := g91 P h (i : Int)
    have hd : drl P (i + 1) = drl P i ++ drd P i := rfl
    unfold drd at hd
    cases hf : P.find (i : Int) with
    | none =>
      rw [hf] at F hd
      dsimp only [Option.map] at F hd
      refine i_clp F ?_
      repeat' (first | (with_reducible first | refine d_seq fun K hK => ?_ | (refine hK _ _ ?_; clear hK K) | (refine SG.p ?_; try intro b)) | refine i_c ?_ ?_ <;> intro hc <;> try simp only [push_cast, seval] at hc | refine i_x ?_ | clear hK K)
      all_goals try contradiction
      rw [w64 (by omega) (by omega)]
      rw [List.append_nil] at hd
      rw [← hd]
      exact i_bk (i + 1, (p, pn, pc)) rfl ⟨by dsimp only; omega, by dsimp only; omega⟩ (by dsimp only; omega)
    | some j =>
      rw [hf] at F hd
      dsimp only [Option.map] at F hd
      have hx := at_get (find_lt hf)
      generalize P.at j = f at *
      refine i_clp F ?_
      repeat' (first | (with_reducible first | refine d_seq fun K hK => ?_ | (refine hK _ _ ?_; clear hK K) | (refine SG.p ?_; try intro b)) | refine i_c ?_ ?_ <;> intro hc <;> try simp only [push_cast, seval] at hc | refine i_x ?_ | clear hK K)
      all_goals try contradiction
      refine i_fl (e := eB) (y := f.dirty) cFr_len hx rfl ?_
      repeat' (first | (with_reducible first | refine d_seq fun K hK => ?_ | (refine hK _ _ ?_; clear hK K) | (refine SG.p ?_; try intro b)) | refine i_c ?_ ?_ <;> intro hc <;> try simp only [push_cast, seval] at hc | refine i_x ?_ | clear hK K)
      · have hy : f.dirty = true := by assumption
        rw [if_pos hy] at hd
        refine i_fl (e := eI) (y := f.first) cFr_len hx rfl ?_
        repeat' (first | (with_reducible first | refine d_seq fun K hK => ?_ | (refine hK _ _ ?_; clear hK K) | (refine SG.p ?_; try intro b)) | refine i_c ?_ ?_ <;> intro hc <;> try simp only [push_cast, seval] at hc | refine i_x ?_ | clear hK K)
        refine i_app (t := 137) (sz := 2) (m := 1) (news := [.int .i64 (i : Int), .int .i64 f.first]) (p, pn, pc) 16 (by kernel_rfl) (by decide) rfl rfl (by dsimp only; omega) fun o' ho' _ => ?_
        have e : (drl P i).flatMap cDt ++ [.int .i64 (i : Int), .int .i64 f.first] = (drl P (i + 1)).flatMap cDt := by rw [hd]; simp
        rw [e]
        repeat' (first | (with_reducible first | refine d_seq fun K hK => ?_ | (refine hK _ _ ?_; clear hK K) | (refine SG.p ?_; try intro b)) | refine i_c ?_ ?_ <;> intro hc <;> try simp only [push_cast, seval] at hc | refine i_x ?_ | clear hK K)
        rw [w64 (by omega) (by omega)]
        exact i_bk (i + 1, o') rfl ⟨by dsimp only; omega, by dsimp only at ho' ⊢; omega⟩ (by dsimp only; omega)
      · have hy : ¬ f.dirty = true := by rw [show f.dirty = false by assumption]; decide
        rw [if_neg hy, List.append_nil] at hd
        rw [← hd]
        rw [w64 (by omega) (by omega)]
        exact i_bk (i + 1, (p, pn, pc)) rfl ⟨by dsimp only; omega, by dsimp only; omega⟩ (by dsimp only; omega)
  · obtain rfl : i = 8 := by omega
    exact i_done (e := eSl) (p, pn, pc) [ow 137 2 (p, pn, pc) ((drl P 8).flatMap cDt), ppt P, pfs P, spt S sb] rfl rfl
theorem cDt_len (d : api_Dirty) : (cDt d).length = 2 := rfl
end Go.Sp
namespace Go.Sp
open Go
set_option maxRecDepth 100000
set_option linter.unusedVariables false
open Go.Proofs
variable (K : Env → W) (k : Value → W) {e : Enc} {args : Array Value} {G : e.α → W} {L : List HP} {ρ : Env}
attribute [local instance] cI cB cP cA
noncomputable def c52 := cf Tryz.f52 232 [(0, [0, 1]), (1, [0, 3]), (2, [0]), (3, [0, 3, 13]), (4, [0, 3, 13]), (5, [0, 3]), (6, [0, 3, 13]), (7, [0, 3]), (8, [0, 3, 5, 6, 7]), (9, [5, 6, 7]), (10, [0, 3, 5, 6, 7]), (11, [0, 3, 13]), (12, [0, 3]), (13, [0, 3, 8]), (14, [8]), (15, [0, 3, 8]), (16, [0, 3, 8]), (17, [0, 8]), (18, [0, 3, 13]), (19, [0, 3]), (20, [0, 3, 9]), (21, [9]), (22, [0, 3, 9]), (23, [9]), (24, [0, 3, 13]), (25, [0, 3]), (26, [0, 3, 10]), (27, [0, 3, 10, 11]), (28, [0, 3, 11]), (29, [11])] [(0, [0, 3]), (1, [0, 3, 13]), (2, [4]), (3, [0, 3, 13, 29]), (4, [0, 3, 13, 29]), (5, [4]), (6, [0, 3, 13, 38]), (7, [0, 3, 5, 6, 7]), (8, [0, 3, 5, 6, 7, 54]), (9, [4]), (10, [4]), (11, [0, 3, 13, 98]), (12, [0, 3, 8]), (13, [0, 3, 8, 110]), (14, [4]), (15, [0, 3, 8, 114]), (16, [0, 8]), (17, [4]), (18, [0, 3, 13, 140]), (19, [0, 3, 9]), (20, [0, 3, 9, 162]), (21, [4]), (22, [9]), (23, [4]), (24, [0, 3, 181]), (25, [0, 3, 10]), (26, [0, 3, 10, 11]), (27, [0, 3, 11, 197]), (28, [4]), (29, [4]), (1000000, [4])] [(7, (true, [(0, 1), (1, 1), (2, 1), (3, 0), (4, 1), (5, 0), (6, 4), (7, 1), (8, 1), (9, 1), (10, 1), (11, 1), (12, 1), (13, 1)])), (10, (false, [(0, 1), (1, 1), (2, 1), (3, 1), (4, 3), (5, 1), (6, 1), (7, 1), (8, 1), (9, 1), (10, 1), (11, 1), (12, 1), (13, 1), (14, 0), (15, 1), (16, 1), (17, 1), (18, 0), (19, 1), (20, 1), (21, 1), (22, 1), (23, 1), (24, 1), (25, 0), (26, 1), (27, 1), (28, 1), (29, 0), (30, 1), (31, 1), (32, 1), (33, 1)])), (12, (true, [(0, 1), (1, 1), (2, 1), (3, 0), (4, 1), (5, 0), (6, 4), (7, 1)])), (16, (true, [(0, 1), (1, 1), (2, 0), (3, 1), (4, 1), (5, 0), (6, 1), (7, 1), (8, 1), (9, 0), (10, 1), (11, 1), (12, 1), (13, 1), (14, 4)])), (19, (true, [(0, 1), (1, 1), (2, 1), (3, 0), (4, 1), (5, 0), (6, 4), (7, 1)])), (20, (true, [(0, 1), (1, 0), (2, 3), (3, 1), (4, 1), (5, 1), (6, 1), (7, 0), (8, 1), (9, 1), (10, 1), (11, 0), (12, 1), (13, 1)])), (22, (true, [(0, 1), (1, 1), (2, 0), (3, 1), (4, 1), (5, 0), (6, 1), (7, 1), (8, 1), (9, 0), (10, 1), (11, 1), (12, 1), (13, 1), (14, 4)])), (25, (true, [(0, 1), (1, 1), (2, 1), (3, 0), (4, 1), (5, 0), (6, 4), (7, 1)])), (26, (true, [(0, 1), (1, 1), (2, 1), (3, 0), (4, 1), (5, 0), (6, 4), (7, 1)])), (28, (true, [(0, 1), (1, 1), (2, 1), (3, 1), (4, 1), (5, 1), (6, 0), (7, 1), (8, 0), (9, 3), (10, 1), (11, 1), (12, 1), (13, 1), (14, 1), (15, 1), (16, 0), (17, 1), (18, 0), (19, 1), (20, 1), (21, 0), (22, 1), (23, 1), (24, 1), (25, 0), (26, 4), (27, 1), (28, 1)]))] []
@[go_sem] theorem c52_i : c52.li 0 = [0, 1] ∧ c52.li 1 = [0, 3] ∧ c52.li 2 = [0] ∧ c52.li 3 = [0, 3, 13] ∧ c52.li 4 = [0, 3, 13] ∧ c52.li 5 = [0, 3] ∧ c52.li 6 = [0, 3, 13] ∧ c52.li 7 = [0, 3] ∧ c52.li 8 = [0, 3, 5, 6, 7] ∧ c52.li 9 = [5, 6, 7] ∧ c52.li 10 = [0, 3, 5, 6, 7] ∧ c52.li 11 = [0, 3, 13] ∧ c52.li 12 = [0, 3] ∧ c52.li 13 = [0, 3, 8] ∧ c52.li 14 = [8] ∧ c52.li 15 = [0, 3, 8] ∧ c52.li 16 = [0, 3, 8] ∧ c52.li 17 = [0, 8] ∧ c52.li 18 = [0, 3, 13] ∧ c52.li 19 = [0, 3] ∧ c52.li 20 = [0, 3, 9] ∧ c52.li 21 = [9] ∧ c52.li 22 = [0, 3, 9] ∧ c52.li 23 = [9] ∧ c52.li 24 = [0, 3, 13] ∧ c52.li 25 = [0, 3] ∧ c52.li 26 = [0, 3, 10] ∧ c52.li 27 = [0, 3, 10, 11] ∧ c52.li 28 = [0, 3, 11] ∧ c52.li 29 = [11] := ⟨rfl, rfl, rfl, rfl, rfl, rfl, rfl, rfl, rfl, rfl, rfl, rfl, rfl, rfl, rfl, rfl, rfl, rfl, rfl, rfl, rfl, rfl, rfl, rfl, rfl, rfl, rfl, rfl, rfl, rfl⟩
@[go_sem] theorem c52_r0 (v0 : Option Addr) (v1 : gharrylaw10_Op) : RP c52 0 [(0, v0), (1, v_gharrylaw10_Op v1)] K =
 (nwc #[v1.Kind, v1.Id, .int .u8 v1.C] 90 fun y1_ => (K [(0, v0), (3, y1_)])) := by kernel_rfl
@[go_sem] theorem c52_r1 (v0 : Option Addr) (v3 : Addr) : RP c52 1 [(0, v0), (3, v3)] K =
 (ld eI v3 fun (y1_ : Int) => (K [(0, v0), (3, v3), (13, y1_)])) := by kernel_rfl
@[go_sem] theorem c52_r2 (v0 : Option Addr) : RP c52 2 [(0, v0)] K =
 (nn v0 fun y1_ => (ld eP (y1_.add 3) fun (y2_ : Option Addr) => (cal eI Tryz.prog 57 #[y2_] fun (y3_ : Int) => (cnd (y3_ == 0) (nn v0 fun y4_ => (ld eP (y4_.add 3) fun (y5_ : Option Addr) => (cal eSl Tryz.prog 58 #[y5_] fun (y6_ : (Option Addr × Nat × Nat)) => (K [(4, .bool ((y6_.2.1 : Int) == 0))])))) (K [(4, false)]))))) := by kernel_rfl
@[go_sem] theorem c52_r3 (v0 : Option Addr) (v3 : Addr) (v13 : Int) : RP c52 3 [(0, v0), (3, v3), (13, v13)] K =
 (K [(0, v0), (3, v3), (13, v13), (29, .bool (v13 == 0))]) := by kernel_rfl
@[go_sem] theorem c52_r4 (v0 : Option Addr) (v3 : Addr) (v13 : Int) : RP c52 4 [(0, v0), (3, v3), (13, v13)] K =
 (K [(0, v0), (3, v3), (13, v13), (29, .bool (v13 == 1))]) := by kernel_rfl
@[go_sem] theorem c52_r5 (v0 : Option Addr) (v3 : Addr) : RP c52 5 [(0, v0), (3, v3)] K =
 (ld eI (v3.add 1) fun (y1_ : Int) => (ld eU8 (v3.add 2) fun (y2_ : Int) => (cal eB Tryz.prog 47 #[v0, y1_, .int .u8 y2_] fun (y3_ : Bool) => (K [(4, y3_)])))) := by kernel_rfl
@[go_sem] theorem c52_r6 (v0 : Option Addr) (v3 : Addr) (v13 : Int) : RP c52 6 [(0, v0), (3, v3), (13, v13)] K =
 (K [(0, v0), (3, v3), (13, v13), (38, .bool (v13 == 2))]) := by kernel_rfl
@[go_sem] theorem c52_r7 (v0 : Option Addr) (v3 : Addr) : RP c52 7 [(0, v0), (3, v3)] K =
 (ph fun S0 => (nn v0 fun y1_ => (ldq S0 eP (y1_.add 3) fun (y2_ : Option Addr) => (ldq S0 eI (v3.add 1) fun (y3_ : Int) => (cal (eT3 eS eI eI) Tryz.prog 49 #[y2_, y3_] fun (y4_ : ((List UInt8) × Int × Int)) => (K [(0, v0), (3, v3), (5, str y4_.1), (6, .int .i64 y4_.2.1), (7, .int .i64 y4_.2.2)])))))) := by kernel_rfl
@[go_sem] theorem c52_r8 (v0 : Option Addr) (v3 : Addr) (v5 : List UInt8) (v6 v7 : Int) : RP c52 8 [(0, v0), (3, v3), (5, str v5), (6, v6), (7, v7)] K =
 (ld eI (v3.add 1) fun (y1_ : Int) => (cal eB Tryz.prog 94 #[y1_] fun (y2_ : Bool) => (K [(0, v0), (3, v3), (5, str v5), (6, v6), (7, v7), (54, .bool (!y2_))]))) := by kernel_rfl
@[go_sem] theorem c52_r9 (v5 : List UInt8) (v6 v7 : Int) : RP c52 9 [(5, str v5), (6, v6), (7, v7)] K =
 (cnd (v5 == ([] : List UInt8)) (cnd (v6 == 0) (K [(4, .bool (v7 == 6))]) (K [(4, false)])) (K [(4, false)])) := by kernel_rfl
@[go_sem] theorem c52_r10 (v0 : Option Addr) (v3 : Addr) (v5 : List UInt8) (v6 v7 : Int) : RP c52 10 [(0, v0), (3, v3), (5, str v5), (6, v6), (7, v7)] K =
 (cnd (v7 == 7) (cal eI Tryz.prog 93 #[v0] fun (y1_ : Int) => (ph fun S1 => (cnd (decide (2 ≤ y1_)) (K [(4, true)]) (cnd (v7 == 0) (ldq S1 eI (v3.add 1) fun (y2_ : Int) => (nn v0 fun y3_ => (rq (0 ≤ y2_ ∧ y2_ < ((8 : Nat) : Int)) (ldq S1 eS (Addr.add (y3_.add 4) (y2_.toNat * 1)) fun (y4_ : List UInt8) => (cnd (v5 == y4_) (ldq S1 eI (v3.add 1) fun (y5_ : Int) => (nn v0 fun y6_ => (rq (0 ≤ y5_ ∧ y5_ < ((8 : Nat) : Int)) (ldq S1 eI (Addr.add (y6_.add 12) (y5_.toNat * 1)) fun (y7_ : Int) => (K [(4, .bool (v6 == y7_))]))))) (K [(4, false)])))))) (K [(4, false)]))))) (ph fun S2 => (cnd (v7 == 0) (ldq S2 eI (v3.add 1) fun (y8_ : Int) => (nn v0 fun y9_ => (rq (0 ≤ y8_ ∧ y8_ < ((8 : Nat) : Int)) (ldq S2 eS (Addr.add (y9_.add 4) (y8_.toNat * 1)) fun (y10_ : List UInt8) => (cnd (v5 == y10_) (ldq S2 eI (v3.add 1) fun (y11_ : Int) => (nn v0 fun y12_ => (rq (0 ≤ y11_ ∧ y11_ < ((8 : Nat) : Int)) (ldq S2 eI (Addr.add (y12_.add 12) (y11_.toNat * 1)) fun (y13_ : Int) => (K [(4, .bool (v6 == y13_))]))))) (K [(4, false)])))))) (K [(4, false)])))) := by kernel_rfl
@[go_sem] theorem c52_r11 (v0 : Option Addr) (v3 : Addr) (v13 : Int) : RP c52 11 [(0, v0), (3, v3), (13, v13)] K =
 (K [(0, v0), (3, v3), (13, v13), (98, .bool (v13 == 3))]) := by kernel_rfl
@[go_sem] theorem c52_r12 (v0 : Option Addr) (v3 : Addr) : RP c52 12 [(0, v0), (3, v3)] K =
 (ph fun S0 => (nn v0 fun y1_ => (ldq S0 eP (y1_.add 3) fun (y2_ : Option Addr) => (ldq S0 eI (v3.add 1) fun (y3_ : Int) => (cal eI Tryz.prog 48 #[y2_, y3_] fun (y4_ : Int) => (K [(0, v0), (3, v3), (8, y4_)])))))) := by kernel_rfl
@[go_sem] theorem c52_r13 (v0 : Option Addr) (v3 : Addr) (v8 : Int) : RP c52 13 [(0, v0), (3, v3), (8, v8)] K =
 (ld eI (v3.add 1) fun (y1_ : Int) => (cal eB Tryz.prog 94 #[y1_] fun (y2_ : Bool) => (K [(0, v0), (3, v3), (8, v8), (110, .bool (!y2_))]))) := by kernel_rfl
@[go_sem] theorem c52_r14 (v8 : Int) : RP c52 14 [(8, v8)] K =
 (K [(4, .bool (v8 == 6))]) := by kernel_rfl
@[go_sem] theorem c52_r15 (v0 : Option Addr) (v3 : Addr) (v8 : Int) : RP c52 15 [(0, v0), (3, v3), (8, v8)] K =
 (K [(0, v0), (3, v3), (8, v8), (114, .bool (v8 == 0))]) := by kernel_rfl
@[go_sem] theorem c52_r16 (v0 : Option Addr) (v3 : Addr) (v8 : Int) : RP c52 16 [(0, v0), (3, v3), (8, v8)] K =
 (ph fun S0 => (ldq S0 eI (v3.add 1) fun (y1_ : Int) => (ldq S0 eI (v3.add 1) fun (y2_ : Int) => (nn v0 fun y3_ => (rq (0 ≤ y2_ ∧ y2_ < ((8 : Nat) : Int)) (ldq S0 eI (Addr.add (y3_.add 20) (y2_.toNat * 1)) fun (y4_ : Int) => (nn v0 fun y5_ => (rq (0 ≤ y1_ ∧ y1_ < ((8 : Nat) : Int)) (st (Addr.add (y5_.add 20) (y1_.toNat * 1)) (IntKind.wrap .i64 (y4_ + 1)) (K [(0, v0), (8, v8)])))))))))) := by kernel_rfl
@[go_sem] theorem c52_r17 (v0 : Option Addr) (v8 : Int) : RP c52 17 [(0, v0), (8, v8)] K =
 (cnd (v8 == 0) (K [(4, true)]) (cnd (v8 == 7) (cal eI Tryz.prog 93 #[v0] fun (y1_ : Int) => (K [(4, decide (2 ≤ y1_))])) (K [(4, false)]))) := by kernel_rfl
@[go_sem] theorem c52_r18 (v0 : Option Addr) (v3 : Addr) (v13 : Int) : RP c52 18 [(0, v0), (3, v3), (13, v13)] K =
 (K [(0, v0), (3, v3), (13, v13), (140, .bool (v13 == 4))]) := by kernel_rfl
@[go_sem] theorem c52_r19 (v0 : Option Addr) (v3 : Addr) : RP c52 19 [(0, v0), (3, v3)] K =
 (ph fun S0 => (nn v0 fun y1_ => (ldq S0 eP (y1_.add 3) fun (y2_ : Option Addr) => (ldq S0 eI (v3.add 1) fun (y3_ : Int) => (cal eI Tryz.prog 50 #[y2_, y3_] fun (y4_ : Int) => (K [(0, v0), (3, v3), (9, y4_)])))))) := by kernel_rfl
@[go_sem] theorem c52_r20 (v0 : Option Addr) (v3 : Addr) (v9 : Int) : RP c52 20 [(0, v0), (3, v3), (9, v9)] K =
 (ph fun S0 => (ldq S0 eI (v3.add 1) fun (y1_ : Int) => (cal eB Tryz.prog 94 #[y1_] fun (y2_ : Bool) => (ph fun S1 => (cnd (!y2_) (K [(0, v0), (3, v3), (9, v9), (162, true)]) (ldq S1 eI (v3.add 1) fun (y3_ : Int) => (nn v0 fun y4_ => (rq (0 ≤ y3_ ∧ y3_ < ((8 : Nat) : Int)) (ldq S1 eI (Addr.add (y4_.add 20) (y3_.toNat * 1)) fun (y5_ : Int) => (K [(0, v0), (3, v3), (9, v9), (162, .bool (y5_ == 0))])))))))))) := by kernel_rfl
@[go_sem] theorem c52_r21 (v9 : Int) : RP c52 21 [(9, v9)] K =
 (K [(4, .bool (v9 == 8))]) := by kernel_rfl
@[go_sem] theorem c52_r22 (v0 : Option Addr) (v3 : Addr) (v9 : Int) : RP c52 22 [(0, v0), (3, v3), (9, v9)] K =
 (ph fun S0 => (ldq S0 eI (v3.add 1) fun (y1_ : Int) => (ldq S0 eI (v3.add 1) fun (y2_ : Int) => (nn v0 fun y3_ => (rq (0 ≤ y2_ ∧ y2_ < ((8 : Nat) : Int)) (ldq S0 eI (Addr.add (y3_.add 20) (y2_.toNat * 1)) fun (y4_ : Int) => (nn v0 fun y5_ => (rq (0 ≤ y1_ ∧ y1_ < ((8 : Nat) : Int)) (st (Addr.add (y5_.add 20) (y1_.toNat * 1)) (IntKind.wrap .i64 (y4_ - 1)) (K [(9, v9)])))))))))) := by kernel_rfl
@[go_sem] theorem c52_r23 (v9 : Int) : RP c52 23 [(9, v9)] K =
 (K [(4, .bool (v9 == 0))]) := by kernel_rfl
@[go_sem] theorem c52_r24 (v0 : Option Addr) (v3 : Addr) (v13 : Int) : RP c52 24 [(0, v0), (3, v3), (13, v13)] K =
 (K [(0, v0), (3, v3), (181, .bool (v13 == 5))]) := by kernel_rfl
@[go_sem] theorem c52_r25 (v0 : Option Addr) (v3 : Addr) : RP c52 25 [(0, v0), (3, v3)] K =
 (ph fun S0 => (nn v0 fun y1_ => (ldq S0 eP (y1_.add 3) fun (y2_ : Option Addr) => (ldq S0 eI (v3.add 1) fun (y3_ : Int) => (cal eB Tryz.prog 45 #[y2_, y3_] fun (y4_ : Bool) => (K [(0, v0), (3, v3), (10, y4_)])))))) := by kernel_rfl
@[go_sem] theorem c52_r26 (v0 : Option Addr) (v3 : Addr) (v10 : Bool) : RP c52 26 [(0, v0), (3, v3), (10, v10)] K =
 (ph fun S0 => (nn v0 fun y1_ => (ldq S0 eP (y1_.add 3) fun (y2_ : Option Addr) => (ldq S0 eI (v3.add 1) fun (y3_ : Int) => (cal eI Tryz.prog 56 #[y2_, y3_] fun (y4_ : Int) => (K [(0, v0), (3, v3), (10, v10), (11, y4_)])))))) := by kernel_rfl
@[go_sem] theorem c52_r27 (v0 : Option Addr) (v3 : Addr) (v10 : Bool) (v11 : Int) : RP c52 27 [(0, v0), (3, v3), (10, v10), (11, v11)] K =
 (K [(0, v0), (3, v3), (11, v11), (197, v10)]) := by kernel_rfl
@[go_sem] theorem c52_r28 (v0 : Option Addr) (v3 : Addr) (v11 : Int) : RP c52 28 [(0, v0), (3, v3), (11, v11)] K =
 (ph fun S0 => (cnd (v11 == 0) (nn v0 fun y1_ => (ldq S0 eP (y1_.add 3) fun (y2_ : Option Addr) => (ldq S0 eI (v3.add 1) fun (y3_ : Int) => (cal eB Tryz.prog 45 #[y2_, y3_] fun (y4_ : Bool) => (ph fun S1 => (cnd (!y4_) (nn v0 fun y5_ => (ldq S1 eP (y5_.add 1) fun (y6_ : Option Addr) => (ldq S1 eI (v3.add 1) fun (y7_ : Int) => (ldq S1 eI (v3.add 1) fun (y8_ : Int) => (nn v0 fun y9_ => (rq (0 ≤ y8_ ∧ y8_ < ((8 : Nat) : Int)) (ldq S1 eI (Addr.add (y9_.add 12) (y8_.toNat * 1)) fun (y10_ : Int) => (cal eB Tryz.prog 51 #[y6_, y7_, y10_] fun (y11_ : Bool) => (K [(4, y11_)]))))))))) (K [(4, false)]))))))) (ph fun S2 => (K [(4, false)])))) := by kernel_rfl
@[go_sem] theorem c52_r29 (v11 : Int) : RP c52 29 [(11, v11)] K =
 (cnd (v11 == 0) (K [(4, true)]) (K [(4, .bool (v11 == 8))])) := by kernel_rfl
@[go_sem] theorem c52_o : c52.lo 1000000 = [4] := rfl
@[go_sem] theorem c52_e (v4 : Bool) : RTp c52 [(4, v4)] k = (k (v4)) := by kernel_rfl
theorem c52_ok : (c52.P.follows .mixedOrders && okc c52 c52.body) = true := by kernel_rfl
theorem c52_fn (hρ : envA 0 args.toList = ρ) (hs : Nat.ble args.size 232 = true) (h : E L (D c52 (.seq (.reg 0) (.seq (.reg 1) (.block 0 (.seq (.seq (.reg 3) (.cond (.tmp 29) (.skip) (.reg 4))) (.cond (.tmp 29) (.seq (.reg 5) (.ret)) (.seq (.reg 6) (.cond (.tmp 38) (.seq (.reg 7) (.seq (.seq (.reg 8) (.cond (.tmp 54) (.seq (.reg 9) (.ret)) (.skip))) (.seq (.reg 10) (.ret)))) (.seq (.reg 11) (.cond (.tmp 98) (.seq (.reg 12) (.seq (.seq (.reg 13) (.cond (.tmp 110) (.seq (.reg 14) (.ret)) (.skip))) (.seq (.seq (.reg 15) (.cond (.tmp 114) (.reg 16) (.skip))) (.seq (.reg 17) (.ret))))) (.seq (.reg 18) (.cond (.tmp 140) (.seq (.reg 19) (.seq (.seq (.reg 20) (.cond (.tmp 162) (.seq (.reg 21) (.ret)) (.skip))) (.seq (.reg 22) (.seq (.reg 23) (.ret))))) (.seq (.reg 24) (.cond (.tmp 181) (.seq (.reg 25) (.seq (.reg 26) (.seq (.seq (.reg 27) (.cond (.tmp 197) (.seq (.reg 28) (.ret)) (.skip))) (.seq (.reg 29) (.ret))))) (.seq (.reg 2) (.ret))))))))))))))) (fnQ c52 e G) ρ)) : E L (cal e Tryz.prog 52 args G) :=
  d_fn (c := c52) Tryz.func52 (by kernel_rfl) (by kernel_rfl) (by kernel_rfl) c52_ok (by kernel_rfl) (by kernel_rfl) hρ hs h
end Go.Sp
namespace Go.Sp
open Go Go.Proofs
set_option linter.unusedSimpArgs false
set_option linter.unusedVariables false
set_option maxRecDepth 10000
abbrev opv (k id : Int) (c : UInt8) : Value := v_gharrylaw10_Op ⟨k, id, (c.toNat : Int)⟩
abbrev wpa (wb : Nat) (S : St) (sb : Nat) (w : Wo) (g : Gh) : List HP := wld wb sb S.q w.G.q w.P.q g :: wos S sb w
theorem wflu_ok {S : St} {sb : Nat} {w : Wo} (h : w.ok S sb 80) (id : Int) : (wflu S w id).2.ok S sb 80 ∧ (wflu S w id).2.P.q = w.P.q ∧ (wflu S w id).2.G.q = w.G.q := by
  unfold wflu
  cases hf : w.P.find id with
  | none => exact ⟨h, rfl, rfl⟩
  | some i =>
    obtain ⟨a, b, d⟩ := svp_ok h (find_lt hf)
    exact ⟨a, b.q, d⟩
theorem fla_ok {S : St} {sb : Nat} : ∀ (k i : Nat) (w : Wo), w.ok S sb 80 → i + k ≤ w.P.fs.length → (fla S k i w).2.ok S sb 80 ∧ w.P.like (fla S k i w).2.P ∧ (fla S k i w).2.G.q = w.G.q
  | 0, i, w, h, _ => ⟨h, .rfl', rfl⟩
  | k + 1, i, w, h, hi => by
    obtain ⟨a, b, d⟩ := svp_ok h (i := i) (by omega)
    unfold fla
    split
    · obtain ⟨a2, b2, d2⟩ := fla_ok k (i + 1) (svp S w i).2 a (by rw [b.n]; omega)
      exact ⟨a2, b.tr b2, d2.trans d⟩
    · exact ⟨a, b, d⟩
section
variable (wb : Nat) (S : St) (sb : Nat) (w : Wo) (h : w.ok S sb 80) (g : Gh) (hg : g.ok) (id : Int) (c : UInt8)
include h hg
theorem g52a {k : Int} (hk : k = 0 ∨ k = 1) : Fq eB Tryz.prog 52 #[.pointer (some ⟨wb, 0, none⟩), opv k id c] (wpa wb S sb w g) (wld wb sb S.q w.G.q w.P.q (wst S w g id c).2.2 :: wos S sb (wst S w g id c).2.1) (wst S w g id c).1 := fun L => by
  have F := g47 wb S sb 80 w h g hg id c
  generalize wst S w g id c = R at *
  obtain ⟨e, w', g'⟩ := R
  dsimp only at F ⊢
  refine c52_fn rfl rfl ?_
  rcases hk with rfl | rfl
  all_goals
    repeat' (first | (with_reducible first | refine d_seq fun K hK => ?_ | (refine hK _ _ ?_; clear hK K) | (refine SG.p ?_; try intro b)) | refine i_c ?_ ?_ <;> intro hc <;> try simp only [push_cast, seval] at hc | refine i_x ?_ | clear hK K)
    all_goals try contradiction
    refine i_clq F ?_
    repeat' (first | (with_reducible first | refine d_seq fun K hK => ?_ | (refine hK _ _ ?_; clear hK K) | (refine SG.p ?_; try intro b)) | refine i_c ?_ ?_ <;> intro hc <;> try simp only [push_cast, seval] at hc | refine i_x ?_ | clear hK K)
    (with_reducible first | apply i_ret0 | apply i_ret2 | apply i_ret3 | apply i_ret); exact rfl
    rfl
def stg (r : List UInt8 × Int × Int) (g : Gh) (id : Int) : Bool :=
  if id < 0 ∨ 8 ≤ id then decide (r = ([], 0, 6)) else if r.2.2 = 7 then decide (2 ≤ npn g.pin 8) else decide (r = (g.T id.toNat, g.N id.toNat, 0))
theorem g52b : Fq eB Tryz.prog 52 #[.pointer (some ⟨wb, 0, none⟩), opv 2 id c] (wpa wb S sb w g) (wld wb sb S.q w.G.q w.P.q g :: wos S sb (hld S w id).2) (stg (wget S w id) g id) := fun L => by
  have F := g49 S sb 80 w h id
  have IN := g94 id
  have PN := g93 wb sb S.q w.G.q w.P.q g hg
  generalize wget S w id = r at *
  generalize (hld S w id).2 = w' at *
  obtain ⟨s, n, e⟩ := r
  generalize hR : stg (s, n, e) g id = R
  unfold stg at hR
  dsimp only at F hR ⊢
  refine c52_fn rfl rfl ?_
  repeat' (first | (with_reducible first | refine d_seq fun K hK => ?_ | (refine hK _ _ ?_; clear hK K) | (refine SG.p ?_; try intro b)) | refine i_c ?_ ?_ <;> intro hc <;> try simp only [push_cast, seval] at hc | refine i_x ?_ | clear hK K)
  all_goals try contradiction
  refine r_ph0 ?_
  repeat' (first | (with_reducible first | refine d_seq fun K hK => ?_ | (refine hK _ _ ?_; clear hK K) | (refine SG.p ?_; try intro b)) | refine i_c ?_ ?_ <;> intro hc <;> try simp only [push_cast, seval] at hc | refine i_x ?_ | clear hK K)
  refine i_clq F ?_
  repeat' (first | (with_reducible first | refine d_seq fun K hK => ?_ | (refine hK _ _ ?_; clear hK K) | (refine SG.p ?_; try intro b)) | refine i_c ?_ ?_ <;> intro hc <;> try simp only [push_cast, seval] at hc | refine i_x ?_ | clear hK K)
  refine i_clp IN ?_
  by_cases hr : id < 0 ∨ 8 ≤ id
  · rw [if_pos hr] at hR
    rw [decide_eq_false (by omega)]
    repeat' (first | (with_reducible first | refine d_seq fun K hK => ?_ | (refine hK _ _ ?_; clear hK K) | (refine SG.p ?_; try intro b)) | refine i_c ?_ ?_ <;> intro hc <;> try simp only [push_cast, seval] at hc | refine i_x ?_ | clear hK K)
    all_goals try contradiction
    all_goals
      (with_reducible first | apply i_ret0 | apply i_ret2 | apply i_ret3 | apply i_ret); exact rfl
      subst hR
      rw [Bool.eq_iff_iff]
      simp_all
  · rw [if_neg hr] at hR
    rw [decide_eq_true (by omega)]
    obtain ⟨m, rfl⟩ : ∃ m : Nat, id = (m : Int) := ⟨id.toNat, by omega⟩
    have hm : m < 8 := by omega
    have hT := gcl_txt (sb := sb) (sq := S.q) (lq := w.G.q) (pq := w.P.q) hg hm
    have hN := gcl_lsn (sb := sb) (sq := S.q) (lq := w.G.q) (pq := w.P.q) hg hm
    rw [Int.toNat_natCast] at hR
    repeat' (first | (with_reducible first | refine d_seq fun K hK => ?_ | (refine hK _ _ ?_; clear hK K) | (refine SG.p ?_; try intro b)) | refine i_c ?_ ?_ <;> intro hc <;> try simp only [push_cast, seval] at hc | refine i_x ?_ | clear hK K)
    all_goals try contradiction
    · have h7 : e = 7 := by assumption
      subst h7
      rw [if_pos rfl] at hR
      refine i_clp PN ?_
      refine r_ph0 ?_
      repeat' (first | (with_reducible first | refine d_seq fun K hK => ?_ | (refine hK _ _ ?_; clear hK K) | (refine SG.p ?_; try intro b)) | refine i_c ?_ ?_ <;> intro hc <;> try simp only [push_cast, seval] at hc | refine i_x ?_ | clear hK K)
      all_goals try contradiction
      all_goals
        (with_reducible first | apply i_ret0 | apply i_ret2 | apply i_ret3 | apply i_ret); exact rfl
        rw [← hR]
        first | (rw [decide_eq_true (by omega)]; done) | (rw [decide_eq_false (by omega)]; done)
    · refine r_ph0 ?_
      have h7 : ¬ e = 7 := by assumption
      rw [if_neg h7] at hR
      repeat' (first | (with_reducible first | refine d_seq fun K hK => ?_ | (refine hK _ _ ?_; clear hK K) | (refine SG.p ?_; try intro b)) | refine i_c ?_ ?_ <;> intro hc <;> try simp only [push_cast, seval] at hc | refine i_x ?_ | clear hK K)
      all_goals try contradiction
      · refine i_ldq (e := eS) (o := 4 + m) hT ?_
        repeat' (first | (with_reducible first | refine d_seq fun K hK => ?_ | (refine hK _ _ ?_; clear hK K) | (refine SG.p ?_; try intro b)) | refine i_c ?_ ?_ <;> intro hc <;> try simp only [push_cast, seval] at hc | refine i_x ?_ | clear hK K)
        · refine i_ldq (e := eI) (o := 12 + m) hN ?_
          repeat' (first | (with_reducible first | refine d_seq fun K hK => ?_ | (refine hK _ _ ?_; clear hK K) | (refine SG.p ?_; try intro b)) | refine i_c ?_ ?_ <;> intro hc <;> try simp only [push_cast, seval] at hc | refine i_x ?_ | clear hK K)
          (with_reducible first | apply i_ret0 | apply i_ret2 | apply i_ret3 | apply i_ret); exact rfl
          subst hR
          rw [Bool.eq_iff_iff]
          simp_all
        · (with_reducible first | apply i_ret0 | apply i_ret2 | apply i_ret3 | apply i_ret); exact rfl
          subst hR
          rw [Bool.eq_iff_iff]
          simp_all
      · (with_reducible first | apply i_ret0 | apply i_ret2 | apply i_ret3 | apply i_ret); exact rfl
        subst hR
        rw [Bool.eq_iff_iff]
        simp_all
def stb (r : Int × Wo) (g : Gh) (id : Int) : Bool × Wo × Gh :=
  if id < 0 ∨ 8 ≤ id then (decide (r.1 = 6), r.2, g) else if r.1 = 0 then (true, r.2, { g with pin := g.pin.set id.toNat (IntKind.wrap .i64 (g.P id.toNat + 1)) }) else (decide (r.1 = 7 ∧ 2 ≤ npn g.pin 8), r.2, g)
set_option maxHeartbeats 1000000 in
theorem g52c : Fq eB Tryz.prog 52 #[.pointer (some ⟨wb, 0, none⟩), opv 3 id c] (wpa wb S sb w g) (wld wb sb S.q w.G.q w.P.q (stb (wpin S w id) g id).2.2 :: wos S sb (stb (wpin S w id) g id).2.1) (stb (wpin S w id) g id).1 := fun L => by
  have F := g48 S sb 80 w h id
  have IN := g94 id
  have PN := g93 wb sb S.q w.G.q w.P.q g hg
  generalize wpin S w id = r at *
  obtain ⟨e, w'⟩ := r
  generalize hR : stb (e, w') g id = R
  unfold stb at hR
  dsimp only at F hR ⊢
  refine c52_fn rfl rfl ?_
  repeat' (first | (with_reducible first | refine d_seq fun K hK => ?_ | (refine hK _ _ ?_; clear hK K) | (refine SG.p ?_; try intro b)) | refine i_c ?_ ?_ <;> intro hc <;> try simp only [push_cast, seval] at hc | refine i_x ?_ | clear hK K)
  all_goals try contradiction
  refine r_ph0 ?_
  repeat' (first | (with_reducible first | refine d_seq fun K hK => ?_ | (refine hK _ _ ?_; clear hK K) | (refine SG.p ?_; try intro b)) | refine i_c ?_ ?_ <;> intro hc <;> try simp only [push_cast, seval] at hc | refine i_x ?_ | clear hK K)
  refine i_clq F ?_
  repeat' (first | (with_reducible first | refine d_seq fun K hK => ?_ | (refine hK _ _ ?_; clear hK K) | (refine SG.p ?_; try intro b)) | refine i_c ?_ ?_ <;> intro hc <;> try simp only [push_cast, seval] at hc | refine i_x ?_ | clear hK K)
  refine i_clp IN ?_
  by_cases hr : id < 0 ∨ 8 ≤ id
  · rw [if_pos hr] at hR
    subst hR
    rw [decide_eq_false (by omega)]
    repeat' (first | (with_reducible first | refine d_seq fun K hK => ?_ | (refine hK _ _ ?_; clear hK K) | (refine SG.p ?_; try intro b)) | refine i_c ?_ ?_ <;> intro hc <;> try simp only [push_cast, seval] at hc | refine i_x ?_ | clear hK K)
    all_goals try contradiction
    (with_reducible first | apply i_ret0 | apply i_ret2 | apply i_ret3 | apply i_ret); exact rfl
    rw [Bool.eq_iff_iff]
    simp
  · rw [if_neg hr] at hR
    rw [decide_eq_true (by omega)]
    obtain ⟨m, rfl⟩ : ∃ m : Nat, id = (m : Int) := ⟨id.toNat, by omega⟩
    have hm : m < 8 := by omega
    have hT := gcl_pin (sb := sb) (sq := S.q) (lq := w.G.q) (pq := w.P.q) hg hm
    have gl := gcl_len (sb := sb) (sq := S.q) (lq := w.G.q) (pq := w.P.q) hg
    have ST := fun n => set_pin (sb := sb) (sq := S.q) (lq := w.G.q) (pq := w.P.q) hg hm n
    rw [Int.toNat_natCast] at hR
    by_cases h0 : e = 0
    · subst h0
      rw [if_pos rfl] at hR
      subst hR
      repeat' (first | (with_reducible first | refine d_seq fun K hK => ?_ | (refine hK _ _ ?_; clear hK K) | (refine SG.p ?_; try intro b)) | refine i_c ?_ ?_ <;> intro hc <;> try simp only [push_cast, seval] at hc | refine i_x ?_ | clear hK K)
      all_goals try contradiction
      refine r_ph0 ?_
      repeat' (first | (with_reducible first | refine d_seq fun K hK => ?_ | (refine hK _ _ ?_; clear hK K) | (refine SG.p ?_; try intro b)) | refine i_c ?_ ?_ <;> intro hc <;> try simp only [push_cast, seval] at hc | refine i_x ?_ | clear hK K)
      refine i_ldq (e := eI) (o := 20 + m) hT ?_
      repeat' (first | (with_reducible first | refine d_seq fun K hK => ?_ | (refine hK _ _ ?_; clear hK K) | (refine SG.p ?_; try intro b)) | refine i_c ?_ ?_ <;> intro hc <;> try simp only [push_cast, seval] at hc | refine i_x ?_ | clear hK K)
      refine i_st (by rw [gl]; omega) rfl ?_
      rw [ST]
      repeat' (first | (with_reducible first | refine d_seq fun K hK => ?_ | (refine hK _ _ ?_; clear hK K) | (refine SG.p ?_; try intro b)) | refine i_c ?_ ?_ <;> intro hc <;> try simp only [push_cast, seval] at hc | refine i_x ?_ | clear hK K)
      all_goals try contradiction
      (with_reducible first | apply i_ret0 | apply i_ret2 | apply i_ret3 | apply i_ret); exact rfl
      rfl
    · rw [if_neg h0] at hR
      subst hR
      repeat' (first | (with_reducible first | refine d_seq fun K hK => ?_ | (refine hK _ _ ?_; clear hK K) | (refine SG.p ?_; try intro b)) | refine i_c ?_ ?_ <;> intro hc <;> try simp only [push_cast, seval] at hc | refine i_x ?_ | clear hK K)
      all_goals try contradiction
      · refine i_clp PN ?_
        repeat' (first | (with_reducible first | refine d_seq fun K hK => ?_ | (refine hK _ _ ?_; clear hK K) | (refine SG.p ?_; try intro b)) | refine i_c ?_ ?_ <;> intro hc <;> try simp only [push_cast, seval] at hc | refine i_x ?_ | clear hK K)
        (with_reducible first | apply i_ret0 | apply i_ret2 | apply i_ret3 | apply i_ret); exact rfl
        rw [Bool.eq_iff_iff]
        simp_all
        omega
      · (with_reducible first | apply i_ret0 | apply i_ret2 | apply i_ret3 | apply i_ret); exact rfl
        rw [Bool.eq_iff_iff]
        simp_all
def stu (r : Int × Po) (w : Wo) (g : Gh) (id : Int) : Bool × Wo × Gh :=
  if id < 0 ∨ 8 ≤ id ∨ g.P id.toNat = 0 then (decide (r.1 = 8), ⟨r.2, w.G, w.Z⟩, g) else (decide (r.1 = 0), ⟨r.2, w.G, w.Z⟩, { g with pin := g.pin.set id.toNat (IntKind.wrap .i64 (g.P id.toNat - 1)) })
set_option maxHeartbeats 1000000 in
theorem g52d : Fq eB Tryz.prog 52 #[.pointer (some ⟨wb, 0, none⟩), opv 4 id c] (wpa wb S sb w g) (wld wb sb S.q w.G.q w.P.q (stu (w.P.unp id) w g id).2.2 :: wos S sb (stu (w.P.unp id) w g id).2.1) (stu (w.P.unp id) w g id).1 := fun L => by
  have F := g50 w.P h.p id
  have IN := g94 id
  generalize w.P.unp id = r at *
  obtain ⟨e, P'⟩ := r
  generalize hR : stu (e, P') w g id = R
  unfold stu at hR
  dsimp only at F hR ⊢
  refine c52_fn rfl rfl ?_
  repeat' (first | (with_reducible first | refine d_seq fun K hK => ?_ | (refine hK _ _ ?_; clear hK K) | (refine SG.p ?_; try intro b)) | refine i_c ?_ ?_ <;> intro hc <;> try simp only [push_cast, seval] at hc | refine i_x ?_ | clear hK K)
  all_goals try contradiction
  refine r_ph0 ?_
  repeat' (first | (with_reducible first | refine d_seq fun K hK => ?_ | (refine hK _ _ ?_; clear hK K) | (refine SG.p ?_; try intro b)) | refine i_c ?_ ?_ <;> intro hc <;> try simp only [push_cast, seval] at hc | refine i_x ?_ | clear hK K)
  refine i_clq F ?_
  repeat' (first | (with_reducible first | refine d_seq fun K hK => ?_ | (refine hK _ _ ?_; clear hK K) | (refine SG.p ?_; try intro b)) | refine i_c ?_ ?_ <;> intro hc <;> try simp only [push_cast, seval] at hc | refine i_x ?_ | clear hK K)
  refine r_ph0 ?_
  repeat' (first | (with_reducible first | refine d_seq fun K hK => ?_ | (refine hK _ _ ?_; clear hK K) | (refine SG.p ?_; try intro b)) | refine i_c ?_ ?_ <;> intro hc <;> try simp only [push_cast, seval] at hc | refine i_x ?_ | clear hK K)
  refine i_clp IN ?_
  refine r_ph0 ?_
  by_cases hr : id < 0 ∨ 8 ≤ id
  · rw [if_pos (by omega)] at hR
    subst hR
    rw [decide_eq_false (by omega)]
    repeat' (first | (with_reducible first | refine d_seq fun K hK => ?_ | (refine hK _ _ ?_; clear hK K) | (refine SG.p ?_; try intro b)) | refine i_c ?_ ?_ <;> intro hc <;> try simp only [push_cast, seval] at hc | refine i_x ?_ | clear hK K)
    all_goals try contradiction
    (with_reducible first | apply i_ret0 | apply i_ret2 | apply i_ret3 | apply i_ret); exact rfl
    rw [Bool.eq_iff_iff]
    simp
  · rw [decide_eq_true (by omega)]
    obtain ⟨m, rfl⟩ : ∃ m : Nat, id = (m : Int) := ⟨id.toNat, by omega⟩
    have hm : m < 8 := by omega
    have hT := gcl_pin (sb := sb) (sq := S.q) (lq := w.G.q) (pq := w.P.q) hg hm
    have gl := gcl_len (sb := sb) (sq := S.q) (lq := w.G.q) (pq := w.P.q) hg
    have ST := fun n => set_pin (sb := sb) (sq := S.q) (lq := w.G.q) (pq := w.P.q) hg hm n
    rw [Int.toNat_natCast] at hR
    repeat' (first | (with_reducible first | refine d_seq fun K hK => ?_ | (refine hK _ _ ?_; clear hK K) | (refine SG.p ?_; try intro b)) | refine i_c ?_ ?_ <;> intro hc <;> try simp only [push_cast, seval] at hc | refine i_x ?_ | clear hK K)
    all_goals try contradiction
    refine i_ldq (e := eI) (o := 20 + m) hT ?_
    by_cases h0 : g.P m = 0
    · rw [if_pos (.inr (.inr h0))] at hR
      subst hR
      rw [show g.pin.getD m 0 = 0 from h0]
      repeat' (first | (with_reducible first | refine d_seq fun K hK => ?_ | (refine hK _ _ ?_; clear hK K) | (refine SG.p ?_; try intro b)) | refine i_c ?_ ?_ <;> intro hc <;> try simp only [push_cast, seval] at hc | refine i_x ?_ | clear hK K)
      all_goals try contradiction
      (with_reducible first | apply i_ret0 | apply i_ret2 | apply i_ret3 | apply i_ret); exact rfl
      rw [Bool.eq_iff_iff]
      simp
    · rw [if_neg (by omega)] at hR
      subst hR
      repeat' (first | (with_reducible first | refine d_seq fun K hK => ?_ | (refine hK _ _ ?_; clear hK K) | (refine SG.p ?_; try intro b)) | refine i_c ?_ ?_ <;> intro hc <;> try simp only [push_cast, seval] at hc | refine i_x ?_ | clear hK K)
      all_goals try contradiction
      refine r_ph0 ?_
      repeat' (first | (with_reducible first | refine d_seq fun K hK => ?_ | (refine hK _ _ ?_; clear hK K) | (refine SG.p ?_; try intro b)) | refine i_c ?_ ?_ <;> intro hc <;> try simp only [push_cast, seval] at hc | refine i_x ?_ | clear hK K)
      refine i_ldq (e := eI) (o := 20 + m) hT ?_
      repeat' (first | (with_reducible first | refine d_seq fun K hK => ?_ | (refine hK _ _ ?_; clear hK K) | (refine SG.p ?_; try intro b)) | refine i_c ?_ ?_ <;> intro hc <;> try simp only [push_cast, seval] at hc | refine i_x ?_ | clear hK K)
      refine i_st (by rw [gl]; omega) rfl ?_
      rw [ST]
      repeat' (first | (with_reducible first | refine d_seq fun K hK => ?_ | (refine hK _ _ ?_; clear hK K) | (refine SG.p ?_; try intro b)) | refine i_c ?_ ?_ <;> intro hc <;> try simp only [push_cast, seval] at hc | refine i_x ?_ | clear hK K)
      (with_reducible first | apply i_ret0 | apply i_ret2 | apply i_ret3 | apply i_ret); exact rfl
      rw [Bool.eq_iff_iff]
      simp
def stf (S : St) (was : Bool) (r : Int × Wo) (g : Gh) (id : Int) : Bool :=
  if was = true then decide (r.1 = 0 ∧ r.2.P.dirt id = false ∧ (r.2.Z.rpg S id).2.2 = 0 ∧ (r.2.Z.rpg S id).2.1 = g.N id.toNat) else decide (r.1 = 0 ∨ r.1 = 8)
set_option maxHeartbeats 1000000 in
theorem g52e (hid : w.P.dirt id = true → 0 ≤ id ∧ id < 8) : Fq eB Tryz.prog 52 #[.pointer (some ⟨wb, 0, none⟩), opv 5 id c] (wpa wb S sb w g) (wld wb sb S.q w.G.q w.P.q g :: wos S sb (wflu S w id).2) (stf S (w.P.dirt id) (wflu S w id) g id) := fun L => by
  have D1 := g45 w.P h.p id
  have F := g56 S sb 80 w h id
  obtain ⟨k1, k2, k3⟩ := wflu_ok h id
  have D2 := g45 (wflu S w id).2.P k1.p id
  have IS := fun n => f53 S (wflu S w id).2.Z k1.z (by rw [k1.nn]; exact k1.s) id n
  rw [k1.sb] at IS
  rw [show (wflu S w id).2.P.p = w.P.p from congrArg (fun q => Value.pointer (some ⟨q, 0, none⟩)) k2] at D2
  generalize wflu S w id = r at *
  obtain ⟨e, w'⟩ := r
  dsimp only at *
  generalize hR : stf S (w.P.dirt id) (e, w') g id = R
  unfold stf at hR
  dsimp only at hR
  generalize w'.Z.rpg S id = rr at *
  obtain ⟨r1, r2, r3⟩ := rr
  generalize w.P.dirt id = was at *
  generalize w'.P.dirt id = dn at *
  dsimp only at hR IS
  refine c52_fn rfl rfl ?_
  repeat' (first | (with_reducible first | refine d_seq fun K hK => ?_ | (refine hK _ _ ?_; clear hK K) | (refine SG.p ?_; try intro b)) | refine i_c ?_ ?_ <;> intro hc <;> try simp only [push_cast, seval] at hc | refine i_x ?_ | clear hK K)
  all_goals try contradiction
  refine r_ph0 ?_
  repeat' (first | (with_reducible first | refine d_seq fun K hK => ?_ | (refine hK _ _ ?_; clear hK K) | (refine SG.p ?_; try intro b)) | refine i_c ?_ ?_ <;> intro hc <;> try simp only [push_cast, seval] at hc | refine i_x ?_ | clear hK K)
  refine i_clp D1 ?_
  repeat' (first | (with_reducible first | refine d_seq fun K hK => ?_ | (refine hK _ _ ?_; clear hK K) | (refine SG.p ?_; try intro b)) | refine i_c ?_ ?_ <;> intro hc <;> try simp only [push_cast, seval] at hc | refine i_x ?_ | clear hK K)
  refine r_ph0 ?_
  repeat' (first | (with_reducible first | refine d_seq fun K hK => ?_ | (refine hK _ _ ?_; clear hK K) | (refine SG.p ?_; try intro b)) | refine i_c ?_ ?_ <;> intro hc <;> try simp only [push_cast, seval] at hc | refine i_x ?_ | clear hK K)
  refine i_clq F ?_
  repeat' (first | (with_reducible first | refine d_seq fun K hK => ?_ | (refine hK _ _ ?_; clear hK K) | (refine SG.p ?_; try intro b)) | refine i_c ?_ ?_ <;> intro hc <;> try simp only [push_cast, seval] at hc | refine i_x ?_ | clear hK K)
  · have hw : was = true := by assumption
    obtain ⟨m, rfl⟩ : ∃ m : Nat, id = (m : Int) := ⟨id.toNat, by have := hid hw; omega⟩
    have hm : m < 8 := by have := hid hw; omega
    have hN := gcl_lsn (sb := sb) (sq := S.q) (lq := w.G.q) (pq := w.P.q) hg hm
    rw [if_pos hw, Int.toNat_natCast] at hR
    have IS2 := IS (g.lsn.getD m 0)
    refine r_ph0 ?_
    repeat' (first | (with_reducible first | refine d_seq fun K hK => ?_ | (refine hK _ _ ?_; clear hK K) | (refine SG.p ?_; try intro b)) | refine i_c ?_ ?_ <;> intro hc <;> try simp only [push_cast, seval] at hc | refine i_x ?_ | clear hK K)
    · refine i_clp D2 ?_
      refine r_ph0 ?_
      repeat' (first | (with_reducible first | refine d_seq fun K hK => ?_ | (refine hK _ _ ?_; clear hK K) | (refine SG.p ?_; try intro b)) | refine i_c ?_ ?_ <;> intro hc <;> try simp only [push_cast, seval] at hc | refine i_x ?_ | clear hK K)
      · refine i_ldq (e := eI) (o := 12 + m) hN ?_
        repeat' (first | (with_reducible first | refine d_seq fun K hK => ?_ | (refine hK _ _ ?_; clear hK K) | (refine SG.p ?_; try intro b)) | refine i_c ?_ ?_ <;> intro hc <;> try simp only [push_cast, seval] at hc | refine i_x ?_ | clear hK K)
        refine i_clp IS2 ?_
        repeat' (first | (with_reducible first | refine d_seq fun K hK => ?_ | (refine hK _ _ ?_; clear hK K) | (refine SG.p ?_; try intro b)) | refine i_c ?_ ?_ <;> intro hc <;> try simp only [push_cast, seval] at hc | refine i_x ?_ | clear hK K)
        (with_reducible first | apply i_ret0 | apply i_ret2 | apply i_ret3 | apply i_ret); exact rfl
        subst hR
        rw [Bool.eq_iff_iff]
        simp_all
      · (with_reducible first | apply i_ret0 | apply i_ret2 | apply i_ret3 | apply i_ret); exact rfl
        subst hR
        rw [Bool.eq_iff_iff]
        simp_all
    · refine r_ph0 ?_
      repeat' (first | (with_reducible first | refine d_seq fun K hK => ?_ | (refine hK _ _ ?_; clear hK K) | (refine SG.p ?_; try intro b)) | refine i_c ?_ ?_ <;> intro hc <;> try simp only [push_cast, seval] at hc | refine i_x ?_ | clear hK K)
      (with_reducible first | apply i_ret0 | apply i_ret2 | apply i_ret3 | apply i_ret); exact rfl
      subst hR
      rw [Bool.eq_iff_iff]
      simp_all
  all_goals
    rw [if_neg (by simp_all)] at hR
    (with_reducible first | apply i_ret0 | apply i_ret2 | apply i_ret3 | apply i_ret); exact rfl
    subst hR
    rw [Bool.eq_iff_iff]
    simp_all
def sta (r : Int × Wo) : Bool := decide (r.1 = 0 ∧ drl r.2.P 8 = [])
set_option maxHeartbeats 1000000 in
theorem g52f (hS : S.pages = 8) {k : Int} (hk : ¬ (k = 0 ∨ k = 1 ∨ k = 2 ∨ k = 3 ∨ k = 4 ∨ k = 5)) : Fq eB Tryz.prog 52 #[.pointer (some ⟨wb, 0, none⟩), opv k id c] (wpa wb S sb w g) (wld wb sb S.q w.G.q w.P.q g :: wos S sb (fla S w.P.fs.length 0 w).2) (sta (fla S w.P.fs.length 0 w)) := fun L => by
  have hg1 := hg
  have F := g57 S sb 80 w h
  obtain ⟨k1, k2, k3⟩ := fla_ok w.P.fs.length 0 w h (by omega)
  have T := g58 (fla S w.P.fs.length 0 w).2.P k1.p S sb (k2.st.trans h.st) hS
  rw [show (fla S w.P.fs.length 0 w).2.P.p = w.P.p from congrArg (fun q => Value.pointer (some ⟨q, 0, none⟩)) k2.q] at T
  unfold sta
  generalize fla S w.P.fs.length 0 w = r at *
  obtain ⟨e, w'⟩ := r
  dsimp only at *
  generalize drl w'.P 8 = l at *
  refine c52_fn rfl rfl ?_
  repeat' (first | (with_reducible first | refine d_seq fun K hK => ?_ | (refine hK _ _ ?_; clear hK K) | (refine SG.p ?_; try intro b)) | refine i_c ?_ ?_ <;> intro hc <;> try simp only [push_cast, seval] at hc | refine i_x ?_ | clear hK K)
  all_goals try (exfalso; omega)
  refine i_clq F ?_
  repeat' (first | (with_reducible first | refine d_seq fun K hK => ?_ | (refine hK _ _ ?_; clear hK K) | (refine SG.p ?_; try intro b)) | refine i_c ?_ ?_ <;> intro hc <;> try simp only [push_cast, seval] at hc | refine i_x ?_ | clear hK K)
  · refine i_cal T ?_
    rintro ⟨p, pn, pc⟩ X rfl
    dsimp only [List.cons_append, List.nil_append]
    refine i_ow (t := 137) (sz := 2) (p, pn, pc) fun hR => ?_
    obtain rfl : pn = l.length := hR.len cDt_len (by decide)
    repeat' (first | (with_reducible first | refine d_seq fun K hK => ?_ | (refine hK _ _ ?_; clear hK K) | (refine SG.p ?_; try intro b)) | refine i_c ?_ ?_ <;> intro hc <;> try simp only [push_cast, seval] at hc | refine i_x ?_ | clear hK K)
    (with_reducible first | apply i_ret0 | apply i_ret2 | apply i_ret3 | apply i_ret); exact rfl
    rw [Bool.eq_iff_iff]
    simp_all
  · (with_reducible first | apply i_ret0 | apply i_ret2 | apply i_ret3 | apply i_ret); exact rfl
    rw [Bool.eq_iff_iff]
    simp_all
end
theorem pin_P {g : Gh} (hg : g.ok) {p : Nat} (hp : p < 8) (v : Int) (q : Nat) : ({ g with pin := g.pin.set p v } : Gh).P q = if p = q then v else g.P q := by
  have := hg.p
  unfold Gh.P
  dsimp only
  rw [List.getD_eq_getElem?_getD, List.getD_eq_getElem?_getD, List.getElem?_set]
  by_cases h : p = q
  · rw [if_pos h, if_pos h, if_pos (by omega)]
    rfl
  · rw [if_neg h, if_neg h]
theorem Pv.pins {S : St} {sb : Nat} {w : Wo} {g : Gh} (h : Pv S sb w g) {p i : Nat} (hp : p < 8) (hi : i < w.P.fs.length) (hf : (w.P.at i).filled = true) (hid : (w.P.at i).id = (p : Int)) {v : Int} (hv : 0 ≤ v) :
    Pv S sb ⟨w.P.mod i { w.P.at i with pins := v }, w.G, w.Z⟩ { g with pin := g.pin.set p v } ∧ (∀ q, Drt (w.P.mod i { w.P.at i with pins := v }) q ↔ Drt w.P q) ∧ (∀ q, Rsd (w.P.mod i { w.P.at i with pins := v }) q ↔ Rsd w.P q) := by
  obtain ⟨p', hp', F⟩ := h.fr i hi hf
  have : p' = p := by have := F.id; omega
  subst this
  have ma := fun j => at_set (f := { w.P.at i with pins := v }) (j := j) hi
  have hl' := mod_like w.P i { w.P.at i with pins := v }
  have hlen := hl'.n
  have hhd : (w.P.mod i { w.P.at i with pins := v }).hand < w.P.fs.length := h.ok.p.h
  have key : ∀ j, ((w.P.mod i { w.P.at i with pins := v }).at j).filled = (w.P.at j).filled ∧ ((w.P.mod i { w.P.at i with pins := v }).at j).id = (w.P.at j).id ∧ ((w.P.mod i { w.P.at i with pins := v }).at j).dirty = (w.P.at j).dirty := fun j => by
    rw [ma]
    by_cases hj : i = j
    · rw [if_pos hj, ← hj]
      exact ⟨rfl, rfl, rfl⟩
    · rw [if_neg hj]
      exact ⟨rfl, rfl, rfl⟩
  have self : (w.P.mod i { w.P.at i with pins := v }).at i = { w.P.at i with pins := v } := by rw [ma, if_pos rfl]
  have other : ∀ j, i ≠ j → (w.P.mod i { w.P.at i with pins := v }).at j = w.P.at j := fun j hj => by rw [ma, if_neg hj]
  have pP := pin_P h.gok hp v
  generalize w.P.mod i { w.P.at i with pins := v } = P' at *
  have hD : ∀ q, Drt P' q ↔ Drt w.P q := fun q => by
    constructor
    · rintro ⟨j, a, b, c, d⟩
      obtain ⟨k1, k2, k3⟩ := key j
      exact ⟨j, by rw [hlen] at a; exact a, by rw [← k1]; exact b, by rw [← k2]; exact c, by rw [← k3]; exact d⟩
    · rintro ⟨j, a, b, c, d⟩
      obtain ⟨k1, k2, k3⟩ := key j
      exact ⟨j, by rw [hlen]; exact a, by rw [k1]; exact b, by rw [k2]; exact c, by rw [k3]; exact d⟩
  have hR : ∀ q, Rsd P' q ↔ Rsd w.P q := fun q => by
    constructor
    · rintro ⟨j, a, b, c⟩
      obtain ⟨k1, k2, k3⟩ := key j
      exact ⟨j, by rw [hlen] at a; exact a, by rw [← k1]; exact b, by rw [← k2]; exact c⟩
    · rintro ⟨j, a, b, c⟩
      obtain ⟨k1, k2, k3⟩ := key j
      exact ⟨j, by rw [hlen]; exact a, by rw [k1]; exact b, by rw [k2]; exact c⟩
  refine ⟨⟨h.ok.mvP hl' hhd, ⟨h.gok.t, h.gok.l, by simpa using h.gok.p⟩, h.sp, h.bs, h.sec, h.wi, fun j a b => ?_, fun a b c1 c2 c3 c4 c5 => ?_, fun q hq hd => h.cl q hq (fun x => hd ((hD q).2 x)), fun q hq hd => h.di q hq ((hD q).1 hd), h.ls, h.tx, fun q hq => ?_⟩, hD, hR⟩
  · dsimp only at a b ⊢
    rw [hlen] at a
    by_cases hj : i = j
    · subst hj
      rw [self]
      exact ⟨p', hp, F.id, F.t, F.n, by rw [pP, if_pos rfl], F.d⟩
    · rw [other j hj] at b ⊢
      obtain ⟨q, hq, Fq⟩ := h.fr j a b
      have hqp : p' ≠ q := fun x => by
        subst x
        exact hj (h.un i j hi a hf b (by rw [hid, Fq.id]))
      exact ⟨q, hq, Fq.id, Fq.t, Fq.n, by rw [pP, if_neg hqp]; exact Fq.p, Fq.d⟩
  · dsimp only at c1 c2 c3 c4 c5
    rw [hlen] at c1 c2
    rw [(key a).1] at c3
    rw [(key b).1] at c4
    rw [(key a).2.1, (key b).2.1] at c5
    exact h.un a b c1 c2 c3 c4 c5
  · rw [pP]
    by_cases hqp : p' = q
    · rw [if_pos hqp]
      exact ⟨hv, fun _ => (hR q).2 (by rw [← hqp]; exact ⟨i, hi, hf, hid⟩)⟩
    · rw [if_neg hqp]
      exact ⟨(h.pn q hq).1, fun x => (hR q).2 ((h.pn q hq).2 x)⟩
theorem pig : ∀ (n : Nat) (R : Nat → Nat → Prop), (∀ i p q, R i p → R i q → p = q) → (∀ p, p ≤ n → ∃ i, i < n ∧ R i p) → False
  | 0, R, _, h => by
    obtain ⟨i, hi, _⟩ := h 0 (Nat.le_refl _)
    omega
  | n + 1, R, hf, h => by
    obtain ⟨i0, hi0, hR0⟩ := h (n + 1) (Nat.le_refl _)
    refine pig n (fun j p => R (if j < i0 then j else j + 1) p) (fun i p q a b => hf _ p q a b) fun p hp => ?_
    obtain ⟨i, hi, hR⟩ := h p (by omega)
    have hne : i ≠ i0 := fun x => by
      subst x
      have := hf i p (n + 1) hR hR0
      omega
    rcases Nat.lt_or_ge i i0 with x | x
    · exact ⟨i, by omega, by rw [if_pos x]; exact hR⟩
    · refine ⟨i - 1, by omega, ?_⟩
      rw [if_neg (by omega), show i - 1 + 1 = i by omega]
      exact hR
theorem Pv.pig {S : St} {sb : Nat} {w : Wo} {g : Gh} (h : Pv S sb w g) (hr : ∀ p, p ≤ w.P.fs.length → Rsd w.P p) : False := by
  refine Go.Sp.pig w.P.fs.length (fun i p => (w.P.at i).id = (p : Int)) (fun i p q a b => by omega) fun p hp => ?_
  obtain ⟨i, a, _, c⟩ := hr p hp
  exact ⟨i, a, c⟩
theorem Pv.room {S : St} {sb : Nat} {w : Wo} {g : Gh} (h : Pv S sb w g) {k : Nat} (hk : k < w.P.fs.length) (hz : ∀ q, k ≤ q → q < 8 → g.P q ≤ 0) (ha : ∀ j, j < w.P.fs.length → (w.P.at j).filled = true ∧ 0 < (w.P.at j).pins) : False := by
  refine Go.Sp.pig k (fun i j => j < w.P.fs.length ∧ (w.P.at j).id = (i : Int)) (fun i p q a b => ?_) fun j hj => ?_
  · exact h.un p q a.1 b.1 (ha p a.1).1 (ha q b.1).1 (by rw [a.2, b.2])
  · obtain ⟨a1, a2⟩ := ha j (by omega)
    obtain ⟨p, hp, F⟩ := h.fr j (by omega) a1
    have e1 := F.p
    refine ⟨p, ?_, by omega, F.id⟩
    rcases Nat.lt_or_ge p k with x | x
    · exact x
    · have := hz p x hp
      omega
def swk (S : St) (w : Wo) (g : Gh) (k id : Int) (c : UInt8) : Bool × Wo × Gh :=
  if k = 0 ∨ k = 1 then wst S w g id c
  else if k = 2 then (stg (wget S w id) g id, (hld S w id).2, g)
  else if k = 3 then stb (wpin S w id) g id
  else if k = 4 then stu (w.P.unp id) w g id
  else if k = 5 then (stf S (w.P.dirt id) (wflu S w id) g id, (wflu S w id).2, g)
  else (sta (fla S w.P.fs.length 0 w), (fla S w.P.fs.length 0 w).2, g)
theorem g52 (wb : Nat) (S : St) (sb : Nat) (w : Wo) (h : w.ok S sb 80) (g : Gh) (hg : g.ok) (hS : S.pages = 8) (k id : Int) (c : UInt8) (hid : w.P.dirt id = true → 0 ≤ id ∧ id < 8) :
    Fq eB Tryz.prog 52 #[.pointer (some ⟨wb, 0, none⟩), opv k id c] (wpa wb S sb w g) (wld wb sb S.q w.G.q w.P.q (swk S w g k id c).2.2 :: wos S sb (swk S w g k id c).2.1) (swk S w g k id c).1 := by
  unfold swk
  by_cases h0 : k = 0 ∨ k = 1
  · rw [if_pos h0]; exact g52a wb S sb w h g hg id c h0
  rw [if_neg h0]
  by_cases h2 : k = 2
  · subst h2; exact g52b wb S sb w h g hg id c
  rw [if_neg h2]
  by_cases h3 : k = 3
  · subst h3; exact g52c wb S sb w h g hg id c
  rw [if_neg h3]
  by_cases h4 : k = 4
  · subst h4; exact g52d wb S sb w h g hg id c
  rw [if_neg h4]
  by_cases h5 : k = 5
  · subst h5; exact g52e wb S sb w h g hg id c hid
  rw [if_neg h5]
  exact g52f wb S sb w h g hg id c hS (by omega)
theorem Pv.one {S : St} {sb : Nat} {w : Wo} {g : Gh} (h : Pv S sb w g) {i : Nat} (hi : i < w.P.fs.length) (hf : (w.P.at i).filled = true) {p : Nat} (hid : (w.P.at i).id = (p : Int)) : p < 8 ∧ Fok g p (w.P.at i) := by
  obtain ⟨q, hq, F⟩ := h.fr i hi hf
  obtain rfl : q = p := by have := F.id; omega
  exact ⟨hq, F⟩
theorem Pv.get {S : St} {sb : Nat} {w : Wo} {g : Gh} (h : Pv S sb w g) (id : Int) : stg (wget S w id) g id = true ∧ Pv S sb (hld S w id).2 g ∧ (hld S w id).2.P.fs.length = w.P.fs.length ∧ (hld S w id).2.G.all = w.G.all := by
  unfold stg
  by_cases hr : id < 0 ∨ 8 ≤ id
  · have e := h.hold_out hr
    unfold wget
    rw [if_pos hr, e]
    exact ⟨rfl, h, rfl, rfl⟩
  · rw [if_neg hr]
    obtain ⟨p, rfl⟩ : ∃ p : Nat, id = (p : Int) := ⟨id.toNat, by omega⟩
    obtain ⟨a1, a2, a3, a4⟩ := h.hold (p := p) (by omega)
    refine ⟨?_, a1, a3, a2⟩
    rw [Int.toNat_natCast]
    unfold wget
    generalize hld S w (p : Int) = r at *
    obtain ⟨⟨o, e⟩, w2⟩ := r
    dsimp only at a1 a2 a3 a4
    rcases a4 with ⟨i, b1, b2, b3, b4⟩ | ⟨b1, b2⟩
    · obtain ⟨rfl, rfl⟩ := Prod.mk.inj b1
      dsimp only
      obtain ⟨hp, F⟩ := a1.one (by rw [a3]; exact b2) b3 b4
      rw [if_neg (by decide)]
      exact decide_eq_true (by rw [F.t, F.n])
    · obtain ⟨rfl, rfl⟩ := Prod.mk.inj b1
      dsimp only
      rw [if_pos rfl]
      exact decide_eq_true (a1.full (by rw [a3]; exact b2))
theorem Pv.pin {S : St} {sb : Nat} {w : Wo} {g : Gh} (h : Pv S sb w g) (id : Int) {m : Int} (hm : m ≤ 1000) (hp : ∀ q, q < 8 → g.P q ≤ m) :
    (stb (wpin S w id) g id).1 = true ∧ Pv S sb (stb (wpin S w id) g id).2.1 (stb (wpin S w id) g id).2.2 ∧ (stb (wpin S w id) g id).2.1.P.fs.length = w.P.fs.length ∧ ∀ q, q < 8 → (stb (wpin S w id) g id).2.2.P q ≤ m + 1 := by
  unfold stb
  by_cases hr : id < 0 ∨ 8 ≤ id
  · have e := h.hold_out hr
    unfold wpin
    rw [if_pos hr, e]
    exact ⟨rfl, h, rfl, fun q hq => by have := hp q hq; dsimp only; omega⟩
  · rw [if_neg hr]
    obtain ⟨p, rfl⟩ : ∃ p : Nat, id = (p : Int) := ⟨id.toNat, by omega⟩
    obtain ⟨a1, a2, a3, a4⟩ := h.hold (p := p) (by omega)
    rw [Int.toNat_natCast]
    unfold wpin
    generalize hld S w (p : Int) = r at *
    obtain ⟨⟨o, e⟩, w2⟩ := r
    dsimp only at a1 a2 a3 a4
    rcases a4 with ⟨i, b1, b2, b3, b4⟩ | ⟨b1, b2⟩
    · obtain ⟨rfl, rfl⟩ := Prod.mk.inj b1
      dsimp only
      have hi : i < w2.P.fs.length := by rw [a3]; exact b2
      obtain ⟨h8, F⟩ := a1.one hi b3 b4
      have h0 := (a1.pn p h8).1
      have h1 := hp p h8
      rw [if_pos rfl, F.p]
      rw [w64 (by omega) (by omega)]
      obtain ⟨P1, _, _⟩ := a1.pins h8 hi b3 b4 (v := g.P p + 1) (by omega)
      refine ⟨rfl, P1, (mod_like _ _ _).n.trans a3, fun q hq => ?_⟩
      have := hp q hq
      refine Int.le_trans (Int.le_of_eq (pin_P h.gok h8 (g.P p + 1) q)) ?_
      split <;> omega
    · obtain ⟨rfl, rfl⟩ := Prod.mk.inj b1
      dsimp only
      rw [if_neg (by decide)]
      exact ⟨decide_eq_true ⟨rfl, a1.full (by rw [a3]; exact b2)⟩, a1, a3, fun q hq => by have := hp q hq; dsimp only; omega⟩
theorem Pv.unp {S : St} {sb : Nat} {w : Wo} {g : Gh} (h : Pv S sb w g) (id : Int) {m : Int} (hm : m ≤ 1000) (hp : ∀ q, q < 8 → g.P q ≤ m) :
    (stu (w.P.unp id) w g id).1 = true ∧ Pv S sb (stu (w.P.unp id) w g id).2.1 (stu (w.P.unp id) w g id).2.2 ∧ (stu (w.P.unp id) w g id).2.1.P.fs.length = w.P.fs.length ∧ ∀ q, q < 8 → (stu (w.P.unp id) w g id).2.2.P q ≤ m + 1 := by
  have hp1 : ∀ q, q < 8 → g.P q ≤ m + 1 := fun q hq => by have := hp q hq; omega
  unfold stu
  cases hf : w.P.find id with
  | none =>
    have eu : w.P.unp id = (8, w.P) := by unfold Po.unp; rw [hf]
    rw [eu]
    by_cases hr : id < 0 ∨ 8 ≤ id ∨ g.P id.toNat = 0
    · rw [if_pos hr]
      exact ⟨rfl, h, rfl, hp1⟩
    · exfalso
      obtain ⟨p, rfl⟩ : ∃ p : Nat, id = (p : Int) := ⟨id.toNat, by omega⟩
      rw [Int.toNat_natCast] at hr
      obtain ⟨q1, q2⟩ := h.pn p (by omega)
      exact find_none hf (q2 (by omega))
  | some i =>
    obtain ⟨f1, f2, f3⟩ := find_some hf
    obtain ⟨p, h8, F⟩ := h.fr i f1 f2
    obtain rfl : id = (p : Int) := by rw [← f3]; exact F.id
    obtain ⟨q1, q2⟩ := h.pn p h8
    have h1 := hp p h8
    rw [Int.toNat_natCast]
    by_cases h0 : g.P p = 0
    · have eu : w.P.unp (p : Int) = (8, w.P) := by unfold Po.unp; rw [hf]; dsimp only; rw [if_pos (by rw [F.p]; exact h0)]
      rw [eu, if_pos (.inr (.inr h0))]
      exact ⟨rfl, h, rfl, hp1⟩
    · have eu : w.P.unp (p : Int) = (0, w.P.mod i { w.P.at i with pins := g.P p - 1 }) := by
        unfold Po.unp
        rw [hf]
        dsimp only
        rw [if_neg (by rw [F.p]; exact h0), F.p, w64 (by omega) (by omega)]
      rw [eu, if_neg (by omega), w64 (by omega) (by omega)]
      obtain ⟨P1, _, _⟩ := h.pins h8 f1 f2 f3 (v := g.P p - 1) (by omega)
      refine ⟨rfl, P1, (mod_like _ _ _).n, fun q hq => ?_⟩
      have := hp q hq
      refine Int.le_trans (Int.le_of_eq (pin_P h.gok h8 (g.P p - 1) q)) ?_
      split <;> omega
theorem Pv.flu {S : St} {sb : Nat} {w : Wo} {g : Gh} (h : Pv S sb w g) (id : Int) : stf S (w.P.dirt id) (wflu S w id) g id = true ∧ Pv S sb (wflu S w id).2 g ∧ (wflu S w id).2.P.fs.length = w.P.fs.length ∧ (wflu S w id).2.G.all = w.G.all := by
  unfold stf wflu
  cases hf : w.P.find id with
  | none =>
    have : w.P.dirt id = false := by unfold Po.dirt; rw [hf]
    rw [this]
    exact ⟨rfl, h, rfl, rfl⟩
  | some i =>
    obtain ⟨f1, f2, f3⟩ := find_some hf
    obtain ⟨p, h8, F⟩ := h.fr i f1 f2
    obtain rfl : id = (p : Int) := by rw [← f3]; exact F.id
    have hd : w.P.dirt (p : Int) = (w.P.at i).dirty := by unfold Po.dirt; rw [hf]
    obtain ⟨s1, s2, s3, s4, s5, s6, s7, s8, s9⟩ := h.save f1 f2
    have i2 : i < (svp S w i).2.P.fs.length := by rw [s3.n]; exact f1
    dsimp only
    refine ⟨?_, s2, s3.n, s8⟩
    rw [hd, Int.toNat_natCast]
    cases hdy : (w.P.at i).dirty
    · rw [if_neg (by decide), s1]
      exact decide_eq_true (.inl rfl)
    · rw [if_pos rfl]
      obtain ⟨d1, d2⟩ := F.d hdy
      have hn := F.n
      have hdr : (svp S w i).2.P.dirt (p : Int) = false := by
        unfold Po.dirt
        cases hf2 : (svp S w i).2.P.find (p : Int) with
        | none => rfl
        | some j =>
          obtain ⟨e1, e2, e3⟩ := find_some hf2
          have hid2 : ((svp S w i).2.P.at i).id = (p : Int) := by
            obtain ⟨r, hr8, FR⟩ := s2.fr i i2 s4
            by_cases hij : j = i
            · subst hij; exact e3
            · rw [s9 j hij] at e2 e3
              exact absurd (h.un j i (by rw [← s3.n]; exact e1) f1 e2 f2 (by rw [e3, f3])) hij
          obtain rfl : j = i := s2.un j i e1 i2 e2 s4 (by rw [e3, hid2])
          exact s5
      have hnd : ¬ Drt (svp S w i).2.P p := fun x => by
        rw [(s2.dirt p).2 x] at hdr
        cases hdr
      rcases s2.cl p h8 hnd with ⟨_, x, _⟩ | ⟨x, _⟩
      · omega
      · rw [x]
        exact decide_eq_true ⟨s1, hdr, rfl, rfl⟩
def Rf (f : Fr) : Prop := (f.filled = false → f.dirty = false) ∧ (f.filled = true → 0 ≤ f.id ∧ f.id < 8)
def Ra (P : Po) : Prop := ∀ i, i < P.fs.length → Rf (P.at i)
theorem Ra.st {P P' : Po} (h : Ra P) {i : Nat} (hi : i < P.fs.length) {f : Fr} (e : P'.fs = P.fs.set i f) (hf : Rf f) : Ra P' := fun j hj => by
  have hj' : j < P.fs.length := by rw [e, List.length_set] at hj; exact hj
  have : P'.at j = (P.mod i f).at j := by unfold Po.at Po.mod; rw [e]
  rw [this, at_set hi]
  split
  · exact hf
  · exact h j hj'
theorem Ra.ul {P P' : Po} (h : Ra P) (u : ulk P P') (hn : P'.fs.length = P.fs.length) : Ra P' := fun j hj => by
  rw [hn] at hj
  obtain ⟨x, hx⟩ := u j hj
  rw [hx]
  exact h j hj
theorem Ra.svp {S : St} {w : Wo} (h : Ra w.P) {i : Nat} (hi : i < w.P.fs.length) : Ra (svp S w i).2.P := by
  have hc : Ra (w.P.cln i) := h.st hi (f := { w.P.at i with dirty := false, first := 0 }) rfl ⟨fun _ => rfl, (h i hi).2⟩
  unfold Go.Sp.svp
  split
  · exact h
  split
  · exact h
  dsimp only
  split
  · exact h
  split
  · exact h
  · exact hc
theorem Ra.hld {S : St} {sb : Nat} {w : Wo} (h : Ra w.P) (ok : w.ok S sb 80) (hS : S.pages = 8) (id : Int) : Ra (hld S w id).2.P ∧ ∀ i, (hld S w id).1.1 = some i → i < w.P.fs.length ∧ ((hld S w id).2.P.at i).filled = true := by
  have hok := ok.p
  unfold Go.Sp.hld
  cases hf : w.P.find id with
  | some i =>
    obtain ⟨h1, h2, h3⟩ := find_some hf
    refine ⟨h.ul (ulk_use h1 true w.P.hand) List.length_set, fun j hj => ?_⟩
    cases hj
    obtain ⟨u, hu⟩ := ulk_use (P := w.P) h1 true w.P.hand i h1
    have e : (w.P.use i).at i = { w.P.at i with used := u } := hu
    dsimp only
    rw [e]
    exact ⟨h1, h2⟩
  | none =>
    dsimp only
    unfold hl1
    split
    · exact ⟨h, fun i hi => by cases hi⟩
    · rename_i hc
      have hin : 0 ≤ id ∧ id < 8 := by
        by_cases hr : id < 0 ∨ 8 ≤ id
        · exfalso
          have h6 : S.chk id = 6 := by unfold St.chk; rw [if_pos (by omega)]
          have : w.Z.rpg S id = ([], 0, 6) := by unfold Dk.rpg; rw [if_neg (by rw [h6]; decide)]
          rw [this] at hc
          exact hc ⟨by decide, by decide, by decide⟩
        · omega
      have hnf : Rf (nfr (w.Z.rpg S id) id) := ⟨fun x => (by cases x), fun _ => hin⟩
      obtain ⟨v1, v2, v3⟩ := vic_like (2 * w.P.fs.length + 1) w.P hok
      obtain ⟨v4, v5⟩ := vic_ulk (2 * w.P.fs.length + 1) w.P hok
      generalize vic (2 * w.P.fs.length + 1) w.P = v at *
      obtain ⟨o, V⟩ := v
      dsimp only at v1 v2 v3 v4 v5
      have hV : Ra V := h.ul v4 v1.n
      unfold hl2
      cases o with
      | none => exact ⟨hV, fun i hi => by cases hi⟩
      | some i =>
        have hi := v3 i rfl
        have hiV : i < V.fs.length := by rw [v1.n]; exact hi
        dsimp only
        split
        · obtain ⟨s1, s2, s3⟩ := svp_ok (w := ⟨V, w.G, w.Z⟩) (ok.mvP v1 (by have := v2.h; have := v1.n; omega)) hiV
          have sR := Ra.svp (S := S) (w := ⟨V, w.G, w.Z⟩) hV hiV
          have hi2 : i < (Go.Sp.svp S ⟨V, w.G, w.Z⟩ i).2.P.fs.length := by rw [s2.n]; exact hiV
          split
          · refine ⟨sR.st hi2 (f := nfr (w.Z.rpg S id) id) rfl hnf, fun j hj => ?_⟩
            cases hj
            refine ⟨hi, ?_⟩
            dsimp only
            rw [put_at hi2, if_pos rfl]
          · exact ⟨sR, fun j hj => by cases hj⟩
        · refine ⟨hV.st hiV (f := nfr (w.Z.rpg S id) id) rfl hnf, fun j hj => ?_⟩
          cases hj
          refine ⟨hi, ?_⟩
          dsimp only
          rw [put_at hiV, if_pos rfl]
theorem Ra.md {P : Po} (h : Ra P) {i : Nat} (hi : i < P.fs.length) (hf : (P.at i).filled = true) {f : Fr} (e1 : f.filled = (P.at i).filled) (e2 : f.id = (P.at i).id) : Ra (P.mod i f) :=
  h.st hi (f := f) rfl ⟨fun x => (by rw [e1, hf] at x; cases x), fun x => (by rw [e2]; exact (h i hi).2 hf)⟩
theorem Ra.wset {S : St} {sb : Nat} {w : Wo} (h : Ra w.P) (ok : w.ok S sb 80) (hS : S.pages = 8) (id : Int) (t : List UInt8) (n : Int) : Ra (wset S w id t n).2.P := by
  obtain ⟨a, b⟩ := h.hld ok hS id
  obtain ⟨_, l, _⟩ := hld_ok ok id
  unfold Go.Sp.wset
  split
  · exact h
  split
  · exact h
  generalize Go.Sp.hld S w id = r at *
  obtain ⟨⟨o, e⟩, w2⟩ := r
  cases o with
  | none => exact a
  | some i =>
    obtain ⟨b1, b2⟩ := b i rfl
    exact a.md (by rw [l.n]; exact b1) b2 rfl rfl
theorem Ra.wst {S : St} {sb : Nat} {w : Wo} (h : Ra w.P) (ok : w.ok S sb 80) (hS : S.pages = 8) (g : Gh) (id : Int) (c : UInt8) : Ra (wst S w g id c).2.1.P := by
  obtain ⟨a1, a2⟩ := append_okG ok.g (cm (c.toNat : Int))
  have o2 : (⟨w.P, (w.G.append (cm (c.toNat : Int))).2, w.Z⟩ : Wo).ok S sb 80 := ⟨ok.p, ok.z, ok.sb, ok.nn, a1, ok.s, ok.st, ok.lg.trans a2.symm⟩
  have hw := Ra.wset (w := ⟨w.P, (w.G.append (cm (c.toNat : Int))).2, w.Z⟩) h o2 hS id (fl c) (w.G.append (cm (c.toNat : Int))).1.1
  unfold Go.Sp.wst wst2
  split
  · split
    · exact hw
    split
    · exact hw
    · exact hw
  · exact h
theorem Ra.fla {S : St} {sb : Nat} : ∀ (k i : Nat) (w : Wo), Ra w.P → w.ok S sb 80 → i + k ≤ w.P.fs.length → Ra (fla S k i w).2.P
  | 0, _, _, h, _, _ => h
  | k + 1, i, w, h, ok, hi => by
    obtain ⟨a, b, d⟩ := svp_ok ok (i := i) (by omega)
    have r := h.svp (S := S) (i := i) (by omega)
    unfold Go.Sp.fla
    split
    · exact Ra.fla k (i + 1) _ r a (by rw [b.n]; omega)
    · exact r
theorem Ra.swk {S : St} {sb : Nat} {w : Wo} (h : Ra w.P) (ok : w.ok S sb 80) (hS : S.pages = 8) (g : Gh) (k id : Int) (c : UInt8) : Ra (swk S w g k id c).2.1.P := by
  unfold Go.Sp.swk
  split
  · exact h.wst ok hS g id c
  obtain ⟨a, b⟩ := h.hld ok hS id
  obtain ⟨_, l, _⟩ := hld_ok ok id
  split
  · exact a
  split
  · unfold stb
    have : Ra (wpin S w id).2.P := by
      unfold wpin
      generalize Go.Sp.hld S w id = r at *
      obtain ⟨⟨o, e⟩, w2⟩ := r
      cases o with
      | none => exact a
      | some i =>
        obtain ⟨b1, b2⟩ := b i rfl
        exact a.md (by rw [l.n]; exact b1) b2 rfl rfl
    split
    · exact this
    split
    · exact this
    · exact this
  split
  · unfold stu
    have : Ra (w.P.unp id).2 := by
      unfold Po.unp
      cases hf : w.P.find id with
      | none => exact h
      | some i =>
        obtain ⟨f1, f2, f3⟩ := find_some hf
        dsimp only
        split
        · exact h
        · exact h.md f1 f2 rfl rfl
    split
    · exact this
    · exact this
  split
  · unfold wflu
    cases hf : w.P.find id with
    | none => exact h
    | some i => exact h.svp (find_lt hf)
  · exact Ra.fla w.P.fs.length 0 w h ok (by omega)
theorem swk_q {S : St} {sb : Nat} {w : Wo} (ok : w.ok S sb 80) {g : Gh} (hg : g.ok) (k id : Int) (c : UInt8) : (swk S w g k id c).2.1.G.q = w.G.q ∧ (swk S w g k id c).2.1.P.q = w.P.q := by
  unfold Go.Sp.swk
  obtain ⟨_, l, q, _⟩ := hld_ok ok id
  split
  · obtain ⟨_, b, d, _⟩ := wst_ok ok hg id c
    exact ⟨d, b.q⟩
  split
  · exact ⟨q, l.q⟩
  split
  · have : (wpin S w id).2.G.q = w.G.q ∧ (wpin S w id).2.P.q = w.P.q := by
      unfold wpin
      generalize Go.Sp.hld S w id = r at *
      obtain ⟨⟨o, e⟩, w2⟩ := r
      cases o with
      | none => exact ⟨q, l.q⟩
      | some i => exact ⟨q, l.q⟩
    unfold stb
    split
    · exact this
    split
    · exact this
    · exact this
  split
  · have : (w.P.unp id).2.q = w.P.q := by
      unfold Po.unp
      split
      · rfl
      · split <;> rfl
    unfold stu
    split
    · exact ⟨rfl, this⟩
    · exact ⟨rfl, this⟩
  split
  · obtain ⟨_, b, d⟩ := wflu_ok ok id
    exact ⟨d, b⟩
  · obtain ⟨_, b, d⟩ := fla_ok w.P.fs.length 0 w ok (by omega)
    exact ⟨d, b.q⟩
theorem Ra.dirt {P : Po} (h : Ra P) {id : Int} (hd : P.dirt id = true) : 0 ≤ id ∧ id < 8 := by
  unfold Po.dirt at hd
  cases hf : P.find id with
  | none => rw [hf] at hd; cases hd
  | some i =>
    obtain ⟨f1, f2, f3⟩ := find_some hf
    rw [← f3]
    exact (h i f1).2 f2
theorem Ra.new (q fb st lg n : Nat) : Ra (Po.new q fb st lg n) := fun i hi => by
  have : (Po.new q fb st lg n).at i = zf := by
    unfold Po.at Po.new
    rw [List.getD_eq_getElem?_getD, List.getElem?_replicate]
    split <;> rfl
  rw [this]
  exact ⟨fun _ => rfl, fun x => (by cases x)⟩
theorem Pv.fla {S : St} {sb : Nat} {g : Gh} : ∀ (k i : Nat) (w : Wo), Pv S sb w g → Ra w.P → i + k = w.P.fs.length → (∀ j, j < i → (w.P.at j).dirty = false) →
    (fla S k i w).1 = 0 ∧ Pv S sb (fla S k i w).2 g ∧ (fla S k i w).2.P.fs.length = w.P.fs.length ∧ (fla S k i w).2.G.all = w.G.all ∧ ∀ j, j < w.P.fs.length → ((fla S k i w).2.P.at j).dirty = false
  | 0, i, w, h, _, hi, hd => ⟨rfl, h, rfl, rfl, fun j hj => hd j (by omega)⟩
  | k + 1, i, w, h, r, hi, hd => by
    have h0 : i < w.P.fs.length := by omega
    have key : (svp S w i).1 = 0 ∧ Pv S sb (svp S w i).2 g ∧ (svp S w i).2.P.fs.length = w.P.fs.length ∧ (svp S w i).2.G.all = w.G.all ∧ ∀ j, j < i + 1 → ((svp S w i).2.P.at j).dirty = false := by
      cases hf : (w.P.at i).filled
      · have hdi := (r i h0).1 hf
        have e : svp S w i = (0, w) := by unfold svp; rw [if_pos hdi]
        rw [e]
        exact ⟨rfl, h, rfl, rfl, fun j hj => by
          rcases Nat.lt_or_ge j i with x | x
          · exact hd j x
          · obtain rfl : j = i := by omega
            exact hdi⟩
      · obtain ⟨s1, s2, s3, s4, s5, s6, s7, s8, s9⟩ := h.save h0 hf
        exact ⟨s1, s2, s3.n, s8, fun j hj => by
          by_cases hji : j = i
          · rw [hji]; exact s5
          · rw [s9 j hji]; exact hd j (by omega)⟩
    obtain ⟨k1, k2, k3, k4, k5⟩ := key
    have rs := r.svp (S := S) h0
    obtain ⟨m1, m2, m3, m4, m5⟩ := Pv.fla k (i + 1) (svp S w i).2 k2 rs (by rw [k3]; omega) k5
    unfold Go.Sp.fla
    rw [if_pos k1]
    exact ⟨m1, m2, m3.trans k3, m4.trans k4, fun j hj => m5 j (by rw [k3]; exact hj)⟩
theorem drl_none {P : Po} (h : ∀ j, j < P.fs.length → (P.at j).dirty = false) : ∀ i, drl P i = []
  | 0 => rfl
  | i + 1 => by
    unfold drl drd
    rw [drl_none h i]
    cases hf : P.find (i : Int) with
    | none => rfl
    | some j =>
      dsimp only
      rw [if_neg (by rw [h j (find_lt hf)]; decide)]
      rfl
theorem Pv.swk {S : St} {sb : Nat} {w : Wo} {g : Gh} (h : Pv S sb w g) (r : Ra w.P) (k id : Int) (c : UInt8) {m : Int} (hm : m ≤ 1000) (hp : ∀ q, q < 8 → g.P q ≤ m) :
    (swk S w g k id c).1 = true ∧ Pv S sb (swk S w g k id c).2.1 (swk S w g k id c).2.2 ∧ (swk S w g k id c).2.1.P.fs.length = w.P.fs.length ∧ ∀ q, q < 8 → (swk S w g k id c).2.2.P q ≤ m + 1 := by
  have hp1 : ∀ q, q < 8 → g.P q ≤ m + 1 := fun q hq => by have := hp q hq; omega
  unfold Go.Sp.swk
  split
  · obtain ⟨a1, a2, a3, a4, _⟩ := h.wst id c
    exact ⟨a1, a2, a3, fun q hq => by
      show (Go.Sp.wst S w g id c).2.2.pin.getD q 0 ≤ m + 1
      rw [a4]
      exact hp1 q hq⟩
  split
  · obtain ⟨a1, a2, a3, _⟩ := h.get id
    exact ⟨a1, a2, a3, hp1⟩
  split
  · exact h.pin id hm hp
  split
  · exact h.unp id hm hp
  split
  · obtain ⟨a1, a2, a3, _⟩ := h.flu id
    exact ⟨a1, a2, a3, hp1⟩
  · obtain ⟨a1, a2, a3, _, a5⟩ := Pv.fla w.P.fs.length 0 w h r (by omega) (fun j hj => by omega)
    refine ⟨?_, a2, a3, hp1⟩
    unfold sta
    exact decide_eq_true ⟨a1, drl_none (fun j hj => a5 j (by rw [← a3]; exact hj)) 8⟩
def Fd (cs : List UInt8) (f : Fr) : Prop := f.dirty = true → ∃ (j : Nat) (c : UInt8), cs[j]? = some c ∧ f.text = fl c ∧ f.lsn = ((19 * j + 1 : Nat) : Int)
def Rd' (cs : List UInt8) (P : Po) : Prop := ∀ i, i < P.fs.length → Fd cs (P.at i)
theorem Rd'.st {cs : List UInt8} {P P' : Po} (h : Rd' cs P) {i : Nat} (hi : i < P.fs.length) {f : Fr} (e : P'.fs = P.fs.set i f) (hf : Fd cs f) : Rd' cs P' := fun j hj => by
  have hj' : j < P.fs.length := by rw [e, List.length_set] at hj; exact hj
  have : P'.at j = (P.mod i f).at j := by unfold Po.at Po.mod; rw [e]
  rw [this, at_set hi]
  split
  · exact hf
  · exact h j hj'
theorem Rd'.ul {cs : List UInt8} {P P' : Po} (h : Rd' cs P) (u : ulk P P') (hn : P'.fs.length = P.fs.length) : Rd' cs P' := fun j hj => by
  rw [hn] at hj
  obtain ⟨x, hx⟩ := u j hj
  rw [hx]
  exact h j hj
structure Lk (w : Wo) (cs : List UInt8) : Prop where
  lb : Lb w.G cs
  al : All (Sv cs w.G.durable) w.Z
  fr : Rd' cs w.P
structure Sc (S : St) : Prop where
  b : S.base = 40
  p : S.pages = 8
  g : S.gen = 1
theorem Lk.mv {w : Wo} {cs : List UInt8} (h : Lk w cs) {P : Po} (hp : Rd' cs P) : Lk ⟨P, w.G, w.Z⟩ cs := ⟨h.lb, h.al, hp⟩
theorem Lk.svp {S : St} {sb : Nat} {w : Wo} {cs : List UInt8} (h : Lk w cs) (ok : w.ok S sb 80) (c : Sc S) {i : Nat} (hi : i < w.P.fs.length) : Lk (svp S w i).2 cs := by
  have hn := ok.nn
  have hg := ok.g
  rw [← hn] at hg
  have hf := h.fr i hi
  have fc : Rd' cs (w.P.cln i) := h.fr.st hi (f := { w.P.at i with dirty := false, first := 0 }) rfl (fun x => by cases x)
  unfold Go.Sp.svp
  split
  · exact h
  rename_i hd
  obtain ⟨j, x, e1, e2, e3⟩ := hf (by simpa using hd)
  obtain ⟨hj, _⟩ := List.getElem?_eq_some_iff.1 e1
  have hl : (w.P.at i).lsn ≤ (w.G.all.length : Int) := by rw [e3, h.lb.a, lgA_len]; omega
  obtain ⟨n1, n2, n3⟩ := lneed_lb ok.z hn h.lb h.al hl
  obtain ⟨p1, p2, p3, p4, p5⟩ := lneed_ok ok.z hg (w.P.at i).lsn
  split
  · exact ⟨n1, n2, h.fr⟩
  rename_i he
  have hdur := n3 (by simpa using he)
  generalize w.Z.lneed w.G (w.P.at i).lsn = T at *
  obtain ⟨e, Y, G⟩ := T
  dsimp only at n1 n2 p1 p2 p3 p4 p5 hdur ⊢
  have wp := All.wpg (S := S) (id := (w.P.at i).id) (text := (w.P.at i).text) (lsn := (w.P.at i).lsn) p1 n2 (fun p _ hp _ _ _ m hm => ⟨fun y => by have := c.b; omega, fun _ _ => .inr ⟨j, x, e1, by rw [e3] at hdur; omega, by
    have e4 : (S.base + 4 * p + m - 40) % 4 = m := by have := c.b; omega
    rw [e4, e2, e3, c.g]⟩⟩)
  obtain ⟨q1, _⟩ := Dk.wpg_same p1 S (w.P.at i).id (w.P.at i).text (w.P.at i).lsn
  split
  · exact ⟨n1, wp, h.fr⟩
  split
  · exact ⟨n1, All.sync q1 wp, h.fr⟩
  · exact ⟨n1, All.sync q1 wp, fc⟩
theorem Lk.hld {S : St} {sb : Nat} {w : Wo} {cs : List UInt8} (h : Lk w cs) (ok : w.ok S sb 80) (c : Sc S) (id : Int) : Lk (hld S w id).2 cs := by
  have hok := ok.p
  unfold Go.Sp.hld
  cases hf : w.P.find id with
  | some i =>
    obtain ⟨h1, h2, h3⟩ := find_some hf
    exact h.mv (h.fr.ul (ulk_use h1 true w.P.hand) List.length_set)
  | none =>
    dsimp only
    unfold hl1
    split
    · exact h
    · have hnf : Fd cs (nfr (w.Z.rpg S id) id) := fun x => by cases x
      obtain ⟨v1, v2, v3⟩ := vic_like (2 * w.P.fs.length + 1) w.P hok
      obtain ⟨v4, v5⟩ := vic_ulk (2 * w.P.fs.length + 1) w.P hok
      generalize vic (2 * w.P.fs.length + 1) w.P = v at *
      obtain ⟨o, V⟩ := v
      dsimp only at v1 v2 v3 v4 v5
      have hV : Rd' cs V := h.fr.ul v4 v1.n
      unfold hl2
      cases o with
      | none => exact h.mv hV
      | some i =>
        have hi := v3 i rfl
        have hiV : i < V.fs.length := by rw [v1.n]; exact hi
        dsimp only
        split
        · have okV : (⟨V, w.G, w.Z⟩ : Wo).ok S sb 80 := ok.mvP v1 (by have := v2.h; have := v1.n; omega)
          obtain ⟨s1, s2, s3⟩ := svp_ok (w := ⟨V, w.G, w.Z⟩) okV hiV
          have sL := Lk.svp (w := ⟨V, w.G, w.Z⟩) (h.mv hV) okV c hiV
          have hi2 : i < (Go.Sp.svp S ⟨V, w.G, w.Z⟩ i).2.P.fs.length := by rw [s2.n]; exact hiV
          split
          · exact sL.mv (sL.fr.st hi2 (f := nfr (w.Z.rpg S id) id) rfl hnf)
          · exact sL
        · exact h.mv (hV.st hiV (f := nfr (w.Z.rpg S id) id) rfl hnf)
theorem Lk.wset {S : St} {sb : Nat} {w : Wo} {cs : List UInt8} (h : Lk w cs) (ok : w.ok S sb 80) (c : Sc S) (id : Int) {j : Nat} {x : UInt8} (e : cs[j]? = some x) : Lk (wset S w id (fl x) ((19 * j + 1 : Nat) : Int)).2 cs := by
  have a := h.hld ok c id
  obtain ⟨_, l, _, b, _⟩ := hld_ok ok id
  unfold Go.Sp.wset
  split
  · exact h
  split
  · exact h
  generalize Go.Sp.hld S w id = r at *
  obtain ⟨⟨o, e'⟩, w2⟩ := r
  cases o with
  | none => exact a
  | some i =>
    obtain ⟨b1, _⟩ := b i rfl
    exact a.mv (a.fr.st (by rw [l.n]; exact b1) (f := sfr (w2.P.at i) (fl x) ((19 * j + 1 : Nat) : Int)) rfl (fun _ => ⟨j, x, e, rfl, rfl⟩))
theorem append_lb {G : Lg} {cs : List UInt8} (h : Lb G cs) (c : UInt8) : ((G.append (cm (c.toNat : Int))).1.2 ≠ 0 ∧ (G.append (cm (c.toNat : Int))).2 = G) ∨
    ((G.append (cm (c.toNat : Int))).1 = (((19 * cs.length + 1 : Nat) : Int), 0) ∧ Lb (G.append (cm (c.toNat : Int))).2 (cs ++ [c]) ∧ (G.append (cm (c.toNat : Int))).2.durable = G.durable) := by
  obtain ⟨f1, f2⟩ := cfr_ok c
  unfold Lg.append
  split
  · exact .inl ⟨by simp, rfl⟩
  rw [f1, if_pos rfl]
  unfold Lg.add
  split
  · exact .inl ⟨by simp, rfl⟩
  · rename_i hf
    rw [h.s, f2] at hf
    refine .inr ⟨by rw [h.a, lgA_len], ⟨h.b, h.s, h.r, by dsimp only; rw [lgA_snoc, h.a], h.m, ?_, ?_⟩, rfl⟩
    · have := h.d
      dsimp only
      rw [List.length_append]
      omega
    · dsimp only
      rw [List.length_append, f2]
      omega
theorem Lk.wst {S : St} {sb : Nat} {w : Wo} {cs : List UInt8} (h : Lk w cs) (ok : w.ok S sb 80) (c : Sc S) (g : Gh) (id : Int) (x : UInt8) : ∃ cs', Lk (wst S w g id x).2.1 cs' := by
  obtain ⟨a1, a2⟩ := append_okG ok.g (cm (x.toNat : Int))
  have o2 : (⟨w.P, (w.G.append (cm (x.toNat : Int))).2, w.Z⟩ : Wo).ok S sb 80 := ⟨ok.p, ok.z, ok.sb, ok.nn, a1, ok.s, ok.st, ok.lg.trans a2.symm⟩
  unfold Go.Sp.wst
  rcases append_lb h.lb x with ⟨e1, e2⟩ | ⟨e1, e2, e3⟩
  · rw [if_neg e1, e2]
    exact ⟨cs, h⟩
  · have h2 : Lk ⟨w.P, (w.G.append (cm (x.toNat : Int))).2, w.Z⟩ (cs ++ [x]) := ⟨e2, by dsimp only; rw [e3]; exact h.al.imp fun j v y => y.snoc x, fun i hi hd => by
      obtain ⟨j, y, f1, f2, f3⟩ := h.fr i hi hd
      exact ⟨j, y, snoc_at f1, f2, f3⟩⟩
    have hx : (cs ++ [x])[cs.length]? = some x := by rw [List.getElem?_append_right (Nat.le_refl _), Nat.sub_self]; rfl
    have r := h2.wset o2 c id hx
    rw [e1, if_pos rfl]
    unfold wst2
    split
    · exact ⟨_, r⟩
    split
    · exact ⟨_, r⟩
    · exact ⟨_, r⟩
theorem Lk.fla {S : St} {sb : Nat} {cs : List UInt8} (c : Sc S) : ∀ (k i : Nat) (w : Wo), Lk w cs → w.ok S sb 80 → i + k ≤ w.P.fs.length → Lk (fla S k i w).2 cs
  | 0, _, _, h, _, _ => h
  | k + 1, i, w, h, ok, hi => by
    obtain ⟨a, b, d⟩ := svp_ok ok (i := i) (by omega)
    have r := h.svp ok c (i := i) (by omega)
    unfold Go.Sp.fla
    split
    · exact Lk.fla c k (i + 1) _ r a (by rw [b.n]; omega)
    · exact r
theorem Lk.swk {S : St} {sb : Nat} {w : Wo} {cs : List UInt8} (h : Lk w cs) (ok : w.ok S sb 80) (c : Sc S) (g : Gh) {k : Int} (hk : k ≠ 3) (id : Int) (x : UInt8) : ∃ cs', Lk (swk S w g k id x).2.1 cs' := by
  unfold Go.Sp.swk
  split
  · exact h.wst ok c g id x
  split
  · exact ⟨cs, h.hld ok c id⟩
  split
  · have : Lk ⟨(w.P.unp id).2, w.G, w.Z⟩ cs := by
      refine h.mv ?_
      unfold Po.unp
      cases hf : w.P.find id with
      | none => exact h.fr
      | some i =>
        obtain ⟨f1, f2, f3⟩ := find_some hf
        dsimp only
        split
        · exact h.fr
        · exact h.fr.st f1 rfl (fun y => h.fr i f1 y)
    unfold stu
    split
    · exact ⟨cs, this⟩
    · exact ⟨cs, this⟩
  split
  · refine ⟨cs, ?_⟩
    unfold wflu
    cases hf : w.P.find id with
    | none => exact h
    | some i => exact h.svp ok c (find_lt hf)
  · exact ⟨cs, Lk.fla c w.P.fs.length 0 w h ok (by omega)⟩
def Dk.gone (Z : Dk) (keep : Int) : Dk := { (if Z.chk 0 = 0 then Z.off keep else Z) with fuse := -1 }
theorem gone_ok {Z : Dk} (hok : Z.ok) {sb : Nat} (hs : Z.sb = sb) (hn : Z.sure.length = 80) (keep : Int) {P : Nat → List UInt8 → Prop} (h : All P Z) :
    (Z.gone keep).up = false ∧ (Z.gone keep).ok ∧ (Z.gone keep).sb = sb ∧ (Z.gone keep).on.calm sb 80 ∧ All P (Z.gone keep).on := by
  unfold Dk.gone
  have fu : ∀ {Y : Dk}, Y.ok → ({ Y with fuse := -1 } : Dk).ok := fun h => ⟨h.n0, h.n1, h.l64, h.e64, h.ei, h.ec, h.kn, h.bn, ⟨by dsimp only; omega, by dsimp only; omega⟩, h.kp⟩
  split
  · have a := Dk.off_ok hok keep
    have b := All.off hok h keep
    have c : (Z.off keep).sure.length = 80 := (Dk.cutn_len Z keep Z.keys.length).trans hn
    exact ⟨rfl, fu a, hs, ⟨Dk.on_ok (fu a), hs, rfl, (by decide : (-1 : Int) < 0), c⟩, All.of b rfl rfl⟩
  · rename_i hc
    have hu : Z.up = false := by
      unfold Dk.chk at hc
      split at hc
      · assumption
      · rw [if_neg (by omega)] at hc
        exact absurd rfl hc
    exact ⟨hu, fu hok, hs, ⟨Dk.on_ok (fu hok), hs, rfl, (by decide : (-1 : Int) < 0), hn⟩, All.of h rfl rfl⟩
theorem wopenl {Z : Dk} {sb : Nat} (hc : Z.calm sb 80) {cs : List UInt8} {k : Nat} (h : All (Sv cs (19 * k)) Z) (hk : k ≤ cs.length) (hA : (lgA cs).length ≤ 2320) :
    Fn (eT2 eP eI) Tryz.prog 17 #[.pointer (some ⟨sb, 0, none⟩), .int .i64 0, .int .i64 40, .int .i64 2] [dk Z] fun y X => ∃ (q : Nat) (Y : Dk) (j : Nat), y = (some ⟨q, 0, none⟩, 0) ∧ X = [lgp ⟨q, 0, 40, 2, lgA (cs.take j), 19 * j, false⟩ sb, dk Y] ∧ k ≤ j ∧ j ≤ cs.length ∧ Y.calm sb 80 ∧ ∀ m : Nat, 40 ≤ m → m < 80 → Y.get (m : Int) = Z.get (m : Int) := fun L w hw => by
  have F := g17 Z hc.ok 0 40 2 (by unfold wf64; omega) (by unfold wf64; omega)
  rw [hc.sb] at F
  refine (F L w hw).mono ?_
  rintro _ w' ⟨y, he, X, hX, hW⟩
  have e0 : lchk Z.sure.length 0 40 2 = 0 := by
    unfold lchk
    rw [hc.n]
    decide
  rw [if_pos e0, if_pos hc.up] at hX
  obtain ⟨q, b, n, r, e1, e2, e3, hok, h4⟩ := hX
  obtain rfl : b = 0 := by omega
  obtain rfl : n = 40 := by omega
  obtain rfl : r = 2 := by omega
  obtain ⟨j, j1, j2, j3⟩ := found_ls (fun i hi => by
    have := h.get (j := i) (by rw [hc.n]; omega)
    rw [Nat.zero_add]
    exact this.1 hi) hk hA q
  rw [hc.n] at hok
  rw [j3] at hok h4
  obtain ⟨m1, m2, m3, _, m5⟩ := lmend_calm hc hok
  rw [if_pos m1, m2] at h4
  exact ⟨y, he, X, ⟨q, _, j, h4.1, h4.2, j1, j2, m3, fun m a b => by
    rw [m5 m b, if_neg]
    dsimp only
    omega⟩, hW⟩
theorem rpg_ps {Z : Dk} {S : St} {n : Nat} (hS : S.ok n) (c : Sc S) (hu : Z.up = true) {p : Nat} (hp : p < 8) {cs : List UInt8} {d : Nat} (hd : d ≤ 2320) (h : ∀ i, i < 4 → Ps cs d i (Z.sc (S.base + 4 * p) i)) :
    Z.rpg S (p : Int) = ([], 0, 8) ∨ Z.rpg S (p : Int) = ([], 0, 10) ∨ ∃ (j : Nat) (x : UInt8), cs[j]? = some x ∧ 19 * j + 1 ≤ d ∧ Z.rpg S (p : Int) = (fl x, ((19 * j + 1 : Nat) : Int), 0) := by
  have hc : S.chk (p : Int) = 0 := by unfold St.chk; rw [if_neg (by have := c.p; omega)]
  have z8 : (wh []).take 8 = List.replicate 8 0 := by decide
  have z2 : be ((List.replicate 8 (0 : UInt8)).take 2) = 0 := by decide
  have t2 : ∀ v : List UInt8, v.take 2 = (v.take 8).take 2 := fun v => by rw [List.take_take]; rfl
  have m8 : ∀ (l : Int) (u : List UInt8), (mk8 1 l ++ u).take 8 = mk8 1 l := fun l u => List.take_left' (mk8_len _ _)
  by_cases hw : Z.rsm (S.base + 4 * p) S.gen 4 = true ∧ Z.rwh (S.base + 4 * p) 4 = true
  · obtain ⟨h1, h2⟩ := hw
    have all8 : ∀ i, i < 4 → (Z.sc (S.base + 4 * p) i).take 8 = (Z.sc (S.base + 4 * p) 0).take 8 := by
      simp only [Dk.rwh, Bool.and_eq_true, beq_iff_eq] at h2
      intro i hi
      rcases (show i = 0 ∨ i = 1 ∨ i = 2 ∨ i = 3 by omega) with rfl | rfl | rfl | rfl
      · rfl
      · exact h2.1.1.2
      · exact h2.1.2
      · exact h2.2
    have one : ∃ i, i < 4 ∧ be ((Z.sc (S.base + 4 * p) i).take 2) = S.gen := by
      simp only [Dk.rsm, Bool.or_eq_true, beq_iff_eq] at h1
      rcases h1 with (((h1 | h1) | h1) | h1) | h1
      · cases h1
      · exact ⟨0, by decide, h1⟩
      · exact ⟨1, by decide, h1⟩
      · exact ⟨2, by decide, h1⟩
      · exact ⟨3, by decide, h1⟩
    obtain ⟨i, hi, ei⟩ := one
    rw [t2, all8 i hi, c.g] at ei
    rcases h 0 (by decide) with e | ⟨j, x, e1, e2, e3⟩
    · rw [e, z8, z2] at ei
      cases ei
    · refine .inr (.inr ⟨j, x, e1, e2, ?_⟩)
      refine rpg_of hS (by have := c.p; omega) hu (fl_224 x) (by omega) (by omega) fun m hm => ?_
      have e8 := all8 m hm
      rw [e3, m8] at e8
      rw [c.g]
      rcases h m hm with e | ⟨j', x', f1, f2, f3⟩
      · exfalso
        rw [e, z8] at e8
        have := congrArg (fun v => be (v.take 2)) e8
        rw [z2, mk8_gen (by decide)] at this
        cases this
      · rw [f3, m8] at e8
        have := congrArg (fun v => (be ((v.drop 2).take 6) : Int)) e8
        rw [mk8_lsn 1 (by omega) (by omega), mk8_lsn 1 (by omega) (by omega)] at this
        obtain rfl : j' = j := by omega
        rw [e1] at f1
        obtain rfl : x = x' := by simpa using f1
        exact f3
  · unfold Dk.rpg
    rw [if_pos hc, hu, if_pos rfl, Int.toNat_natCast]
    by_cases h1 : Z.rsm (S.base + 4 * p) S.gen 4 = true
    · rw [if_pos h1, if_neg (fun x => hw ⟨h1, x⟩)]
      exact .inr (.inl rfl)
    · rw [if_neg h1]
      exact .inl rfl
theorem read_lg {cs : List UInt8} {j k : Nat} {x : UInt8} (h : cs[j]? = some x) (hk : j < k) (hk2 : k ≤ cs.length) (q d : Nat) : (⟨q, 0, 40, 2, lgA (cs.take k), d, false⟩ : Lg).read ((19 * j + 1 : Nat) : Int) = (cm (x.toNat : Int), ((19 * j + 1 : Nat) : Int) + 19, 0) := by
  have h2 : (cs.take k)[j]? = some x := by rw [List.getElem?_take_of_lt hk]; exact h
  have hl := lgA_len (cs.take k)
  rw [List.length_take] at hl
  unfold Lg.read
  dsimp only
  rw [if_neg (by omega), show ((19 * j + 1 : Nat) : Int) - 1 = ((19 * j : Nat) : Int) by omega, lgA_opn h2, if_pos rfl]
theorem rc_kt {A : HP} {r : api_Rec} {n : Int} (h : RcAt A r (cm n)) : r.Kind = 7 ∧ r.Txn = n := by
  have := h.e
  exact ⟨(congrArg Rc.kind this).symm, (congrArg Rc.txn this).symm⟩
theorem wrap8 (c : UInt8) : IntKind.wrap .u8 (c.toNat : Int) = (c.toNat : Int) := by
  have := c.toNat_lt
  simp [IntKind.wrap, IntKind.signed, IntKind.bits]
  omega
end Go.Sp
namespace Go.Sp
open Go
set_option maxRecDepth 100000
set_option linter.unusedVariables false
open Go.Proofs
variable (K : Env → W) (k : Value → W) {e : Enc} {args : Array Value} {G : e.α → W} {L : List HP} {ρ : Env}
attribute [local instance] cI cB cP cA
end Go.Sp
namespace Go.Sp
open Go Go.Proofs
set_option linter.unusedSimpArgs false
set_option linter.unusedVariables false
set_option maxRecDepth 10000
theorem Pv.disk {S : St} {sb : Nat} {w : Wo} {g : Gh} (h : Pv S sb w g) {p : Nat} (hp : p < 8) :
    (w.Z.rpg S (p : Int) = ([], 0, 8) ∧ (0 < g.N p → w.P.dirt (p : Int) = true)) ∨ ∃ t n, w.Z.rpg S (p : Int) = (t, n, 0) ∧ 1 ≤ n ∧ n ≤ (w.G.durable : Int) ∧ n ≤ g.N p ∧ (n = g.N p → t = g.T p) ∧ (n ≠ g.N p → w.P.dirt (p : Int) = true) := by
  by_cases hd : Drt w.P p
  · have hx := (h.dirt p).2 hd
    rcases h.di p hp hd with e | ⟨t, n, e, n1, n2, n3⟩
    · exact .inl ⟨e, fun _ => hx⟩
    · exact .inr ⟨t, n, e, n1, n2, by omega, fun x => by omega, fun _ => hx⟩
  · rcases h.cl p hp hd with ⟨e, n0, _⟩ | ⟨e, n1, n2⟩
    · exact .inl ⟨e, fun x => by omega⟩
    · exact .inr ⟨_, _, e, n1, n2, Int.le_refl _, fun _ => rfl, fun x => absurd rfl x⟩
section
variable {e : Enc} {L L' R : List HP} {A : HP} {a : Addr} {n c i : Nat} {xs : List api_Dirty} {x : api_Dirty} {k : Int → W}
end
theorem Pv.drd {S : St} {sb : Nat} {w : Wo} {g : Gh} (h : Pv S sb w g) (i : Nat) : (w.P.dirt (i : Int) = false ∧ drd w.P i = []) ∨ (w.P.dirt (i : Int) = true ∧ ∃ r, drd w.P i = [⟨(i : Int), r⟩] ∧ 1 ≤ r ∧ r ≤ g.N i) := by
  unfold Po.dirt Go.Sp.drd
  cases hf : w.P.find (i : Int) with
  | none => exact .inl ⟨rfl, rfl⟩
  | some j =>
    obtain ⟨f1, f2, f3⟩ := find_some hf
    obtain ⟨_, F⟩ := h.one f1 f2 f3
    dsimp only
    cases hd : (w.P.at j).dirty
    · exact .inl ⟨rfl, if_neg (by decide)⟩
    · obtain ⟨d1, d2⟩ := F.d hd
      exact .inr ⟨rfl, _, if_pos rfl, d1, by rw [← F.n]; exact d2⟩
end Go.Sp
namespace Go.Sp
open Go
set_option maxRecDepth 100000
set_option linter.unusedVariables false
open Go.Proofs
variable (K : Env → W) (k : Value → W) {e : Enc} {args : Array Value} {G : e.α → W} {L : List HP} {ρ : Env}
attribute [local instance] cI cB cP cA
end Go.Sp
namespace Go.Sp
open Go Go.Proofs
set_option linter.unusedSimpArgs false
set_option linter.unusedVariables false
set_option maxRecDepth 10000
abbrev cOp (x : gharrylaw10_Op) : List Value := [.int .i64 x.Kind, .int .i64 x.Id, .int .u8 x.C]
theorem cOp_len (x : gharrylaw10_Op) : (cOp x).length = 3 := rfl
def goodOp (x : gharrylaw10_Op) : Prop := ∃ c : UInt8, (c.toNat : Int) = x.C
theorem op_of {cs : List Value} (h : lfs [.i .i64, .i .i64, .i .u8] cs) : ∃ x : gharrylaw10_Op, cs = cOp x ∧ goodOp x := by
  rcases cs with _ | ⟨v0, _ | ⟨v1, _ | ⟨v2, _ | ⟨v3, r⟩⟩⟩⟩ <;> try (simp [lfs] at h; done)
  obtain ⟨⟨k, rfl, _⟩, ⟨i, rfl, _⟩, ⟨t, rfl, ht⟩, _⟩ := h
  have : 0 ≤ t ∧ t ≤ 255 := by simpa [Lit.wf, IntKind.min, IntKind.max, IntKind.signed, IntKind.bits] using ht
  refine ⟨⟨k, i, t⟩, rfl, UInt8.ofNat t.toNat, ?_⟩
  rw [UInt8.toNat_ofNat']
  dsimp only
  omega
end Go.Sp
namespace Go.Sp
open Go
set_option maxRecDepth 100000
set_option linter.unusedVariables false
open Go.Proofs
variable (K : Env → W) (k : Value → W) {e : Enc} {args : Array Value} {G : e.α → W} {L : List HP} {ρ : Env}
attribute [local instance] cI cB cP cA
noncomputable def c14 := cf Tryz.f14 156 [(0, [0, 1, 2, 3]), (1, [0, 1, 2, 3]), (2, []), (3, [0, 1, 2, 3]), (4, [1, 2, 3, 9]), (5, []), (6, [1, 3, 9]), (7, [1, 3, 9, 10]), (8, [1, 3, 9, 10]), (9, [1, 3, 9, 10]), (10, [1, 3, 9, 10]), (11, [3, 9]), (12, [9]), (13, [9]), (14, []), (15, [9]), (16, [9, 11, 12]), (17, []), (18, [9, 11]), (19, [9, 11, 13]), (20, [9, 11, 13]), (21, [9, 11, 13]), (22, [9, 11, 13, 14, 15, 16]), (23, [9, 11, 13, 14, 15, 16]), (24, [9, 11, 13, 14, 16, 17, 19]), (25, []), (26, [])] [(0, [0, 1, 2, 3]), (1, [0, 1, 2, 3, 33]), (2, [8]), (3, [1, 2, 3, 9]), (4, [1, 3, 9, 48]), (5, [8]), (6, [1, 3, 9, 10]), (7, [1, 3, 9, 10, 63]), (8, [1, 3, 9, 10]), (9, [1, 3, 9, 10, 71]), (10, [1, 3, 9, 10]), (11, [9]), (12, [9]), (13, [9, 94]), (14, [8]), (15, [9, 11, 12]), (16, [9, 11, 108]), (17, [8]), (18, [9, 11, 13]), (19, [9, 11, 13, 110]), (20, [9, 11, 13]), (21, [9, 11, 13, 14, 15, 16]), (22, [9, 11, 13, 14, 15, 16, 128]), (23, [9, 11, 13, 14, 16, 17, 19]), (24, [9, 11, 13, 154]), (25, [8]), (26, [8]), (1000000, [8])] [] []
@[go_sem] theorem c14_i : c14.li 0 = [0, 1, 2, 3] ∧ c14.li 1 = [0, 1, 2, 3] ∧ c14.li 2 = [] ∧ c14.li 3 = [0, 1, 2, 3] ∧ c14.li 4 = [1, 2, 3, 9] ∧ c14.li 5 = [] ∧ c14.li 6 = [1, 3, 9] ∧ c14.li 7 = [1, 3, 9, 10] ∧ c14.li 8 = [1, 3, 9, 10] ∧ c14.li 9 = [1, 3, 9, 10] ∧ c14.li 10 = [1, 3, 9, 10] ∧ c14.li 11 = [3, 9] ∧ c14.li 12 = [9] ∧ c14.li 13 = [9] ∧ c14.li 14 = [] ∧ c14.li 15 = [9] ∧ c14.li 16 = [9, 11, 12] ∧ c14.li 17 = [] ∧ c14.li 18 = [9, 11] ∧ c14.li 19 = [9, 11, 13] ∧ c14.li 20 = [9, 11, 13] ∧ c14.li 21 = [9, 11, 13] ∧ c14.li 22 = [9, 11, 13, 14, 15, 16] ∧ c14.li 23 = [9, 11, 13, 14, 15, 16] ∧ c14.li 24 = [9, 11, 13, 14, 16, 17, 19] ∧ c14.li 25 = [] ∧ c14.li 26 = [] := ⟨rfl, rfl, rfl, rfl, rfl, rfl, rfl, rfl, rfl, rfl, rfl, rfl, rfl, rfl, rfl, rfl, rfl, rfl, rfl, rfl, rfl, rfl, rfl, rfl, rfl, rfl, rfl⟩
@[go_sem] theorem c14_r0 (v0 : Int) (v1p : Option Addr) (v1n v1c : Nat) (v2 v3 : Int) : RP c14 0 [(0, v0), (1, .slice v1p v1n v1c), (2, v2), (3, .int .u64 v3)] K =
 (K [(0, v0), (1, .slice v1p v1n v1c), (2, v2), (3, .int .u64 v3)]) := by kernel_rfl
@[go_sem] theorem c14_r1 (v0 : Int) (v1p : Option Addr) (v1n v1c : Nat) (v2 v3 : Int) : RP c14 1 [(0, v0), (1, .slice v1p v1n v1c), (2, v2), (3, .int .u64 v3)] K =
 (cnd (decide (v0 < 2)) (K [(0, v0), (1, .slice v1p v1n v1c), (2, v2), (3, .int .u64 v3), (33, true)]) (cnd (decide (10 < v0)) (K [(0, v0), (1, .slice v1p v1n v1c), (2, v2), (3, .int .u64 v3), (33, true)]) (cnd (decide (v2 < 0)) (K [(0, v0), (1, .slice v1p v1n v1c), (2, v2), (3, .int .u64 v3), (33, true)]) (K [(0, v0), (1, .slice v1p v1n v1c), (2, v2), (3, .int .u64 v3), (33, decide (200 < v2))])))) := by kernel_rfl
@[go_sem] theorem c14_r2 : RP c14 2 [] K =
 (cal eB Tryz.prog 44 #[] fun (y1_ : Bool) => (K [(8, y1_)])) := by kernel_rfl
@[go_sem] theorem c14_r3 (v0 : Int) (v1p : Option Addr) (v1n v1c : Nat) (v2 v3 : Int) : RP c14 3 [(0, v0), (1, .slice v1p v1n v1c), (2, v2), (3, .int .u64 v3)] K =
 (cal eP Tryz.prog 41 #[v0] fun (y1_ : Option Addr) => (K [(1, .slice v1p v1n v1c), (2, v2), (3, .int .u64 v3), (9, y1_)])) := by kernel_rfl
@[go_sem] theorem c14_r4 (v1p : Option Addr) (v1n v1c : Nat) (v2 v3 : Int) (v9 : Option Addr) : RP c14 4 [(1, .slice v1p v1n v1c), (2, v2), (3, .int .u64 v3), (9, v9)] K =
 (cnd (v9.isNone) (K [(1, .slice v1p v1n v1c), (3, .int .u64 v3), (9, v9), (48, true)]) (nn v9 fun y1_ => (ld eP y1_ fun (y2_ : Option Addr) => (cal eI Tryz.prog 60 #[y2_, v2, .int .u64 v3] fun (y3_ : Int) => (K [(1, .slice v1p v1n v1c), (3, .int .u64 v3), (9, v9), (48, .bool (y3_ != 0))]))))) := by kernel_rfl
@[go_sem] theorem c14_r5 : RP c14 5 [] K =
 (K [(8, false)]) := by kernel_rfl
@[go_sem] theorem c14_r6 (v1p : Option Addr) (v1n v1c : Nat) (v3 : Int) (v9 : Option Addr) : RP c14 6 [(1, .slice v1p v1n v1c), (3, .int .u64 v3), (9, v9)] K =
 (K [(1, .slice v1p v1n v1c), (3, .int .u64 v3), (9, v9), (10, .int .i64 0)]) := by kernel_rfl
@[go_sem] theorem c14_r7 (v1p : Option Addr) (v1n v1c : Nat) (v3 : Int) (v9 : Option Addr) (v10 : Int) : RP c14 7 [(1, .slice v1p v1n v1c), (3, .int .u64 v3), (9, v9), (10, v10)] K =
 (cnd (decide (v10 < v1n)) (cnd (decide (v10 < 40)) (nn v9 fun y1_ => (ld eP y1_ fun (y2_ : Option Addr) => (cal eB Tryz.prog 61 #[y2_] fun (y3_ : Bool) => (K [(1, .slice v1p v1n v1c), (3, .int .u64 v3), (9, v9), (10, v10), (63, y3_)])))) (K [(1, .slice v1p v1n v1c), (3, .int .u64 v3), (9, v9), (10, v10), (63, false)])) (K [(1, .slice v1p v1n v1c), (3, .int .u64 v3), (9, v9), (10, v10), (63, false)])) := by kernel_rfl
@[go_sem] theorem c14_r8 (v1p : Option Addr) (v1n v1c : Nat) (v3 : Int) (v9 : Option Addr) (v10 : Int) : RP c14 8 [(1, .slice v1p v1n v1c), (3, .int .u64 v3), (9, v9), (10, v10)] K =
 (K [(1, .slice v1p v1n v1c), (3, .int .u64 v3), (9, v9), (10, IntKind.wrap .i64 (v10 + 1))]) := by kernel_rfl
@[go_sem] theorem c14_r9 (v1p : Option Addr) (v1n v1c : Nat) (v3 : Int) (v9 : Option Addr) (v10 : Int) : RP c14 9 [(1, .slice v1p v1n v1c), (3, .int .u64 v3), (9, v9), (10, v10)] K =
 (rq (0 ≤ v10 ∧ v10 < v1n) (nn v1p fun y1_ => (ld eI (Addr.add y1_ (v10.toNat * 3)) fun (y2_ : Int) => (K [(1, .slice v1p v1n v1c), (3, .int .u64 v3), (9, v9), (10, v10), (71, .bool (y2_ != 3))])))) := by kernel_rfl
@[go_sem] theorem c14_r10 (v1p : Option Addr) (v1n v1c : Nat) (v3 : Int) (v9 : Option Addr) (v10 : Int) : RP c14 10 [(1, .slice v1p v1n v1c), (3, .int .u64 v3), (9, v9), (10, v10)] K =
 (rq (0 ≤ v10 ∧ v10 < v1n) (nn v1p fun y1_ => (ldn e_gharrylaw10_Op 3 (Addr.add y1_ (v10.toNat * 3)) fun (y2_ : gharrylaw10_Op) => (cal eB Tryz.prog 52 #[v9, v_gharrylaw10_Op y2_] fun (y3_ : Bool) => (K [(1, .slice v1p v1n v1c), (3, .int .u64 v3), (9, v9), (10, v10)]))))) := by kernel_rfl
@[go_sem] theorem c14_r11 (v3 : Int) (v9 : Option Addr) : RP c14 11 [(3, .int .u64 v3), (9, v9)] K =
 (nn v9 fun y1_ => (ld eP y1_ fun (y2_ : Option Addr) => (cal eI Tryz.prog 62 #[y2_, .int .u64 v3] fun (y3_ : Int) => (K [(9, v9)])))) := by kernel_rfl
@[go_sem] theorem c14_r12 (v9 : Option Addr) : RP c14 12 [(9, v9)] K =
 (nn v9 fun y1_ => (ld eP y1_ fun (y2_ : Option Addr) => (cal eN Tryz.prog 63 #[y2_] fun (y3_ : Unit) => (K [(9, v9)])))) := by kernel_rfl
@[go_sem] theorem c14_r13 (v9 : Option Addr) : RP c14 13 [(9, v9)] K =
 (nn v9 fun y1_ => (ld eP y1_ fun (y2_ : Option Addr) => (cal eI Tryz.prog 64 #[y2_] fun (y3_ : Int) => (K [(9, v9), (94, .bool (y3_ != 0))])))) := by kernel_rfl
@[go_sem] theorem c14_r14 : RP c14 14 [] K =
 (K [(8, false)]) := by kernel_rfl
@[go_sem] theorem c14_r15 (v9 : Option Addr) : RP c14 15 [(9, v9)] K =
 (nn v9 fun y1_ => (ld eP y1_ fun (y2_ : Option Addr) => (cal (eT2 eP eI) Tryz.prog 17 #[y2_, .int .i64 0, .int .i64 40, .int .i64 2] fun (y3_ : ((Option Addr) × Int)) => (K [(9, v9), (11, y3_.1), (12, y3_.2)])))) := by kernel_rfl
@[go_sem] theorem c14_r16 (v9 v11 : Option Addr) (v12 : Int) : RP c14 16 [(9, v9), (11, v11), (12, v12)] K =
 (cnd (v12 != 0) (K [(9, v9), (11, v11), (108, true)]) (K [(9, v9), (11, v11), (108, .bool (v11.isNone))])) := by kernel_rfl
@[go_sem] theorem c14_r17 : RP c14 17 [] K =
 (K [(8, false)]) := by kernel_rfl
@[go_sem] theorem c14_r18 (v9 v11 : Option Addr) : RP c14 18 [(9, v9), (11, v11)] K =
 (K [(9, v9), (11, v11), (13, .int .i64 0)]) := by kernel_rfl
@[go_sem] theorem c14_r19 (v9 v11 : Option Addr) (v13 : Int) : RP c14 19 [(9, v9), (11, v11), (13, v13)] K =
 (K [(9, v9), (11, v11), (13, v13), (110, decide (v13 < 8))]) := by kernel_rfl
@[go_sem] theorem c14_r20 (v9 v11 : Option Addr) (v13 : Int) : RP c14 20 [(9, v9), (11, v11), (13, v13)] K =
 (K [(9, v9), (11, v11), (13, IntKind.wrap .i64 (v13 + 1))]) := by kernel_rfl
@[go_sem] theorem c14_r21 (v9 v11 : Option Addr) (v13 : Int) : RP c14 21 [(9, v9), (11, v11), (13, v13)] K =
 (nn v9 fun y1_ => (ld eP (y1_.add 1) fun (y2_ : Option Addr) => (cal (eT3 eS eI eI) Tryz.prog 65 #[y2_, v13] fun (y3_ : ((List UInt8) × Int × Int)) => (K [(9, v9), (11, v11), (13, v13), (14, str y3_.1), (15, .int .i64 y3_.2.1), (16, .int .i64 y3_.2.2)])))) := by kernel_rfl
@[go_sem] theorem c14_r22 (v9 v11 : Option Addr) (v13 : Int) (v14 : List UInt8) (v15 v16 : Int) : RP c14 22 [(9, v9), (11, v11), (13, v13), (14, str v14), (15, v15), (16, v16)] K =
 (cnd (v16 == 8) (K [(9, v9), (11, v11), (13, v13), (14, str v14), (15, v15), (16, v16), (128, true)]) (K [(9, v9), (11, v11), (13, v13), (14, str v14), (15, v15), (16, v16), (128, .bool (v16 == 10))])) := by kernel_rfl
@[go_sem] theorem c14_r23 (v9 v11 : Option Addr) (v13 : Int) (v14 : List UInt8) (v15 v16 : Int) : RP c14 23 [(9, v9), (11, v11), (13, v13), (14, str v14), (15, v15), (16, v16)] K =
 (cal (eT3 e_api_Rec eI eI) Tryz.prog 35 #[v11, v15] fun (y1_ : (api_Rec × Int × Int)) => (nwc #[.int .i64 0, .int .i64 0, .int .i64 0, .int .i64 0, .int .i64 0, str ([] : List UInt8), str ([] : List UInt8), str ([] : List UInt8), .int .i64 0, .slice none 0 0, .slice none 0 0, .int .i64 0, .int .i64 0] 36 fun y2_ => (stl [.int .i64 y1_.1.Kind, .int .i64 y1_.1.Txn, .int .i64 y1_.1.Prev, .int .i64 y1_.1.Page, .int .i64 y1_.1.Act, str y1_.1.Key, str y1_.1.Old, str y1_.1.New, .int .i64 y1_.1.Next, .slice y1_.1.Images.1 y1_.1.Images.2.1 y1_.1.Images.2.2, .slice y1_.1.Table.1 y1_.1.Table.2.1 y1_.1.Table.2.2, .int .i64 y1_.1.Epoch, .int .i64 y1_.1.Node] y2_ 0 (K [(9, v9), (11, v11), (13, v13), (14, str v14), (16, v16), (17, y2_), (19, .int .i64 y1_.2.2)])))) := by kernel_rfl
@[go_sem] theorem c14_r24 (v9 v11 : Option Addr) (v13 : Int) (v14 : List UInt8) (v16 : Int) (v17 : Addr) (v19 : Int) : RP c14 24 [(9, v9), (11, v11), (13, v13), (14, str v14), (16, v16), (17, v17), (19, v19)] K =
 (cnd (v16 != 0) (K [(9, v9), (11, v11), (13, v13), (154, true)]) (cnd (v19 != 0) (K [(9, v9), (11, v11), (13, v13), (154, true)]) (ld eI v17 fun (y1_ : Int) => (cnd (y1_ != 7) (K [(9, v9), (11, v11), (13, v13), (154, true)]) (ld eI (v17.add 1) fun (y2_ : Int) => (cal eS Tryz.prog 66 #[.int .u8 (IntKind.wrap .u8 y2_)] fun (y3_ : List UInt8) => (K [(9, v9), (11, v11), (13, v13), (154, .bool (!(v14 == y3_)))]))))))) := by kernel_rfl
@[go_sem] theorem c14_r25 : RP c14 25 [] K =
 (K [(8, false)]) := by kernel_rfl
@[go_sem] theorem c14_r26 : RP c14 26 [] K =
 (cal eB Tryz.prog 44 #[] fun (y1_ : Bool) => (K [(8, y1_)])) := by kernel_rfl
@[go_sem] theorem c14_o : c14.lo 1000000 = [8] := rfl
@[go_sem] theorem c14_e (v8 : Bool) : RTp c14 [(8, v8)] k = (k (v8)) := by kernel_rfl
theorem c14_ok : (c14.P.follows .mixedOrders && okc c14 c14.body) = true := by kernel_rfl
theorem c14_fn (hρ : envA 0 args.toList = ρ) (hs : Nat.ble args.size 156 = true) (h : E L (D c14 (.seq (.reg 0) (.seq (.seq (.reg 1) (.cond (.tmp 33) (.seq (.reg 2) (.ret)) (.skip))) (.seq (.reg 3) (.seq (.seq (.reg 4) (.cond (.tmp 48) (.seq (.reg 5) (.ret)) (.skip))) (.seq (.seq (.reg 6) (.block 0 (.loop (.seq (.seq (.reg 7) (.cond (.tmp 63) (.skip) (.exit 0))) (.seq (.block 1 (.seq (.reg 9) (.cond (.tmp 71) (.reg 10) (.skip)))) (.reg 8)))))) (.seq (.reg 11) (.seq (.reg 12) (.seq (.seq (.reg 13) (.cond (.tmp 94) (.seq (.reg 14) (.ret)) (.skip))) (.seq (.reg 15) (.seq (.seq (.reg 16) (.cond (.tmp 108) (.seq (.reg 17) (.ret)) (.skip))) (.seq (.seq (.reg 18) (.block 2 (.loop (.seq (.seq (.reg 19) (.cond (.tmp 110) (.skip) (.exit 2))) (.seq (.block 3 (.seq (.reg 21) (.seq (.seq (.reg 22) (.cond (.tmp 128) (.exit 3) (.skip))) (.seq (.reg 23) (.seq (.reg 24) (.cond (.tmp 154) (.seq (.reg 25) (.ret)) (.skip))))))) (.reg 20)))))) (.seq (.reg 26) (.ret))))))))))))) (fnQ c14 e G) ρ)) : E L (cal e Tryz.prog 14 args G) :=
  d_fn (c := c14) Tryz.func14 (by kernel_rfl) (by kernel_rfl) (by kernel_rfl) c14_ok (by kernel_rfl) (by kernel_rfl) hρ hs h
end Go.Sp
namespace Go.Sp
open Go Go.Proofs
set_option linter.unusedSimpArgs false
set_option linter.unusedVariables false
set_option maxRecDepth 10000
theorem Wnew.sc {S : St} {sb n : Nat} {w : Wo} (h : Wnew S sb n w) : Sc S := by
  rw [h.s]
  exact ⟨rfl, rfl, rfl⟩
theorem Wnew.lk {S : St} {sb n : Nat} {w : Wo} (h : Wnew S sb n w) : Lk w [] := by
  refine ⟨?_, ?_, fun i hi hd => ?_⟩
  · rw [h.g]
    exact ⟨rfl, rfl, rfl, rfl, ⟨0, rfl⟩, Nat.le_refl _, Nat.zero_le _⟩
  · rw [h.g]
    dsimp only
    intro j hj
    rw [h.ok.nn] at hj
    have e : w.Z.get (j : Int) = wh (w.Z.sure.getD j []) := by
      unfold Dk.get
      rw [h.es]
      rfl
    refine ⟨⟨fun h4 => ?_, fun h4 h7 => .inl ?_⟩, fun v hv => ?_⟩
    · rw [← e, h.l j h4]
      split
      · exact .inr ⟨0, by omega, rfl, by subst j; exact Nat.zero_le _, .inl (Nat.zero_le _)⟩
      · exact .inl ⟨rfl, Nat.zero_le _⟩
    · rw [← e]
      exact h.z j h4 hj
    · rw [h.es] at hv
      cases hv
  · exfalso
    rw [h.p] at hd
    have : (Po.new w.P.q w.P.fb S.q w.G.q n).at i = zf := by
      unfold Po.at Po.new
      rw [List.getD_eq_getElem?_getD, List.getElem?_replicate]
      split <;> rfl
    rw [this] at hd
    cases hd
theorem swk_ok {S : St} {sb : Nat} {w : Wo} (ok : w.ok S sb 80) {g : Gh} (hg : g.ok) {k : Int} (hk : k ≠ 3) (id : Int) (c : UInt8) : (swk S w g k id c).2.1.ok S sb 80 ∧ (swk S w g k id c).2.2.ok := by
  unfold Go.Sp.swk
  split
  · obtain ⟨a, _, _, b⟩ := wst_ok ok hg id c
    exact ⟨a, b⟩
  split
  · exact ⟨(hld_ok ok id).1, hg⟩
  split
  · have : (⟨(w.P.unp id).2, w.G, w.Z⟩ : Wo).ok S sb 80 := by
      unfold Po.unp
      split
      · exact ok
      · split
        · exact ok
        · exact ok.mvP (mod_like _ _ _) ok.p.h
    unfold stu
    split
    · exact ⟨this, hg⟩
    · exact ⟨this, hg.t, hg.l, by simpa using hg.p⟩
  split
  · exact ⟨(wflu_ok ok id).1, hg⟩
  · exact ⟨(fla_ok w.P.fs.length 0 w ok (by omega)).1, hg⟩
set_option maxHeartbeats 2000000 in
theorem g14 (n a k : Int) (hk : 0 ≤ k ∧ k ≤ 18446744073709551615) {A : HP} {t : SlV} {l : List gharrylaw10_Op} (hR : Rs A t 3 (l.flatMap cOp)) (hg : ∀ x ∈ l, goodOp x) : Fp eB Tryz.prog 14 #[.int .i64 n, .slice t.1 t.2.1 t.2.2, .int .i64 a, .int .u64 k] [A] true := fun L => by
  obtain ⟨sp, sn, sc⟩ := t
  obtain rfl : sn = l.length := hR.len cOp_len (by decide)
  refine c14_fn rfl rfl ?_
  by_cases hr : (n < 2 ∨ 10 < n) ∨ a < 0 ∨ 200 < a
  · repeat' (first | (with_reducible first | refine d_seq fun K hK => ?_ | (refine hK _ _ ?_; clear hK K) | (refine SG.p ?_; try intro b)) | refine i_c ?_ ?_ <;> intro hc <;> try simp only [push_cast, seval] at hc | refine i_x ?_ | clear hK K)
    all_goals try (exfalso; omega)
    all_goals try contradiction
    all_goals
      refine i_clp g44 ?_
      repeat' (first | (with_reducible first | refine d_seq fun K hK => ?_ | (refine hK _ _ ?_; clear hK K) | (refine SG.p ?_; try intro b)) | refine i_c ?_ ?_ <;> intro hc <;> try simp only [push_cast, seval] at hc | refine i_x ?_ | clear hK K)
      (with_reducible first | apply i_ret0 | apply i_ret2 | apply i_ret3 | apply i_ret); exact rfl
      rfl
  obtain ⟨m, rfl⟩ : ∃ m : Nat, n = (m : Int) := ⟨n.toNat, by omega⟩
  repeat' (first | (with_reducible first | refine d_seq fun K hK => ?_ | (refine hK _ _ ?_; clear hK K) | (refine SG.p ?_; try intro b)) | refine i_c ?_ ?_ <;> intro hc <;> try simp only [push_cast, seval] at hc | refine i_x ?_ | clear hK K)
  all_goals try (exfalso; omega)
  all_goals try contradiction
  refine i_cal (g41 m (by omega) (by omega)) ?_
  rintro y X ⟨wb, sb, S, ⟨P, G, Z⟩, rfl, rfl, hNw⟩
  have h0 := hNw.ok
  have r0 : Ra P := by have := hNw.p; dsimp only at this; rw [this]; exact Ra.new _ _ _ _ _
  have k0 := hNw.lk
  have sc0 := hNw.sc
  obtain ⟨ρ, hW⟩ := hNw.wi
  have hc := hW.calm
  clear hNw hW
  dsimp only at hc
  have AR := f42a hc (by decide) (a := a) (k := k) (by omega)
  have okA : ({ Z with fuse := a, keep := k } : Dk).ok := ⟨hc.ok.n0, hc.ok.n1, hc.ok.l64, hc.ok.e64, hc.ok.ei, hc.ok.ec, hc.ok.kn, hc.ok.bn, ⟨by dsimp only; omega, by dsimp only; omega⟩, hk⟩
  have h1 : (⟨P, G, { Z with fuse := a, keep := k }⟩ : Wo).ok S sb 80 := ⟨h0.p, okA, h0.sb, h0.nn, h0.g, h0.s, h0.st, h0.lg⟩
  have k1 : Lk ⟨P, G, { Z with fuse := a, keep := k }⟩ [] := ⟨k0.lb, All.of k0.al rfl rfl, k0.fr⟩
  clear h0 k0 hc okA
  dsimp only [List.cons_append, List.nil_append]
  repeat' (first | (with_reducible first | refine d_seq fun K hK => ?_ | (refine hK _ _ ?_; clear hK K) | (refine SG.p ?_; try intro b)) | refine i_c ?_ ?_ <;> intro hc <;> try simp only [push_cast, seval] at hc | refine i_x ?_ | clear hK K)
  all_goals try contradiction
  refine i_clq AR ?_
  clear AR
  generalize ({ Z with fuse := a, keep := k } : Dk) = Y at *
  repeat' (first | (with_reducible first | refine d_seq fun K hK => ?_ | (refine hK _ _ ?_; clear hK K) | (refine SG.p ?_; try intro b)) | refine i_c ?_ ?_ <;> intro hc <;> try simp only [push_cast, seval] at hc | refine i_x ?_ | clear hK K)
  all_goals try contradiction
  refine d_lp [1, 3, 9, 10] (fun t : Nat × Wo × Gh => [(1, .slice sp l.length sc), (3, .int .u64 k), (9, .pointer (some ⟨wb, 0, none⟩)), (10, .int .i64 (t.1 : Int))])
    (fun t => wld wb sb S.q G.q P.q t.2.2 :: (wos S sb t.2.1 ++ (A :: L))) (fun t => t.1 ≤ 40 ∧ t.2.1.ok S sb 80 ∧ t.2.2.ok ∧ Ra t.2.1.P ∧ (∃ cs, Lk t.2.1 cs) ∧ t.2.1.P.q = P.q ∧ t.2.1.G.q = G.q) (fun t => 40 - t.1) (0, ⟨P, G, Y⟩, g0) rfl SX.p ⟨Nat.zero_le _, h1, g0_ok, r0, ⟨[], k1⟩, rfl, rfl⟩ ?_
  clear h1 r0 k1
  generalize P.q = q0
  generalize G.q = l0
  rintro ⟨i, w, g⟩ ⟨i1, ok, go, ra, ⟨cs, lk⟩, e1, e2⟩
  dsimp only at i1 ok go ra lk e1 e2 ⊢
  have UP := F37 w.Z ok.z
  unfold Dk.p at UP
  rw [ok.sb] at UP
  by_cases hi : (i < l.length ∧ i < 40) ∧ w.Z.up = true
  · have hx : l[i]? = some l[i] := List.getElem?_eq_getElem hi.1.1
    have hgx := hg l[i] (List.getElem_mem _)
    obtain ⟨ad, rfl⟩ := hR.ptr (by omega)
    generalize l[i] = x at *
    rw [hi.2] at UP
    have ei : IntKind.wrap .i64 ((i : Int) + 1) = ((i + 1 : Nat) : Int) := by rw [w64 (by omega) (by omega)]; omega
    repeat' (first | (with_reducible first | refine d_seq fun K hK => ?_ | (refine hK _ _ ?_; clear hK K) | (refine SG.p ?_; try intro b)) | refine i_c ?_ ?_ <;> intro hc <;> try simp only [push_cast, seval] at hc | refine i_x ?_ | clear hK K)
    all_goals try (exfalso; omega)
    refine i_clp UP ?_
    repeat' (first | (with_reducible first | refine d_seq fun K hK => ?_ | (refine hK _ _ ?_; clear hK K) | (refine SG.p ?_; try intro b)) | refine i_c ?_ ?_ <;> intro hc <;> try simp only [push_cast, seval] at hc | refine i_x ?_ | clear hK K)
    all_goals try contradiction
    refine i_s0 (y := x.Kind) hR cOp_len hx rfl ?_
    by_cases h3 : x.Kind = 3
    · repeat' (first | (with_reducible first | refine d_seq fun K hK => ?_ | (refine hK _ _ ?_; clear hK K) | (refine SG.p ?_; try intro b)) | refine i_c ?_ ?_ <;> intro hc <;> try simp only [push_cast, seval] at hc | refine i_x ?_ | clear hK K)
      all_goals try contradiction
      rw [ei]
      exact i_bk (i + 1, w, g) rfl ⟨by dsimp only; omega, ok, go, ra, ⟨cs, lk⟩, e1, e2⟩ (by dsimp only; omega)
    · obtain ⟨c, hc⟩ := hgx
      have F := g52 wb S sb w ok g go sc0.p x.Kind x.Id c (fun hd => ra.dirt hd)
      have ok' := swk_ok ok go h3 x.Id c
      have ra' := ra.swk ok sc0.p g x.Kind x.Id c
      obtain ⟨cs', lk'⟩ := lk.swk ok sc0 g h3 x.Id c
      obtain ⟨b1, b2⟩ := swk_q ok go x.Kind x.Id c
      unfold opv wpa at F
      rw [hc, e1, e2] at F
      repeat' (first | (with_reducible first | refine d_seq fun K hK => ?_ | (refine hK _ _ ?_; clear hK K) | (refine SG.p ?_; try intro b)) | refine i_c ?_ ?_ <;> intro hc <;> try simp only [push_cast, seval] at hc | refine i_x ?_ | clear hK K)
      all_goals try contradiction
      all_goals try (exfalso; omega)
      refine i_sn (y := x) hR cOp_len hx rfl ?_
      refine i_clq F ?_
      repeat' (first | (with_reducible first | refine d_seq fun K hK => ?_ | (refine hK _ _ ?_; clear hK K) | (refine SG.p ?_; try intro b)) | refine i_c ?_ ?_ <;> intro hc <;> try simp only [push_cast, seval] at hc | refine i_x ?_ | clear hK K)
      rw [ei]
      exact i_bk (i + 1, _, _) rfl ⟨by dsimp only; omega, ok'.1, ok'.2, ra', ⟨cs', lk'⟩, b2.trans e1, b1.trans e2⟩ (by dsimp only; omega)
  · obtain ⟨u1, u2, u3, u4, u5⟩ := gone_ok ok.z ok.sb ok.nn k lk.al
    have CR := F29 w.Z ok.z k
    unfold Dk.p at CR
    rw [ok.sb] at CR
    have CA : Fq eN Tryz.prog 63 #[.pointer (some ⟨sb, 0, none⟩)] [dk (if w.Z.chk 0 = 0 then w.Z.off k else w.Z)] [dk (w.Z.gone k)] () := by
      have o : (if w.Z.chk 0 = 0 then w.Z.off k else w.Z).ok ∧ (if w.Z.chk 0 = 0 then w.Z.off k else w.Z).sb = sb := by
        split
        · exact ⟨Dk.off_ok ok.z k, ok.sb⟩
        · exact ⟨ok.z, ok.sb⟩
      have := F41 _ o.1
      have e : (if w.Z.chk 0 = 0 then w.Z.off k else w.Z).p = .pointer (some ⟨sb, 0, none⟩) := by unfold Dk.p; rw [o.2]
      rw [e] at this
      exact this
    have ST := f30o u2 u1 u3
    obtain ⟨d, hd⟩ := lk.lb.m
    have hl := lk.lb.l
    have hdl := lk.lb.d
    rw [lk.lb.a] at hl hdl
    rw [hd] at u5 hdl
    rw [lgA_len] at hdl
    have OP := wopenl u4 u5 (by omega) hl
    have hps : ∀ j : Nat, j < 8 → ∀ i, i < 4 → Ps cs (19 * d) i ((w.Z.gone k).on.get ((S.base + 4 * j + i : Nat) : Int)) := fun j hj i hi => by
      have := sc0.b
      have h := (u5.get (j := S.base + 4 * j + i) (by rw [u4.n]; omega)).2 (by omega) (by omega)
      rw [show (S.base + 4 * j + i - 40) % 4 = i by omega] at h
      exact h
    have oks := ok.s
    clear lk u1 u2 u3 u5 ra
    generalize (w.Z.gone k).on = Z3 at *
    generalize w.Z.gone k = Z2 at *
    repeat' (first | refine i_clp UP ?_ | first | (with_reducible first | refine d_seq fun K hK => ?_ | (refine hK _ _ ?_; clear hK K) | (refine SG.p ?_; try intro b)) | refine i_c ?_ ?_ <;> intro hc <;> try simp only [push_cast, seval] at hc | refine i_x ?_ | clear hK K)
    all_goals try (exfalso; omega)
    all_goals try (exfalso; exact hi ⟨⟨by omega, by omega⟩, by assumption⟩)
    all_goals
      refine i_clq CR ?_
      repeat' (first | (with_reducible first | refine d_seq fun K hK => ?_ | (refine hK _ _ ?_; clear hK K) | (refine SG.p ?_; try intro b)) | refine i_c ?_ ?_ <;> intro hc <;> try simp only [push_cast, seval] at hc | refine i_x ?_ | clear hK K)
      refine i_clq CA ?_
      repeat' (first | (with_reducible first | refine d_seq fun K hK => ?_ | (refine hK _ _ ?_; clear hK K) | (refine SG.p ?_; try intro b)) | refine i_c ?_ ?_ <;> intro hc <;> try simp only [push_cast, seval] at hc | refine i_x ?_ | clear hK K)
      refine i_clq ST ?_
      repeat' (first | (with_reducible first | refine d_seq fun K hK => ?_ | (refine hK _ _ ?_; clear hK K) | (refine SG.p ?_; try intro b)) | refine i_c ?_ ?_ <;> intro hc <;> try simp only [push_cast, seval] at hc | refine i_x ?_ | clear hK K)
      all_goals try contradiction
      refine i_cal OP ?_
      rintro y X ⟨q, Y, j, rfl, rfl, j1, j2, cY, hY⟩
      repeat' (first | (with_reducible first | refine d_seq fun K hK => ?_ | (refine hK _ _ ?_; clear hK K) | (refine SG.p ?_; try intro b)) | refine i_c ?_ ?_ <;> intro hc <;> try simp only [push_cast, seval] at hc | refine i_x ?_ | clear hK K)
      all_goals try contradiction
      refine d_lp [9, 11, 13] (fun p : Nat => [(9, .pointer (some ⟨wb, 0, none⟩)), (11, .pointer (some ⟨q, 0, none⟩)), (13, .int .i64 (p : Int))])
        (fun _ => wld wb sb S.q l0 q0 g :: lgp ⟨q, 0, 40, 2, lgA (cs.take j), 19 * j, false⟩ sb :: spt S sb :: dk Y :: A :: L) (fun p => p ≤ 8) (fun p => 8 - p) 0 rfl SX.p (Nat.zero_le _) ?_
      intro p hp
      by_cases h8 : p < 8
      · have RP := f49 S Y cY.ok (by rw [cY.n]; exact oks) (p : Int)
        rw [cY.sb] at RP
        have hpp := rpg_ps (cs := cs) (d := 19 * d) oks sc0 cY.up h8 (by rw [lgA_len] at hl; omega) (fun i hi => by
          have := sc0.b
          have e : Y.sc (S.base + 4 * p) i = _ := hY (S.base + 4 * p + i) (by omega) (by omega)
          rw [e]
          exact hps p h8 i hi)
        have ei : IntKind.wrap .i64 ((p : Int) + 1) = ((p + 1 : Nat) : Int) := by rw [w64 (by omega) (by omega)]; omega
        repeat' (first | (with_reducible first | refine d_seq fun K hK => ?_ | (refine hK _ _ ?_; clear hK K) | (refine SG.p ?_; try intro b)) | refine i_c ?_ ?_ <;> intro hc <;> try simp only [push_cast, seval] at hc | refine i_x ?_ | clear hK K)
        all_goals try (exfalso; omega)
        refine i_clp RP ?_
        rcases hpp with e | e | ⟨v, x, f1, f2, e⟩
        · rw [e]
          repeat' (first | (with_reducible first | refine d_seq fun K hK => ?_ | (refine hK _ _ ?_; clear hK K) | (refine SG.p ?_; try intro b)) | refine i_c ?_ ?_ <;> intro hc <;> try simp only [push_cast, seval] at hc | refine i_x ?_ | clear hK K)
          all_goals try contradiction
          rw [ei]
          exact i_bk (p + 1) rfl (by omega) (by omega)
        · rw [e]
          repeat' (first | (with_reducible first | refine d_seq fun K hK => ?_ | (refine hK _ _ ?_; clear hK K) | (refine SG.p ?_; try intro b)) | refine i_c ?_ ?_ <;> intro hc <;> try simp only [push_cast, seval] at hc | refine i_x ?_ | clear hK K)
          all_goals try contradiction
          rw [ei]
          exact i_bk (p + 1) rfl (by omega) (by omega)
        · rw [e]
          have hlt := lgA_len (cs.take j)
          rw [List.length_take] at hlt
          rw [lgA_len] at hl
          have RD := g35 ⟨q, 0, 40, 2, lgA (cs.take j), 19 * j, false⟩ sb (by dsimp only; omega) ((19 * v + 1 : Nat) : Int)
          have hv := (List.getElem?_eq_some_iff.1 f1).1
          rw [read_lg f1 (by omega) j2] at RD
          repeat' (first | (with_reducible first | refine d_seq fun K hK => ?_ | (refine hK _ _ ?_; clear hK K) | (refine SG.p ?_; try intro b)) | refine i_c ?_ ?_ <;> intro hc <;> try simp only [push_cast, seval] at hc | refine i_x ?_ | clear hK K)
          all_goals try contradiction
          refine i_cal RD ?_
          rintro ⟨r, nx, er⟩ X ⟨B, rfl, h1, h2⟩
          obtain ⟨r1, r2⟩ := rc_kt h1
          obtain ⟨rfl, rfl⟩ := Prod.mk.inj h2
          have FI := f47 x
          repeat' (first | (with_reducible first | refine d_seq fun K hK => ?_ | (refine hK _ _ ?_; clear hK K) | (refine SG.p ?_; try intro b)) | refine i_c ?_ ?_ <;> intro hc <;> try simp only [push_cast, seval] at hc | refine i_x ?_ | clear hK K)
          all_goals try contradiction
          rw [r2, wrap8]
          refine i_clp FI ?_
          repeat' (first | (with_reducible first | refine d_seq fun K hK => ?_ | (refine hK _ _ ?_; clear hK K) | (refine SG.p ?_; try intro b)) | refine i_c ?_ ?_ <;> intro hc <;> try simp only [push_cast, seval] at hc | refine i_x ?_ | clear hK K)
          all_goals try contradiction
          rw [ei]
          exact i_bk (p + 1) rfl (by omega) (by omega)
      · repeat' (first | (with_reducible first | refine d_seq fun K hK => ?_ | (refine hK _ _ ?_; clear hK K) | (refine SG.p ?_; try intro b)) | refine i_c ?_ ?_ <;> intro hc <;> try simp only [push_cast, seval] at hc | refine i_x ?_ | clear hK K)
        all_goals try (exfalso; omega)
        refine i_clp g44 ?_
        repeat' (first | (with_reducible first | refine d_seq fun K hK => ?_ | (refine hK _ _ ?_; clear hK K) | (refine SG.p ?_; try intro b)) | refine i_c ?_ ?_ <;> intro hc <;> try simp only [push_cast, seval] at hc | refine i_x ?_ | clear hK K)
        (with_reducible first | apply i_ret0 | apply i_ret2 | apply i_ret3 | apply i_ret); exact rfl
        rfl
end Go.Sp
