/- Slices in memory: what is read, what is owned, append. -/
import Derived.Test.YtpadmllpdkknnaaK11
import Derived.Laws.AppendOwn
import Derived.Laws.OwnMore
import Derived.Laws.StructEq
import Derived.Deep.Slices
import Derived.Maps.AppendAt
namespace Go.Sp
open Go

theorem Sub.app (X : List HP) {L L' : List HP} (h : Sub L L') : Sub (X ++ L) (X ++ L') := by
  induction X with
  | nil => exact h
  | cons _ _ ih => exact .cons .here ih
/-! ### What a part lets be read -/
def pc (h : PH) (a : Addr) : Option Value := match h (a.block + 1) with
  | some (.inl (.cells c _ _)) => if a.spot.isSome then none else c[a.off]?
  | _ => none
theorem pc_hp (w : World) (a : Addr) : pc (hp w) a = w.cell? a := by
  unfold pc World.cell?
  rw [hp_s]
  cases w.heap[a.block]? with
  | none => rfl
  | some o => cases o <;> rfl
theorem pc_sub {h h' : PH} (s : sub h h') {a : Addr} {v : Value} (e : pc h a = some v) : pc h' a = some v := by
  unfold pc at *
  cases hb : h (a.block + 1) with
  | none => simp [hb] at e
  | some o => rw [s _ _ hb]; simpa [hb] using e
theorem HS.part {A : HP} {L : List HP} {h : PH} (x : HS (A :: L) h) : ∃ a, sub a h ∧ A a := by
  obtain ⟨a, _, _, sa, _, p, _⟩ := x; exact ⟨a, sa, p⟩
theorem Holds.rd {w : World} {L L' : List HP} {A : HP} (ha : At L A L') (hw : Holds w L) {ad : Addr} {v : Value} (hr : ∀ h, A h → pc h ad = some v) : w.cell? ad = some v := by
  obtain ⟨a, sa, p⟩ := HS.part (ha.hs hw)
  rw [← pc_hp]; exact pc_sub sa (hr a p)
section
variable {e : Enc} {P : Program} {L L' R : List HP} {A : HP} {w : World}
/-- A fact that a part bears. -/
theorem r_fact {p : Prop} {G : W} (ha : At L A L') (hp : ∀ h, A h → p) (h : p → E L G) : E L G := fun w hw =>
  have ⟨a, _, q⟩ := HS.part (ha.hs hw)
  h (hp a q) w hw
theorem r_ldA {k : e.α → W} {ad : Addr} {x : e.α} (ha : At L A L') (hr : ∀ h, A h → pc h ad = some (e.enc x)) (h : E L (k x)) : E L (ld e ad k) :=
  fun w hw => ⟨x, Holds.rd ha hw hr, h w hw⟩
theorem r_ldqA {k : e.α → W} {ad : Addr} {x : e.α} (ha : At R A L') (hr : ∀ h, A h → pc h ad = some (e.enc x)) (h : E L (k x)) : E L (ldq (HW R) e ad k) :=
  fun w hw => ⟨x, fun _ hs => Holds.rd ha hs hr, h w hw⟩
theorem r_ldnA {k : e.α → W} {ad : Addr} {n : Nat} {x : e.α} {cs : List Value} (ha : At L A L') (hx : e.enc x = .agg cs.toArray) (hn : cs.length = n) (hr : ∀ h, A h → ∀ j v, cs[j]? = some v → pc h (ad.add j) = some v) (h : E L (k x)) :
    E L (ldn e n ad k) := fun w hw => ⟨x, cs.toArray, hx, by simpa using hn, fun i hi => by
      have hc : cs[i]? = some cs[i] := by simp [hn, hi]
      simpa [hn, hi] using Holds.rd ha hw (fun h a => hr h a i cs[i] hc), h w hw⟩
theorem r_ldnqA {k : e.α → W} {ad : Addr} {n : Nat} {x : e.α} {cs : List Value} (ha : At R A L') (hx : e.enc x = .agg cs.toArray) (hn : cs.length = n) (hr : ∀ h, A h → ∀ j v, cs[j]? = some v → pc h (ad.add j) = some v) (h : E L (k x)) :
    E L (ldnq (HW R) e n ad k) := fun w hw => ⟨x, cs.toArray, hx, by simpa using hn, fun _ hs i hi => by
      have hc : cs[i]? = some cs[i] := by simp [hn, hi]
      simpa [hn, hi] using Holds.rd ha hs (fun h a => hr h a i cs[i] hc), h w hw⟩
end
theorem ar_pc {b : Nat} {t : TypeId} {l : List Value} {h : PH} (x : ar b t l h) (o : Nat) : pc h ⟨b, o, none⟩ = l[o]? := by
  unfold ar blk at x
  simp [pc, x]

abbrev SlV := Option Addr × Nat × Nat
/-- A part lets a slice be read: these are its cells. -/
def Rs (A : HP) (s : SlV) (sz : Nat) (cs : List Value) : Prop :=
  cs.length = s.2.1 * sz ∧ (s.2.1 ≠ 0 → s.1 ≠ none) ∧ ∀ a, s.1 = some a → ∀ h, A h → ∀ j v, cs[j]? = some v → pc h (a.add j) = some v

/-- Elements of so many cells each. -/
theorem flat_get {α : Type} {cel : α → List Value} {sz : Nat} (hc : ∀ x, (cel x).length = sz) : ∀ (xs : List α) (i : Nat) (x : α), xs[i]? = some x → ∀ j v, (cel x)[j]? = some v → (xs.flatMap cel)[i * sz + j]? = some v
  | y :: ys, 0, x, h, j, v, hj => by
    have : y = x := by simpa using h
    subst this
    have hlt : j < (cel y).length := by
      rcases Nat.lt_or_ge j (cel y).length with h | h
      · exact h
      · rw [List.getElem?_eq_none h] at hj; cases hj
    simp only [List.flatMap_cons, Nat.zero_mul, Nat.zero_add, List.getElem?_append_left hlt]
    exact hj
  | y :: ys, i + 1, x, h, j, v, hj => by
    have h' : ys[i]? = some x := by simpa using h
    have := flat_get hc ys i x h' j v hj
    simp only [List.flatMap_cons]
    rw [List.getElem?_append_right (by rw [hc, Nat.add_mul]; omega), hc]
    rw [← this]; congr 1; rw [Nat.add_mul]; omega
theorem flat_len {α : Type} {cel : α → List Value} {sz : Nat} (hc : ∀ x, (cel x).length = sz) (xs : List α) : (xs.flatMap cel).length = xs.length * sz := by
  induction xs with
  | nil => simp
  | cons y ys ih => simp only [List.flatMap_cons, List.length_append, hc, ih, List.length_cons, Nat.add_mul]; omega
theorem add_zero' (a : Addr) : a.add 0 = a := by unfold Addr.add; simp
theorem Rs.elem {α : Type} {cel : α → List Value} {A : HP} {a : Addr} {n c sz : Nat} {xs : List α} (h : Rs A (some a, n, c) sz (xs.flatMap cel)) (hc : ∀ x, (cel x).length = sz) {i : Nat} {x : α} (hx : xs[i]? = some x) :
    ∀ h, A h → ∀ j v, (cel x)[j]? = some v → pc h ((a.add (i * sz)).add j) = some v := fun q hq j v hj => by
  rw [Deep.add_add]; exact h.2.2 a rfl q hq _ v (flat_get hc xs i x hx j v hj)
theorem Rs.elem0 {α : Type} {cel : α → List Value} {A : HP} {a : Addr} {n c sz : Nat} {xs : List α} (h : Rs A (some a, n, c) sz (xs.flatMap cel)) (hc : ∀ x, (cel x).length = sz) {i : Nat} {x : α} (hx : xs[i]? = some x) :
    ∀ h, A h → ∀ v, (cel x)[0]? = some v → pc h (a.add (i * sz)) = some v := fun q hq v hj => by
  have := h.elem hc hx q hq 0 v hj; rwa [add_zero'] at this

theorem Rs.len {α : Type} {cel : α → List Value} {A : HP} {s : SlV} {sz : Nat} {xs : List α} (h : Rs A s sz (xs.flatMap cel)) (hc : ∀ x, (cel x).length = sz) (hs : 0 < sz) : s.2.1 = xs.length := by
  have := h.1
  rw [flat_len hc] at this
  exact (Nat.eq_of_mul_eq_mul_right hs this).symm
@[go_sem] theorem nn_some (a : Addr) (k : Addr → W) : nn (some a) k = k a := rfl
theorem Rs.ptr {A : HP} {p : Option Addr} {n c sz : Nat} {cs : List Value} (h : Rs A (p, n, c) sz cs) (hn : n ≠ 0) : ∃ a, p = some a := by
  cases p with
  | none => exact absurd rfl (h.2.1 hn)
  | some a => exact ⟨a, rfl⟩
section
variable {α : Type} {cel : α → List Value} {A : HP} {a : Addr} {n c sz i j : Nat} {xs : List α} {x : α} {e : Enc} {L L' R : List HP}
theorem r_sn {k : e.α → W} {y : e.α} (hR : Rs A (some a, n, c) sz (xs.flatMap cel)) (hc : ∀ x, (cel x).length = sz) (hx : xs[i]? = some x) (ha : At L A L') (he : e.enc y = .agg (cel x).toArray) (h : E L (k y)) : E L (ldn e sz (a.add (i * sz)) k) :=
  r_ldnA ha he (hc x) (hR.elem hc hx) h
theorem r_snq {k : e.α → W} {y : e.α} (hR : Rs A (some a, n, c) sz (xs.flatMap cel)) (hc : ∀ x, (cel x).length = sz) (hx : xs[i]? = some x) (ha : At R A L') (he : e.enc y = .agg (cel x).toArray) (h : E L (k y)) : E L (ldnq (HW R) e sz (a.add (i * sz)) k) :=
  r_ldnqA ha he (hc x) (hR.elem hc hx) h
theorem r_s0 {k : e.α → W} {y : e.α} (hR : Rs A (some a, n, c) sz (xs.flatMap cel)) (hc : ∀ x, (cel x).length = sz) (hx : xs[i]? = some x) (ha : At L A L') (hv : (cel x)[0]? = some (e.enc y)) (h : E L (k y)) : E L (ld e (a.add (i * sz)) k) :=
  r_ldA ha (fun q hq => hR.elem0 hc hx q hq _ hv) h
theorem r_s0q {k : e.α → W} {y : e.α} (hR : Rs A (some a, n, c) sz (xs.flatMap cel)) (hc : ∀ x, (cel x).length = sz) (hx : xs[i]? = some x) (ha : At R A L') (hv : (cel x)[0]? = some (e.enc y)) (h : E L (k y)) : E L (ldq (HW R) e (a.add (i * sz)) k) :=
  r_ldqA ha (fun q hq => hR.elem0 hc hx q hq _ hv) h
theorem r_sj {k : e.α → W} {y : e.α} (hR : Rs A (some a, n, c) sz (xs.flatMap cel)) (hc : ∀ x, (cel x).length = sz) (hx : xs[i]? = some x) (ha : At L A L') (hv : (cel x)[j]? = some (e.enc y)) (h : E L (k y)) : E L (ld e ((a.add (i * sz)).add j) k) :=
  r_ldA ha (fun q hq => hR.elem hc hx q hq j _ hv) h
theorem r_sjq {k : e.α → W} {y : e.α} (hR : Rs A (some a, n, c) sz (xs.flatMap cel)) (hc : ∀ x, (cel x).length = sz) (hx : xs[i]? = some x) (ha : At R A L') (hv : (cel x)[j]? = some (e.enc y)) (h : E L (k y)) : E L (ldq (HW R) e ((a.add (i * sz)).add j) k) :=
  r_ldqA ha (fun q hq => hR.elem hc hx q hq j _ hv) h
theorem add_nz (a : Addr) (j : Nat) (hj : j ≠ 0) : (⟨a.block, a.off + j, none⟩ : Addr) = a.add j := by
  unfold Addr.add; simp [hj]
theorem r_sk {k : e.α → W} {y : e.α} (hR : Rs A (some a, n, c) sz (xs.flatMap cel)) (hc : ∀ x, (cel x).length = sz) (hx : xs[i]? = some x) (ha : At L A L') (hv : (cel x)[j]? = some (e.enc y)) (hj : Nat.blt 0 j = true) (h : E L (k y)) : E L (ld e ⟨(a.add (i * sz)).block, (a.add (i * sz)).off + j, none⟩ k) := by
  have := Nat.le_of_ble_eq_true hj
  rw [add_nz _ _ (by omega)]; exact r_sj hR hc hx ha hv h
theorem r_skq {k : e.α → W} {y : e.α} (hR : Rs A (some a, n, c) sz (xs.flatMap cel)) (hc : ∀ x, (cel x).length = sz) (hx : xs[i]? = some x) (ha : At R A L') (hv : (cel x)[j]? = some (e.enc y)) (hj : Nat.blt 0 j = true) (h : E L (k y)) : E L (ldq (HW R) e ⟨(a.add (i * sz)).block, (a.add (i * sz)).off + j, none⟩ k) := by
  have := Nat.le_of_ble_eq_true hj
  rw [add_nz _ _ (by omega)]; exact r_sjq hR hc hx ha hv h
end
/-! ### What is owned -/
def ow (t : TypeId) (sz : Nat) (s : SlV) (xs : List Value) : HP := fun h => xs.length = s.2.1 * sz ∧ (s = (none, 0, 0) ∨
  ∃ g cap cur, s = (some ⟨g, 0, none⟩, s.2.1, cap) ∧ h (g + 1) = some (.inl (.cells cur t (0, 0))) ∧ s.2.1 ≤ cap ∧ cap ≤ maxLen ∧ cur.size = cap * sz ∧ cur.toList.take (s.2.1 * sz) = xs)
theorem ow_fact {t : TypeId} {sz : Nat} {s : SlV} {xs : List Value} {h : PH} (x : ow t sz s xs h) : Rs (ow t sz s xs) s sz xs := by
  obtain ⟨h1, h2⟩ := x
  refine ⟨h1, ?_, ?_⟩
  · rcases h2 with rfl | ⟨g, cap, cur, hs, _⟩
    · simp
    · intro _; rw [hs]; simp
  · intro a ha q ⟨_, hq⟩ j v hj
    rcases hq with rfl | ⟨g, cap, cur, hs, hg, hn, hm, hcs, ht⟩
    · simp at ha
    · rw [hs] at ha
      have : a = ⟨g, 0, none⟩ := by simpa using ha.symm
      subst this
      rw [add_of]
      simp only [pc, hg, Option.isSome_none, Bool.false_eq_true, if_false, Nat.zero_add]
      have hlt : j < s.2.1 * sz := by
        rcases Nat.lt_or_ge j (s.2.1 * sz) with h | h
        · exact h
        · rw [List.getElem?_eq_none (by omega)] at hj; cases hj
      rw [← ht, List.getElem?_take] at hj
      simpa [hlt] using hj
theorem ow_nil (t : TypeId) (sz : Nat) (h : PH) : ow t sz (none, 0, 0) [] h := ⟨by simp, .inl rfl⟩
theorem Holds.nilow {w : World} {L : List HP} (t : TypeId) (sz : Nat) (h : Holds w L) : Holds w (ow t sz (none, 0, 0) [] :: L) :=
  ⟨fun _ => none, hp w, fun _ => .inl rfl, sub.none _, sub.refl _, ow_nil t sz _, h⟩
theorem r_nilow {L : List HP} {G : W} (t : TypeId) (sz : Nat) (h : E (ow t sz (none, 0, 0) [] :: L) G) : E L G := fun w hw => h w (hw.nilow t sz)
theorem ow_world {w : World} {L : List HP} {t : TypeId} {sz : Nat} {s : SlV} {xs : List Value} (h : Holds w (ow t sz s xs :: L)) (base : Nat) (hb : ∀ g, s.1 = some g → base ≤ g.block) : w.ownsRow base t sz (.slice s.1 s.2.1 s.2.2) s.2.1 xs := by
  obtain ⟨a, sa, h1, h2⟩ := HS.part h
  refine ⟨h1, ?_⟩
  rcases h2 with rfl | ⟨g, cap, cur, hs, hg, hn, hm, hcs, ht⟩
  · exact .inl ⟨rfl, rfl⟩
  · refine .inr ⟨g, cap, cur, ?_, ?_, hp_o.1 (sa _ _ hg), hn, hm, hcs, ht⟩
    · obtain ⟨p, n, c⟩ := s
      simp only [Prod.mk.injEq, true_and] at hs
      obtain ⟨rfl, rfl⟩ := hs; rfl
    · exact hb ⟨g, 0, none⟩ (by rw [hs])
/-- A world in which one owned block has turned, or a new one has come. -/
theorem Holds.grown {w w' : World} {t : TypeId} {sz : Nat} {s s' : SlV} {xs xs' : List Value} {L : List HP} (h : Holds w (ow t sz s xs :: L)) (base : Nat) (hbase : s.1 = none → base = w.heap.size)
    (ho : w'.ownsRow base t sz (.slice s'.1 s'.2.1 s'.2.2) s'.2.1 xs') (hg : w.grownBy w' (Value.slice s.1 s.2.1 s.2.2).ownBlock) (hf : ∀ g, s.1 = some g → s'.1 = s.1 ∨ ∃ q, s'.1 = some ⟨q, 0, none⟩ ∧ w.heap.size ≤ q) : Holds w' (ow t sz s' xs' :: L) := by
  obtain ⟨a, r, d, sa, sr, ⟨h1, h2⟩, hL⟩ := h
  have rest : Sp.sub r (hp w') := by
    intro n o hn
    have hw := sr n o hn
    cases n with
    | zero => simpa [hp, hg.os, hg.tape, hg.output] using hw
    | succ n =>
      rw [hp_s] at hw ⊢
      have hlt : n < w.heap.size := by
        rcases Nat.lt_or_ge n w.heap.size with h | h
        · exact h
        · simp [Array.getElem?_eq_none h] at hw
      rw [hg.block n hlt ?_]; exact hw
      intro e
      rcases h2 with hs | ⟨g, cap, cur, hs, hgc, _⟩
      · rw [hs] at e; simp [Value.ownBlock] at e
      · rw [hs] at e
        simp only [Value.ownBlock, Option.some.injEq] at e
        subst e
        rcases d (n + 1) with h | h
        · rw [h] at hgc; cases hgc
        · rw [h] at hn; cases hn
  rcases ho with ⟨ho1, ho2⟩
  rcases ho2 with ⟨hv, hn0⟩ | ⟨g, cap, cur, hv, hbg, hgc, hn, hm, hcs, ht⟩
  · have : s' = (none, 0, 0) := by
      obtain ⟨p, n, c⟩ := s'
      simp only [Value.slice.injEq] at hv
      obtain ⟨rfl, rfl, rfl⟩ := hv; rfl
    subst this
    have : xs' = [] := List.eq_nil_of_length_eq_zero (by simpa using ho1)
    subst this
    exact ⟨fun _ => none, r, fun _ => .inl rfl, sub.none _, rest, ow_nil _ _ _, hL⟩
  · have hs' : s' = (some ⟨g, 0, none⟩, s'.2.1, cap) := by
      obtain ⟨p, n, c⟩ := s'
      simp only [Value.slice.injEq] at hv
      obtain ⟨rfl, _, rfl⟩ := hv; rfl
    refine ⟨fun n => if n = g + 1 then some (.inl (.cells cur t (0, 0))) else none, r, ?_, ?_, rest, ⟨ho1, .inr ⟨g, cap, cur, hs', by simp, hn, hm, hcs, ht⟩⟩, hL⟩
    · intro n
      by_cases hn : n = g + 1
      · subst hn
        right
        have fresh : w.heap.size ≤ g → r (g + 1) = none := fun hle => by
          cases hr : r (g + 1) with
          | none => rfl
          | some o =>
            have := sr _ _ hr
            rw [hp_s, Array.getElem?_eq_none hle] at this
            cases this
        rcases h2 with hs | ⟨g0, cap0, cur0, hs, hgc0, _⟩
        · exact fresh (by rw [← hbase (by rw [hs])]; exact hbg)
        · rcases hf ⟨g0, 0, none⟩ (by rw [hs]) with e | ⟨q, e, hq⟩
          · rw [hs, hs'] at e
            have : g = g0 := by simpa using e
            subst this
            rcases d (g + 1) with h | h
            · rw [h] at hgc0; cases hgc0
            · exact h
          · rw [hs'] at e
            have : g = q := by simpa using e
            subst this
            exact fresh hq
      · exact .inl (by simp [hn])
    · intro n o hn
      by_cases he : n = g + 1
      · subst he
        simp at hn; subst hn
        exact hp_o.2 hgc
      · simp [he] at hn

/-- append(s, news...): the news are told by a part. -/
theorem r_append {P : Program} {L L' L2 : List HP} {A : HP} {tt t : TypeId} {sz : Nat} {s : SlV} {ad : Addr} {m c : Nat} {xs news : List Value} {k : SlV → W} (i : TypeInfo) (z : Value) (ht : P.underlying tt = some (.slice t)) (hi : P.info? t = some i) (hz : i.zero = some z)
    (hsize : i.size = sz) (hzs : z.cells.size = sz) (hsz : 0 < sz) (ho : At L (ow t sz s xs) L') (ha : At L A L2) (hr : Rs A (some ad, m, c) sz news) (h1 : news.all one = true)
    (h63 : s.2.1 + m ≤ maxLen) (hbytes : (s.2.1 + m) * i.bytes ≤ 140737488355328)
    (h : ∀ s' : SlV, s'.2.1 = s.2.1 + m → (s'.1 = none → s' = (none, 0, 0)) → E (ow t sz s' (xs ++ news) :: L') (k s')) : E L (val eSl P (Builtin.append_ #[tt, tt] tt #[.slice s.1 s.2.1 s.2.2, .slice (some ad) m c]) k) := by
  intro w hw
  have hO := ho.hs hw
  have hnews : ∀ j u, news[j]? = some u → w.cell? (ad.add j) = some u := fun j u hj => Holds.rd ha hw fun q hq => hr.2.2 ad rfl q hq j u hj
  have hone : ∀ u ∈ news, u.oneCell' = true := fun u hu => by simpa [one] using List.all_eq_true.1 h1 u hu
  have form : ∀ (w : World) (base : Nat) (q : SlV) (n : Nat) (ys : List Value), w.ownsRow base t sz (.slice q.1 q.2.1 q.2.2) n ys → ∀ g, q.1 = some g → g = ⟨g.block, 0, none⟩ := by
    intro w base q n ys hq g hg
    rcases hq.2 with ⟨hv, _⟩ | ⟨g', cap, cur, hv, _⟩
    · simp only [Value.slice.injEq] at hv; rw [hg] at hv; cases hv.1
    · simp only [Value.slice.injEq] at hv
      rw [hg] at hv
      have := hv.1
      simp only [Option.some.injEq] at this
      subst this; rfl
  have hW0 := ow_world hO 0 (fun _ _ => Nat.zero_le _)
  have key : ∀ base, (s.1 = none → base = w.heap.size) → (∀ g, s.1 = some g → base ≤ g.block) → base ≤ w.heap.size →
      val eSl P (Builtin.append_ #[tt, tt] tt #[.slice s.1 s.2.1 s.2.2, .slice (some ad) m c]) k w := by
    intro base hb1 hb2 hb3
    obtain ⟨v', w', hrun, hown, hg, _, hlie⟩ := run_append_own_at (P := P) w base tt tt t i z sz i.bytes ht hi hz hsize rfl hzs hsz _ _ _ (ow_world hO base hb2) ad m c news hr.1 hnews hone h63 hbytes hb3
    have hv : ∃ s' : SlV, v' = .slice s'.1 s'.2.1 s'.2.2 ∧ s'.2.1 = s.2.1 + m ∧ (s'.1 = none → s' = (none, 0, 0)) := by
      rcases hown.2 with ⟨rfl, hn⟩ | ⟨g, cap, cur, rfl, _⟩
      · exact ⟨(none, 0, 0), rfl, by show (0 : Nat) = _; omega, fun _ => rfl⟩
      · exact ⟨(some ⟨g, 0, none⟩, s.2.1 + m, cap), rfl, rfl, fun h => by cases h⟩
    obtain ⟨s', rfl, hn, hnn⟩ := hv
    have hown' := hown
    rw [← hn] at hown'
    refine ⟨s', w', hrun, h s' hn hnn w' (Holds.grown hO base hb1 hown' hg fun g hs => ?_)⟩
    have hg0 := form w 0 s _ _ hW0 g hs
    cases hs' : s'.1 with
    | none => rw [hs, hs'] at hlie; simp [Value.ownBlock] at hlie
    | some q =>
      have hq := form w' base s' _ _ hown q hs'
      rw [hs, hs'] at hlie
      simp only [Value.ownBlock, Option.some.injEq] at hlie
      rcases hlie with e | e
      · left; rw [hs, hg0, hq, e]
      · right; exact ⟨q.block, by rw [← hq], by omega⟩
  cases hs : s.1 with
  | none => rw [← hs]; exact key w.heap.size (fun _ => rfl) (fun g h => by rw [hs] at h; cases h) (Nat.le_refl _)
  | some g => rw [← hs]; exact key 0 (fun h => by rw [hs] at h; cases h) (fun _ _ => Nat.zero_le _) (Nat.zero_le _)
theorem Rs_ar {b m c sz : Nat} {t : TypeId} {cs : List Value} (h : cs.length = m * sz) : Rs (ar b t cs) (some ⟨b, 0, none⟩, m, c) sz cs := by
  refine ⟨h, by simp, ?_⟩
  intro a ha q hq j v hj
  have : a = ⟨b, 0, none⟩ := by simpa using ha.symm
  subst this
  rw [add_of, ar_pc hq, Nat.zero_add]; exact hj
/-- What append needs to know of a slice's type. -/
def apOk (P : Program) (tt t : TypeId) (sz bt : Nat) : Bool := match P.underlying tt, P.info? t with
  | some (.slice t'), some i => Nat.beq t' t && Nat.beq i.size sz && Nat.beq i.bytes bt && Nat.blt 0 sz && match i.zero with
    | some z => Nat.beq z.cells.size sz
    | none => false
  | _, _ => false
theorem r_app {P : Program} {L L' L2 : List HP} {A : HP} {tt t : TypeId} {sz : Nat} {s : SlV} {ad : Addr} {m c : Nat} {xs news : List Value} {k : SlV → W} (bt : Nat) (hk : apOk P tt t sz bt = true) (ho : At L (ow t sz s xs) L') (ha : At L A L2) (hr : Rs A (some ad, m, c) sz news) (h1 : news.all one = true)
    (h63 : s.2.1 + m ≤ maxLen) (hbytes : (s.2.1 + m) * bt ≤ 140737488355328)
    (h : ∀ s' : SlV, s'.2.1 = s.2.1 + m → (s'.1 = none → s' = (none, 0, 0)) → E (ow t sz s' (xs ++ news) :: L') (k s')) : E L (val eSl P (oB_append #[tt, tt] tt #[.slice s.1 s.2.1 s.2.2, .slice (some ad) m c]) k) := by
  unfold apOk at hk
  split at hk
  · rename_i t' i ht hi
    simp only [Bool.and_eq_true] at hk
    obtain ⟨⟨⟨⟨h1', h2⟩, h3⟩, h4⟩, h5⟩ := hk
    split at h5
    · rename_i z hz
      have e1 := Nat.eq_of_beq_eq_true h1'
      subst e1
      have e3 := Nat.eq_of_beq_eq_true h3
      subst e3
      exact r_append i z ht hi hz (Nat.eq_of_beq_eq_true h2) (Nat.eq_of_beq_eq_true h5) (Nat.le_of_ble_eq_true h4) ho ha hr h1 h63 hbytes h
    · cases h5
  · cases hk
theorem equalIn_nil {P : Program} {tt e : TypeId} (ht : P.underlying tt = some (.slice e)) (d : Nat) (p : Option Addr) (n c : Nat) (w : World) : (Op.equalIn (d + 1) tt (.slice p n c) (.slice none 0 0)).run P w = .ok p.isNone w := by
  unfold Op.equalIn
  rw [Sem.run_bind, run_underlying ht]
  cases p <;> rfl
theorem eqNil {P : Program} {tt e : TypeId} (ht : P.underlying tt = some (.slice e)) (p : Option Addr) (n c : Nat) (a b : Operand) (w : World) : (oEq .eql tt a b (.slice p n c) (.slice none 0 0)).run P w = .ok (.bool p.isNone) w := by
  have h := equalIn_nil ht 9999 p n c w
  unfold oEq
  have e1 : (do eqGuard BinOp.eql tt a b (Value.slice p n c) (Value.slice none 0 0); binOp BinOp.eql tt (Value.slice p n c) (Value.slice none 0 0) : Sem Value) = (do pure (Value.bool (← Op.equal tt (Value.slice p n c) (Value.slice none 0 0)))) := by
    cases p <;> rfl
  rw [e1, Sem.run_bind]
  show ((Op.equalIn (9999 + 1) tt (Value.slice p n c) (Value.slice none 0 0)).run P w).andThen _ = _
  rw [h]
  simp
theorem r_eqnil {P : Program} {tt e : TypeId} {L : List HP} {p : Option Addr} {n c : Nat} {a b : Operand} {k : Bool → W} (ht : P.underlying tt = some (.slice e)) (h : E L (k p.isNone)) : E L (val eB P (oEq .eql tt a b (.slice p n c) (.slice none 0 0)) k) := fun w hw =>
  ⟨p.isNone, w, eqNil ht p n c a b w, h w hw⟩
theorem r_valq {e : Enc} {P : Program} {L : List HP} {S : W} {s : Sem Value} {k : e.α → W} {x : e.α} (hs : ∀ w, s.run P w = .ok (e.enc x) w) (h : E L (k x)) : E L (valq S e P s k) := fun w hw => ⟨x, fun w' _ => hs w', h w hw⟩
theorem r_valp {e : Enc} {P : Program} {L : List HP} {s : Sem Value} {k : e.α → W} {x : e.α} (hs : ∀ w, s.run P w = .ok (e.enc x) w) (h : E L (k x)) : E L (val e P s k) := fun w hw => ⟨x, w, hs w, h w hw⟩
/-- A block of cells as a slice that is owned. -/
theorem r_arow {b : Nat} {t : TypeId} {cs xs : List Value} {sz n c : Nat} {L L' : List HP} {G : W} (ha : At L (ar b t cs) L') (hl : cs.length = c * sz) (hn : n ≤ c) (hc : c ≤ maxLen) (hx : cs.take (n * sz) = xs)
    (h : E (ow t sz (some ⟨b, 0, none⟩, n, c) xs :: L') G) : E L G := fun w hw =>
  h w (HS.hd (fun q hq => ⟨by subst hx; rw [List.length_take, hl]; exact Nat.min_eq_left (Nat.mul_le_mul_right _ hn), .inr ⟨b, c, ⟨cs⟩, rfl, hq, hn, hc, by simpa using hl, hx⟩⟩) (ha.hs hw))
end Go.Sp
