/- Texts of a proof, one behind the other: Q11 Gzb0 Q12 Q13. No condition. -/
import Derived.Test.YtaidhghnflnmnaaGreatM7f27d589
import Derived.Test.YtaidhghnflnmnaaGreatMd541d382
/- The pool's law, in plain words: frames are filled and pinned, one behind the other. -/
namespace Go.Sp
open Go Go.Proofs
set_option linter.unusedSimpArgs false
set_option linter.unusedVariables false
set_option maxRecDepth 10000
/-- Where what is in a frame is pinned, hold writes nothing. -/
theorem hold_z {S : St} {sb : Nat} {w : Wo} {g : Gh} (h : Pv S sb w g) (hp : ∀ j, j < w.P.fs.length → (w.P.at j).filled = true → 0 < (w.P.at j).pins) (id : Int) :
    (hld S w id).2.Z = w.Z ∧ ∀ j, j < w.P.fs.length → ((hld S w id).2.P.at j).filled = true → ((w.P.at j).filled = true ∧ ((hld S w id).2.P.at j).id = (w.P.at j).id) ∨ ((hld S w id).2.P.at j).id = id := by
  have hok := h.ok.p
  unfold hld
  cases hf : w.P.find id with
  | some i =>
    obtain ⟨h1, h2, h3⟩ := find_some hf
    refine ⟨rfl, fun j hj hfj => .inl ?_⟩
    obtain ⟨u, hu⟩ := ulk_use (P := w.P) h1 true w.P.hand j hj
    have e : (w.P.use i).at j = { w.P.at j with used := u } := hu
    dsimp only at hfj ⊢
    rw [e] at hfj ⊢
    exact ⟨hfj, rfl⟩
  | none =>
    dsimp only
    unfold hl1
    split
    · exact ⟨rfl, fun j hj hfj => .inl ⟨hfj, rfl⟩⟩
    · obtain ⟨v1, v2, v3⟩ := vic_like (2 * w.P.fs.length + 1) w.P hok
      obtain ⟨v4, v5⟩ := vic_ulk (2 * w.P.fs.length + 1) w.P hok
      generalize vic (2 * w.P.fs.length + 1) w.P = v at *
      obtain ⟨o, V⟩ := v
      dsimp only at v1 v2 v3 v4 v5
      unfold hl2
      cases o with
      | none =>
        refine ⟨rfl, fun j hj hfj => .inl ?_⟩
        obtain ⟨u, hu⟩ := v4 j hj
        dsimp only at hfj ⊢
        rw [hu] at hfj ⊢
        exact ⟨hfj, rfl⟩
      | some i =>
        have hi := v3 i rfl
        have hiV : i < V.fs.length := by rw [v1.n]; exact hi
        obtain ⟨u, hu⟩ := v4 i hi
        have c5 : (V.at i).filled = false := by
          rw [hu]
          rcases v5 i rfl with x | x
          · exact x
          · cases hc : (w.P.at i).filled
            · rfl
            · have := hp i hi hc
              omega
        dsimp only
        rw [if_neg (by rw [c5]; decide)]
        refine ⟨rfl, fun j hj hfj => ?_⟩
        dsimp only at hfj ⊢
        rw [put_at hiV] at hfj ⊢
        by_cases hij : i = j
        · rw [if_pos hij]
          exact .inr rfl
        · rw [if_neg hij] at hfj ⊢
          obtain ⟨u', hu'⟩ := v4 j hj
          rw [hu'] at hfj ⊢
          exact .inl ⟨hfj, rfl⟩
/-- So many pages are set and pinned; nothing was written. -/
structure Fil (S : St) (sb : Nat) (w : Wo) (g' : Gh) (k : Nat) : Prop where
  pv : Pv S sb w g'
  z : ∀ q : Nat, q < 8 → w.Z.rpg S (q : Int) = ([], 0, 8)
  f : ∀ j, j < w.P.fs.length → (w.P.at j).filled = true → ∃ p, p < k ∧ (w.P.at j).id = (p : Int)
  one : ∀ q : Nat, q < 8 → g'.P q = if q < k then 1 else 0
  set : ∀ q : Nat, q < 8 → (if q < k then 1 ≤ g'.N q else g'.N q = 0 ∧ g'.T q = [])
  len : w.G.all.length = 19 * k
theorem Fil.pinned {S : St} {sb : Nat} {w : Wo} {g' : Gh} {k : Nat} (h : Fil S sb w g' k) (hk : k ≤ 8) : ∀ j, j < w.P.fs.length → (w.P.at j).filled = true → 0 < (w.P.at j).pins := fun j hj hf => by
  obtain ⟨p, hp, hid⟩ := h.f j hj hf
  obtain ⟨q, hq, F⟩ := h.pv.fr j hj hf
  have e := F.id
  have : q = p := by omega
  subst this
  have e2 := h.one q hq
  rw [if_pos hp] at e2
  have := F.p
  omega
theorem wset_z {S : St} {sb : Nat} {w : Wo} {g : Gh} (h : Pv S sb w g) (hp : ∀ j, j < w.P.fs.length → (w.P.at j).filled = true → 0 < (w.P.at j).pins) (id : Int) {t : List UInt8} (ht : t.length = 224) {lsn : Int} (hl : 1 ≤ lsn) (h0 : (wset S w id t lsn).1 = 0) :
    (wset S w id t lsn).2.Z = w.Z ∧ ∀ j, j < w.P.fs.length → ((wset S w id t lsn).2.P.at j).filled = true → ((w.P.at j).filled = true ∧ ((wset S w id t lsn).2.P.at j).id = (w.P.at j).id) ∨ ((wset S w id t lsn).2.P.at j).id = id := by
  obtain ⟨a, b⟩ := hold_z h hp id
  obtain ⟨c1, c2, c3, c4, c5⟩ := hld_ok h.ok id
  unfold wset at h0 ⊢
  rw [if_neg (by omega), if_neg (by omega)] at h0 ⊢
  generalize hld S w id = r at *
  obtain ⟨⟨o, e⟩, w2⟩ := r
  dsimp only at a b c1 c2 c3 c4 c5 h0 ⊢
  cases o with
  | none => exact absurd h0 (c5 rfl)
  | some i =>
    obtain ⟨hi, _⟩ := c4 i rfl
    have hi2 : i < w2.P.fs.length := by rw [c2.n]; exact hi
    refine ⟨a, fun j hj hf => ?_⟩
    dsimp only at hf ⊢
    rw [at_set hi2] at hf ⊢
    by_cases hij : i = j
    · subst hij
      rw [if_pos rfl] at hf ⊢
      exact b i hj hf
    · rw [if_neg hij] at hf ⊢
      exact b j hj hf
/-- Set, and Pin, of the next page. -/
theorem Fil.next {S : St} {sb : Nat} {w : Wo} {g' : Gh} {k : Nat} (h : Fil S sb w g' k) (hk : k < 8) (hn : k < w.P.fs.length) (g : Gh) (c : UInt8) :
    ∃ (w1 w2 : Wo), wst S w g (k : Int) c = (true, w1, g.put k (fl c) ((w.G.all.length : Int) + 1)) ∧ w1.ok S sb 80 ∧ wpin S w1 (k : Int) = (0, w2) ∧ Fil S sb w2 { (g'.put k (fl c) ((w.G.all.length : Int) + 1)) with pin := g'.pin.set k 1 } (k + 1) ∧ w.P.like w1.P ∧ w1.G.q = w.G.q ∧ w.P.like w2.P ∧ w2.G.q = w.G.q := by
  have hpn := h.pinned (by omega)
  obtain ⟨ρ, hW⟩ := h.pv.wi
  obtain ⟨f, c1, c2⟩ := cm_frame (cm_fits c)
  have hA := h.pv.app (cm (c.toNat : Int))
  have e := append_is (G := w.G) hW.dead (cm (c.toNat : Int))
  have hs := h.pv.sec
  have hlen := h.len
  obtain ⟨_, a2⟩ := append_okG h.pv.ok.g (cm (c.toNat : Int))
  rw [c1, if_pos rfl, c2, if_pos (by omega)] at e
  have hall : (w.G.append (cm (c.toNat : Int))).2.all.length = w.G.all.length + 19 := by rw [e]; dsimp only; rw [List.length_append, c2]
  have hf1 : (w.G.append (cm (c.toNat : Int))).1 = (((w.G.all.length + 1 : Nat) : Int), 0) := by rw [e]
  obtain ⟨s1, s2, s3⟩ := hA.wset hk (fl_224 c) (lsn := ((w.G.all.length + 1 : Nat) : Int)) (by omega) (by have := (h.pv.ls k hk).2; omega) (by dsimp only; omega)
  have sz := wset_z hA hpn (k : Int) (fl_224 c) (lsn := ((w.G.all.length + 1 : Nat) : Int)) (by omega)
  obtain ⟨so, sl, sg⟩ := wset_ok hA.ok (k : Int) (fl c) ((w.G.all.length + 1 : Nat) : Int)
  have ew : wst S w g (k : Int) c = wst2 g (k : Int) c ((w.G.all.length + 1 : Nat) : Int) (wset S ⟨w.P, (w.G.append (cm (c.toNat : Int))).2, w.Z⟩ (k : Int) (fl c) ((w.G.all.length + 1 : Nat) : Int)) := by
    unfold wst
    rw [hf1, if_pos rfl]
  rw [ew]
  generalize wset S ⟨w.P, (w.G.append (cm (c.toNat : Int))).2, w.Z⟩ (k : Int) (fl c) ((w.G.all.length + 1 : Nat) : Int) = b at *
  obtain ⟨e2, w1⟩ := b
  dsimp only at s1 s2 s3 sz so sl sg
  rcases s3 with ⟨rfl, t1, t2⟩ | ⟨rfl, t1, t2⟩
  · obtain ⟨sz1, sz2⟩ := sz rfl
    obtain ⟨i, d1, d2, d3, d4⟩ := t2
    have hfind : w1.P.find (k : Int) = some i := by
      cases hf : w1.P.find (k : Int) with
      | none => exact absurd ⟨i, d1, d2, d3⟩ (find_none hf)
      | some j =>
        obtain ⟨f1, f2, f3⟩ := find_some hf
        obtain rfl : j = i := t1.un j i f1 d1 f2 d2 (by rw [f3, d3])
        rfl
    obtain ⟨p, hp, F⟩ := t1.fr i d1 d2
    obtain rfl : p = k := by have := F.id; omega
    have hpin0 : (w1.P.at i).pins = 0 := by
      have e3 := h.one p hp
      rw [if_neg (by omega)] at e3
      rw [F.p]
      exact e3
    have hl1 : w1.P.like (w1.P.use i) := ⟨rfl, rfl, rfl, rfl, List.length_set⟩
    have hu : ulk w1.P (w1.P.use i) := ulk_use d1 true w1.P.hand
    have hui : (w1.P.use i).at i = { w1.P.at i with used := true } := by
      have := at_set (f := { w1.P.at i with used := true }) (j := i) d1
      rw [if_pos rfl] at this
      exact this
    have P1 := t1.ul hl1 t1.ok.p.h hu
    have d1' : i < (w1.P.use i).fs.length := by rw [hl1.n]; exact d1
    obtain ⟨P2, PD, PR⟩ := P1.pins hp d1' (by dsimp only; rw [hui]; exact d2) (by dsimp only; rw [hui]; exact d3) (v := 1) (by decide)
    have epin : wpin S w1 (p : Int) = (0, ⟨(w1.P.use i).mod i { (w1.P.use i).at i with pins := 1 }, w1.G, w1.Z⟩) := by
      have eh : hld S w1 (p : Int) = ((some i, 0), ⟨w1.P.use i, w1.G, w1.Z⟩) := by unfold hld; rw [hfind]
      unfold wpin
      rw [eh]
      dsimp only
      rw [hui]
      dsimp only
      rw [hpin0]
      rfl
    have hgo := Gh.put_ok h.pv.gok p (fl c) ((w.G.all.length + 1 : Nat) : Int)
    refine ⟨w1, _, ?_, so, epin, ⟨P2, fun q hq => ?_, fun j hj hf => ?_, fun q hq => ?_, fun q hq => ?_, ?_⟩, sl, sg.trans a2, (sl.tr hl1).tr (mod_like _ _ _), sg.trans a2⟩
    · unfold wst2
      rw [if_neg (by omega)]
      dsimp only
      rw [if_neg (by decide)]
      rfl
    · dsimp only
      rw [sz1]
      exact h.z q hq
    · dsimp only at hj hf ⊢
      have hm := at_set (f := { (w1.P.use i).at i with pins := 1 }) (j := j) d1'
      rw [hm] at hf ⊢
      by_cases hij : i = j
      · rw [if_pos hij, hui]
        exact ⟨p, by omega, d3⟩
      · rw [if_neg hij] at hf ⊢
        rw [(mod_like (w1.P.use i) i _).n, hl1.n, sl.n] at hj
        obtain ⟨u, hu'⟩ := hu j (by rw [sl.n]; exact hj)
        rw [hu'] at hf ⊢
        rcases sz2 j hj hf with ⟨x, y⟩ | x
        · obtain ⟨q, hq, hid⟩ := h.f j hj x
          exact ⟨q, by omega, by show (w1.P.at j).id = _; rw [y]; exact hid⟩
        · exact ⟨p, by omega, x⟩
    · refine (pin_P hgo hp 1 q).trans ?_
      by_cases hpq : p = q
      · rw [if_pos hpq, if_pos (by omega)]
      · rw [if_neg hpq]
        have := h.one q hq
        rw [put_P, this]
        by_cases hqp : q < p
        · rw [if_pos hqp, if_pos (by omega)]
        · rw [if_neg hqp, if_neg (by omega)]
    · show (if q < p + 1 then 1 ≤ (g'.put p (fl c) ((w.G.all.length + 1 : Nat) : Int)).N q else (g'.put p (fl c) ((w.G.all.length + 1 : Nat) : Int)).N q = 0 ∧ (g'.put p (fl c) ((w.G.all.length + 1 : Nat) : Int)).T q = [])
      rw [put_N h.pv.gok hp, put_T h.pv.gok hp]
      have := h.set q hq
      by_cases hpq : p = q
      · rw [if_pos hpq, if_pos (by omega)]
        omega
      · rw [if_neg hpq, if_neg hpq]
        by_cases hqp : q < p
        · rw [if_pos hqp] at this
          rw [if_pos (by omega)]
          exact this
        · rw [if_neg hqp] at this
          rw [if_neg (by omega)]
          exact this
    · dsimp only
      rw [s1, hall]
      omega
  · exfalso
    refine t1.room (k := k) (by rw [s2]; exact hn) (fun q h1 h2 => ?_) (by rw [s2]; exact t2)
    have := h.one q h2
    rw [if_neg (by omega)] at this
    omega
end Go.Sp
/- What each region of the Go functions does. Written by my own generator. -/
namespace Go.Sp
open Go
set_option maxRecDepth 100000
set_option linter.unusedVariables false
open Go.Proofs
/-! gharry.gharrylaw10.PoolFull -/
noncomputable def c10 : Cfg := { P := Tryz.prog, n := 123, T := TT, body := (Tryz.f10.body).getD .skip, res := Tryz.f10.results.toList, li := lk [] [(0, [0, 1]), (1, [0, 1]), (2, []), (3, [0, 1]), (4, [0, 1, 5]), (5, []), (6, [0, 1, 5]), (7, [0, 1, 5, 6]), (8, [0, 1, 5, 6]), (9, [0, 1, 5, 6]), (10, []), (11, [0, 5]), (12, [0, 5, 9]), (13, [0, 5, 9, 10]), (14, [0, 5, 9, 10]), (15, [0, 5, 9, 10]), (16, []), (17, [0, 5, 9]), (18, [0, 5, 9, 11]), (19, [5, 9, 11, 12, 13, 14])], lo := lk [] [(0, [0, 1]), (1, [0, 1, 20]), (2, [4]), (3, [0, 1, 5]), (4, [0, 1, 5, 25]), (5, [4]), (6, [0, 1, 5, 6]), (7, [0, 1, 5, 6, 28]), (8, [0, 1, 5, 6]), (9, [0, 1, 5, 6, 44]), (10, [4]), (11, [0, 5, 9]), (12, [0, 5, 9, 10]), (13, [0, 5, 9, 10, 57]), (14, [0, 5, 9, 10]), (15, [0, 5, 9, 10, 66]), (16, [4]), (17, [0, 5, 9, 11]), (18, [5, 9, 11, 12, 13, 14]), (19, [4]), (1000000, [4])], ord := lk (false, []) [(19, (true, [(0, 1), (1, 1), (2, 1), (3, 1), (4, 1), (5, 1), (6, 1), (7, 1), (8, 1), (9, 1), (10, 1), (11, 1), (12, 1), (13, 1), (14, 1), (15, 1), (16, 1), (17, 1), (18, 1), (19, 1), (20, 1), (21, 1), (22, 0), (23, 3), (24, 1), (25, 1), (26, 1), (27, 1), (28, 1), (29, 1), (30, 0), (31, 1), (32, 1), (33, 1), (34, 1), (35, 0), (36, 4), (37, 1), (38, 1), (39, 4), (40, 1), (41, 1)]))] }
@[go_sem] theorem c10_i0 : c10.li 0 = [0, 1] := rfl
@[go_sem] theorem c10_i1 : c10.li 1 = [0, 1] := rfl
@[go_sem] theorem c10_i2 : c10.li 2 = [] := rfl
@[go_sem] theorem c10_i3 : c10.li 3 = [0, 1] := rfl
@[go_sem] theorem c10_i4 : c10.li 4 = [0, 1, 5] := rfl
@[go_sem] theorem c10_i5 : c10.li 5 = [] := rfl
@[go_sem] theorem c10_i6 : c10.li 6 = [0, 1, 5] := rfl
@[go_sem] theorem c10_i7 : c10.li 7 = [0, 1, 5, 6] := rfl
@[go_sem] theorem c10_i8 : c10.li 8 = [0, 1, 5, 6] := rfl
@[go_sem] theorem c10_i9 : c10.li 9 = [0, 1, 5, 6] := rfl
@[go_sem] theorem c10_i10 : c10.li 10 = [] := rfl
@[go_sem] theorem c10_i11 : c10.li 11 = [0, 5] := rfl
@[go_sem] theorem c10_i12 : c10.li 12 = [0, 5, 9] := rfl
@[go_sem] theorem c10_i13 : c10.li 13 = [0, 5, 9, 10] := rfl
@[go_sem] theorem c10_i14 : c10.li 14 = [0, 5, 9, 10] := rfl
@[go_sem] theorem c10_i15 : c10.li 15 = [0, 5, 9, 10] := rfl
@[go_sem] theorem c10_i16 : c10.li 16 = [] := rfl
@[go_sem] theorem c10_i17 : c10.li 17 = [0, 5, 9] := rfl
@[go_sem] theorem c10_i18 : c10.li 18 = [0, 5, 9, 11] := rfl
@[go_sem] theorem c10_i19 : c10.li 19 = [5, 9, 11, 12, 13, 14] := rfl
@[go_sem] theorem c10_r0 (frames0 : Int) (c1 : Int) (K : Env → W) : RP c10 0 [(0, .int .i64 frames0), (1, .int .u8 c1)] K =
    (K [(0, .int .i64 frames0), (1, .int .u8 c1)]) := by kernel_rfl
@[go_sem] theorem c10_r1 (frames0 : Int) (c1 : Int) (K : Env → W) : RP c10 1 [(0, .int .i64 frames0), (1, .int .u8 c1)] K =
    (cnd ((decide (frames0 < (2 : Int)))) (K [(0, .int .i64 frames0), (1, .int .u8 c1), (20, .bool true)]) (K [(0, .int .i64 frames0), (1, .int .u8 c1), (20, .bool ((decide ((7 : Int) < frames0))))])) := by kernel_rfl
@[go_sem] theorem c10_r2 (K : Env → W) : RP c10 2 [] K =
    (cal eB Tryz.prog 44 #[] fun (y1_ : Bool) => (K [(4, .bool y1_)])) := by kernel_rfl
@[go_sem] theorem c10_r3 (frames0 : Int) (c1 : Int) (K : Env → W) : RP c10 3 [(0, .int .i64 frames0), (1, .int .u8 c1)] K =
    (cal eP Tryz.prog 41 #[.int .i64 frames0] fun (y1_ : Option Addr) => (K [(0, .int .i64 frames0), (1, .int .u8 c1), (5, .pointer y1_)])) := by kernel_rfl
@[go_sem] theorem c10_r4 (frames0 : Int) (c1 : Int) (w5 : Option Addr) (K : Env → W) : RP c10 4 [(0, .int .i64 frames0), (1, .int .u8 c1), (5, .pointer w5)] K =
    (K [(0, .int .i64 frames0), (1, .int .u8 c1), (5, .pointer w5), (25, .bool ((w5).isNone))]) := by kernel_rfl
@[go_sem] theorem c10_r5 (K : Env → W) : RP c10 5 [] K =
    (K [(4, .bool false)]) := by kernel_rfl
@[go_sem] theorem c10_r6 (frames0 : Int) (c1 : Int) (w5 : Option Addr) (K : Env → W) : RP c10 6 [(0, .int .i64 frames0), (1, .int .u8 c1), (5, .pointer w5)] K =
    (K [(0, .int .i64 frames0), (1, .int .u8 c1), (5, .pointer w5), (6, .int .i64 (0 : Int))]) := by kernel_rfl
@[go_sem] theorem c10_r7 (frames0 : Int) (c1 : Int) (w5 : Option Addr) (i6 : Int) (K : Env → W) : RP c10 7 [(0, .int .i64 frames0), (1, .int .u8 c1), (5, .pointer w5), (6, .int .i64 i6)] K =
    (K [(0, .int .i64 frames0), (1, .int .u8 c1), (5, .pointer w5), (6, .int .i64 i6), (28, .bool ((decide (i6 < frames0))))]) := by kernel_rfl
@[go_sem] theorem c10_r8 (frames0 : Int) (c1 : Int) (w5 : Option Addr) (i6 : Int) (K : Env → W) : RP c10 8 [(0, .int .i64 frames0), (1, .int .u8 c1), (5, .pointer w5), (6, .int .i64 i6)] K =
    (K [(0, .int .i64 frames0), (1, .int .u8 c1), (5, .pointer w5), (6, .int .i64 ((IntKind.wrap .i64 (i6 + (1 : Int)))))]) := by kernel_rfl
@[go_sem] theorem c10_r9 (frames0 : Int) (c1 : Int) (w5 : Option Addr) (i6 : Int) (K : Env → W) : RP c10 9 [(0, .int .i64 frames0), (1, .int .u8 c1), (5, .pointer w5), (6, .int .i64 i6)] K =
    (cal eB Tryz.prog 47 #[.pointer w5, .int .i64 i6, .int .u8 c1] fun (y1_ : Bool) => (cnd ((!y1_)) (K [(0, .int .i64 frames0), (1, .int .u8 c1), (5, .pointer w5), (6, .int .i64 i6), (44, .bool true)]) (nn w5 fun y2_ => (ld eP ((y2_.add 3)) fun (y3_ : Option Addr) => (cal eI Tryz.prog 48 #[.pointer y3_, .int .i64 i6] fun (y4_ : Int) => (K [(0, .int .i64 frames0), (1, .int .u8 c1), (5, .pointer w5), (6, .int .i64 i6), (44, .bool ((y4_ != (0 : Int))))])))))) := by kernel_rfl
@[go_sem] theorem c10_r10 (K : Env → W) : RP c10 10 [] K =
    (K [(4, .bool false)]) := by kernel_rfl
@[go_sem] theorem c10_r11 (frames0 : Int) (w5 : Option Addr) (K : Env → W) : RP c10 11 [(0, .int .i64 frames0), (5, .pointer w5)] K =
    (nn w5 fun y1_ => (ld eP ((y1_.add 3)) fun (y2_ : Option Addr) => (cal (eT3 eS eI eI) Tryz.prog 49 #[.pointer y2_, .int .i64 frames0] fun (y3_ : ((List UInt8) × Int × Int)) => (K [(0, .int .i64 frames0), (5, .pointer w5), (9, .int .i64 y3_.2.2)])))) := by kernel_rfl
@[go_sem] theorem c10_r12 (frames0 : Int) (w5 : Option Addr) (e9 : Int) (K : Env → W) : RP c10 12 [(0, .int .i64 frames0), (5, .pointer w5), (9, .int .i64 e9)] K =
    (K [(0, .int .i64 frames0), (5, .pointer w5), (9, .int .i64 e9), (10, .int .i64 (0 : Int))]) := by kernel_rfl
@[go_sem] theorem c10_r13 (frames0 : Int) (w5 : Option Addr) (e9 : Int) (i10 : Int) (K : Env → W) : RP c10 13 [(0, .int .i64 frames0), (5, .pointer w5), (9, .int .i64 e9), (10, .int .i64 i10)] K =
    (K [(0, .int .i64 frames0), (5, .pointer w5), (9, .int .i64 e9), (10, .int .i64 i10), (57, .bool ((decide (i10 < frames0))))]) := by kernel_rfl
@[go_sem] theorem c10_r14 (frames0 : Int) (w5 : Option Addr) (e9 : Int) (i10 : Int) (K : Env → W) : RP c10 14 [(0, .int .i64 frames0), (5, .pointer w5), (9, .int .i64 e9), (10, .int .i64 i10)] K =
    (K [(0, .int .i64 frames0), (5, .pointer w5), (9, .int .i64 e9), (10, .int .i64 ((IntKind.wrap .i64 (i10 + (1 : Int)))))]) := by kernel_rfl
@[go_sem] theorem c10_r15 (frames0 : Int) (w5 : Option Addr) (e9 : Int) (i10 : Int) (K : Env → W) : RP c10 15 [(0, .int .i64 frames0), (5, .pointer w5), (9, .int .i64 e9), (10, .int .i64 i10)] K =
    (nn w5 fun y1_ => (ld eP ((y1_.add 3)) fun (y2_ : Option Addr) => (cal eB Tryz.prog 45 #[.pointer y2_, .int .i64 i10] fun (y3_ : Bool) => (K [(0, .int .i64 frames0), (5, .pointer w5), (9, .int .i64 e9), (10, .int .i64 i10), (66, .bool ((!y3_)))])))) := by kernel_rfl
@[go_sem] theorem c10_r16 (K : Env → W) : RP c10 16 [] K =
    (K [(4, .bool false)]) := by kernel_rfl
@[go_sem] theorem c10_r17 (frames0 : Int) (w5 : Option Addr) (e9 : Int) (K : Env → W) : RP c10 17 [(0, .int .i64 frames0), (5, .pointer w5), (9, .int .i64 e9)] K =
    (nn w5 fun y1_ => (ld eP ((y1_.add 3)) fun (y2_ : Option Addr) => (cal eI Tryz.prog 50 #[.pointer y2_, .int .i64 (0 : Int)] fun (y3_ : Int) => (K [(0, .int .i64 frames0), (5, .pointer w5), (9, .int .i64 e9), (11, .int .i64 y3_)])))) := by kernel_rfl
@[go_sem] theorem c10_r18 (frames0 : Int) (w5 : Option Addr) (e9 : Int) (f11 : Int) (K : Env → W) : RP c10 18 [(0, .int .i64 frames0), (5, .pointer w5), (9, .int .i64 e9), (11, .int .i64 f11)] K =
    (nn w5 fun y1_ => (ld eP ((y1_.add 3)) fun (y2_ : Option Addr) => (cal (eT3 eS eI eI) Tryz.prog 49 #[.pointer y2_, .int .i64 frames0] fun (y3_ : ((List UInt8) × Int × Int)) => (K [(5, .pointer w5), (9, .int .i64 e9), (11, .int .i64 f11), (12, str y3_.1), (13, .int .i64 y3_.2.1), (14, .int .i64 y3_.2.2)])))) := by kernel_rfl
@[go_sem] theorem c10_r19 (w5 : Option Addr) (e9 : Int) (f11 : Int) (s12 : List UInt8) (n13 : Int) (g14 : Int) (K : Env → W) : RP c10 19 [(5, .pointer w5), (9, .int .i64 e9), (11, .int .i64 f11), (12, str s12), (13, .int .i64 n13), (14, .int .i64 g14)] K =
    (ph fun S0 => (cnd ((e9 == (7 : Int))) (cnd ((f11 == (0 : Int))) (cnd ((s12 == ([] : List UInt8))) (cnd ((n13 == (0 : Int))) (cnd ((g14 == (0 : Int))) (nn w5 fun y1_ => (ldq S0 eP ((y1_.add 3)) fun (y2_ : Option Addr) => (cal eB Tryz.prog 45 #[.pointer y2_, .int .i64 (0 : Int)] fun (y3_ : Bool) => (ph fun S1 => (cnd ((!y3_)) (nn w5 fun y4_ => (ldq S1 eP ((y4_.add 1)) fun (y5_ : Option Addr) => (nn w5 fun y6_ => (rq (0 ≤ (0 : Int) ∧ (0 : Int) < ((8 : Nat) : Int)) (ldq S1 eI ((Addr.add ((y6_.add 12)) 0)) fun (y7_ : Int) => (cal eB Tryz.prog 51 #[.pointer y5_, .int .i64 (0 : Int), .int .i64 y7_] fun (y8_ : Bool) => (cnd y8_ (cal eB Tryz.prog 44 #[] fun (y9_ : Bool) => (K [(4, .bool y9_)])) (K [(4, .bool false)])))))))) (K [(4, .bool false)])))))) (ph fun S2 => (K [(4, .bool false)]))) (ph fun S3 => (K [(4, .bool false)]))) (ph fun S4 => (K [(4, .bool false)]))) (ph fun S5 => (K [(4, .bool false)]))) (ph fun S6 => (K [(4, .bool false)])))) := by kernel_rfl
@[go_sem] theorem c10_o : c10.lo 1000000 = [4] := rfl
@[go_sem] theorem c10_e (t4 : Bool) (k : Value → W) : RTp c10 [(4, .bool t4)] k = (k (.bool t4)) := by kernel_rfl
theorem c10_ok : (c10.P.follows .mixedOrders && okc c10 c10.body) = true := by kernel_rfl
theorem c10_fn {e : Enc} {args : Array Value} {G : e.α → W} {L : List HP} {ρ : Env} (hρ : envA 0 args.toList = ρ) (hs : Nat.ble args.size 123 = true) (h : E L (D c10 (.seq (.reg 0) (.seq (.seq (.reg 1) (.cond (.tmp 20) (.seq (.reg 2) (.ret)) (.skip))) (.seq (.reg 3) (.seq (.seq (.reg 4) (.cond (.tmp 25) (.seq (.reg 5) (.ret)) (.skip))) (.seq (.seq (.reg 6) (.block 0 (.loop (.seq (.seq (.reg 7) (.cond (.tmp 28) (.skip) (.exit 0))) (.seq (.block 1 (.seq (.reg 9) (.cond (.tmp 44) (.seq (.reg 10) (.ret)) (.skip)))) (.reg 8)))))) (.seq (.reg 11) (.seq (.seq (.reg 12) (.block 2 (.loop (.seq (.seq (.reg 13) (.cond (.tmp 57) (.skip) (.exit 2))) (.seq (.block 3 (.seq (.reg 15) (.cond (.tmp 66) (.seq (.reg 16) (.ret)) (.skip)))) (.reg 14)))))) (.seq (.reg 17) (.seq (.reg 18) (.seq (.reg 19) (.ret))))))))))) (fnQ c10 e G) ρ)) : E L (cal e Tryz.prog 10 args G) :=
  d_fn (c := c10) Tryz.func10 (by kernel_rfl) (by kernel_rfl) (by kernel_rfl) c10_ok (by kernel_rfl) (by kernel_rfl) hρ hs h
-- loop (first region 13): live slots 0:frames0 5:w5 9:e9 10:i10, of which it writes [10]
-- loop (first region 7): live slots 0:frames0 1:c1 5:w5 6:i6, of which it writes [6]
end Go.Sp
/- The pool's law: PoolFull. -/
namespace Go.Sp
open Go Go.Proofs
set_option linter.unusedSimpArgs false
set_option linter.unusedVariables false
set_option maxRecDepth 10000
theorem Wnew.fil {S : St} {sb n : Nat} {w : Wo} (h : Wnew S sb n w) : Fil S sb w g0 0 := by
  have hp := h.pv
  have hu : ∀ i, (w.P.at i).filled = false := fun i => by rw [h.p]; exact zf_at
  have hS : S.base = 40 ∧ S.pages = 8 := by rw [h.s]; exact ⟨rfl, rfl⟩
  obtain ⟨ρ, hW⟩ := h.wi
  refine ⟨hp, fun q hq => rpg_none h.ok.s (by rw [hS.2]; exact hq) hW.calm.up fun i hi => ?_, fun j _ hf => ?_, fun q _ => ?_, fun q _ => ?_, by rw [h.g]; rfl⟩
  · rw [hS.1]
    exact h.z _ (by omega) (by omega)
  · rw [hu] at hf; cases hf
  · rw [if_neg (by omega)]; exact g0P q
  · rw [if_neg (by omega)]
    refine ⟨?_, ?_⟩
    · unfold Gh.N g0; rw [List.getD_eq_getElem?_getD, List.getElem?_replicate]; split <;> rfl
    · unfold Gh.T g0; rw [List.getD_eq_getElem?_getD, List.getElem?_replicate]; split <;> rfl
theorem drt_of {S : St} {sb : Nat} {w : Wo} {g : Gh} (h : Pv S sb w g) {q : Nat} (hq : q < 8) (hz : w.Z.rpg S (q : Int) = ([], 0, 8)) (hN : 1 ≤ g.N q) : Drt w.P q := by
  by_cases hd : Drt w.P q
  · exact hd
  · rcases h.cl q hq hd with ⟨_, x, _⟩ | ⟨x, _⟩
    · omega
    · rw [hz] at x
      have := congrArg (fun y : List UInt8 × Int × Int => y.2.2) x
      dsimp only at this
      omega
/-- When all frames are pinned there is no room for another page. -/
theorem Fil.full {S : St} {sb : Nat} {w : Wo} {g' : Gh} {n : Nat} (h : Fil S sb w g' n) (hn : w.P.fs.length = n) (h8 : n < 8) :
    wget S w (n : Int) = ([], 0, 7) ∧ Pv S sb (hld S w (n : Int)).2 g' ∧ (hld S w (n : Int)).2.Z = w.Z ∧ (hld S w (n : Int)).2.P.fs.length = n := by
  obtain ⟨a1, a2, a3, a4⟩ := h.pv.hold h8
  obtain ⟨z1, _⟩ := hold_z h.pv (h.pinned (by omega)) (n : Int)
  unfold wget
  generalize hld S w (n : Int) = r at *
  obtain ⟨⟨o, e⟩, w2⟩ := r
  dsimp only at a1 a2 a3 a4 z1
  rcases a4 with ⟨i, b1, b2, b3, b4⟩ | ⟨b1, b2⟩
  · exfalso
    refine a1.pig fun p hp => ?_
    rw [a3, hn] at hp
    rcases Nat.lt_or_ge p n with x | x
    · have e1 := h.one p (by omega)
      rw [if_pos x] at e1
      exact (a1.pn p (by omega)).2 (by omega)
    · obtain rfl : p = n := by omega
      exact ⟨i, by rw [a3]; exact b2, b3, b4⟩
  · obtain ⟨rfl, rfl⟩ := Prod.mk.inj b1
    exact ⟨rfl, a1, z1, by rw [a3]; exact hn⟩
/-- Page 0 let go, the other page has room, and page 0 is on the disk. -/
theorem full_end {S : St} {sb : Nat} {w : Wo} {g' : Gh} {n : Nat} (h : Pv S sb w g') (hn : w.P.fs.length = n) (h1 : 2 ≤ n) (h8 : n < 8) (ho : ∀ q : Nat, q < 8 → g'.P q = if q = 0 then 0 else if q < n then 1 else 0) (hN0 : 1 ≤ g'.N 0) (hNn : g'.N n = 0 ∧ g'.T n = []) :
    wget S w (n : Int) = ([], 0, 0) ∧ (hld S w (n : Int)).2.P.dirt 0 = false ∧ (hld S w (n : Int)).2.Z.rpg S 0 = (g'.T 0, g'.N 0, 0) := by
  obtain ⟨a1, a2, a3, a4⟩ := h.hold h8
  unfold wget
  generalize hld S w (n : Int) = r at *
  obtain ⟨⟨o, e⟩, w2⟩ := r
  dsimp only at a1 a2 a3 a4
  rcases a4 with ⟨i, b1, b2, b3, b4⟩ | ⟨b1, b2⟩
  · obtain ⟨rfl, rfl⟩ := Prod.mk.inj b1
    dsimp only
    have hi : i < w2.P.fs.length := by rw [a3]; exact b2
    obtain ⟨p, hp, F⟩ := a1.fr i hi b3
    obtain rfl : p = n := by have := F.id; omega
    have hd : ¬ Drt w2.P 0 := fun ⟨j, j1, j2, j3, _⟩ => by
      refine a1.pig fun q hq => ?_
      rw [a3, hn] at hq
      by_cases q0 : q = 0
      · subst q0
        exact ⟨j, j1, j2, j3⟩
      · rcases Nat.lt_or_ge q p with x | x
        · have e1 := ho q (by omega)
          rw [if_neg q0, if_pos x] at e1
          exact (a1.pn q (by omega)).2 (by omega)
        · obtain rfl : q = p := by omega
          exact ⟨i, hi, b3, b4⟩
    refine ⟨by rw [F.t, F.n, hNn.1, hNn.2], ?_, ?_⟩
    · cases hx : w2.P.dirt 0
      · rfl
      · exact absurd ((a1.dirt 0).1 hx) hd
    · rcases a1.cl 0 (by decide) hd with ⟨_, x, _⟩ | ⟨x, _⟩
      · omega
      · exact x
  · exfalso
    refine pig (n - 1) (fun i j => j < w2.P.fs.length ∧ (w2.P.at j).id = ((i + 1 : Nat) : Int)) (fun i p q a b => ?_) fun j hj => ?_
    · exact a1.un p q a.1 b.1 (b2 p (by rw [← a3]; exact a.1)).1 (b2 q (by rw [← a3]; exact b.1)).1 (by rw [a.2, b.2])
    · obtain ⟨c1, c2⟩ := b2 j (by omega)
      obtain ⟨p, hp, F⟩ := a1.fr j (by omega) c1
      have e1 := F.p
      have e2 := ho p hp
      by_cases p0 : p = 0
      · rw [if_pos p0] at e2
        omega
      · rw [if_neg p0] at e2
        rcases Nat.lt_or_ge p n with x | x
        · exact ⟨p - 1, by omega, by omega, by rw [F.id, show p - 1 + 1 = p by omega]⟩
        · rw [if_neg (by omega)] at e2
          omega
end Go.Sp
/- The pool's law: PoolFull, walked. -/
namespace Go.Sp
open Go Go.Proofs
set_option linter.unusedSimpArgs false
set_option linter.unusedVariables false
set_option maxRecDepth 10000
set_option maxHeartbeats 1000000 in
theorem g10 (n : Int) (c : UInt8) : Fp eB Tryz.prog 10 #[.int .i64 n, .int .u8 (c.toNat : Int)] [] true := fun L => by
  refine c10_fn rfl rfl ?_
  by_cases hr : n < 2 ∨ 7 < n
  · repeat' ((fail_if_success with_reducible refine nph ?_); first | (with_reducible first | (refine d_seq ?_; intro K hK) | (refine hK _ _ ?_; clear hK K) | (refine SG.p ?_; try intro b)) | ((with_reducible refine SC.p ?_); refine And.intro ?_ ?_) <;> intro hc <;> try simp only [push_cast, Int.reduceEq, Int.reduceLT, Int.reduceLE, Int.reduceNe] at hc | with_reducible refine r_rq (by first | decide | omega) ?_ | ((with_reducible refine SL.p ?_); first | refine ⟨_, rfl, ?_⟩ | refine ⟨_, _, _, rfl, ?_⟩ | (refine ⟨?_, rfl, ?_⟩; focus (simp; done))) | ((with_reducible first | apply i_ldn | apply i_ldnq); exact rfl; exact rfl; exact rfl) | ((try with_reducible refine d_reg ?_); simp only [go_sem, Nat.reduceAdd, Nat.reduceEqDiff, Int.reduceToNat, Nat.reduceMul, Nat.reduceSub]) | clear hK K)
    all_goals try (exfalso; omega)
    all_goals try contradiction
    all_goals
      refine i_clp g44 ?_
      repeat' ((fail_if_success with_reducible refine nph ?_); first | (with_reducible first | (refine d_seq ?_; intro K hK) | (refine hK _ _ ?_; clear hK K) | (refine SG.p ?_; try intro b)) | ((with_reducible refine SC.p ?_); refine And.intro ?_ ?_) <;> intro hc <;> try simp only [push_cast, Int.reduceEq, Int.reduceLT, Int.reduceLE, Int.reduceNe] at hc | with_reducible refine r_rq (by first | decide | omega) ?_ | ((with_reducible refine SL.p ?_); first | refine ⟨_, rfl, ?_⟩ | refine ⟨_, _, _, rfl, ?_⟩ | (refine ⟨?_, rfl, ?_⟩; focus (simp; done))) | ((with_reducible first | apply i_ldn | apply i_ldnq); exact rfl; exact rfl; exact rfl) | ((try with_reducible refine d_reg ?_); simp only [go_sem, Nat.reduceAdd, Nat.reduceEqDiff, Int.reduceToNat, Nat.reduceMul, Nat.reduceSub]) | clear hK K)
      (with_reducible first | apply i_ret0 | apply i_ret2 | apply i_ret3 | apply i_ret); exact rfl
      rfl
  obtain ⟨k, rfl⟩ : ∃ k : Nat, n = (k : Int) := ⟨n.toNat, by omega⟩
  repeat' ((fail_if_success with_reducible refine nph ?_); first | (with_reducible first | (refine d_seq ?_; intro K hK) | (refine hK _ _ ?_; clear hK K) | (refine SG.p ?_; try intro b)) | ((with_reducible refine SC.p ?_); refine And.intro ?_ ?_) <;> intro hc <;> try simp only [push_cast, Int.reduceEq, Int.reduceLT, Int.reduceLE, Int.reduceNe] at hc | with_reducible refine r_rq (by first | decide | omega) ?_ | ((with_reducible refine SL.p ?_); first | refine ⟨_, rfl, ?_⟩ | refine ⟨_, _, _, rfl, ?_⟩ | (refine ⟨?_, rfl, ?_⟩; focus (simp; done))) | ((with_reducible first | apply i_ldn | apply i_ldnq); exact rfl; exact rfl; exact rfl) | ((try with_reducible refine d_reg ?_); simp only [go_sem, Nat.reduceAdd, Nat.reduceEqDiff, Int.reduceToNat, Nat.reduceMul, Nat.reduceSub]) | clear hK K)
  all_goals try (exfalso; omega)
  all_goals try contradiction
  refine i_cal (g41 k (by omega) (by omega)) ?_
  rintro y X ⟨wb, sb, S, w0, rfl, rfl, hNw⟩
  have h0 := hNw.fil
  have hl0 : w0.P.fs.length = k := by rw [hNw.p]; simp [Po.new]
  clear hNw
  dsimp only [List.cons_append, List.nil_append]
  repeat' ((fail_if_success with_reducible refine nph ?_); first | (with_reducible first | (refine d_seq ?_; intro K hK) | (refine hK _ _ ?_; clear hK K) | (refine SG.p ?_; try intro b)) | ((with_reducible refine SC.p ?_); refine And.intro ?_ ?_) <;> intro hc <;> try simp only [push_cast, Int.reduceEq, Int.reduceLT, Int.reduceLE, Int.reduceNe] at hc | with_reducible refine r_rq (by first | decide | omega) ?_ | ((with_reducible refine SL.p ?_); first | refine ⟨_, rfl, ?_⟩ | refine ⟨_, _, _, rfl, ?_⟩ | (refine ⟨?_, rfl, ?_⟩; focus (simp; done))) | ((with_reducible first | apply i_ldn | apply i_ldnq); exact rfl; exact rfl; exact rfl) | ((try with_reducible refine d_reg ?_); simp only [go_sem, Nat.reduceAdd, Nat.reduceEqDiff, Int.reduceToNat, Nat.reduceMul, Nat.reduceSub]) | clear hK K)
  all_goals try contradiction
  generalize hq0 : w0.P.q = q0
  generalize hg0 : w0.G.q = l0
  refine d_lp [0, 1, 5, 6] (fun t : Nat × Wo × Gh × Gh => [(0, .int .i64 (k : Int)), (1, .int .u8 (c.toNat : Int)), (5, .pointer (some ⟨wb, 0, none⟩)), (6, .int .i64 (t.1 : Int))])
    (fun t => wld wb sb S.q l0 q0 t.2.2.1 :: (wos S sb t.2.1 ++ L)) (fun t => t.1 ≤ k ∧ Fil S sb t.2.1 t.2.2.2 t.1 ∧ t.2.2.1.ok ∧ t.2.1.P.fs.length = k ∧ t.2.1.P.q = q0 ∧ t.2.1.G.q = l0 ∧ t.2.2.1.lsn = t.2.2.2.lsn) (fun t => k - t.1) (0, w0, g0, g0) rfl SX.p ⟨Nat.zero_le _, h0, g0_ok, hl0, hq0, hg0, rfl⟩ ?_
  clear h0 hl0 hq0 hg0 w0
  rintro ⟨i, w, g, g'⟩ ⟨i1, hF, hg, hn, hq, hl, he⟩
  dsimp only at i1 hF hg hn hq hl he ⊢
  by_cases hi : i < k
  · obtain ⟨w1, w2, e1, ok1, e2, F2, lk1, lg1, lk2, lg2⟩ := hF.next (by omega) (by omega) g c
    have SF := g47 wb S sb 80 w hF.pv.ok g hg (i : Int) c
    have PF := g48 S sb 80 w1 ok1 (i : Int)
    rw [e1] at SF
    rw [e2] at PF
    try dsimp only at SF
    try dsimp only at PF
    have h1q : w1.P.q = q0 := lk1.q.trans hq
    have h1l : w1.G.q = l0 := lg1.trans hl
    have SF2 : Fq eB Tryz.prog 47 #[.pointer (some ⟨wb, 0, none⟩), .int .i64 (i : Int), .int .u8 (c.toNat : Int)] (wld wb sb S.q l0 q0 g :: wos S sb w) (wld wb sb S.q l0 q0 (g.put i (fl c) ((w.G.all.length : Int) + 1)) :: wos S sb w1) true := by rw [hq, hl] at SF; exact SF
    have PF2 : Fq eI Tryz.prog 48 #[.pointer (some ⟨q0, 0, none⟩), .int .i64 (i : Int)] (wos S sb w1) (wos S sb w2) 0 := by rw [← h1q]; exact PF
    repeat' ((fail_if_success with_reducible refine nph ?_); first | (with_reducible first | (refine d_seq ?_; intro K hK) | (refine hK _ _ ?_; clear hK K) | (refine SG.p ?_; try intro b)) | ((with_reducible refine SC.p ?_); refine And.intro ?_ ?_) <;> intro hc <;> try simp only [push_cast, Int.reduceEq, Int.reduceLT, Int.reduceLE, Int.reduceNe] at hc | with_reducible refine r_rq (by first | decide | omega) ?_ | ((with_reducible refine SL.p ?_); first | refine ⟨_, rfl, ?_⟩ | refine ⟨_, _, _, rfl, ?_⟩ | (refine ⟨?_, rfl, ?_⟩; focus (simp; done))) | ((with_reducible first | apply i_ldn | apply i_ldnq); exact rfl; exact rfl; exact rfl) | ((try with_reducible refine d_reg ?_); simp only [go_sem, Nat.reduceAdd, Nat.reduceEqDiff, Int.reduceToNat, Nat.reduceMul, Nat.reduceSub]) | clear hK K)
    all_goals try (exfalso; omega)
    refine i_clq SF2 ?_
    try dsimp only [List.cons_append, List.nil_append]
    repeat' ((fail_if_success with_reducible refine nph ?_); first | (with_reducible first | (refine d_seq ?_; intro K hK) | (refine hK _ _ ?_; clear hK K) | (refine SG.p ?_; try intro b)) | ((with_reducible refine SC.p ?_); refine And.intro ?_ ?_) <;> intro hc <;> try simp only [push_cast, Int.reduceEq, Int.reduceLT, Int.reduceLE, Int.reduceNe] at hc | with_reducible refine r_rq (by first | decide | omega) ?_ | ((with_reducible refine SL.p ?_); first | refine ⟨_, rfl, ?_⟩ | refine ⟨_, _, _, rfl, ?_⟩ | (refine ⟨?_, rfl, ?_⟩; focus (simp; done))) | ((with_reducible first | apply i_ldn | apply i_ldnq); exact rfl; exact rfl; exact rfl) | ((try with_reducible refine d_reg ?_); simp only [go_sem, Nat.reduceAdd, Nat.reduceEqDiff, Int.reduceToNat, Nat.reduceMul, Nat.reduceSub]) | clear hK K)
    all_goals try contradiction
    refine i_clq PF2 ?_
    try dsimp only [List.cons_append, List.nil_append]
    repeat' ((fail_if_success with_reducible refine nph ?_); first | (with_reducible first | (refine d_seq ?_; intro K hK) | (refine hK _ _ ?_; clear hK K) | (refine SG.p ?_; try intro b)) | ((with_reducible refine SC.p ?_); refine And.intro ?_ ?_) <;> intro hc <;> try simp only [push_cast, Int.reduceEq, Int.reduceLT, Int.reduceLE, Int.reduceNe] at hc | with_reducible refine r_rq (by first | decide | omega) ?_ | ((with_reducible refine SL.p ?_); first | refine ⟨_, rfl, ?_⟩ | refine ⟨_, _, _, rfl, ?_⟩ | (refine ⟨?_, rfl, ?_⟩; focus (simp; done))) | ((with_reducible first | apply i_ldn | apply i_ldnq); exact rfl; exact rfl; exact rfl) | ((try with_reducible refine d_reg ?_); simp only [go_sem, Nat.reduceAdd, Nat.reduceEqDiff, Int.reduceToNat, Nat.reduceMul, Nat.reduceSub]) | clear hK K)
    all_goals try contradiction
    rw [w64 (by omega) (by omega)]
    refine i_bk (i + 1, w2, g.put i (fl c) ((w.G.all.length : Int) + 1), { (g'.put i (fl c) ((w.G.all.length : Int) + 1)) with pin := g'.pin.set i 1 }) rfl ⟨by dsimp only; omega, F2, Gh.put_ok hg _ _ _, lk2.n.trans hn, lk2.q.trans hq, lg2.trans hl, ?_⟩ (by dsimp only; omega)
    show g.lsn.set i _ = g'.lsn.set i _
    rw [he]
  · obtain rfl : i = k := by omega
    obtain ⟨u1, u2, u3, u4⟩ := hF.full hn (by omega)
    have GT := g49 S sb 80 w hF.pv.ok (i : Int)
    obtain ⟨_, ulk', ugq, _⟩ := hld_ok hF.pv.ok (i : Int)
    rw [u1] at GT
    generalize hld S w (i : Int) = r at *
    obtain ⟨_, w3⟩ := r
    dsimp only at u2 u3 u4 GT ulk' ugq
    have h3q : w3.P.q = q0 := ulk'.q.trans hq
    have h3l : w3.G.q = l0 := ugq.trans hl
    have hD : ∀ q, q < i → Drt w3.P q := fun q hqi => by
      have hs := hF.set q (by omega)
      rw [if_pos hqi] at hs
      exact drt_of u2 (by omega) (by rw [u3]; exact hF.z q (by omega)) hs
    have GT2 : Fq (eT3 eS eI eI) Tryz.prog 49 #[.pointer (some ⟨q0, 0, none⟩), .int .i64 (i : Int)] (wos S sb w) (wos S sb w3) ([], 0, 7) := by rw [← hq]; exact GT
    obtain ⟨i0, d1, d2, d3, _⟩ := hD 0 (by omega)
    have hfind : w3.P.find 0 = some i0 := by
      cases hf : w3.P.find 0 with
      | none => exact absurd ⟨i0, d1, d2, d3⟩ (find_none (p := 0) hf)
      | some j =>
        obtain ⟨f1, f2, f3⟩ := find_some hf
        obtain rfl : j = i0 := u2.un j i0 f1 d1 f2 d2 (by rw [f3, d3]; rfl)
        rfl
    obtain ⟨p, hp, F⟩ := u2.fr i0 d1 d2
    obtain rfl : p = 0 := by have := F.id; omega
    have hpin1 : (w3.P.at i0).pins = 1 := by
      have e3 := hF.one 0 (by decide)
      rw [if_pos (by omega)] at e3
      rw [F.p]
      exact e3
    obtain ⟨P4, PD, PR⟩ := u2.pins (p := 0) (by decide) d1 d2 d3 (v := 0) (by decide)
    have UN := g50 w3.P u2.ok.p 0
    have eun : w3.P.unp 0 = (0, w3.P.mod i0 { w3.P.at i0 with pins := 0 }) := by
      unfold Po.unp
      rw [hfind]
      dsimp only
      rw [if_neg (by rw [hpin1]; decide), hpin1]
      rfl
    rw [eun] at UN
    dsimp only at UN
    have UN2 : Fq eI Tryz.prog 50 #[.pointer (some ⟨q0, 0, none⟩), .int .i64 0] [ppt w3.P, pfs w3.P] [ppt (w3.P.mod i0 { w3.P.at i0 with pins := 0 }), pfs (w3.P.mod i0 { w3.P.at i0 with pins := 0 })] 0 := by rw [← h3q]; exact UN
    have hgo := u2.gok
    have FE := full_end P4 (n := i) ((mod_like w3.P i0 _).n.trans u4) (by omega) (by omega) (fun q hq8 => by
      refine (pin_P hgo (by decide) 0 q).trans ?_
      by_cases q0' : q = 0
      · rw [if_pos q0'.symm, if_pos q0']
      · rw [if_neg (fun x => q0' x.symm), if_neg q0']
        exact hF.one q hq8) (by have := hF.set 0 (by decide); rw [if_pos (by omega)] at this; exact this) (by have := hF.set i (by omega); rw [if_neg (by omega)] at this; exact this)
    have GT4 := g49 S sb 80 _ P4.ok (i : Int)
    obtain ⟨ok5, lk5, gq5, _⟩ := hld_ok P4.ok (i : Int)
    obtain ⟨v1, v2, v3⟩ := FE
    rw [v1] at GT4
    have DT := fun q => g45 w3.P u2.ok.p q
    generalize hP4 : w3.P.mod i0 { w3.P.at i0 with pins := 0 } = P4' at *
    generalize hld S ⟨P4', w3.G, w3.Z⟩ (i : Int) = r5 at *
    obtain ⟨_, w5⟩ := r5
    dsimp only at GT4 ok5 lk5 gq5 v2 v3
    have DT5 := g45 w5.P ok5.p 0
    rw [v2] at DT5
    have IS := f53 S w5.Z ok5.z (by rw [ok5.nn]; exact ok5.s) 0 (g.lsn.getD 0 0)
    rw [ok5.sb, v3] at IS
    have IS2 : Fp eB Tryz.prog 51 #[.pointer (some ⟨S.q, 0, none⟩), .int .i64 0, .int .i64 (g.lsn.getD 0 0)] [spt S sb, dk w5.Z] true := by
      have hb : (decide ((g'.T 0, g'.N 0, (0 : Int)).2.2 = 0) && (g'.T 0, g'.N 0, (0 : Int)).2.1 == g.lsn.getD 0 0) = true := by rw [he]; simp
      rw [hb] at IS
      exact IS
    have h5q : w5.P.q = q0 := lk5.q.trans ((congrArg Po.q hP4).symm.trans h3q)
    have h5l : w5.G.q = l0 := gq5.trans h3l
    have h4q : P4'.q = q0 := (congrArg Po.q hP4).symm.trans h3q
    have GT5 : Fq (eT3 eS eI eI) Tryz.prog 49 #[.pointer (some ⟨q0, 0, none⟩), .int .i64 (i : Int)] (wos S sb ⟨P4', w3.G, w3.Z⟩) (wos S sb w5) ([], 0, 0) := by rw [← h4q]; exact GT4
    have DT8 : Fp eB Tryz.prog 45 #[.pointer (some ⟨q0, 0, none⟩), .int .i64 0] [ppt w5.P, pfs w5.P] false := by rw [← h5q]; exact DT5
    repeat' ((fail_if_success with_reducible refine nph ?_); first | (with_reducible first | (refine d_seq ?_; intro K hK) | (refine hK _ _ ?_; clear hK K) | (refine SG.p ?_; try intro b)) | ((with_reducible refine SC.p ?_); refine And.intro ?_ ?_) <;> intro hc <;> try simp only [push_cast, Int.reduceEq, Int.reduceLT, Int.reduceLE, Int.reduceNe] at hc | with_reducible refine r_rq (by first | decide | omega) ?_ | ((with_reducible refine SL.p ?_); first | refine ⟨_, rfl, ?_⟩ | refine ⟨_, _, _, rfl, ?_⟩ | (refine ⟨?_, rfl, ?_⟩; focus (simp; done))) | ((with_reducible first | apply i_ldn | apply i_ldnq); exact rfl; exact rfl; exact rfl) | ((try with_reducible refine d_reg ?_); simp only [go_sem, Nat.reduceAdd, Nat.reduceEqDiff, Int.reduceToNat, Nat.reduceMul, Nat.reduceSub]) | clear hK K)
    all_goals try (exfalso; omega)
    refine i_clq GT2 ?_
    repeat' ((fail_if_success with_reducible refine nph ?_); first | (with_reducible first | (refine d_seq ?_; intro K hK) | (refine hK _ _ ?_; clear hK K) | (refine SG.p ?_; try intro b)) | ((with_reducible refine SC.p ?_); refine And.intro ?_ ?_) <;> intro hc <;> try simp only [push_cast, Int.reduceEq, Int.reduceLT, Int.reduceLE, Int.reduceNe] at hc | with_reducible refine r_rq (by first | decide | omega) ?_ | ((with_reducible refine SL.p ?_); first | refine ⟨_, rfl, ?_⟩ | refine ⟨_, _, _, rfl, ?_⟩ | (refine ⟨?_, rfl, ?_⟩; focus (simp; done))) | ((with_reducible first | apply i_ldn | apply i_ldnq); exact rfl; exact rfl; exact rfl) | ((try with_reducible refine d_reg ?_); simp only [go_sem, Nat.reduceAdd, Nat.reduceEqDiff, Int.reduceToNat, Nat.reduceMul, Nat.reduceSub]) | clear hK K)
    refine d_lp [0, 5, 9, 10] (fun j : Nat => [(0, .int .i64 (i : Int)), (5, .pointer (some ⟨wb, 0, none⟩)), (9, .int .i64 7), (10, .int .i64 (j : Int))])
      (fun _ => wld wb sb S.q l0 q0 g :: (wos S sb w3 ++ L)) (fun j => j ≤ i) (fun j => i - j) 0 rfl SX.p (Nat.zero_le _) ?_
    rintro j hj
    by_cases hji : j < i
    · have DT6 := DT (j : Int)
      rw [(u2.dirt j).2 (hD j hji)] at DT6
      have DT7 : Fp eB Tryz.prog 45 #[.pointer (some ⟨q0, 0, none⟩), .int .i64 (j : Int)] [ppt w3.P, pfs w3.P] true := by rw [← h3q]; exact DT6
      repeat' ((fail_if_success with_reducible refine nph ?_); first | (with_reducible first | (refine d_seq ?_; intro K hK) | (refine hK _ _ ?_; clear hK K) | (refine SG.p ?_; try intro b)) | ((with_reducible refine SC.p ?_); refine And.intro ?_ ?_) <;> intro hc <;> try simp only [push_cast, Int.reduceEq, Int.reduceLT, Int.reduceLE, Int.reduceNe] at hc | with_reducible refine r_rq (by first | decide | omega) ?_ | ((with_reducible refine SL.p ?_); first | refine ⟨_, rfl, ?_⟩ | refine ⟨_, _, _, rfl, ?_⟩ | (refine ⟨?_, rfl, ?_⟩; focus (simp; done))) | ((with_reducible first | apply i_ldn | apply i_ldnq); exact rfl; exact rfl; exact rfl) | ((try with_reducible refine d_reg ?_); simp only [go_sem, Nat.reduceAdd, Nat.reduceEqDiff, Int.reduceToNat, Nat.reduceMul, Nat.reduceSub]) | clear hK K)
      all_goals try (exfalso; omega)
      refine i_clp DT7 ?_
      repeat' ((fail_if_success with_reducible refine nph ?_); first | (with_reducible first | (refine d_seq ?_; intro K hK) | (refine hK _ _ ?_; clear hK K) | (refine SG.p ?_; try intro b)) | ((with_reducible refine SC.p ?_); refine And.intro ?_ ?_) <;> intro hc <;> try simp only [push_cast, Int.reduceEq, Int.reduceLT, Int.reduceLE, Int.reduceNe] at hc | with_reducible refine r_rq (by first | decide | omega) ?_ | ((with_reducible refine SL.p ?_); first | refine ⟨_, rfl, ?_⟩ | refine ⟨_, _, _, rfl, ?_⟩ | (refine ⟨?_, rfl, ?_⟩; focus (simp; done))) | ((with_reducible first | apply i_ldn | apply i_ldnq); exact rfl; exact rfl; exact rfl) | ((try with_reducible refine d_reg ?_); simp only [go_sem, Nat.reduceAdd, Nat.reduceEqDiff, Int.reduceToNat, Nat.reduceMul, Nat.reduceSub]) | clear hK K)
      all_goals try contradiction
      rw [w64 (by omega) (by omega)]
      exact i_bk (j + 1) rfl (by omega) (by omega)
    · obtain rfl : j = i := by omega
      repeat' ((fail_if_success with_reducible refine nph ?_); first | (with_reducible first | (refine d_seq ?_; intro K hK) | (refine hK _ _ ?_; clear hK K) | (refine SG.p ?_; try intro b)) | ((with_reducible refine SC.p ?_); refine And.intro ?_ ?_) <;> intro hc <;> try simp only [push_cast, Int.reduceEq, Int.reduceLT, Int.reduceLE, Int.reduceNe] at hc | with_reducible refine r_rq (by first | decide | omega) ?_ | ((with_reducible refine SL.p ?_); first | refine ⟨_, rfl, ?_⟩ | refine ⟨_, _, _, rfl, ?_⟩ | (refine ⟨?_, rfl, ?_⟩; focus (simp; done))) | ((with_reducible first | apply i_ldn | apply i_ldnq); exact rfl; exact rfl; exact rfl) | ((try with_reducible refine d_reg ?_); simp only [go_sem, Nat.reduceAdd, Nat.reduceEqDiff, Int.reduceToNat, Nat.reduceMul, Nat.reduceSub]) | clear hK K)
      all_goals try (exfalso; omega)
      refine i_clq UN2 ?_
      repeat' ((fail_if_success with_reducible refine nph ?_); first | (with_reducible first | (refine d_seq ?_; intro K hK) | (refine hK _ _ ?_; clear hK K) | (refine SG.p ?_; try intro b)) | ((with_reducible refine SC.p ?_); refine And.intro ?_ ?_) <;> intro hc <;> try simp only [push_cast, Int.reduceEq, Int.reduceLT, Int.reduceLE, Int.reduceNe] at hc | with_reducible refine r_rq (by first | decide | omega) ?_ | ((with_reducible refine SL.p ?_); first | refine ⟨_, rfl, ?_⟩ | refine ⟨_, _, _, rfl, ?_⟩ | (refine ⟨?_, rfl, ?_⟩; focus (simp; done))) | ((with_reducible first | apply i_ldn | apply i_ldnq); exact rfl; exact rfl; exact rfl) | ((try with_reducible refine d_reg ?_); simp only [go_sem, Nat.reduceAdd, Nat.reduceEqDiff, Int.reduceToNat, Nat.reduceMul, Nat.reduceSub]) | clear hK K)
      refine i_clq GT5 ?_
      repeat' ((fail_if_success with_reducible refine nph ?_); first | (with_reducible first | (refine d_seq ?_; intro K hK) | (refine hK _ _ ?_; clear hK K) | (refine SG.p ?_; try intro b)) | ((with_reducible refine SC.p ?_); refine And.intro ?_ ?_) <;> intro hc <;> try simp only [push_cast, Int.reduceEq, Int.reduceLT, Int.reduceLE, Int.reduceNe] at hc | with_reducible refine r_rq (by first | decide | omega) ?_ | ((with_reducible refine SL.p ?_); first | refine ⟨_, rfl, ?_⟩ | refine ⟨_, _, _, rfl, ?_⟩ | (refine ⟨?_, rfl, ?_⟩; focus (simp; done))) | ((with_reducible first | apply i_ldn | apply i_ldnq); exact rfl; exact rfl; exact rfl) | ((try with_reducible refine d_reg ?_); simp only [go_sem, Nat.reduceAdd, Nat.reduceEqDiff, Int.reduceToNat, Nat.reduceMul, Nat.reduceSub]) | clear hK K)
      all_goals try contradiction
      refine r_ph0 ?_
      repeat' ((fail_if_success with_reducible refine nph ?_); first | (with_reducible first | (refine d_seq ?_; intro K hK) | (refine hK _ _ ?_; clear hK K) | (refine SG.p ?_; try intro b)) | ((with_reducible refine SC.p ?_); refine And.intro ?_ ?_) <;> intro hc <;> try simp only [push_cast, Int.reduceEq, Int.reduceLT, Int.reduceLE, Int.reduceNe] at hc | with_reducible refine r_rq (by first | decide | omega) ?_ | ((with_reducible refine SL.p ?_); first | refine ⟨_, rfl, ?_⟩ | refine ⟨_, _, _, rfl, ?_⟩ | (refine ⟨?_, rfl, ?_⟩; focus (simp; done))) | ((with_reducible first | apply i_ldn | apply i_ldnq); exact rfl; exact rfl; exact rfl) | ((try with_reducible refine d_reg ?_); simp only [go_sem, Nat.reduceAdd, Nat.reduceEqDiff, Int.reduceToNat, Nat.reduceMul, Nat.reduceSub]) | clear hK K)
      all_goals try contradiction
      refine i_clp DT8 ?_
      repeat' ((fail_if_success with_reducible refine nph ?_); first | (with_reducible first | (refine d_seq ?_; intro K hK) | (refine hK _ _ ?_; clear hK K) | (refine SG.p ?_; try intro b)) | ((with_reducible refine SC.p ?_); refine And.intro ?_ ?_) <;> intro hc <;> try simp only [push_cast, Int.reduceEq, Int.reduceLT, Int.reduceLE, Int.reduceNe] at hc | with_reducible refine r_rq (by first | decide | omega) ?_ | ((with_reducible refine SL.p ?_); first | refine ⟨_, rfl, ?_⟩ | refine ⟨_, _, _, rfl, ?_⟩ | (refine ⟨?_, rfl, ?_⟩; focus (simp; done))) | ((with_reducible first | apply i_ldn | apply i_ldnq); exact rfl; exact rfl; exact rfl) | ((try with_reducible refine d_reg ?_); simp only [go_sem, Nat.reduceAdd, Nat.reduceEqDiff, Int.reduceToNat, Nat.reduceMul, Nat.reduceSub]) | clear hK K)
      all_goals try contradiction
      refine r_ph0 ?_
      repeat' ((fail_if_success with_reducible refine nph ?_); first | (with_reducible first | (refine d_seq ?_; intro K hK) | (refine hK _ _ ?_; clear hK K) | (refine SG.p ?_; try intro b)) | ((with_reducible refine SC.p ?_); refine And.intro ?_ ?_) <;> intro hc <;> try simp only [push_cast, Int.reduceEq, Int.reduceLT, Int.reduceLE, Int.reduceNe] at hc | with_reducible refine r_rq (by first | decide | omega) ?_ | ((with_reducible refine SL.p ?_); first | refine ⟨_, rfl, ?_⟩ | refine ⟨_, _, _, rfl, ?_⟩ | (refine ⟨?_, rfl, ?_⟩; focus (simp; done))) | ((with_reducible first | apply i_ldn | apply i_ldnq); exact rfl; exact rfl; exact rfl) | ((try with_reducible refine d_reg ?_); simp only [go_sem, Nat.reduceAdd, Nat.reduceEqDiff, Int.reduceToNat, Nat.reduceMul, Nat.reduceSub]) | clear hK K)
      all_goals try contradiction
      refine i_ldq (e := eI) (o := 12) (gcl_lsn (i := 0) hg (by decide)) ?_
      repeat' ((fail_if_success with_reducible refine nph ?_); first | (with_reducible first | (refine d_seq ?_; intro K hK) | (refine hK _ _ ?_; clear hK K) | (refine SG.p ?_; try intro b)) | ((with_reducible refine SC.p ?_); refine And.intro ?_ ?_) <;> intro hc <;> try simp only [push_cast, Int.reduceEq, Int.reduceLT, Int.reduceLE, Int.reduceNe] at hc | with_reducible refine r_rq (by first | decide | omega) ?_ | ((with_reducible refine SL.p ?_); first | refine ⟨_, rfl, ?_⟩ | refine ⟨_, _, _, rfl, ?_⟩ | (refine ⟨?_, rfl, ?_⟩; focus (simp; done))) | ((with_reducible first | apply i_ldn | apply i_ldnq); exact rfl; exact rfl; exact rfl) | ((try with_reducible refine d_reg ?_); simp only [go_sem, Nat.reduceAdd, Nat.reduceEqDiff, Int.reduceToNat, Nat.reduceMul, Nat.reduceSub]) | clear hK K)
      refine i_clp IS2 ?_
      repeat' ((fail_if_success with_reducible refine nph ?_); first | (with_reducible first | (refine d_seq ?_; intro K hK) | (refine hK _ _ ?_; clear hK K) | (refine SG.p ?_; try intro b)) | ((with_reducible refine SC.p ?_); refine And.intro ?_ ?_) <;> intro hc <;> try simp only [push_cast, Int.reduceEq, Int.reduceLT, Int.reduceLE, Int.reduceNe] at hc | with_reducible refine r_rq (by first | decide | omega) ?_ | ((with_reducible refine SL.p ?_); first | refine ⟨_, rfl, ?_⟩ | refine ⟨_, _, _, rfl, ?_⟩ | (refine ⟨?_, rfl, ?_⟩; focus (simp; done))) | ((with_reducible first | apply i_ldn | apply i_ldnq); exact rfl; exact rfl; exact rfl) | ((try with_reducible refine d_reg ?_); simp only [go_sem, Nat.reduceAdd, Nat.reduceEqDiff, Int.reduceToNat, Nat.reduceMul, Nat.reduceSub]) | clear hK K)
      all_goals try contradiction
      refine i_clp g44 ?_
      repeat' ((fail_if_success with_reducible refine nph ?_); first | (with_reducible first | (refine d_seq ?_; intro K hK) | (refine hK _ _ ?_; clear hK K) | (refine SG.p ?_; try intro b)) | ((with_reducible refine SC.p ?_); refine And.intro ?_ ?_) <;> intro hc <;> try simp only [push_cast, Int.reduceEq, Int.reduceLT, Int.reduceLE, Int.reduceNe] at hc | with_reducible refine r_rq (by first | decide | omega) ?_ | ((with_reducible refine SL.p ?_); first | refine ⟨_, rfl, ?_⟩ | refine ⟨_, _, _, rfl, ?_⟩ | (refine ⟨?_, rfl, ?_⟩; focus (simp; done))) | ((with_reducible first | apply i_ldn | apply i_ldnq); exact rfl; exact rfl; exact rfl) | ((try with_reducible refine d_reg ?_); simp only [go_sem, Nat.reduceAdd, Nat.reduceEqDiff, Int.reduceToNat, Nat.reduceMul, Nat.reduceSub]) | clear hK K)
      (with_reducible first | apply i_ret0 | apply i_ret2 | apply i_ret3 | apply i_ret); exact rfl
      rfl
theorem g10i (n c : Int) (h : 0 ≤ c ∧ c ≤ 255) : Fp eB Tryz.prog 10 #[.int .i64 n, .int .u8 c] [] true := by
  have e : ((UInt8.ofNat c.toNat).toNat : Int) = c := by
    rw [UInt8.toNat_ofNat']
    omega
  have := g10 n (UInt8.ofNat c.toNat)
  rwa [e] at this
end Go.Sp
