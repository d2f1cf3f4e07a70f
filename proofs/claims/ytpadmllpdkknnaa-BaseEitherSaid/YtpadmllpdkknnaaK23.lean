/- An owned slice opened as a block of cells, and closed again. -/
import Derived.Test.YtpadmllpdkknnaaK22
namespace Go.Sp
open Go
section
variable {L L' R : List HP} {G : W} {t : TypeId} {sz n c : Nat} {xs cs : List Value}
/-- What is owned and has something is a block: its cells, and some behind them. -/
theorem i_owar {p : Option Addr} (hn : n ≠ 0) [ho : O1 L t sz (p, n, c) xs L'] (h : ∀ g tl, p = some ⟨g, 0, none⟩ → xs.length = n * sz → n ≤ c → c ≤ maxLen → (xs ++ tl).length = c * sz → E (ar g t (xs ++ tl) :: L') G) : E L G := fun w hw => by
  have hw' := ho.p.hs hw
  obtain ⟨a, r, d, sa, sr, ⟨h1, h2⟩, hL⟩ := hw'
  rcases h2 with h2 | ⟨g, cap, cur, hs, hg, hle, hm, hcs, ht⟩
  · simp only [Prod.mk.injEq] at h2
    exact absurd h2.2.1 hn
  · simp only [Prod.mk.injEq, true_and] at hs
    obtain ⟨rfl, rfl⟩ := hs
    have e : cur.toList = xs ++ cur.toList.drop (n * sz) := by rw [← ht, List.take_append_drop]
    refine h g (cur.toList.drop (n * sz)) rfl h1 hle hm (by rw [← e]; simpa using hcs) w ⟨a, r, d, sa, sr, ?_, hL⟩
    show a (g + 1) = _
    rw [hg, ← e]
/-- And back. -/
theorem i_arow {g : Nat} {tl : List Value} [ha : A1 L g t cs L'] (e : cs = xs ++ tl) (hl : xs.length = n * sz) (hn : n ≤ c) (hc : c ≤ maxLen) (hcl : (xs ++ tl).length = c * sz)
    (h : E (ow t sz (some ⟨g, 0, none⟩, n, c) xs :: L') G) : E L G := by
  subst e
  exact r_arow ha.p hcl hn hc (by rw [← hl]; simp) h
theorem i_snq {α : Type} {cel : α → List Value} {A : HP} {a : Addr} {n c sz i : Nat} {xs : List α} {x : α} {e : Enc} {R : List HP} {k : e.α → W} {y : e.α} (hR : Rs A (some a, n, c) sz (xs.flatMap cel)) (hc : ∀ x, (cel x).length = sz) (hx : xs[i]? = some x) [ha : AX R A L'] (he : e.enc y = .agg (cel x).toArray) (h : E L (k y)) : E L (ldnq (HW R) e sz (a.add (i * sz)) k) :=
  r_snq hR hc hx ha.p he h
theorem i_sn {α : Type} {cel : α → List Value} {A : HP} {a : Addr} {n c sz i : Nat} {xs : List α} {x : α} {e : Enc} {k : e.α → W} {y : e.α} (hR : Rs A (some a, n, c) sz (xs.flatMap cel)) (hc : ∀ x, (cel x).length = sz) (hx : xs[i]? = some x) [ha : AX L A L'] (he : e.enc y = .agg (cel x).toArray) (h : E L (k y)) : E L (ldn e sz (a.add (i * sz)) k) :=
  r_sn hR hc hx ha.p he h
end
/-! Texts as arguments. -/
abbrev cS (s : List UInt8) : List Value := [str s]
theorem cS_len (s : List UInt8) : (cS s).length = 1 := rfl
theorem i_s0 {e : Enc} {L L' : List HP} {A : HP} {α : Type} {cel : α → List Value} {a : Addr} {n c sz i : Nat} {xs : List α} {x : α} {k : e.α → W} {y : e.α} (hR : Rs A (some a, n, c) sz (xs.flatMap cel)) (hc : ∀ x, (cel x).length = sz) (hx : xs[i]? = some x) [ha : AX L A L'] (hv : (cel x)[0]? = some (e.enc y)) (h : E L (k y)) : E L (ld e (a.add (i * sz)) k) :=
  r_s0 hR hc hx ha.p hv h
theorem i_s1 {L L' : List HP} {A : HP} {a : Addr} {n c i : Nat} {xs : List (List UInt8)} {k : List UInt8 → W} (hR : Rs A (some a, n, c) 1 (xs.flatMap cS)) (hi : i < xs.length) [ha : AX L A L'] (h : E L (k (xs.getD i []))) : E L (ld eS (a.add i) k) := by
  have := r_s0 (e := eS) (y := xs.getD i []) hR cS_len (x := xs.getD i []) (i := i) (by simp [hi]) ha.p rfl h
  rwa [Nat.mul_one] at this
abbrev cN (n : Int) : List Value := [.int .i64 n]
theorem cN_len (n : Int) : (cN n).length = 1 := rfl
theorem i_n1 {L L' : List HP} {A : HP} {a : Addr} {n c i : Nat} {xs : List Int} {k : Int → W} (hR : Rs A (some a, n, c) 1 (xs.flatMap cN)) (hi : i < xs.length) [ha : AX L A L'] (h : E L (k (xs.getD i 0))) : E L (ld eI (a.add i) k) := by
  have := r_s0 (e := eI) (y := xs.getD i 0) hR cN_len (x := xs.getD i 0) (i := i) (by simp [hi]) ha.p rfl h
  rwa [Nat.mul_one] at this
theorem num_of {cs : List Value} (h : lfs [.i .i64] cs) : ∃ x : Int, cs = cN x ∧ wf64 x := by
  rcases cs with _ | ⟨v0, _ | ⟨v1, r⟩⟩ <;> try (simp [lfs] at h; done)
  obtain ⟨⟨k, rfl, hk⟩, _⟩ := h
  exact ⟨k, rfl, by simpa [Lit.wf, IntKind.min, IntKind.max, IntKind.signed, IntKind.bits, wf64] using hk⟩
theorem txt_of {cs : List Value} (h : lfs [.s] cs) : ∃ x : List UInt8, cs = cS x ∧ True := by
  rcases cs with _ | ⟨v0, _ | ⟨v1, r⟩⟩ <;> try (simp [lfs] at h; done)
  obtain ⟨⟨k, rfl, _⟩, _⟩ := h
  exact ⟨k, rfl, trivial⟩
end Go.Sp
