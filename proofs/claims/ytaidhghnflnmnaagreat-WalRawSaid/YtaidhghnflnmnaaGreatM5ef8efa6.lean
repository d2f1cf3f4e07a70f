/- Texts of a proof, one behind the other: D11 D12 Gw0 Gwo0 U1 K25 Gs0 Gq0 S1 S2 S3 S4 S5 U2 U3 U4 U5 U6 U7. No condition. -/
import Derived.Test.YtaidhghnflnmnaaGreatM24bc317d
import Derived.Test.YtaidhghnflnmnaaGreatM188378f7
import Derived.Test.YtaidhghnflnmnaaGreatM5b477d79
import Derived.Lib.Builder
import Derived.Lib.AppendStr
import Derived.Lib.UnsafeStr
import Derived.Test.YtaidhghnflnmnaaGreatMef586ca4
/- The disk: many writes, a sync, many writes, a loss of power. -/
namespace Go.Sp
open Go Go.Proofs
set_option linter.unusedSimpArgs false
set_option linter.unusedVariables false
/-- The first texts of a list are written, each that has room. -/
def Dk.wr (D : Dk) (l : List (List UInt8)) : Nat → Dk
  | 0 => D
  | i + 1 => if (l.getD i []).length ≤ 64 then ((D.wr l i).write (i : Int) (l.getD i [])).2 else D.wr l i
/-- A disk that nothing lets go. -/
structure Dk.calm (D : Dk) (sb : Nat) (n : Nat) : Prop where
  ok : D.ok
  sb : D.sb = sb
  up : D.up = true
  fu : D.fuse < 0
  n : D.sure.length = n
theorem Dk.calm.chk {D : Dk} {sb n : Nat} (h : D.calm sb n) {i : Nat} (hi : i < n) : D.chk (i : Int) = 0 := by
  unfold Dk.chk
  rw [h.up, h.n, if_neg (by simp), if_neg (by omega)]
theorem Dk.calm.write {D : Dk} {sb n : Nat} (h : D.calm sb n) {i : Nat} (hi : i < n) {s : List UInt8} (hs : s.length ≤ 64) :
    (D.write (i : Int) s).1 = 0 ∧ (D.write (i : Int) s).2.calm sb n ∧ (D.write (i : Int) s).2.sure = D.sure ∧ (D.write (i : Int) s).2.downs = D.downs ∧ ∀ j : Int, gk (D.write (i : Int) s).2.es j = if (i : Int) = j then some (wh s) else gk D.es j := by
  have hok := Dk.write_ok h.ok (i : Int) s
  rw [Dk.write_go (h.chk hi) hs h.fu] at hok ⊢
  exact ⟨rfl, ⟨hok, h.sb, h.up, h.fu, h.n⟩, rfl, rfl, fun j => gk_pk _ _ _ _ _⟩
theorem Dk.calm.wr {D : Dk} {sb n : Nat} (h : D.calm sb n) (l : List (List UInt8)) : ∀ i, i ≤ n → (D.wr l i).calm sb n ∧ (D.wr l i).sure = D.sure ∧ ∀ j : Nat, gk (D.wr l i).es (j : Int) = if j < i ∧ (l.getD j []).length ≤ 64 then some (wh (l.getD j [])) else gk D.es (j : Int)
  | 0, _ => ⟨h, rfl, fun j => by simp [Dk.wr]⟩
  | i + 1, hi => by
    obtain ⟨h1, h2, h3⟩ := Dk.calm.wr h l i (by omega)
    unfold Dk.wr
    split
    · rename_i hs
      obtain ⟨_, w2, w3, _, w5⟩ := h1.write (by omega : i < n) hs
      refine ⟨w2, w3.trans h2, fun j => ?_⟩
      rw [w5, h3]
      by_cases hj : i = j
      · subst hj
        rw [if_pos rfl, if_pos ⟨by omega, hs⟩]
      · rw [if_neg (by omega)]
        by_cases hc : j < i ∧ (l.getD j []).length ≤ 64
        · rw [if_pos hc, if_pos ⟨by omega, hc.2⟩]
        · rw [if_neg hc, if_neg (fun hc' => hc ⟨by omega, hc'.2⟩)]
    · rename_i hs
      refine ⟨h1, h2, fun j => ?_⟩
      rw [h3]
      by_cases hj : i = j
      · subst hj
        rw [if_neg (by omega), if_neg (fun hc => hs hc.2)]
      · by_cases hc : j < i ∧ (l.getD j []).length ≤ 64
        · rw [if_pos hc, if_pos ⟨by omega, hc.2⟩]
        · rw [if_neg hc, if_neg (fun hc' => hc ⟨by omega, hc'.2⟩)]
theorem Dk.calm.sync {D : Dk} {sb n : Nat} (h : D.calm sb n) (hn : 0 < n) : D.sync.1 = 0 ∧ D.sync.2.calm sb n ∧ D.sync.2.es = [] ∧ D.sync.2.downs = D.downs ∧ ∀ j : Nat, j < n → D.sync.2.get (j : Int) = D.get (j : Int) := by
  have hok := Dk.sync_ok h.ok
  have hc := h.chk hn
  rw [Dk.sync_go hc h.fu] at hok ⊢
  have hA : ({ D with acts := IntKind.wrap .i64 (D.acts + 1) } : Dk).ok := by
    obtain ⟨g1, g2, g3, g4, g5, g6, g7, g8, g9, g10⟩ := h.ok
    exact ⟨g1, g2, g3, g4, g5, g6, g7, g8, g9, g10⟩
  refine ⟨rfl, ⟨hok, h.sb, h.up, h.fu, ?_⟩, rfl, rfl, fun j hj => ?_⟩
  · show (sy D.es D.sure).length = n
    rw [sy_len]; exact h.n
  · exact Dk.flush_get hA (by rw [← h.n] at hj; exact hj)
theorem Dk.calm.new {sb bb mb n : Nat} (h0 : 0 < n) (h1 : n ≤ 8192) : (Dk.new sb bb mb n).calm sb n := ⟨Dk.new_ok h0 h1, rfl, rfl, (by decide : (-1 : Int) < 0), by simp [Dk.new]⟩
theorem Dk.calm.off {D : Dk} {sb n : Nat} (h : D.calm sb n) (keep : Int) : (D.off keep).on.calm sb n ∧ (D.off keep).up = false ∧ (D.off keep).ok ∧ (D.off keep).sb = sb ∧
    ∀ j : Nat, (D.off keep).on.get (j : Int) = wh (D.sure.getD j []) ∨ ∃ v, gk D.es (j : Int) = some v ∧ v.length = 64 ∧ (D.off keep).on.get (j : Int) = v := by
  have hok := Dk.off_ok h.ok keep
  refine ⟨⟨Dk.on_ok hok, h.sb, rfl, (by decide : (-1 : Int) < 0), ?_⟩, rfl, hok, h.sb, fun j => ?_⟩
  · show (D.cutn keep D.keys.length).length = n
    rw [Dk.cutn_len]; exact h.n
  · have e : (D.off keep).on.get (j : Int) = wh ((D.cutn keep D.keys.length).getD j []) := rfl
    rw [e]
    rcases Dk.cut_or h.ok keep D.keys.length (Nat.le_refl _) j with h1 | h1
    · left; rw [h1]
    · right
      obtain ⟨x, hx, _, hv⟩ := gk_mem h1
      have h64 := h.ok.e64 x hx
      rw [hv] at h64
      exact ⟨_, h1, h64, wh_full h64⟩
/-- What is to be read of a list's place. -/
def was (l : List (List UInt8)) (j : Nat) : List UInt8 := if j < l.length ∧ (l.getD j []).length ≤ 64 then wh (l.getD j []) else wh []
theorem lasts {D : Dk} {sb n : Nat} (h : D.calm sb n) (he : D.es = []) (hn : 0 < n) (m : List (List UInt8)) {k : Nat} (hk : k ≤ n) (hm : k ≤ m.length) (keep : Int) {j : Nat} (hj : j < n) :
    ((D.wr m k).off keep).on.get (j : Int) = D.get (j : Int) ∨ (j < m.length ∧ (m.getD j []).length ≤ 64 ∧ ((D.wr m k).off keep).on.get (j : Int) = wh (m.getD j [])) := by
  obtain ⟨h1, h2, h3⟩ := h.wr m k hk
  obtain ⟨_, _, _, _, h4⟩ := h1.off keep
  rcases h4 j with h5 | ⟨v, h5, h6, h7⟩
  · left
    rw [h5, h2]
    unfold Dk.get
    rw [he]
    simp [gk]
  · right
    rw [h3] at h5
    by_cases hc : j < k ∧ (m.getD j []).length ≤ 64
    · rw [if_pos hc] at h5
      exact ⟨by omega, hc.2, by rw [h7]; simpa using h5.symm⟩
    · rw [if_neg hc, he] at h5
      cases h5
theorem Dk.write_sb (D : Dk) (i : Int) (s : List UInt8) : (D.write i s).2.sb = D.sb := by
  have := Dk.act_sb D
  unfold Dk.write
  split
  · split
    · rfl
    · split
      · exact this
      · exact this
  · rfl
end Go.Sp
/- The disk: its calls where nothing lets it go. -/
namespace Go.Sp
open Go Go.Proofs
set_option linter.unusedSimpArgs false
set_option linter.unusedVariables false
set_option maxRecDepth 10000
theorem Dk.calm.p {D : Dk} {sb n : Nat} (h : D.calm sb n) : D.p = .pointer (some ⟨sb, 0, none⟩) := by simp only [Dk.p, h.sb]
theorem calm_w {D : Dk} {sb n : Nat} (h : D.calm sb n) {i : Nat} (hi : i < n) {s : List UInt8} (hs : s.length ≤ 64) : Fq eI Tryz.prog 24 #[.pointer (some ⟨sb, 0, none⟩), .int .i64 (i : Int), str s] [dk D] [dk (D.write (i : Int) s).2] 0 := by
  have := F27 D h.ok (i : Int) s
  rw [(h.write hi hs).1, h.p] at this
  exact this
theorem calm_c {D : Dk} {sb n : Nat} (h : D.calm sb n) (hn : 0 < n) (keep : Int) : Fq eI Tryz.prog 62 #[.pointer (some ⟨sb, 0, none⟩), .int .u64 keep] [dk D] [dk (D.off keep)] 0 := by
  have := F29 D h.ok keep
  have e := h.chk hn
  rw [show ((0 : Nat) : Int) = 0 from rfl] at e
  rw [e, h.p, if_pos rfl] at this
  exact this
theorem calm_o {D : Dk} {sb n : Nat} (h : D.calm sb n) (keep : Int) : Fq eI Tryz.prog 64 #[.pointer (some ⟨sb, 0, none⟩)] [dk (D.off keep)] [dk (D.off keep).on] 0 := by
  obtain ⟨h1, h2, h3, h4, h5⟩ := h.off keep
  have := F30 (D.off keep) h3
  rw [h2, if_neg Bool.false_ne_true] at this
  simp only [Dk.p, h4] at this
  exact this
end Go.Sp
/- What each region of the Go functions does. Written by my own generator. -/
namespace Go.Sp
open Go
set_option maxRecDepth 100000
set_option linter.unusedVariables false
open Go.Proofs
/-! gharry.wal.check -/
noncomputable def c67 : Cfg := { P := Tryz.prog, n := 41, T := TT, body := (Tryz.f67.body).getD .skip, res := Tryz.f67.results.toList, li := lk [] [(0, [0, 1, 2, 3]), (1, [0, 1, 2, 3]), (2, []), (3, [0, 1, 2]), (4, []), (5, [])], lo := lk [] [(0, [0, 1, 2, 3]), (1, [0, 1, 2, 9]), (2, [8]), (3, [28]), (4, [8]), (5, [8]), (1000000, [8])], ord := lk (false, []) [] }
@[go_sem] theorem c67_i0 : c67.li 0 = [0, 1, 2, 3] := rfl
@[go_sem] theorem c67_i1 : c67.li 1 = [0, 1, 2, 3] := rfl
@[go_sem] theorem c67_i2 : c67.li 2 = [] := rfl
@[go_sem] theorem c67_i3 : c67.li 3 = [0, 1, 2] := rfl
@[go_sem] theorem c67_i4 : c67.li 4 = [] := rfl
@[go_sem] theorem c67_i5 : c67.li 5 = [] := rfl
@[go_sem] theorem c67_r0 (d0 : Option Addr) (base1 : Int) (sectors2 : Int) (run3 : Int) (K : Env → W) : RP c67 0 [(0, .pointer d0), (1, .int .i64 base1), (2, .int .i64 sectors2), (3, .int .i64 run3)] K =
    (K [(0, .pointer d0), (1, .int .i64 base1), (2, .int .i64 sectors2), (3, .int .i64 run3)]) := by kernel_rfl
@[go_sem] theorem c67_r1 (d0 : Option Addr) (base1 : Int) (sectors2 : Int) (run3 : Int) (K : Env → W) : RP c67 1 [(0, .pointer d0), (1, .int .i64 base1), (2, .int .i64 sectors2), (3, .int .i64 run3)] K =
    (cnd ((d0).isNone) (K [(0, .pointer d0), (1, .int .i64 base1), (2, .int .i64 sectors2), (9, .bool true)]) (cnd ((decide (base1 < (0 : Int)))) (K [(0, .pointer d0), (1, .int .i64 base1), (2, .int .i64 sectors2), (9, .bool true)]) (cnd ((decide (sectors2 < (1 : Int)))) (K [(0, .pointer d0), (1, .int .i64 base1), (2, .int .i64 sectors2), (9, .bool true)]) (cnd ((decide (run3 < (1 : Int)))) (K [(0, .pointer d0), (1, .int .i64 base1), (2, .int .i64 sectors2), (9, .bool true)]) (K [(0, .pointer d0), (1, .int .i64 base1), (2, .int .i64 sectors2), (9, .bool ((decide ((4294967296 : Int) ≤ run3))))]))))) := by kernel_rfl
@[go_sem] theorem c67_r2 (K : Env → W) : RP c67 2 [] K =
    (K [(8, .int .i64 (1 : Int))]) := by kernel_rfl
@[go_sem] theorem c67_r3 (d0 : Option Addr) (base1 : Int) (sectors2 : Int) (K : Env → W) : RP c67 3 [(0, .pointer d0), (1, .int .i64 base1), (2, .int .i64 sectors2)] K =
    (cal eI Tryz.prog 99 #[.pointer d0] fun (y1_ : Int) => (cnd ((decide (y1_ < base1))) (K [(28, .bool true)]) (cal eI Tryz.prog 99 #[.pointer d0] fun (y2_ : Int) => (K [(28, .bool ((decide ((IntKind.wrap .i64 (y2_ - base1)) < sectors2))))])))) := by kernel_rfl
@[go_sem] theorem c67_r4 (K : Env → W) : RP c67 4 [] K =
    (K [(8, .int .i64 (6 : Int))]) := by kernel_rfl
@[go_sem] theorem c67_r5 (K : Env → W) : RP c67 5 [] K =
    (K [(8, .int .i64 (0 : Int))]) := by kernel_rfl
@[go_sem] theorem c67_o : c67.lo 1000000 = [8] := rfl
@[go_sem] theorem c67_e (t8 : Int) (k : Value → W) : RTp c67 [(8, .int .i64 t8)] k = (k (.int .i64 t8)) := by kernel_rfl
theorem c67_ok : (c67.P.follows .mixedOrders && okc c67 c67.body) = true := by kernel_rfl
theorem c67_fn {e : Enc} {args : Array Value} {G : e.α → W} {L : List HP} {ρ : Env} (hρ : envA 0 args.toList = ρ) (hs : Nat.ble args.size 41 = true) (h : E L (D c67 (.seq (.reg 0) (.seq (.block 0 (.seq (.reg 1) (.cond (.tmp 9) (.seq (.reg 2) (.ret)) (.seq (.reg 3) (.cond (.tmp 28) (.seq (.reg 4) (.ret)) (.skip)))))) (.seq (.reg 5) (.ret)))) (fnQ c67 e G) ρ)) : E L (cal e Tryz.prog 67 args G) :=
  d_fn (c := c67) Tryz.func67 (by kernel_rfl) (by kernel_rfl) (by kernel_rfl) c67_ok (by kernel_rfl) (by kernel_rfl) hρ hs h
/-! (*gharry.wal.Log).scan -/
noncomputable def c68 : Cfg := { P := Tryz.prog, n := 66, T := TT, body := (Tryz.f68.body).getD .skip, res := Tryz.f68.results.toList, li := lk [] [(0, [0]), (1, [0]), (2, [0, 4]), (3, [0, 4, 5]), (4, [0, 4, 5, 15, 16]), (5, [0, 4, 5, 15, 16]), (6, [0, 4, 5, 6, 15, 16]), (7, [0, 4, 5, 7, 8, 15, 16]), (8, [8]), (9, [0, 4, 5, 7, 15, 16]), (10, [0, 4, 5, 9, 15, 16]), (11, [0, 4, 5, 9, 10, 11, 15, 16]), (12, [0, 4, 9, 10, 11, 15, 16]), (13, [0, 4, 5, 9, 11, 15, 16]), (14, [0, 4, 5, 11, 15, 16]), (15, [0, 4, 5, 15, 16]), (16, [4])], lo := lk [] [(0, [0]), (1, [0, 4]), (2, [0, 4, 5]), (3, [0, 4, 5, 15, 16]), (4, [0, 4, 5, 15, 16, 17]), (5, [0, 4, 5, 6, 15, 16]), (6, [0, 4, 5, 7, 8, 15, 16]), (7, [0, 4, 5, 7, 8, 15, 16, 34]), (8, [2, 3]), (9, [0, 4, 5, 9, 15, 16]), (10, [0, 4, 5, 9, 10, 11, 15, 16]), (11, [0, 4, 9, 10, 11, 15, 16, 56]), (12, [0, 4, 5, 9, 11, 15, 16]), (13, [0, 4, 5, 11, 15, 16]), (14, [0, 4, 5, 15, 16, 63]), (15, [0, 4, 5, 15, 16]), (16, [2, 3]), (1000000, [2, 3])], ord := lk (false, []) [(6, (true, [(0, 1), (1, 1), (2, 1), (3, 0), (4, 1), (5, 1), (6, 1), (7, 0), (8, 1), (9, 1), (10, 4), (11, 1), (12, 1), (13, 1), (14, 1), (15, 1)]))] }
@[go_sem] theorem c68_i0 : c68.li 0 = [0] := rfl
@[go_sem] theorem c68_i1 : c68.li 1 = [0] := rfl
@[go_sem] theorem c68_i2 : c68.li 2 = [0, 4] := rfl
@[go_sem] theorem c68_i3 : c68.li 3 = [0, 4, 5] := rfl
@[go_sem] theorem c68_i4 : c68.li 4 = [0, 4, 5, 15, 16] := rfl
@[go_sem] theorem c68_i5 : c68.li 5 = [0, 4, 5, 15, 16] := rfl
@[go_sem] theorem c68_i6 : c68.li 6 = [0, 4, 5, 6, 15, 16] := rfl
@[go_sem] theorem c68_i7 : c68.li 7 = [0, 4, 5, 7, 8, 15, 16] := rfl
@[go_sem] theorem c68_i8 : c68.li 8 = [8] := rfl
@[go_sem] theorem c68_i9 : c68.li 9 = [0, 4, 5, 7, 15, 16] := rfl
@[go_sem] theorem c68_i10 : c68.li 10 = [0, 4, 5, 9, 15, 16] := rfl
@[go_sem] theorem c68_i11 : c68.li 11 = [0, 4, 5, 9, 10, 11, 15, 16] := rfl
@[go_sem] theorem c68_i12 : c68.li 12 = [0, 4, 9, 10, 11, 15, 16] := rfl
@[go_sem] theorem c68_i13 : c68.li 13 = [0, 4, 5, 9, 11, 15, 16] := rfl
@[go_sem] theorem c68_i14 : c68.li 14 = [0, 4, 5, 11, 15, 16] := rfl
@[go_sem] theorem c68_i15 : c68.li 15 = [0, 4, 5, 15, 16] := rfl
@[go_sem] theorem c68_i16 : c68.li 16 = [4] := rfl
@[go_sem] theorem c68_r0 (l0 : Option Addr) (K : Env → W) : RP c68 0 [(0, .pointer l0)] K =
    (K [(0, .pointer l0)]) := by kernel_rfl
@[go_sem] theorem c68_r1 (l0 : Option Addr) (K : Env → W) : RP c68 1 [(0, .pointer l0)] K =
    (nwc #[.pointer none, .slice none 0 0] 144 fun y1_ => (K [(0, .pointer l0), (4, .pointer (some y1_))])) := by kernel_rfl
@[go_sem] theorem c68_r2 (l0 : Option Addr) (b4 : Addr) (K : Env → W) : RP c68 2 [(0, .pointer l0), (4, .pointer (some b4))] K =
    (K [(0, .pointer l0), (4, .pointer (some b4)), (5, .int .i64 (1 : Int))]) := by kernel_rfl
@[go_sem] theorem c68_r3 (l0 : Option Addr) (b4 : Addr) (run5 : Int) (K : Env → W) : RP c68 3 [(0, .pointer l0), (4, .pointer (some b4)), (5, .int .i64 run5)] K =
    (nn l0 fun y1_ => (ld eI ((y1_.add 2)) fun (y2_ : Int) => (K [(0, .pointer l0), (4, .pointer (some b4)), (5, .int .i64 run5), (15, .int .i64 y2_), (16, .int .i64 (0 : Int))]))) := by kernel_rfl
@[go_sem] theorem c68_r4 (l0 : Option Addr) (b4 : Addr) (run5 : Int) (t15 : Int) (t16 : Int) (K : Env → W) : RP c68 4 [(0, .pointer l0), (4, .pointer (some b4)), (5, .int .i64 run5), (15, .int .i64 t15), (16, .int .i64 t16)] K =
    (K [(0, .pointer l0), (4, .pointer (some b4)), (5, .int .i64 run5), (15, .int .i64 t15), (16, .int .i64 t16), (17, .bool ((decide (t16 < t15))))]) := by kernel_rfl
@[go_sem] theorem c68_r5 (l0 : Option Addr) (b4 : Addr) (run5 : Int) (t15 : Int) (t16 : Int) (K : Env → W) : RP c68 5 [(0, .pointer l0), (4, .pointer (some b4)), (5, .int .i64 run5), (15, .int .i64 t15), (16, .int .i64 t16)] K =
    (K [(0, .pointer l0), (4, .pointer (some b4)), (5, .int .i64 run5), (6, .int .i64 t16), (15, .int .i64 t15), (16, .int .i64 t16)]) := by kernel_rfl
@[go_sem] theorem c68_r6 (l0 : Option Addr) (b4 : Addr) (run5 : Int) (i6 : Int) (t15 : Int) (t16 : Int) (K : Env → W) : RP c68 6 [(0, .pointer l0), (4, .pointer (some b4)), (5, .int .i64 run5), (6, .int .i64 i6), (15, .int .i64 t15), (16, .int .i64 t16)] K =
    (ph fun S0 => (nn l0 fun y1_ => (ldq S0 eP y1_ fun (y2_ : Option Addr) => (nn l0 fun y3_ => (ldq S0 eI ((y3_.add 1)) fun (y4_ : Int) => (cal (eT2 eS eI) Tryz.prog 22 #[.pointer y2_, .int .i64 ((IntKind.wrap .i64 (y4_ + i6)))] fun (y5_ : ((List UInt8) × Int)) => (K [(0, .pointer l0), (4, .pointer (some b4)), (5, .int .i64 run5), (7, str y5_.1), (8, .int .i64 y5_.2), (15, .int .i64 t15), (16, .int .i64 t16)]))))))) := by kernel_rfl
@[go_sem] theorem c68_r7 (l0 : Option Addr) (b4 : Addr) (run5 : Int) (s7 : List UInt8) (e8 : Int) (t15 : Int) (t16 : Int) (K : Env → W) : RP c68 7 [(0, .pointer l0), (4, .pointer (some b4)), (5, .int .i64 run5), (7, str s7), (8, .int .i64 e8), (15, .int .i64 t15), (16, .int .i64 t16)] K =
    (K [(0, .pointer l0), (4, .pointer (some b4)), (5, .int .i64 run5), (7, str s7), (8, .int .i64 e8), (15, .int .i64 t15), (16, .int .i64 t16), (34, .bool ((e8 != (0 : Int))))]) := by kernel_rfl
@[go_sem] theorem c68_r8 (e8 : Int) (K : Env → W) : RP c68 8 [(8, .int .i64 e8)] K =
    (K [(2, str (([] : List UInt8))), (3, .int .i64 e8)]) := by kernel_rfl
@[go_sem] theorem c68_r9 (l0 : Option Addr) (b4 : Addr) (run5 : Int) (s7 : List UInt8) (t15 : Int) (t16 : Int) (K : Env → W) : RP c68 9 [(0, .pointer l0), (4, .pointer (some b4)), (5, .int .i64 run5), (7, str s7), (15, .int .i64 t15), (16, .int .i64 t16)] K =
    (cal eP Tryz.prog 84 #[str s7] fun (y1_ : Option Addr) => (K [(0, .pointer l0), (4, .pointer (some b4)), (5, .int .i64 run5), (9, .pointer y1_), (15, .int .i64 t15), (16, .int .i64 t16)])) := by kernel_rfl
@[go_sem] theorem c68_r10 (l0 : Option Addr) (b4 : Addr) (run5 : Int) (r9 : Option Addr) (t15 : Int) (t16 : Int) (K : Env → W) : RP c68 10 [(0, .pointer l0), (4, .pointer (some b4)), (5, .int .i64 run5), (9, .pointer r9), (15, .int .i64 t15), (16, .int .i64 t16)] K =
    (cal eI Tryz.prog 85 #[.pointer r9, .int .i64 (4 : Int)] fun (y1_ : Int) => (cal eI Tryz.prog 85 #[.pointer r9, .int .i64 (2 : Int)] fun (y2_ : Int) => (K [(0, .pointer l0), (4, .pointer (some b4)), (5, .int .i64 run5), (9, .pointer r9), (10, .int .i64 y1_), (11, .int .i64 y2_), (15, .int .i64 t15), (16, .int .i64 t16)]))) := by kernel_rfl
@[go_sem] theorem c68_r11 (l0 : Option Addr) (b4 : Addr) (run5 : Int) (r9 : Option Addr) (at10 : Int) (n11 : Int) (t15 : Int) (t16 : Int) (K : Env → W) : RP c68 11 [(0, .pointer l0), (4, .pointer (some b4)), (5, .int .i64 run5), (9, .pointer r9), (10, .int .i64 at10), (11, .int .i64 n11), (15, .int .i64 t15), (16, .int .i64 t16)] K =
    (cnd ((decide (at10 < run5))) (K [(0, .pointer l0), (4, .pointer (some b4)), (9, .pointer r9), (10, .int .i64 at10), (11, .int .i64 n11), (15, .int .i64 t15), (16, .int .i64 t16), (56, .bool true)]) (nn l0 fun y1_ => (ld eI ((y1_.add 3)) fun (y2_ : Int) => (cnd ((decide (y2_ < at10))) (K [(0, .pointer l0), (4, .pointer (some b4)), (9, .pointer r9), (10, .int .i64 at10), (11, .int .i64 n11), (15, .int .i64 t15), (16, .int .i64 t16), (56, .bool true)]) (K [(0, .pointer l0), (4, .pointer (some b4)), (9, .pointer r9), (10, .int .i64 at10), (11, .int .i64 n11), (15, .int .i64 t15), (16, .int .i64 t16), (56, .bool ((decide ((58 : Int) < n11))))]))))) := by kernel_rfl
@[go_sem] theorem c68_r12 (l0 : Option Addr) (b4 : Addr) (r9 : Option Addr) (at10 : Int) (n11 : Int) (t15 : Int) (t16 : Int) (K : Env → W) : RP c68 12 [(0, .pointer l0), (4, .pointer (some b4)), (9, .pointer r9), (10, .int .i64 at10), (11, .int .i64 n11), (15, .int .i64 t15), (16, .int .i64 t16)] K =
    (K [(0, .pointer l0), (4, .pointer (some b4)), (5, .int .i64 at10), (9, .pointer r9), (11, .int .i64 n11), (15, .int .i64 t15), (16, .int .i64 t16)]) := by kernel_rfl
@[go_sem] theorem c68_r13 (l0 : Option Addr) (b4 : Addr) (run5 : Int) (r9 : Option Addr) (n11 : Int) (t15 : Int) (t16 : Int) (K : Env → W) : RP c68 13 [(0, .pointer l0), (4, .pointer (some b4)), (5, .int .i64 run5), (9, .pointer r9), (11, .int .i64 n11), (15, .int .i64 t15), (16, .int .i64 t16)] K =
    (cal eS Tryz.prog 101 #[.pointer r9, .int .i64 n11] fun (y1_ : List UInt8) => (cal (eT2 eI eV) Tryz.prog 100 #[.pointer (some b4), str y1_] fun (y2_ : (Int × Value)) => (K [(0, .pointer l0), (4, .pointer (some b4)), (5, .int .i64 run5), (11, .int .i64 n11), (15, .int .i64 t15), (16, .int .i64 t16)]))) := by kernel_rfl
@[go_sem] theorem c68_r14 (l0 : Option Addr) (b4 : Addr) (run5 : Int) (n11 : Int) (t15 : Int) (t16 : Int) (K : Env → W) : RP c68 14 [(0, .pointer l0), (4, .pointer (some b4)), (5, .int .i64 run5), (11, .int .i64 n11), (15, .int .i64 t15), (16, .int .i64 t16)] K =
    (K [(0, .pointer l0), (4, .pointer (some b4)), (5, .int .i64 run5), (15, .int .i64 t15), (16, .int .i64 t16), (63, .bool ((decide (n11 < (58 : Int)))))]) := by kernel_rfl
@[go_sem] theorem c68_r15 (l0 : Option Addr) (b4 : Addr) (run5 : Int) (t15 : Int) (t16 : Int) (K : Env → W) : RP c68 15 [(0, .pointer l0), (4, .pointer (some b4)), (5, .int .i64 run5), (15, .int .i64 t15), (16, .int .i64 t16)] K =
    (K [(0, .pointer l0), (4, .pointer (some b4)), (5, .int .i64 run5), (15, .int .i64 t15), (16, .int .i64 ((IntKind.wrap .i64 (t16 + (1 : Int)))))]) := by kernel_rfl
@[go_sem] theorem c68_r16 (b4 : Addr) (K : Env → W) : RP c68 16 [(4, .pointer (some b4))] K =
    (cal eS Tryz.prog 102 #[.pointer (some b4)] fun (y1_ : List UInt8) => (K [(2, str y1_), (3, .int .i64 (0 : Int))])) := by kernel_rfl
@[go_sem] theorem c68_o : c68.lo 1000000 = [2, 3] := rfl
@[go_sem] theorem c68_e (t2 : List UInt8) (t3 : Int) (k : Value → W) : RTp c68 [(2, str t2), (3, .int .i64 t3)] k = (k (.tuple #[str t2, .int .i64 t3])) := by kernel_rfl
theorem c68_ok : (c68.P.follows .mixedOrders && okc c68 c68.body) = true := by kernel_rfl
theorem c68_fn {e : Enc} {args : Array Value} {G : e.α → W} {L : List HP} {ρ : Env} (hρ : envA 0 args.toList = ρ) (hs : Nat.ble args.size 66 = true) (h : E L (D c68 (.seq (.reg 0) (.seq (.reg 1) (.seq (.reg 2) (.seq (.seq (.reg 3) (.block 0 (.loop (.seq (.reg 4) (.seq (.cond (.tmp 17) (.skip) (.exit 0)) (.seq (.block 1 (.seq (.reg 5) (.seq (.reg 6) (.seq (.seq (.reg 7) (.cond (.tmp 34) (.seq (.reg 8) (.ret)) (.skip))) (.seq (.reg 9) (.seq (.reg 10) (.seq (.seq (.reg 11) (.cond (.tmp 56) (.exit 0) (.skip))) (.seq (.reg 12) (.seq (.reg 13) (.seq (.reg 14) (.cond (.tmp 63) (.exit 0) (.skip)))))))))))) (.reg 15))))))) (.seq (.reg 16) (.ret)))))) (fnQ c68 e G) ρ)) : E L (cal e Tryz.prog 68 args G) :=
  d_fn (c := c68) Tryz.func68 (by kernel_rfl) (by kernel_rfl) (by kernel_rfl) c68_ok (by kernel_rfl) (by kernel_rfl) hρ hs h
-- loop (first region 4): live slots 0:l0 4:b4 5:run5 15:t15 16:t16, of which it writes [5, 16]
/-! gharry.wal.whole -/
noncomputable def c69 : Cfg := { P := Tryz.prog, n := 20, T := TT, body := (Tryz.f69.body).getD .skip, res := Tryz.f69.results.toList, li := lk [] [(0, [0]), (1, [0]), (2, [0, 3]), (3, [0, 3, 5, 6]), (4, [3]), (5, [0, 3, 5])], lo := lk [] [(0, [0]), (1, [0, 3]), (2, [0, 3, 5, 6]), (3, [0, 3, 5, 15]), (4, [2]), (5, [0, 3]), (1000000, [2])], ord := lk (false, []) [] }
@[go_sem] theorem c69_i0 : c69.li 0 = [0] := rfl
@[go_sem] theorem c69_i1 : c69.li 1 = [0] := rfl
@[go_sem] theorem c69_i2 : c69.li 2 = [0, 3] := rfl
@[go_sem] theorem c69_i3 : c69.li 3 = [0, 3, 5, 6] := rfl
@[go_sem] theorem c69_i4 : c69.li 4 = [3] := rfl
@[go_sem] theorem c69_i5 : c69.li 5 = [0, 3, 5] := rfl
@[go_sem] theorem c69_r0 (s0 : List UInt8) (K : Env → W) : RP c69 0 [(0, str s0)] K =
    (K [(0, str s0)]) := by kernel_rfl
@[go_sem] theorem c69_r1 (s0 : List UInt8) (K : Env → W) : RP c69 1 [(0, str s0)] K =
    (K [(0, str s0), (3, .int .i64 (0 : Int))]) := by kernel_rfl
@[go_sem] theorem c69_r2 (s0 : List UInt8) (at3 : Int) (K : Env → W) : RP c69 2 [(0, str s0), (3, .int .i64 at3)] K =
    (cal (eT3 e_api_Rec eI eI) Tryz.prog 26 #[str s0, .int .i64 at3] fun (y1_ : (api_Rec × Int × Int)) => (nwc #[.int .i64 (0 : Int), .int .i64 (0 : Int), .int .i64 (0 : Int), .int .i64 (0 : Int), .int .i64 (0 : Int), str (([] : List UInt8)), str (([] : List UInt8)), str (([] : List UInt8)), .int .i64 (0 : Int), .slice none 0 0, .slice none 0 0, .int .i64 (0 : Int), .int .i64 (0 : Int)] 36 fun y2_ => (stl [.int .i64 y1_.1.Kind, .int .i64 y1_.1.Txn, .int .i64 y1_.1.Prev, .int .i64 y1_.1.Page, .int .i64 y1_.1.Act, str y1_.1.Key, str y1_.1.Old, str y1_.1.New, .int .i64 y1_.1.Next, .slice y1_.1.Images.1 y1_.1.Images.2.1 y1_.1.Images.2.2, .slice y1_.1.Table.1 y1_.1.Table.2.1 y1_.1.Table.2.2, .int .i64 y1_.1.Epoch, .int .i64 y1_.1.Node] y2_ 0 (K [(0, str s0), (3, .int .i64 at3), (5, .int .i64 y1_.2.1), (6, .int .i64 y1_.2.2)])))) := by kernel_rfl
@[go_sem] theorem c69_r3 (s0 : List UInt8) (at3 : Int) (n5 : Int) (e6 : Int) (K : Env → W) : RP c69 3 [(0, str s0), (3, .int .i64 at3), (5, .int .i64 n5), (6, .int .i64 e6)] K =
    (K [(0, str s0), (3, .int .i64 at3), (5, .int .i64 n5), (15, .bool ((e6 != (0 : Int))))]) := by kernel_rfl
@[go_sem] theorem c69_r4 (at3 : Int) (K : Env → W) : RP c69 4 [(3, .int .i64 at3)] K =
    (K [(2, .int .i64 at3)]) := by kernel_rfl
@[go_sem] theorem c69_r5 (s0 : List UInt8) (at3 : Int) (n5 : Int) (K : Env → W) : RP c69 5 [(0, str s0), (3, .int .i64 at3), (5, .int .i64 n5)] K =
    (K [(0, str s0), (3, .int .i64 ((IntKind.wrap .i64 (at3 + n5))))]) := by kernel_rfl
@[go_sem] theorem c69_o : c69.lo 1000000 = [2] := rfl
@[go_sem] theorem c69_e (t2 : Int) (k : Value → W) : RTp c69 [(2, .int .i64 t2)] k = (k (.int .i64 t2)) := by kernel_rfl
theorem c69_ok : (c69.P.follows .mixedOrders && okc c69 c69.body) = true := by kernel_rfl
theorem c69_fn {e : Enc} {args : Array Value} {G : e.α → W} {L : List HP} {ρ : Env} (hρ : envA 0 args.toList = ρ) (hs : Nat.ble args.size 20 = true) (h : E L (D c69 (.seq (.reg 0) (.seq (.reg 1) (.block 0 (.loop (.block 1 (.seq (.reg 2) (.seq (.seq (.reg 3) (.cond (.tmp 15) (.seq (.reg 4) (.ret)) (.skip))) (.reg 5)))))))) (fnQ c69 e G) ρ)) : E L (cal e Tryz.prog 69 args G) :=
  d_fn (c := c69) Tryz.func69 (by kernel_rfl) (by kernel_rfl) (by kernel_rfl) c69_ok (by kernel_rfl) (by kernel_rfl) hρ hs h
-- loop (first region 2): live slots 0:s0 3:at3, of which it writes [3]
/-! (*gharry.wal.Log).mend -/
noncomputable def c70 : Cfg := { P := Tryz.prog, n := 23, T := TT, body := (Tryz.f70.body).getD .skip, res := Tryz.f70.results.toList, li := lk [] [(0, [0]), (1, [0]), (2, [0, 3]), (3, [0, 3]), (4, [0])], lo := lk [] [(0, [0]), (1, [0, 3]), (2, [0, 3, 12]), (3, [2]), (4, [2]), (1000000, [2])], ord := lk (false, []) [] }
@[go_sem] theorem c70_i0 : c70.li 0 = [0] := rfl
@[go_sem] theorem c70_i1 : c70.li 1 = [0] := rfl
@[go_sem] theorem c70_i2 : c70.li 2 = [0, 3] := rfl
@[go_sem] theorem c70_i3 : c70.li 3 = [0, 3] := rfl
@[go_sem] theorem c70_i4 : c70.li 4 = [0] := rfl
@[go_sem] theorem c70_r0 (l0 : Option Addr) (K : Env → W) : RP c70 0 [(0, .pointer l0)] K =
    (K [(0, .pointer l0)]) := by kernel_rfl
@[go_sem] theorem c70_r1 (l0 : Option Addr) (K : Env → W) : RP c70 1 [(0, .pointer l0)] K =
    (nn l0 fun y1_ => (ld eI ((y1_.add 5)) fun (y2_ : Int) => (rq ((58 : Int) ≠ 0) (cal eI Tryz.prog 77 #[.pointer l0, .int .i64 ((IntKind.wrap .i64 ((y2_).tdiv (58 : Int))))] fun (y3_ : Int) => (K [(0, .pointer l0), (3, .int .i64 y3_)]))))) := by kernel_rfl
@[go_sem] theorem c70_r2 (l0 : Option Addr) (e3 : Int) (K : Env → W) : RP c70 2 [(0, .pointer l0), (3, .int .i64 e3)] K =
    (K [(0, .pointer l0), (3, .int .i64 e3), (12, .bool ((e3 != (0 : Int))))]) := by kernel_rfl
@[go_sem] theorem c70_r3 (l0 : Option Addr) (e3 : Int) (K : Env → W) : RP c70 3 [(0, .pointer l0), (3, .int .i64 e3)] K =
    (cal eI Tryz.prog 78 #[.pointer l0, .int .i64 e3] fun (y1_ : Int) => (K [(2, .int .i64 y1_)])) := by kernel_rfl
@[go_sem] theorem c70_r4 (l0 : Option Addr) (K : Env → W) : RP c70 4 [(0, .pointer l0)] K =
    (nn l0 fun y1_ => (ld eP y1_ fun (y2_ : Option Addr) => (cal eI Tryz.prog 79 #[.pointer y2_] fun (y3_ : Int) => (cal eI Tryz.prog 78 #[.pointer l0, .int .i64 y3_] fun (y4_ : Int) => (K [(2, .int .i64 y4_)]))))) := by kernel_rfl
@[go_sem] theorem c70_o : c70.lo 1000000 = [2] := rfl
@[go_sem] theorem c70_e (t2 : Int) (k : Value → W) : RTp c70 [(2, .int .i64 t2)] k = (k (.int .i64 t2)) := by kernel_rfl
theorem c70_ok : (c70.P.follows .mixedOrders && okc c70 c70.body) = true := by kernel_rfl
theorem c70_fn {e : Enc} {args : Array Value} {G : e.α → W} {L : List HP} {ρ : Env} (hρ : envA 0 args.toList = ρ) (hs : Nat.ble args.size 23 = true) (h : E L (D c70 (.seq (.reg 0) (.seq (.seq (.reg 1) (.seq (.reg 2) (.cond (.tmp 12) (.seq (.reg 3) (.ret)) (.skip)))) (.seq (.reg 4) (.ret)))) (fnQ c70 e G) ρ)) : E L (cal e Tryz.prog 70 args G) :=
  d_fn (c := c70) Tryz.func70 (by kernel_rfl) (by kernel_rfl) (by kernel_rfl) c70_ok (by kernel_rfl) (by kernel_rfl) hρ hs h
/-! (*gharry.wal.Log).off -/
noncomputable def c75 : Cfg := { P := Tryz.prog, n := 11, T := TT, body := (Tryz.f75.body).getD .skip, res := Tryz.f75.results.toList, li := lk [] [(0, [0]), (1, [0]), (2, []), (3, [0]), (4, []), (5, [])], lo := lk [] [(0, [0]), (1, [0, 3]), (2, [2]), (3, [6]), (4, [2]), (5, [2]), (1000000, [2])], ord := lk (false, []) [] }
@[go_sem] theorem c75_i0 : c75.li 0 = [0] := rfl
@[go_sem] theorem c75_i1 : c75.li 1 = [0] := rfl
@[go_sem] theorem c75_i2 : c75.li 2 = [] := rfl
@[go_sem] theorem c75_i3 : c75.li 3 = [0] := rfl
@[go_sem] theorem c75_i4 : c75.li 4 = [] := rfl
@[go_sem] theorem c75_i5 : c75.li 5 = [] := rfl
@[go_sem] theorem c75_r0 (l0 : Option Addr) (K : Env → W) : RP c75 0 [(0, .pointer l0)] K =
    (K [(0, .pointer l0)]) := by kernel_rfl
@[go_sem] theorem c75_r1 (l0 : Option Addr) (K : Env → W) : RP c75 1 [(0, .pointer l0)] K =
    (cal eB Tryz.prog 83 #[.pointer l0] fun (y1_ : Bool) => (K [(0, .pointer l0), (3, .bool y1_)])) := by kernel_rfl
@[go_sem] theorem c75_r2 (K : Env → W) : RP c75 2 [] K =
    (K [(2, .int .i64 (11 : Int))]) := by kernel_rfl
@[go_sem] theorem c75_r3 (l0 : Option Addr) (K : Env → W) : RP c75 3 [(0, .pointer l0)] K =
    (nn l0 fun y1_ => (ld eB ((y1_.add 6)) fun (y2_ : Bool) => (K [(6, .bool y2_)]))) := by kernel_rfl
@[go_sem] theorem c75_r4 (K : Env → W) : RP c75 4 [] K =
    (K [(2, .int .i64 (9 : Int))]) := by kernel_rfl
@[go_sem] theorem c75_r5 (K : Env → W) : RP c75 5 [] K =
    (K [(2, .int .i64 (0 : Int))]) := by kernel_rfl
@[go_sem] theorem c75_o : c75.lo 1000000 = [2] := rfl
@[go_sem] theorem c75_e (t2 : Int) (k : Value → W) : RTp c75 [(2, .int .i64 t2)] k = (k (.int .i64 t2)) := by kernel_rfl
theorem c75_ok : (c75.P.follows .mixedOrders && okc c75 c75.body) = true := by kernel_rfl
theorem c75_fn {e : Enc} {args : Array Value} {G : e.α → W} {L : List HP} {ρ : Env} (hρ : envA 0 args.toList = ρ) (hs : Nat.ble args.size 11 = true) (h : E L (D c75 (.seq (.reg 0) (.seq (.block 0 (.seq (.reg 1) (.cond (.tmp 3) (.seq (.reg 2) (.ret)) (.seq (.reg 3) (.cond (.tmp 6) (.seq (.reg 4) (.ret)) (.skip)))))) (.seq (.reg 5) (.ret)))) (fnQ c75 e G) ρ)) : E L (cal e Tryz.prog 75 args G) :=
  d_fn (c := c75) Tryz.func75 (by kernel_rfl) (by kernel_rfl) (by kernel_rfl) c75_ok (by kernel_rfl) (by kernel_rfl) hρ hs h
/-! (*gharry.wal.Log).add -/
noncomputable def c76 : Cfg := { P := Tryz.prog, n := 23, T := TT, body := (Tryz.f76.body).getD .skip, res := Tryz.f76.results.toList, li := lk [] [(0, [0, 1]), (1, [0, 1]), (2, []), (3, [0, 1]), (4, [0, 1, 6]), (5, [6])], lo := lk [] [(0, [0, 1]), (1, [0, 1, 11]), (2, [4, 5]), (3, [0, 1, 6]), (4, [6]), (5, [4, 5]), (1000000, [4, 5])], ord := lk (false, []) [] }
@[go_sem] theorem c76_i0 : c76.li 0 = [0, 1] := rfl
@[go_sem] theorem c76_i1 : c76.li 1 = [0, 1] := rfl
@[go_sem] theorem c76_i2 : c76.li 2 = [] := rfl
@[go_sem] theorem c76_i3 : c76.li 3 = [0, 1] := rfl
@[go_sem] theorem c76_i4 : c76.li 4 = [0, 1, 6] := rfl
@[go_sem] theorem c76_i5 : c76.li 5 = [6] := rfl
@[go_sem] theorem c76_r0 (l0 : Option Addr) (s1 : List UInt8) (K : Env → W) : RP c76 0 [(0, .pointer l0), (1, str s1)] K =
    (K [(0, .pointer l0), (1, str s1)]) := by kernel_rfl
@[go_sem] theorem c76_r1 (l0 : Option Addr) (s1 : List UInt8) (K : Env → W) : RP c76 1 [(0, .pointer l0), (1, str s1)] K =
    (cal eI Tryz.prog 30 #[.pointer l0] fun (y1_ : Int) => (K [(0, .pointer l0), (1, str s1), (11, .bool ((decide (y1_ < ((s1).length : Int)))))])) := by kernel_rfl
@[go_sem] theorem c76_r2 (K : Env → W) : RP c76 2 [] K =
    (K [(4, .int .i64 (0 : Int)), (5, .int .i64 (7 : Int))]) := by kernel_rfl
@[go_sem] theorem c76_r3 (l0 : Option Addr) (s1 : List UInt8) (K : Env → W) : RP c76 3 [(0, .pointer l0), (1, str s1)] K =
    (cal eI Tryz.prog 28 #[.pointer l0] fun (y1_ : Int) => (K [(0, .pointer l0), (1, str s1), (6, .int .i64 y1_)])) := by kernel_rfl
@[go_sem] theorem c76_r4 (l0 : Option Addr) (s1 : List UInt8) (at6 : Int) (K : Env → W) : RP c76 4 [(0, .pointer l0), (1, str s1), (6, .int .i64 at6)] K =
    (nn l0 fun y1_ => (ld eS ((y1_.add 4)) fun (y2_ : List UInt8) => (rq (((y2_).length : Int) + ((s1).length : Int) ≤ 9223372036854775807) (nn l0 fun y3_ => (st ((y3_.add 4)) (str ((y2_ ++ s1))) (K [(6, .int .i64 at6)])))))) := by kernel_rfl
@[go_sem] theorem c76_r5 (at6 : Int) (K : Env → W) : RP c76 5 [(6, .int .i64 at6)] K =
    (K [(4, .int .i64 at6), (5, .int .i64 (0 : Int))]) := by kernel_rfl
@[go_sem] theorem c76_o : c76.lo 1000000 = [4, 5] := rfl
@[go_sem] theorem c76_e (t4 : Int) (t5 : Int) (k : Value → W) : RTp c76 [(4, .int .i64 t4), (5, .int .i64 t5)] k = (k (.tuple #[.int .i64 t4, .int .i64 t5])) := by kernel_rfl
theorem c76_ok : (c76.P.follows .mixedOrders && okc c76 c76.body) = true := by kernel_rfl
theorem c76_fn {e : Enc} {args : Array Value} {G : e.α → W} {L : List HP} {ρ : Env} (hρ : envA 0 args.toList = ρ) (hs : Nat.ble args.size 23 = true) (h : E L (D c76 (.seq (.reg 0) (.seq (.seq (.reg 1) (.cond (.tmp 11) (.seq (.reg 2) (.ret)) (.skip))) (.seq (.reg 3) (.seq (.reg 4) (.seq (.reg 5) (.ret)))))) (fnQ c76 e G) ρ)) : E L (cal e Tryz.prog 76 args G) :=
  d_fn (c := c76) Tryz.func76 (by kernel_rfl) (by kernel_rfl) (by kernel_rfl) c76_ok (by kernel_rfl) (by kernel_rfl) hρ hs h
/-! (*gharry.wal.Log).write -/
noncomputable def c77 : Cfg := { P := Tryz.prog, n := 68, T := TT, body := (Tryz.f77.body).getD .skip, res := Tryz.f77.results.toList, li := lk [] [(0, [0, 1]), (1, [0, 1]), (2, []), (3, [0, 1]), (4, [0, 1, 5]), (5, [0, 1, 5, 6]), (6, [0, 1, 5, 6]), (7, [0, 1, 5, 6]), (8, [0, 1, 5, 7])], lo := lk [] [(0, [0, 1]), (1, [0, 1, 14]), (2, [4]), (3, [0, 1, 5]), (4, [0, 1, 5, 6]), (5, [0, 1, 5, 6]), (6, [0, 1, 5, 6]), (7, [0, 1, 5, 7]), (8, [4]), (1000000, [4])], ord := lk (false, []) [(3, (true, [(0, 1), (1, 1), (2, 1), (3, 0), (4, 1), (5, 1), (6, 1), (7, 1), (8, 1), (9, 0), (10, 1), (11, 1), (12, 1), (13, 1), (14, 1), (15, 1), (16, 1), (17, 1), (18, 0), (19, 1), (20, 1), (21, 1), (22, 1)])), (8, (true, [(0, 1), (1, 1), (2, 1), (3, 0), (4, 1), (5, 1), (6, 1), (7, 0), (8, 1), (9, 1), (10, 1), (11, 1), (12, 1), (13, 4), (14, 1)]))] }
@[go_sem] theorem c77_i0 : c77.li 0 = [0, 1] := rfl
@[go_sem] theorem c77_i1 : c77.li 1 = [0, 1] := rfl
@[go_sem] theorem c77_i2 : c77.li 2 = [] := rfl
@[go_sem] theorem c77_i3 : c77.li 3 = [0, 1] := rfl
@[go_sem] theorem c77_i4 : c77.li 4 = [0, 1, 5] := rfl
@[go_sem] theorem c77_i5 : c77.li 5 = [0, 1, 5, 6] := rfl
@[go_sem] theorem c77_i6 : c77.li 6 = [0, 1, 5, 6] := rfl
@[go_sem] theorem c77_i7 : c77.li 7 = [0, 1, 5, 6] := rfl
@[go_sem] theorem c77_i8 : c77.li 8 = [0, 1, 5, 7] := rfl
@[go_sem] theorem c77_r0 (l0 : Option Addr) (i1 : Int) (K : Env → W) : RP c77 0 [(0, .pointer l0), (1, .int .i64 i1)] K =
    (K [(0, .pointer l0), (1, .int .i64 i1)]) := by kernel_rfl
@[go_sem] theorem c77_r1 (l0 : Option Addr) (i1 : Int) (K : Env → W) : RP c77 1 [(0, .pointer l0), (1, .int .i64 i1)] K =
    (nn l0 fun y1_ => (ld eI ((y1_.add 2)) fun (y2_ : Int) => (K [(0, .pointer l0), (1, .int .i64 i1), (14, .bool ((decide (y2_ ≤ i1))))]))) := by kernel_rfl
@[go_sem] theorem c77_r2 (K : Env → W) : RP c77 2 [] K =
    (K [(4, .int .i64 (0 : Int))]) := by kernel_rfl
@[go_sem] theorem c77_r3 (l0 : Option Addr) (i1 : Int) (K : Env → W) : RP c77 3 [(0, .pointer l0), (1, .int .i64 i1)] K =
    (ph fun S0 => (nn l0 fun y1_ => (ldq S0 eS ((y1_.add 4)) fun (y2_ : List UInt8) => (nn l0 fun y3_ => (ldq S0 eS ((y3_.add 4)) fun (y4_ : List UInt8) => (nn l0 fun y5_ => (ldq S0 eS ((y5_.add 4)) fun (y6_ : List UInt8) => (rq (0 ≤ ((if ((y4_).length : Int) < (IntKind.wrap .i64 (i1 * (58 : Int))) then ((y4_).length : Int) else (IntKind.wrap .i64 (i1 * (58 : Int)))) : Int) ∧ (if ((y4_).length : Int) < (IntKind.wrap .i64 (i1 * (58 : Int))) then ((y4_).length : Int) else (IntKind.wrap .i64 (i1 * (58 : Int)))) ≤ (if ((y6_).length : Int) < (IntKind.wrap .i64 ((IntKind.wrap .i64 (i1 + (1 : Int))) * (58 : Int))) then ((y6_).length : Int) else (IntKind.wrap .i64 ((IntKind.wrap .i64 (i1 + (1 : Int))) * (58 : Int)))) ∧ (if ((y6_).length : Int) < (IntKind.wrap .i64 ((IntKind.wrap .i64 (i1 + (1 : Int))) * (58 : Int))) then ((y6_).length : Int) else (IntKind.wrap .i64 ((IntKind.wrap .i64 (i1 + (1 : Int))) * (58 : Int)))) ≤ ((y2_).length : Int)) (K [(0, .pointer l0), (1, .int .i64 i1), (5, str ((ss y2_ ((if ((y4_).length : Int) < (IntKind.wrap .i64 (i1 * (58 : Int))) then ((y4_).length : Int) else (IntKind.wrap .i64 (i1 * (58 : Int))))) ((if ((y6_).length : Int) < (IntKind.wrap .i64 ((IntKind.wrap .i64 (i1 + (1 : Int))) * (58 : Int))) then ((y6_).length : Int) else (IntKind.wrap .i64 ((IntKind.wrap .i64 (i1 + (1 : Int))) * (58 : Int))))))))]))))))))) := by kernel_rfl
@[go_sem] theorem c77_r4 (l0 : Option Addr) (i1 : Int) (part5 : List UInt8) (K : Env → W) : RP c77 4 [(0, .pointer l0), (1, .int .i64 i1), (5, str part5)] K =
    (nwc #[str (([] : List UInt8)), .int .i64 (0 : Int)] 153 fun y1_ => (K [(0, .pointer l0), (1, .int .i64 i1), (5, str part5), (6, .pointer (some y1_))])) := by kernel_rfl
@[go_sem] theorem c77_r5 (l0 : Option Addr) (i1 : Int) (part5 : List UInt8) (w6 : Addr) (K : Env → W) : RP c77 5 [(0, .pointer l0), (1, .int .i64 i1), (5, str part5), (6, .pointer (some w6))] K =
    (nn l0 fun y1_ => (ld eI ((y1_.add 3)) fun (y2_ : Int) => (cal eN Tryz.prog 103 #[.pointer (some w6), .int .i64 y2_, .int .i64 (4 : Int)] fun (y3_ : Unit) => (K [(0, .pointer l0), (1, .int .i64 i1), (5, str part5), (6, .pointer (some w6))])))) := by kernel_rfl
@[go_sem] theorem c77_r6 (l0 : Option Addr) (i1 : Int) (part5 : List UInt8) (w6 : Addr) (K : Env → W) : RP c77 6 [(0, .pointer l0), (1, .int .i64 i1), (5, str part5), (6, .pointer (some w6))] K =
    (cal eN Tryz.prog 103 #[.pointer (some w6), .int .i64 (((part5).length : Int)), .int .i64 (2 : Int)] fun (y1_ : Unit) => (K [(0, .pointer l0), (1, .int .i64 i1), (5, str part5), (6, .pointer (some w6))])) := by kernel_rfl
@[go_sem] theorem c77_r7 (l0 : Option Addr) (i1 : Int) (part5 : List UInt8) (w6 : Addr) (K : Env → W) : RP c77 7 [(0, .pointer l0), (1, .int .i64 i1), (5, str part5), (6, .pointer (some w6))] K =
    (cal (eT2 eS eI) Tryz.prog 108 #[.pointer (some w6)] fun (y1_ : ((List UInt8) × Int)) => (K [(0, .pointer l0), (1, .int .i64 i1), (5, str part5), (7, str y1_.1)])) := by kernel_rfl
@[go_sem] theorem c77_r8 (l0 : Option Addr) (i1 : Int) (part5 : List UInt8) (s7 : List UInt8) (K : Env → W) : RP c77 8 [(0, .pointer l0), (1, .int .i64 i1), (5, str part5), (7, str s7)] K =
    (ph fun S0 => (nn l0 fun y1_ => (ldq S0 eP y1_ fun (y2_ : Option Addr) => (nn l0 fun y3_ => (ldq S0 eI ((y3_.add 1)) fun (y4_ : Int) => (rq (((s7).length : Int) + ((part5).length : Int) ≤ 9223372036854775807) (cal eI Tryz.prog 24 #[.pointer y2_, .int .i64 ((IntKind.wrap .i64 (y4_ + i1))), str ((s7 ++ part5))] fun (y5_ : Int) => (K [(4, .int .i64 y5_)])))))))) := by kernel_rfl
@[go_sem] theorem c77_o : c77.lo 1000000 = [4] := rfl
@[go_sem] theorem c77_e (t4 : Int) (k : Value → W) : RTp c77 [(4, .int .i64 t4)] k = (k (.int .i64 t4)) := by kernel_rfl
theorem c77_ok : (c77.P.follows .mixedOrders && okc c77 c77.body) = true := by kernel_rfl
theorem c77_fn {e : Enc} {args : Array Value} {G : e.α → W} {L : List HP} {ρ : Env} (hρ : envA 0 args.toList = ρ) (hs : Nat.ble args.size 68 = true) (h : E L (D c77 (.seq (.reg 0) (.seq (.seq (.reg 1) (.cond (.tmp 14) (.seq (.reg 2) (.ret)) (.skip))) (.seq (.reg 3) (.seq (.reg 4) (.seq (.reg 5) (.seq (.reg 6) (.seq (.reg 7) (.seq (.reg 8) (.ret))))))))) (fnQ c77 e G) ρ)) : E L (cal e Tryz.prog 77 args G) :=
  d_fn (c := c77) Tryz.func77 (by kernel_rfl) (by kernel_rfl) (by kernel_rfl) c77_ok (by kernel_rfl) (by kernel_rfl) hρ hs h
/-! (*gharry.wal.Log).down -/
noncomputable def c78 : Cfg := { P := Tryz.prog, n := 11, T := TT, body := (Tryz.f78.body).getD .skip, res := Tryz.f78.results.toList, li := lk [] [(0, [0, 1]), (1, [0, 1]), (2, [0, 1]), (3, [1])], lo := lk [] [(0, [0, 1]), (1, [0, 1, 6]), (2, [1]), (3, [4]), (1000000, [4])], ord := lk (false, []) [] }
@[go_sem] theorem c78_i0 : c78.li 0 = [0, 1] := rfl
@[go_sem] theorem c78_i1 : c78.li 1 = [0, 1] := rfl
@[go_sem] theorem c78_i2 : c78.li 2 = [0, 1] := rfl
@[go_sem] theorem c78_i3 : c78.li 3 = [1] := rfl
@[go_sem] theorem c78_r0 (l0 : Option Addr) (e1 : Int) (K : Env → W) : RP c78 0 [(0, .pointer l0), (1, .int .i64 e1)] K =
    (K [(0, .pointer l0), (1, .int .i64 e1)]) := by kernel_rfl
@[go_sem] theorem c78_r1 (l0 : Option Addr) (e1 : Int) (K : Env → W) : RP c78 1 [(0, .pointer l0), (1, .int .i64 e1)] K =
    (K [(0, .pointer l0), (1, .int .i64 e1), (6, .bool ((e1 != (0 : Int))))]) := by kernel_rfl
@[go_sem] theorem c78_r2 (l0 : Option Addr) (e1 : Int) (K : Env → W) : RP c78 2 [(0, .pointer l0), (1, .int .i64 e1)] K =
    (nn l0 fun y1_ => (st ((y1_.add 6)) (.bool true) (K [(1, .int .i64 e1)]))) := by kernel_rfl
@[go_sem] theorem c78_r3 (e1 : Int) (K : Env → W) : RP c78 3 [(1, .int .i64 e1)] K =
    (K [(4, .int .i64 e1)]) := by kernel_rfl
@[go_sem] theorem c78_o : c78.lo 1000000 = [4] := rfl
@[go_sem] theorem c78_e (t4 : Int) (k : Value → W) : RTp c78 [(4, .int .i64 t4)] k = (k (.int .i64 t4)) := by kernel_rfl
theorem c78_ok : (c78.P.follows .mixedOrders && okc c78 c78.body) = true := by kernel_rfl
theorem c78_fn {e : Enc} {args : Array Value} {G : e.α → W} {L : List HP} {ρ : Env} (hρ : envA 0 args.toList = ρ) (hs : Nat.ble args.size 11 = true) (h : E L (D c78 (.seq (.reg 0) (.seq (.seq (.reg 1) (.cond (.tmp 6) (.reg 2) (.skip))) (.seq (.reg 3) (.ret)))) (fnQ c78 e G) ρ)) : E L (cal e Tryz.prog 78 args G) :=
  d_fn (c := c78) Tryz.func78 (by kernel_rfl) (by kernel_rfl) (by kernel_rfl) c78_ok (by kernel_rfl) (by kernel_rfl) hρ hs h
/-! (*gharry.wal.Log).none -/
noncomputable def c83 : Cfg := { P := Tryz.prog, n := 12, T := TT, body := (Tryz.f83.body).getD .skip, res := Tryz.f83.results.toList, li := lk [] [(0, [0]), (1, [0])], lo := lk [] [(0, [0]), (1, [2]), (1000000, [2])], ord := lk (false, []) [] }
@[go_sem] theorem c83_i0 : c83.li 0 = [0] := rfl
@[go_sem] theorem c83_i1 : c83.li 1 = [0] := rfl
@[go_sem] theorem c83_r0 (l0 : Option Addr) (K : Env → W) : RP c83 0 [(0, .pointer l0)] K =
    (K [(0, .pointer l0)]) := by kernel_rfl
@[go_sem] theorem c83_r1 (l0 : Option Addr) (K : Env → W) : RP c83 1 [(0, .pointer l0)] K =
    (cnd ((l0).isNone) (K [(2, .bool true)]) (nn l0 fun y1_ => (ld eP y1_ fun (y2_ : Option Addr) => (K [(2, .bool ((y2_).isNone))])))) := by kernel_rfl
@[go_sem] theorem c83_o : c83.lo 1000000 = [2] := rfl
@[go_sem] theorem c83_e (t2 : Bool) (k : Value → W) : RTp c83 [(2, .bool t2)] k = (k (.bool t2)) := by kernel_rfl
theorem c83_ok : (c83.P.follows .mixedOrders && okc c83 c83.body) = true := by kernel_rfl
theorem c83_fn {e : Enc} {args : Array Value} {G : e.α → W} {L : List HP} {ρ : Env} (hρ : envA 0 args.toList = ρ) (hs : Nat.ble args.size 12 = true) (h : E L (D c83 (.seq (.reg 0) (.seq (.reg 1) (.ret))) (fnQ c83 e G) ρ)) : E L (cal e Tryz.prog 83 args G) :=
  d_fn (c := c83) Tryz.func83 (by kernel_rfl) (by kernel_rfl) (by kernel_rfl) c83_ok (by kernel_rfl) (by kernel_rfl) hρ hs h
end Go.Sp
/- What each region of the Go functions does. Written by my own generator. -/
namespace Go.Sp
open Go
set_option maxRecDepth 100000
set_option linter.unusedVariables false
open Go.Proofs
/-! gharry.wal.Open -/
noncomputable def c17 : Cfg := { P := Tryz.prog, n := 58, T := TT, body := (Tryz.f17.body).getD .skip, res := Tryz.f17.results.toList, li := lk [] [(0, [0, 1, 2, 3]), (1, [0, 1, 2, 3]), (2, [0, 1, 2, 3, 10]), (3, [10]), (4, [0, 1, 2, 3]), (5, [11]), (6, [11, 12, 13]), (7, [13]), (8, [11, 12]), (9, [11]), (10, [11]), (11, [11, 14]), (12, [14]), (13, [11])], lo := lk [] [(0, [0, 1, 2, 3]), (1, [0, 1, 2, 3, 10]), (2, [0, 1, 2, 3, 10, 21]), (3, [8, 9]), (4, [11]), (5, [11, 12, 13]), (6, [11, 12, 13, 35]), (7, [8, 9]), (8, [11]), (9, [11]), (10, [11, 14]), (11, [11, 14, 55]), (12, [8, 9]), (13, [8, 9]), (1000000, [8, 9])], ord := lk (false, []) [] }
@[go_sem] theorem c17_i0 : c17.li 0 = [0, 1, 2, 3] := rfl
@[go_sem] theorem c17_i1 : c17.li 1 = [0, 1, 2, 3] := rfl
@[go_sem] theorem c17_i2 : c17.li 2 = [0, 1, 2, 3, 10] := rfl
@[go_sem] theorem c17_i3 : c17.li 3 = [10] := rfl
@[go_sem] theorem c17_i4 : c17.li 4 = [0, 1, 2, 3] := rfl
@[go_sem] theorem c17_i5 : c17.li 5 = [11] := rfl
@[go_sem] theorem c17_i6 : c17.li 6 = [11, 12, 13] := rfl
@[go_sem] theorem c17_i7 : c17.li 7 = [13] := rfl
@[go_sem] theorem c17_i8 : c17.li 8 = [11, 12] := rfl
@[go_sem] theorem c17_i9 : c17.li 9 = [11] := rfl
@[go_sem] theorem c17_i10 : c17.li 10 = [11] := rfl
@[go_sem] theorem c17_i11 : c17.li 11 = [11, 14] := rfl
@[go_sem] theorem c17_i12 : c17.li 12 = [14] := rfl
@[go_sem] theorem c17_i13 : c17.li 13 = [11] := rfl
@[go_sem] theorem c17_r0 (d0 : Option Addr) (base1 : Int) (sectors2 : Int) (run3 : Int) (K : Env → W) : RP c17 0 [(0, .pointer d0), (1, .int .i64 base1), (2, .int .i64 sectors2), (3, .int .i64 run3)] K =
    (K [(0, .pointer d0), (1, .int .i64 base1), (2, .int .i64 sectors2), (3, .int .i64 run3)]) := by kernel_rfl
@[go_sem] theorem c17_r1 (d0 : Option Addr) (base1 : Int) (sectors2 : Int) (run3 : Int) (K : Env → W) : RP c17 1 [(0, .pointer d0), (1, .int .i64 base1), (2, .int .i64 sectors2), (3, .int .i64 run3)] K =
    (cal eI Tryz.prog 67 #[.pointer d0, .int .i64 base1, .int .i64 sectors2, .int .i64 run3] fun (y1_ : Int) => (K [(0, .pointer d0), (1, .int .i64 base1), (2, .int .i64 sectors2), (3, .int .i64 run3), (10, .int .i64 y1_)])) := by kernel_rfl
@[go_sem] theorem c17_r2 (d0 : Option Addr) (base1 : Int) (sectors2 : Int) (run3 : Int) (e10 : Int) (K : Env → W) : RP c17 2 [(0, .pointer d0), (1, .int .i64 base1), (2, .int .i64 sectors2), (3, .int .i64 run3), (10, .int .i64 e10)] K =
    (K [(0, .pointer d0), (1, .int .i64 base1), (2, .int .i64 sectors2), (3, .int .i64 run3), (10, .int .i64 e10), (21, .bool ((e10 != (0 : Int))))]) := by kernel_rfl
@[go_sem] theorem c17_r3 (e10 : Int) (K : Env → W) : RP c17 3 [(10, .int .i64 e10)] K =
    (K [(8, .pointer none), (9, .int .i64 e10)]) := by kernel_rfl
@[go_sem] theorem c17_r4 (d0 : Option Addr) (base1 : Int) (sectors2 : Int) (run3 : Int) (K : Env → W) : RP c17 4 [(0, .pointer d0), (1, .int .i64 base1), (2, .int .i64 sectors2), (3, .int .i64 run3)] K =
    (nwc #[.pointer (d0), .int .i64 (base1), .int .i64 (sectors2), .int .i64 (run3), str (([] : List UInt8)), .int .i64 (0 : Int), .bool (false)] 66 fun y1_ => (K [(11, .pointer (some y1_))])) := by kernel_rfl
@[go_sem] theorem c17_r5 (l11 : Addr) (K : Env → W) : RP c17 5 [(11, .pointer (some l11))] K =
    (cal (eT2 eS eI) Tryz.prog 68 #[.pointer (some l11)] fun (y1_ : ((List UInt8) × Int)) => (K [(11, .pointer (some l11)), (12, str y1_.1), (13, .int .i64 y1_.2)])) := by kernel_rfl
@[go_sem] theorem c17_r6 (l11 : Addr) (s12 : List UInt8) (e13 : Int) (K : Env → W) : RP c17 6 [(11, .pointer (some l11)), (12, str s12), (13, .int .i64 e13)] K =
    (K [(11, .pointer (some l11)), (12, str s12), (13, .int .i64 e13), (35, .bool ((e13 != (0 : Int))))]) := by kernel_rfl
@[go_sem] theorem c17_r7 (e13 : Int) (K : Env → W) : RP c17 7 [(13, .int .i64 e13)] K =
    (K [(8, .pointer none), (9, .int .i64 e13)]) := by kernel_rfl
@[go_sem] theorem c17_r8 (l11 : Addr) (s12 : List UInt8) (K : Env → W) : RP c17 8 [(11, .pointer (some l11)), (12, str s12)] K =
    (cal eI Tryz.prog 69 #[str s12] fun (y1_ : Int) => (rq (0 ≤ (0 : Int) ∧ 0 ≤ y1_ ∧ y1_ ≤ ((s12).length : Int)) (st ((l11.add 4)) (str ((ss s12 0 y1_))) (K [(11, .pointer (some l11))])))) := by kernel_rfl
@[go_sem] theorem c17_r9 (l11 : Addr) (K : Env → W) : RP c17 9 [(11, .pointer (some l11))] K =
    (ld eS ((l11.add 4)) fun (y1_ : List UInt8) => (st ((l11.add 5)) (.int .i64 (((y1_).length : Int))) (K [(11, .pointer (some l11))]))) := by kernel_rfl
@[go_sem] theorem c17_r10 (l11 : Addr) (K : Env → W) : RP c17 10 [(11, .pointer (some l11))] K =
    (cal eI Tryz.prog 70 #[.pointer (some l11)] fun (y1_ : Int) => (K [(11, .pointer (some l11)), (14, .int .i64 y1_)])) := by kernel_rfl
@[go_sem] theorem c17_r11 (l11 : Addr) (e14 : Int) (K : Env → W) : RP c17 11 [(11, .pointer (some l11)), (14, .int .i64 e14)] K =
    (K [(11, .pointer (some l11)), (14, .int .i64 e14), (55, .bool ((e14 != (0 : Int))))]) := by kernel_rfl
@[go_sem] theorem c17_r12 (e14 : Int) (K : Env → W) : RP c17 12 [(14, .int .i64 e14)] K =
    (K [(8, .pointer none), (9, .int .i64 e14)]) := by kernel_rfl
@[go_sem] theorem c17_r13 (l11 : Addr) (K : Env → W) : RP c17 13 [(11, .pointer (some l11))] K =
    (K [(8, .pointer (some l11)), (9, .int .i64 (0 : Int))]) := by kernel_rfl
@[go_sem] theorem c17_o : c17.lo 1000000 = [8, 9] := rfl
@[go_sem] theorem c17_e (t8 : Option Addr) (t9 : Int) (k : Value → W) : RTp c17 [(8, .pointer t8), (9, .int .i64 t9)] k = (k (.tuple #[.pointer t8, .int .i64 t9])) := by kernel_rfl
theorem c17_ok : (c17.P.follows .mixedOrders && okc c17 c17.body) = true := by kernel_rfl
theorem c17_fn {e : Enc} {args : Array Value} {G : e.α → W} {L : List HP} {ρ : Env} (hρ : envA 0 args.toList = ρ) (hs : Nat.ble args.size 58 = true) (h : E L (D c17 (.seq (.reg 0) (.seq (.seq (.reg 1) (.seq (.reg 2) (.cond (.tmp 21) (.seq (.reg 3) (.ret)) (.skip)))) (.seq (.reg 4) (.seq (.reg 5) (.seq (.seq (.reg 6) (.cond (.tmp 35) (.seq (.reg 7) (.ret)) (.skip))) (.seq (.reg 8) (.seq (.reg 9) (.seq (.seq (.reg 10) (.seq (.reg 11) (.cond (.tmp 55) (.seq (.reg 12) (.ret)) (.skip)))) (.seq (.reg 13) (.ret)))))))))) (fnQ c17 e G) ρ)) : E L (cal e Tryz.prog 17 args G) :=
  d_fn (c := c17) Tryz.func17 (by kernel_rfl) (by kernel_rfl) (by kernel_rfl) c17_ok (by kernel_rfl) (by kernel_rfl) hρ hs h
/-! (*gharry.wal.Log).Append -/
noncomputable def c20 : Cfg := { P := Tryz.prog, n := 27, T := TT, body := (Tryz.f20.body).getD .skip, res := Tryz.f20.results.toList, li := lk [] [(0, [0, 1]), (1, [0, 3]), (2, [0, 3, 6]), (3, [6]), (4, [0, 3]), (5, [0, 7, 8]), (6, [8]), (7, [0, 7])], lo := lk [] [(0, [0, 3]), (1, [0, 3, 6]), (2, [0, 3, 6, 12]), (3, [4, 5]), (4, [0, 7, 8]), (5, [0, 7, 8, 20]), (6, [4, 5]), (7, [4, 5]), (1000000, [4, 5])], ord := lk (false, []) [] }
@[go_sem] theorem c20_i0 : c20.li 0 = [0, 1] := rfl
@[go_sem] theorem c20_i1 : c20.li 1 = [0, 3] := rfl
@[go_sem] theorem c20_i2 : c20.li 2 = [0, 3, 6] := rfl
@[go_sem] theorem c20_i3 : c20.li 3 = [6] := rfl
@[go_sem] theorem c20_i4 : c20.li 4 = [0, 3] := rfl
@[go_sem] theorem c20_i5 : c20.li 5 = [0, 7, 8] := rfl
@[go_sem] theorem c20_i6 : c20.li 6 = [8] := rfl
@[go_sem] theorem c20_i7 : c20.li 7 = [0, 7] := rfl
@[go_sem] theorem c20_r0 (l0 : Option Addr) (r1 : api_Rec) (K : Env → W) : RP c20 0 [(0, .pointer l0), (1, v_api_Rec r1)] K =
    (nwc #[.int .i64 r1.Kind, .int .i64 r1.Txn, .int .i64 r1.Prev, .int .i64 r1.Page, .int .i64 r1.Act, str r1.Key, str r1.Old, str r1.New, .int .i64 r1.Next, .slice r1.Images.1 r1.Images.2.1 r1.Images.2.2, .slice r1.Table.1 r1.Table.2.1 r1.Table.2.2, .int .i64 r1.Epoch, .int .i64 r1.Node] 36 fun y1_ => (K [(0, .pointer l0), (3, .pointer (some y1_))])) := by kernel_rfl
@[go_sem] theorem c20_r1 (l0 : Option Addr) (r3 : Addr) (K : Env → W) : RP c20 1 [(0, .pointer l0), (3, .pointer (some r3))] K =
    (cal eI Tryz.prog 75 #[.pointer l0] fun (y1_ : Int) => (K [(0, .pointer l0), (3, .pointer (some r3)), (6, .int .i64 y1_)])) := by kernel_rfl
@[go_sem] theorem c20_r2 (l0 : Option Addr) (r3 : Addr) (e6 : Int) (K : Env → W) : RP c20 2 [(0, .pointer l0), (3, .pointer (some r3)), (6, .int .i64 e6)] K =
    (K [(0, .pointer l0), (3, .pointer (some r3)), (6, .int .i64 e6), (12, .bool ((e6 != (0 : Int))))]) := by kernel_rfl
@[go_sem] theorem c20_r3 (e6 : Int) (K : Env → W) : RP c20 3 [(6, .int .i64 e6)] K =
    (K [(4, .int .i64 (0 : Int)), (5, .int .i64 e6)]) := by kernel_rfl
@[go_sem] theorem c20_r4 (l0 : Option Addr) (r3 : Addr) (K : Env → W) : RP c20 4 [(0, .pointer l0), (3, .pointer (some r3))] K =
    (ldn e_api_Rec 13 r3 fun (y1_ : api_Rec) => (cal (eT2 eS eI) Tryz.prog 18 #[v_api_Rec y1_] fun (y2_ : ((List UInt8) × Int)) => (K [(0, .pointer l0), (7, str y2_.1), (8, .int .i64 y2_.2)]))) := by kernel_rfl
@[go_sem] theorem c20_r5 (l0 : Option Addr) (s7 : List UInt8) (e8 : Int) (K : Env → W) : RP c20 5 [(0, .pointer l0), (7, str s7), (8, .int .i64 e8)] K =
    (K [(0, .pointer l0), (7, str s7), (8, .int .i64 e8), (20, .bool ((e8 != (0 : Int))))]) := by kernel_rfl
@[go_sem] theorem c20_r6 (e8 : Int) (K : Env → W) : RP c20 6 [(8, .int .i64 e8)] K =
    (K [(4, .int .i64 (0 : Int)), (5, .int .i64 e8)]) := by kernel_rfl
@[go_sem] theorem c20_r7 (l0 : Option Addr) (s7 : List UInt8) (K : Env → W) : RP c20 7 [(0, .pointer l0), (7, str s7)] K =
    (cal (eT2 eI eI) Tryz.prog 76 #[.pointer l0, str s7] fun (y1_ : (Int × Int)) => (K [(4, .int .i64 y1_.1), (5, .int .i64 y1_.2)])) := by kernel_rfl
@[go_sem] theorem c20_o : c20.lo 1000000 = [4, 5] := rfl
@[go_sem] theorem c20_e (t4 : Int) (t5 : Int) (k : Value → W) : RTp c20 [(4, .int .i64 t4), (5, .int .i64 t5)] k = (k (.tuple #[.int .i64 t4, .int .i64 t5])) := by kernel_rfl
theorem c20_ok : (c20.P.follows .mixedOrders && okc c20 c20.body) = true := by kernel_rfl
theorem c20_fn {e : Enc} {args : Array Value} {G : e.α → W} {L : List HP} {ρ : Env} (hρ : envA 0 args.toList = ρ) (hs : Nat.ble args.size 27 = true) (h : E L (D c20 (.seq (.reg 0) (.seq (.seq (.reg 1) (.seq (.reg 2) (.cond (.tmp 12) (.seq (.reg 3) (.ret)) (.skip)))) (.seq (.reg 4) (.seq (.seq (.reg 5) (.cond (.tmp 20) (.seq (.reg 6) (.ret)) (.skip))) (.seq (.reg 7) (.ret)))))) (fnQ c20 e G) ρ)) : E L (cal e Tryz.prog 20 args G) :=
  d_fn (c := c20) Tryz.func20 (by kernel_rfl) (by kernel_rfl) (by kernel_rfl) c20_ok (by kernel_rfl) (by kernel_rfl) hρ hs h
/-! (*gharry.wal.Log).Flush -/
noncomputable def c21 : Cfg := { P := Tryz.prog, n := 63, T := TT, body := (Tryz.f21.body).getD .skip, res := Tryz.f21.results.toList, li := lk [] [(0, [0]), (1, [0]), (2, [0, 3]), (3, [3]), (4, [0]), (5, []), (6, [0]), (7, [0, 4]), (8, [0, 4]), (9, [0, 4]), (10, [0, 4, 5]), (11, [0, 5]), (12, [0]), (13, [0, 6]), (14, [0, 6]), (15, [0]), (16, [])], lo := lk [] [(0, [0]), (1, [0, 3]), (2, [0, 3, 10]), (3, [2]), (4, [0, 21]), (5, [2]), (6, [0, 4]), (7, [0, 4, 34]), (8, [0, 4]), (9, [0, 4, 5]), (10, [0, 4, 5, 41]), (11, [2]), (12, [0, 6]), (13, [0, 6, 51]), (14, [2]), (15, []), (16, [2]), (1000000, [2])], ord := lk (false, []) [(4, (true, [(0, 1), (1, 1), (2, 1), (3, 0), (4, 1), (5, 1), (6, 1), (7, 0), (8, 1), (9, 1)]))] }
@[go_sem] theorem c21_i0 : c21.li 0 = [0] := rfl
@[go_sem] theorem c21_i1 : c21.li 1 = [0] := rfl
@[go_sem] theorem c21_i2 : c21.li 2 = [0, 3] := rfl
@[go_sem] theorem c21_i3 : c21.li 3 = [3] := rfl
@[go_sem] theorem c21_i4 : c21.li 4 = [0] := rfl
@[go_sem] theorem c21_i5 : c21.li 5 = [] := rfl
@[go_sem] theorem c21_i6 : c21.li 6 = [0] := rfl
@[go_sem] theorem c21_i7 : c21.li 7 = [0, 4] := rfl
@[go_sem] theorem c21_i8 : c21.li 8 = [0, 4] := rfl
@[go_sem] theorem c21_i9 : c21.li 9 = [0, 4] := rfl
@[go_sem] theorem c21_i10 : c21.li 10 = [0, 4, 5] := rfl
@[go_sem] theorem c21_i11 : c21.li 11 = [0, 5] := rfl
@[go_sem] theorem c21_i12 : c21.li 12 = [0] := rfl
@[go_sem] theorem c21_i13 : c21.li 13 = [0, 6] := rfl
@[go_sem] theorem c21_i14 : c21.li 14 = [0, 6] := rfl
@[go_sem] theorem c21_i15 : c21.li 15 = [0] := rfl
@[go_sem] theorem c21_i16 : c21.li 16 = [] := rfl
@[go_sem] theorem c21_r0 (l0 : Option Addr) (K : Env → W) : RP c21 0 [(0, .pointer l0)] K =
    (K [(0, .pointer l0)]) := by kernel_rfl
@[go_sem] theorem c21_r1 (l0 : Option Addr) (K : Env → W) : RP c21 1 [(0, .pointer l0)] K =
    (cal eI Tryz.prog 75 #[.pointer l0] fun (y1_ : Int) => (K [(0, .pointer l0), (3, .int .i64 y1_)])) := by kernel_rfl
@[go_sem] theorem c21_r2 (l0 : Option Addr) (e3 : Int) (K : Env → W) : RP c21 2 [(0, .pointer l0), (3, .int .i64 e3)] K =
    (K [(0, .pointer l0), (3, .int .i64 e3), (10, .bool ((e3 != (0 : Int))))]) := by kernel_rfl
@[go_sem] theorem c21_r3 (e3 : Int) (K : Env → W) : RP c21 3 [(3, .int .i64 e3)] K =
    (K [(2, .int .i64 e3)]) := by kernel_rfl
@[go_sem] theorem c21_r4 (l0 : Option Addr) (K : Env → W) : RP c21 4 [(0, .pointer l0)] K =
    (ph fun S0 => (nn l0 fun y1_ => (ldq S0 eI ((y1_.add 5)) fun (y2_ : Int) => (nn l0 fun y3_ => (ldq S0 eS ((y3_.add 4)) fun (y4_ : List UInt8) => (K [(0, .pointer l0), (21, .bool ((y2_ == ((y4_).length : Int))))])))))) := by kernel_rfl
@[go_sem] theorem c21_r5 (K : Env → W) : RP c21 5 [] K =
    (K [(2, .int .i64 (0 : Int))]) := by kernel_rfl
@[go_sem] theorem c21_r6 (l0 : Option Addr) (K : Env → W) : RP c21 6 [(0, .pointer l0)] K =
    (nn l0 fun y1_ => (ld eI ((y1_.add 5)) fun (y2_ : Int) => (rq ((58 : Int) ≠ 0) (K [(0, .pointer l0), (4, .int .i64 ((IntKind.wrap .i64 ((y2_).tdiv (58 : Int)))))])))) := by kernel_rfl
@[go_sem] theorem c21_r7 (l0 : Option Addr) (i4 : Int) (K : Env → W) : RP c21 7 [(0, .pointer l0), (4, .int .i64 i4)] K =
    (nn l0 fun y1_ => (ld eS ((y1_.add 4)) fun (y2_ : List UInt8) => (K [(0, .pointer l0), (4, .int .i64 i4), (34, .bool ((decide ((IntKind.wrap .i64 (i4 * (58 : Int))) < ((y2_).length : Int)))))]))) := by kernel_rfl
@[go_sem] theorem c21_r8 (l0 : Option Addr) (i4 : Int) (K : Env → W) : RP c21 8 [(0, .pointer l0), (4, .int .i64 i4)] K =
    (K [(0, .pointer l0), (4, .int .i64 ((IntKind.wrap .i64 (i4 + (1 : Int)))))]) := by kernel_rfl
@[go_sem] theorem c21_r9 (l0 : Option Addr) (i4 : Int) (K : Env → W) : RP c21 9 [(0, .pointer l0), (4, .int .i64 i4)] K =
    (cal eI Tryz.prog 77 #[.pointer l0, .int .i64 i4] fun (y1_ : Int) => (K [(0, .pointer l0), (4, .int .i64 i4), (5, .int .i64 y1_)])) := by kernel_rfl
@[go_sem] theorem c21_r10 (l0 : Option Addr) (i4 : Int) (e5 : Int) (K : Env → W) : RP c21 10 [(0, .pointer l0), (4, .int .i64 i4), (5, .int .i64 e5)] K =
    (K [(0, .pointer l0), (4, .int .i64 i4), (5, .int .i64 e5), (41, .bool ((e5 != (0 : Int))))]) := by kernel_rfl
@[go_sem] theorem c21_r11 (l0 : Option Addr) (e5 : Int) (K : Env → W) : RP c21 11 [(0, .pointer l0), (5, .int .i64 e5)] K =
    (cal eI Tryz.prog 78 #[.pointer l0, .int .i64 e5] fun (y1_ : Int) => (K [(2, .int .i64 y1_)])) := by kernel_rfl
@[go_sem] theorem c21_r12 (l0 : Option Addr) (K : Env → W) : RP c21 12 [(0, .pointer l0)] K =
    (nn l0 fun y1_ => (ld eP y1_ fun (y2_ : Option Addr) => (cal eI Tryz.prog 79 #[.pointer y2_] fun (y3_ : Int) => (K [(0, .pointer l0), (6, .int .i64 y3_)])))) := by kernel_rfl
@[go_sem] theorem c21_r13 (l0 : Option Addr) (e6 : Int) (K : Env → W) : RP c21 13 [(0, .pointer l0), (6, .int .i64 e6)] K =
    (K [(0, .pointer l0), (6, .int .i64 e6), (51, .bool ((e6 != (0 : Int))))]) := by kernel_rfl
@[go_sem] theorem c21_r14 (l0 : Option Addr) (e6 : Int) (K : Env → W) : RP c21 14 [(0, .pointer l0), (6, .int .i64 e6)] K =
    (cal eI Tryz.prog 78 #[.pointer l0, .int .i64 e6] fun (y1_ : Int) => (K [(2, .int .i64 y1_)])) := by kernel_rfl
@[go_sem] theorem c21_r15 (l0 : Option Addr) (K : Env → W) : RP c21 15 [(0, .pointer l0)] K =
    (nn l0 fun y1_ => (ld eS ((y1_.add 4)) fun (y2_ : List UInt8) => (nn l0 fun y3_ => (st ((y3_.add 5)) (.int .i64 (((y2_).length : Int))) (K []))))) := by kernel_rfl
@[go_sem] theorem c21_r16 (K : Env → W) : RP c21 16 [] K =
    (K [(2, .int .i64 (0 : Int))]) := by kernel_rfl
@[go_sem] theorem c21_o : c21.lo 1000000 = [2] := rfl
@[go_sem] theorem c21_e (t2 : Int) (k : Value → W) : RTp c21 [(2, .int .i64 t2)] k = (k (.int .i64 t2)) := by kernel_rfl
theorem c21_ok : (c21.P.follows .mixedOrders && okc c21 c21.body) = true := by kernel_rfl
theorem c21_fn {e : Enc} {args : Array Value} {G : e.α → W} {L : List HP} {ρ : Env} (hρ : envA 0 args.toList = ρ) (hs : Nat.ble args.size 63 = true) (h : E L (D c21 (.seq (.reg 0) (.seq (.seq (.reg 1) (.seq (.reg 2) (.cond (.tmp 10) (.seq (.reg 3) (.ret)) (.skip)))) (.seq (.seq (.reg 4) (.cond (.tmp 21) (.seq (.reg 5) (.ret)) (.skip))) (.seq (.seq (.reg 6) (.block 0 (.loop (.seq (.seq (.reg 7) (.cond (.tmp 34) (.skip) (.exit 0))) (.seq (.block 1 (.seq (.reg 9) (.seq (.reg 10) (.cond (.tmp 41) (.seq (.reg 11) (.ret)) (.skip))))) (.reg 8)))))) (.seq (.seq (.reg 12) (.seq (.reg 13) (.cond (.tmp 51) (.seq (.reg 14) (.ret)) (.skip)))) (.seq (.reg 15) (.seq (.reg 16) (.ret)))))))) (fnQ c21 e G) ρ)) : E L (cal e Tryz.prog 21 args G) :=
  d_fn (c := c21) Tryz.func21 (by kernel_rfl) (by kernel_rfl) (by kernel_rfl) c21_ok (by kernel_rfl) (by kernel_rfl) hρ hs h
-- loop (first region 7): live slots 0:l0 4:i4, of which it writes [4]
/-! (*gharry.wal.Log).Records -/
noncomputable def c25 : Cfg := { P := Tryz.prog, n := 39, T := TT, body := (Tryz.f25.body).getD .skip, res := Tryz.f25.results.toList, li := lk [] [(0, [0]), (1, [0]), (2, []), (3, [0]), (4, [0, 4]), (5, [0, 4, 5]), (6, [0, 4, 5, 6]), (7, [0, 4, 5, 6]), (8, [0, 4, 5, 6, 7, 8, 9]), (9, [0, 4, 5, 6, 7, 8]), (10, [0, 4, 5, 8]), (11, [4, 5])], lo := lk [] [(0, [0]), (1, [0, 11]), (2, [2, 3]), (3, [0, 4]), (4, [0, 4, 5]), (5, [0, 4, 5, 6]), (6, [0, 4, 5, 6, 18]), (7, [0, 4, 5, 6, 7, 8, 9]), (8, [0, 4, 5, 6, 7, 8, 27]), (9, [0, 4, 5, 8]), (10, [0, 4, 5, 6]), (11, [2, 3]), (1000000, [2, 3])], ord := lk (false, []) [] }
@[go_sem] theorem c25_i0 : c25.li 0 = [0] := rfl
@[go_sem] theorem c25_i1 : c25.li 1 = [0] := rfl
@[go_sem] theorem c25_i2 : c25.li 2 = [] := rfl
@[go_sem] theorem c25_i3 : c25.li 3 = [0] := rfl
@[go_sem] theorem c25_i4 : c25.li 4 = [0, 4] := rfl
@[go_sem] theorem c25_i5 : c25.li 5 = [0, 4, 5] := rfl
@[go_sem] theorem c25_i6 : c25.li 6 = [0, 4, 5, 6] := rfl
@[go_sem] theorem c25_i7 : c25.li 7 = [0, 4, 5, 6] := rfl
@[go_sem] theorem c25_i8 : c25.li 8 = [0, 4, 5, 6, 7, 8, 9] := rfl
@[go_sem] theorem c25_i9 : c25.li 9 = [0, 4, 5, 6, 7, 8] := rfl
@[go_sem] theorem c25_i10 : c25.li 10 = [0, 4, 5, 8] := rfl
@[go_sem] theorem c25_i11 : c25.li 11 = [4, 5] := rfl
@[go_sem] theorem c25_r0 (l0 : Option Addr) (K : Env → W) : RP c25 0 [(0, .pointer l0)] K =
    (K [(0, .pointer l0)]) := by kernel_rfl
@[go_sem] theorem c25_r1 (l0 : Option Addr) (K : Env → W) : RP c25 1 [(0, .pointer l0)] K =
    (cal eB Tryz.prog 83 #[.pointer l0] fun (y1_ : Bool) => (K [(0, .pointer l0), (11, .bool y1_)])) := by kernel_rfl
@[go_sem] theorem c25_r2 (K : Env → W) : RP c25 2 [] K =
    (K [(2, .slice none 0 0), (3, .slice none 0 0)]) := by kernel_rfl
@[go_sem] theorem c25_r3 (l0 : Option Addr) (K : Env → W) : RP c25 3 [(0, .pointer l0)] K =
    (K [(0, .pointer l0), (4, .slice none 0 0)]) := by kernel_rfl
@[go_sem] theorem c25_r4 (l0 : Option Addr) (out4p : Option Addr) (out4n out4c : Nat) (K : Env → W) : RP c25 4 [(0, .pointer l0), (4, .slice out4p out4n out4c)] K =
    (K [(0, .pointer l0), (4, .slice out4p out4n out4c), (5, .slice none 0 0)]) := by kernel_rfl
@[go_sem] theorem c25_r5 (l0 : Option Addr) (out4p : Option Addr) (out4n out4c : Nat) (at5p : Option Addr) (at5n at5c : Nat) (K : Env → W) : RP c25 5 [(0, .pointer l0), (4, .slice out4p out4n out4c), (5, .slice at5p at5n at5c)] K =
    (K [(0, .pointer l0), (4, .slice out4p out4n out4c), (5, .slice at5p at5n at5c), (6, .int .i64 (1 : Int))]) := by kernel_rfl
@[go_sem] theorem c25_r6 (l0 : Option Addr) (out4p : Option Addr) (out4n out4c : Nat) (at5p : Option Addr) (at5n at5c : Nat) (lsn6 : Int) (K : Env → W) : RP c25 6 [(0, .pointer l0), (4, .slice out4p out4n out4c), (5, .slice at5p at5n at5c), (6, .int .i64 lsn6)] K =
    (nn l0 fun y1_ => (ld eS ((y1_.add 4)) fun (y2_ : List UInt8) => (K [(0, .pointer l0), (4, .slice out4p out4n out4c), (5, .slice at5p at5n at5c), (6, .int .i64 lsn6), (18, .bool ((decide (lsn6 ≤ ((y2_).length : Int)))))]))) := by kernel_rfl
@[go_sem] theorem c25_r7 (l0 : Option Addr) (out4p : Option Addr) (out4n out4c : Nat) (at5p : Option Addr) (at5n at5c : Nat) (lsn6 : Int) (K : Env → W) : RP c25 7 [(0, .pointer l0), (4, .slice out4p out4n out4c), (5, .slice at5p at5n at5c), (6, .int .i64 lsn6)] K =
    (cal (eT3 e_api_Rec eI eI) Tryz.prog 35 #[.pointer l0, .int .i64 lsn6] fun (y1_ : (api_Rec × Int × Int)) => (nwc #[.int .i64 (0 : Int), .int .i64 (0 : Int), .int .i64 (0 : Int), .int .i64 (0 : Int), .int .i64 (0 : Int), str (([] : List UInt8)), str (([] : List UInt8)), str (([] : List UInt8)), .int .i64 (0 : Int), .slice none 0 0, .slice none 0 0, .int .i64 (0 : Int), .int .i64 (0 : Int)] 36 fun y2_ => (stl [.int .i64 y1_.1.Kind, .int .i64 y1_.1.Txn, .int .i64 y1_.1.Prev, .int .i64 y1_.1.Page, .int .i64 y1_.1.Act, str y1_.1.Key, str y1_.1.Old, str y1_.1.New, .int .i64 y1_.1.Next, .slice y1_.1.Images.1 y1_.1.Images.2.1 y1_.1.Images.2.2, .slice y1_.1.Table.1 y1_.1.Table.2.1 y1_.1.Table.2.2, .int .i64 y1_.1.Epoch, .int .i64 y1_.1.Node] y2_ 0 (K [(0, .pointer l0), (4, .slice out4p out4n out4c), (5, .slice at5p at5n at5c), (6, .int .i64 lsn6), (7, .pointer (some y2_)), (8, .int .i64 y1_.2.1), (9, .int .i64 y1_.2.2)])))) := by kernel_rfl
@[go_sem] theorem c25_r8 (l0 : Option Addr) (out4p : Option Addr) (out4n out4c : Nat) (at5p : Option Addr) (at5n at5c : Nat) (lsn6 : Int) (r7 : Addr) (next8 : Int) (e9 : Int) (K : Env → W) : RP c25 8 [(0, .pointer l0), (4, .slice out4p out4n out4c), (5, .slice at5p at5n at5c), (6, .int .i64 lsn6), (7, .pointer (some r7)), (8, .int .i64 next8), (9, .int .i64 e9)] K =
    (K [(0, .pointer l0), (4, .slice out4p out4n out4c), (5, .slice at5p at5n at5c), (6, .int .i64 lsn6), (7, .pointer (some r7)), (8, .int .i64 next8), (27, .bool ((e9 != (0 : Int))))]) := by kernel_rfl
@[go_sem] theorem c25_r9 (l0 : Option Addr) (out4p : Option Addr) (out4n out4c : Nat) (at5p : Option Addr) (at5n at5c : Nat) (lsn6 : Int) (r7 : Addr) (next8 : Int) (K : Env → W) : RP c25 9 [(0, .pointer l0), (4, .slice out4p out4n out4c), (5, .slice at5p at5n at5c), (6, .int .i64 lsn6), (7, .pointer (some r7)), (8, .int .i64 next8)] K =
    (ldn e_api_Rec 13 r7 fun (y1_ : api_Rec) => (nwc #[.int .i64 y1_.Kind, .int .i64 y1_.Txn, .int .i64 y1_.Prev, .int .i64 y1_.Page, .int .i64 y1_.Act, str y1_.Key, str y1_.Old, str y1_.New, .int .i64 y1_.Next, .slice y1_.Images.1 y1_.Images.2.1 y1_.Images.2.2, .slice y1_.Table.1 y1_.Table.2.1 y1_.Table.2.2, .int .i64 y1_.Epoch, .int .i64 y1_.Node] 36 fun y2_ => (val eSl Tryz.prog (oB_append #[22, 22] 22 #[.slice out4p out4n out4c, .slice ((some y2_)) 1 1]) fun (y3_ : (Option Addr × Nat × Nat)) => (nwc #[.int .i64 lsn6] 3 fun y4_ => (val eSl Tryz.prog (oB_append #[45, 45] 45 #[.slice at5p at5n at5c, .slice ((some y4_)) 1 1]) fun (y5_ : (Option Addr × Nat × Nat)) => (K [(0, .pointer l0), (4, .slice y3_.1 y3_.2.1 y3_.2.2), (5, .slice y5_.1 y5_.2.1 y5_.2.2), (8, .int .i64 next8)])))))) := by kernel_rfl
@[go_sem] theorem c25_r10 (l0 : Option Addr) (out4p : Option Addr) (out4n out4c : Nat) (at5p : Option Addr) (at5n at5c : Nat) (next8 : Int) (K : Env → W) : RP c25 10 [(0, .pointer l0), (4, .slice out4p out4n out4c), (5, .slice at5p at5n at5c), (8, .int .i64 next8)] K =
    (K [(0, .pointer l0), (4, .slice out4p out4n out4c), (5, .slice at5p at5n at5c), (6, .int .i64 next8)]) := by kernel_rfl
@[go_sem] theorem c25_r11 (out4p : Option Addr) (out4n out4c : Nat) (at5p : Option Addr) (at5n at5c : Nat) (K : Env → W) : RP c25 11 [(4, .slice out4p out4n out4c), (5, .slice at5p at5n at5c)] K =
    (K [(2, .slice out4p out4n out4c), (3, .slice at5p at5n at5c)]) := by kernel_rfl
@[go_sem] theorem c25_o : c25.lo 1000000 = [2, 3] := rfl
@[go_sem] theorem c25_e (t2p : Option Addr) (t2n t2c : Nat) (t3p : Option Addr) (t3n t3c : Nat) (k : Value → W) : RTp c25 [(2, .slice t2p t2n t2c), (3, .slice t3p t3n t3c)] k = (k (.tuple #[.slice t2p t2n t2c, .slice t3p t3n t3c])) := by kernel_rfl
theorem c25_ok : (c25.P.follows .mixedOrders && okc c25 c25.body) = true := by kernel_rfl
theorem c25_fn {e : Enc} {args : Array Value} {G : e.α → W} {L : List HP} {ρ : Env} (hρ : envA 0 args.toList = ρ) (hs : Nat.ble args.size 39 = true) (h : E L (D c25 (.seq (.reg 0) (.seq (.seq (.reg 1) (.cond (.tmp 11) (.seq (.reg 2) (.ret)) (.skip))) (.seq (.reg 3) (.seq (.reg 4) (.seq (.seq (.reg 5) (.block 0 (.loop (.seq (.seq (.reg 6) (.cond (.tmp 18) (.skip) (.exit 0))) (.block 1 (.seq (.reg 7) (.seq (.seq (.reg 8) (.cond (.tmp 27) (.exit 0) (.skip))) (.seq (.reg 9) (.reg 10))))))))) (.seq (.reg 11) (.ret))))))) (fnQ c25 e G) ρ)) : E L (cal e Tryz.prog 25 args G) :=
  d_fn (c := c25) Tryz.func25 (by kernel_rfl) (by kernel_rfl) (by kernel_rfl) c25_ok (by kernel_rfl) (by kernel_rfl) hρ hs h
-- loop (first region 6): live slots 0:l0 4:out4 5:at5 6:lsn6, of which it writes [4, 5, 6]
/-! (*gharry.wal.Log).End -/
noncomputable def c28 : Cfg := { P := Tryz.prog, n := 11, T := TT, body := (Tryz.f28.body).getD .skip, res := Tryz.f28.results.toList, li := lk [] [(0, [0]), (1, [0]), (2, []), (3, [0])], lo := lk [] [(0, [0]), (1, [0, 4]), (2, [2]), (3, [2]), (1000000, [2])], ord := lk (false, []) [] }
@[go_sem] theorem c28_i0 : c28.li 0 = [0] := rfl
@[go_sem] theorem c28_i1 : c28.li 1 = [0] := rfl
@[go_sem] theorem c28_i2 : c28.li 2 = [] := rfl
@[go_sem] theorem c28_i3 : c28.li 3 = [0] := rfl
@[go_sem] theorem c28_r0 (l0 : Option Addr) (K : Env → W) : RP c28 0 [(0, .pointer l0)] K =
    (K [(0, .pointer l0)]) := by kernel_rfl
@[go_sem] theorem c28_r1 (l0 : Option Addr) (K : Env → W) : RP c28 1 [(0, .pointer l0)] K =
    (cal eB Tryz.prog 83 #[.pointer l0] fun (y1_ : Bool) => (K [(0, .pointer l0), (4, .bool y1_)])) := by kernel_rfl
@[go_sem] theorem c28_r2 (K : Env → W) : RP c28 2 [] K =
    (K [(2, .int .i64 (0 : Int))]) := by kernel_rfl
@[go_sem] theorem c28_r3 (l0 : Option Addr) (K : Env → W) : RP c28 3 [(0, .pointer l0)] K =
    (nn l0 fun y1_ => (ld eS ((y1_.add 4)) fun (y2_ : List UInt8) => (K [(2, .int .i64 ((IntKind.wrap .i64 (((y2_).length : Int) + (1 : Int)))))]))) := by kernel_rfl
@[go_sem] theorem c28_o : c28.lo 1000000 = [2] := rfl
@[go_sem] theorem c28_e (t2 : Int) (k : Value → W) : RTp c28 [(2, .int .i64 t2)] k = (k (.int .i64 t2)) := by kernel_rfl
theorem c28_ok : (c28.P.follows .mixedOrders && okc c28 c28.body) = true := by kernel_rfl
theorem c28_fn {e : Enc} {args : Array Value} {G : e.α → W} {L : List HP} {ρ : Env} (hρ : envA 0 args.toList = ρ) (hs : Nat.ble args.size 11 = true) (h : E L (D c28 (.seq (.reg 0) (.seq (.seq (.reg 1) (.cond (.tmp 4) (.seq (.reg 2) (.ret)) (.skip))) (.seq (.reg 3) (.ret)))) (fnQ c28 e G) ρ)) : E L (cal e Tryz.prog 28 args G) :=
  d_fn (c := c28) Tryz.func28 (by kernel_rfl) (by kernel_rfl) (by kernel_rfl) c28_ok (by kernel_rfl) (by kernel_rfl) hρ hs h
/-! (*gharry.wal.Log).Durable -/
noncomputable def c29 : Cfg := { P := Tryz.prog, n := 10, T := TT, body := (Tryz.f29.body).getD .skip, res := Tryz.f29.results.toList, li := lk [] [(0, [0]), (1, [0]), (2, []), (3, [0])], lo := lk [] [(0, [0]), (1, [0, 4]), (2, [2]), (3, [2]), (1000000, [2])], ord := lk (false, []) [] }
@[go_sem] theorem c29_i0 : c29.li 0 = [0] := rfl
@[go_sem] theorem c29_i1 : c29.li 1 = [0] := rfl
@[go_sem] theorem c29_i2 : c29.li 2 = [] := rfl
@[go_sem] theorem c29_i3 : c29.li 3 = [0] := rfl
@[go_sem] theorem c29_r0 (l0 : Option Addr) (K : Env → W) : RP c29 0 [(0, .pointer l0)] K =
    (K [(0, .pointer l0)]) := by kernel_rfl
@[go_sem] theorem c29_r1 (l0 : Option Addr) (K : Env → W) : RP c29 1 [(0, .pointer l0)] K =
    (cal eB Tryz.prog 83 #[.pointer l0] fun (y1_ : Bool) => (K [(0, .pointer l0), (4, .bool y1_)])) := by kernel_rfl
@[go_sem] theorem c29_r2 (K : Env → W) : RP c29 2 [] K =
    (K [(2, .int .i64 (0 : Int))]) := by kernel_rfl
@[go_sem] theorem c29_r3 (l0 : Option Addr) (K : Env → W) : RP c29 3 [(0, .pointer l0)] K =
    (nn l0 fun y1_ => (ld eI ((y1_.add 5)) fun (y2_ : Int) => (K [(2, .int .i64 ((IntKind.wrap .i64 (y2_ + (1 : Int)))))]))) := by kernel_rfl
@[go_sem] theorem c29_o : c29.lo 1000000 = [2] := rfl
@[go_sem] theorem c29_e (t2 : Int) (k : Value → W) : RTp c29 [(2, .int .i64 t2)] k = (k (.int .i64 t2)) := by kernel_rfl
theorem c29_ok : (c29.P.follows .mixedOrders && okc c29 c29.body) = true := by kernel_rfl
theorem c29_fn {e : Enc} {args : Array Value} {G : e.α → W} {L : List HP} {ρ : Env} (hρ : envA 0 args.toList = ρ) (hs : Nat.ble args.size 10 = true) (h : E L (D c29 (.seq (.reg 0) (.seq (.seq (.reg 1) (.cond (.tmp 4) (.seq (.reg 2) (.ret)) (.skip))) (.seq (.reg 3) (.ret)))) (fnQ c29 e G) ρ)) : E L (cal e Tryz.prog 29 args G) :=
  d_fn (c := c29) Tryz.func29 (by kernel_rfl) (by kernel_rfl) (by kernel_rfl) c29_ok (by kernel_rfl) (by kernel_rfl) hρ hs h
/-! (*gharry.wal.Log).Left -/
noncomputable def c30 : Cfg := { P := Tryz.prog, n := 16, T := TT, body := (Tryz.f30.body).getD .skip, res := Tryz.f30.results.toList, li := lk [] [(0, [0]), (1, [0]), (2, []), (3, [0])], lo := lk [] [(0, [0]), (1, [0, 4]), (2, [2]), (3, [2]), (1000000, [2])], ord := lk (false, []) [(3, (true, [(0, 1), (1, 1), (2, 1), (3, 0), (4, 1), (5, 1), (6, 1), (7, 1), (8, 0), (9, 1), (10, 1), (11, 1)]))] }
@[go_sem] theorem c30_i0 : c30.li 0 = [0] := rfl
@[go_sem] theorem c30_i1 : c30.li 1 = [0] := rfl
@[go_sem] theorem c30_i2 : c30.li 2 = [] := rfl
@[go_sem] theorem c30_i3 : c30.li 3 = [0] := rfl
@[go_sem] theorem c30_r0 (l0 : Option Addr) (K : Env → W) : RP c30 0 [(0, .pointer l0)] K =
    (K [(0, .pointer l0)]) := by kernel_rfl
@[go_sem] theorem c30_r1 (l0 : Option Addr) (K : Env → W) : RP c30 1 [(0, .pointer l0)] K =
    (cal eB Tryz.prog 83 #[.pointer l0] fun (y1_ : Bool) => (K [(0, .pointer l0), (4, .bool y1_)])) := by kernel_rfl
@[go_sem] theorem c30_r2 (K : Env → W) : RP c30 2 [] K =
    (K [(2, .int .i64 (0 : Int))]) := by kernel_rfl
@[go_sem] theorem c30_r3 (l0 : Option Addr) (K : Env → W) : RP c30 3 [(0, .pointer l0)] K =
    (ph fun S0 => (nn l0 fun y1_ => (ldq S0 eI ((y1_.add 2)) fun (y2_ : Int) => (nn l0 fun y3_ => (ldq S0 eS ((y3_.add 4)) fun (y4_ : List UInt8) => (K [(2, .int .i64 ((IntKind.wrap .i64 ((IntKind.wrap .i64 (y2_ * (58 : Int))) - ((y4_).length : Int)))))])))))) := by kernel_rfl
@[go_sem] theorem c30_o : c30.lo 1000000 = [2] := rfl
@[go_sem] theorem c30_e (t2 : Int) (k : Value → W) : RTp c30 [(2, .int .i64 t2)] k = (k (.int .i64 t2)) := by kernel_rfl
theorem c30_ok : (c30.P.follows .mixedOrders && okc c30 c30.body) = true := by kernel_rfl
theorem c30_fn {e : Enc} {args : Array Value} {G : e.α → W} {L : List HP} {ρ : Env} (hρ : envA 0 args.toList = ρ) (hs : Nat.ble args.size 16 = true) (h : E L (D c30 (.seq (.reg 0) (.seq (.seq (.reg 1) (.cond (.tmp 4) (.seq (.reg 2) (.ret)) (.skip))) (.seq (.reg 3) (.ret)))) (fnQ c30 e G) ρ)) : E L (cal e Tryz.prog 30 args G) :=
  d_fn (c := c30) Tryz.func30 (by kernel_rfl) (by kernel_rfl) (by kernel_rfl) c30_ok (by kernel_rfl) (by kernel_rfl) hρ hs h
/-! (*gharry.wal.Log).Run -/
/-! (*gharry.wal.Log).Bound -/
/-! (*gharry.wal.Log).Cut -/
/-! (*gharry.wal.Log).Read -/
noncomputable def c35 : Cfg := { P := Tryz.prog, n := 46, T := TT, body := (Tryz.f35.body).getD .skip, res := Tryz.f35.results.toList, li := lk [] [(0, [0, 1]), (1, [0, 1, 4]), (2, [4]), (3, [0, 1, 4]), (4, [4]), (5, [0, 1, 4]), (6, [1, 4, 7, 8, 9]), (7, [4, 9]), (8, [1, 4, 7, 8])], lo := lk [] [(0, [0, 1, 4]), (1, [0, 1, 4, 10]), (2, [4, 5, 6]), (3, [0, 1, 4, 14]), (4, [4, 5, 6]), (5, [1, 4, 7, 8, 9]), (6, [1, 4, 7, 8, 9, 39]), (7, [4, 5, 6]), (8, [4, 5, 6]), (1000000, [4, 5, 6])], ord := lk (false, []) [] }
@[go_sem] theorem c35_i0 : c35.li 0 = [0, 1] := rfl
@[go_sem] theorem c35_i1 : c35.li 1 = [0, 1, 4] := rfl
@[go_sem] theorem c35_i2 : c35.li 2 = [4] := rfl
@[go_sem] theorem c35_i3 : c35.li 3 = [0, 1, 4] := rfl
@[go_sem] theorem c35_i4 : c35.li 4 = [4] := rfl
@[go_sem] theorem c35_i5 : c35.li 5 = [0, 1, 4] := rfl
@[go_sem] theorem c35_i6 : c35.li 6 = [1, 4, 7, 8, 9] := rfl
@[go_sem] theorem c35_i7 : c35.li 7 = [4, 9] := rfl
@[go_sem] theorem c35_i8 : c35.li 8 = [1, 4, 7, 8] := rfl
@[go_sem] theorem c35_r0 (l0 : Option Addr) (lsn1 : Int) (K : Env → W) : RP c35 0 [(0, .pointer l0), (1, .int .i64 lsn1)] K =
    (nwc #[.int .i64 (0 : Int), .int .i64 (0 : Int), .int .i64 (0 : Int), .int .i64 (0 : Int), .int .i64 (0 : Int), str (([] : List UInt8)), str (([] : List UInt8)), str (([] : List UInt8)), .int .i64 (0 : Int), .slice none 0 0, .slice none 0 0, .int .i64 (0 : Int), .int .i64 (0 : Int)] 36 fun y1_ => (K [(0, .pointer l0), (1, .int .i64 lsn1), (4, .pointer (some y1_))])) := by kernel_rfl
@[go_sem] theorem c35_r1 (l0 : Option Addr) (lsn1 : Int) (t4 : Addr) (K : Env → W) : RP c35 1 [(0, .pointer l0), (1, .int .i64 lsn1), (4, .pointer (some t4))] K =
    (cal eB Tryz.prog 83 #[.pointer l0] fun (y1_ : Bool) => (K [(0, .pointer l0), (1, .int .i64 lsn1), (4, .pointer (some t4)), (10, .bool y1_)])) := by kernel_rfl
@[go_sem] theorem c35_r2 (t4 : Addr) (K : Env → W) : RP c35 2 [(4, .pointer (some t4))] K =
    (stl [.int .i64 (0 : Int), .int .i64 (0 : Int), .int .i64 (0 : Int), .int .i64 (0 : Int), .int .i64 (0 : Int), str (([] : List UInt8)), str (([] : List UInt8)), str (([] : List UInt8)), .int .i64 (0 : Int), .slice none 0 0, .slice none 0 0, .int .i64 (0 : Int), .int .i64 (0 : Int)] t4 0 (K [(4, .pointer (some t4)), (5, .int .i64 (0 : Int)), (6, .int .i64 (11 : Int))])) := by kernel_rfl
@[go_sem] theorem c35_r3 (l0 : Option Addr) (lsn1 : Int) (t4 : Addr) (K : Env → W) : RP c35 3 [(0, .pointer l0), (1, .int .i64 lsn1), (4, .pointer (some t4))] K =
    (cnd ((decide (lsn1 < (1 : Int)))) (K [(0, .pointer l0), (1, .int .i64 lsn1), (4, .pointer (some t4)), (14, .bool true)]) (nn l0 fun y1_ => (ld eS ((y1_.add 4)) fun (y2_ : List UInt8) => (K [(0, .pointer l0), (1, .int .i64 lsn1), (4, .pointer (some t4)), (14, .bool ((decide (((y2_).length : Int) < lsn1))))])))) := by kernel_rfl
@[go_sem] theorem c35_r4 (t4 : Addr) (K : Env → W) : RP c35 4 [(4, .pointer (some t4))] K =
    (stl [.int .i64 (0 : Int), .int .i64 (0 : Int), .int .i64 (0 : Int), .int .i64 (0 : Int), .int .i64 (0 : Int), str (([] : List UInt8)), str (([] : List UInt8)), str (([] : List UInt8)), .int .i64 (0 : Int), .slice none 0 0, .slice none 0 0, .int .i64 (0 : Int), .int .i64 (0 : Int)] t4 0 (K [(4, .pointer (some t4)), (5, .int .i64 (0 : Int)), (6, .int .i64 (8 : Int))])) := by kernel_rfl
@[go_sem] theorem c35_r5 (l0 : Option Addr) (lsn1 : Int) (t4 : Addr) (K : Env → W) : RP c35 5 [(0, .pointer l0), (1, .int .i64 lsn1), (4, .pointer (some t4))] K =
    (nn l0 fun y1_ => (ld eS ((y1_.add 4)) fun (y2_ : List UInt8) => (cal (eT3 e_api_Rec eI eI) Tryz.prog 26 #[str y2_, .int .i64 ((IntKind.wrap .i64 (lsn1 - (1 : Int))))] fun (y3_ : (api_Rec × Int × Int)) => (nwc #[.int .i64 (0 : Int), .int .i64 (0 : Int), .int .i64 (0 : Int), .int .i64 (0 : Int), .int .i64 (0 : Int), str (([] : List UInt8)), str (([] : List UInt8)), str (([] : List UInt8)), .int .i64 (0 : Int), .slice none 0 0, .slice none 0 0, .int .i64 (0 : Int), .int .i64 (0 : Int)] 36 fun y4_ => (stl [.int .i64 y3_.1.Kind, .int .i64 y3_.1.Txn, .int .i64 y3_.1.Prev, .int .i64 y3_.1.Page, .int .i64 y3_.1.Act, str y3_.1.Key, str y3_.1.Old, str y3_.1.New, .int .i64 y3_.1.Next, .slice y3_.1.Images.1 y3_.1.Images.2.1 y3_.1.Images.2.2, .slice y3_.1.Table.1 y3_.1.Table.2.1 y3_.1.Table.2.2, .int .i64 y3_.1.Epoch, .int .i64 y3_.1.Node] y4_ 0 (K [(1, .int .i64 lsn1), (4, .pointer (some t4)), (7, .pointer (some y4_)), (8, .int .i64 y3_.2.1), (9, .int .i64 y3_.2.2)])))))) := by kernel_rfl
@[go_sem] theorem c35_r6 (lsn1 : Int) (t4 : Addr) (r7 : Addr) (n8 : Int) (e9 : Int) (K : Env → W) : RP c35 6 [(1, .int .i64 lsn1), (4, .pointer (some t4)), (7, .pointer (some r7)), (8, .int .i64 n8), (9, .int .i64 e9)] K =
    (K [(1, .int .i64 lsn1), (4, .pointer (some t4)), (7, .pointer (some r7)), (8, .int .i64 n8), (9, .int .i64 e9), (39, .bool ((e9 != (0 : Int))))]) := by kernel_rfl
@[go_sem] theorem c35_r7 (t4 : Addr) (e9 : Int) (K : Env → W) : RP c35 7 [(4, .pointer (some t4)), (9, .int .i64 e9)] K =
    (stl [.int .i64 (0 : Int), .int .i64 (0 : Int), .int .i64 (0 : Int), .int .i64 (0 : Int), .int .i64 (0 : Int), str (([] : List UInt8)), str (([] : List UInt8)), str (([] : List UInt8)), .int .i64 (0 : Int), .slice none 0 0, .slice none 0 0, .int .i64 (0 : Int), .int .i64 (0 : Int)] t4 0 (K [(4, .pointer (some t4)), (5, .int .i64 (0 : Int)), (6, .int .i64 e9)])) := by kernel_rfl
@[go_sem] theorem c35_r8 (lsn1 : Int) (t4 : Addr) (r7 : Addr) (n8 : Int) (K : Env → W) : RP c35 8 [(1, .int .i64 lsn1), (4, .pointer (some t4)), (7, .pointer (some r7)), (8, .int .i64 n8)] K =
    (ldn e_api_Rec 13 r7 fun (y1_ : api_Rec) => (stl [.int .i64 y1_.Kind, .int .i64 y1_.Txn, .int .i64 y1_.Prev, .int .i64 y1_.Page, .int .i64 y1_.Act, str y1_.Key, str y1_.Old, str y1_.New, .int .i64 y1_.Next, .slice y1_.Images.1 y1_.Images.2.1 y1_.Images.2.2, .slice y1_.Table.1 y1_.Table.2.1 y1_.Table.2.2, .int .i64 y1_.Epoch, .int .i64 y1_.Node] t4 0 (K [(4, .pointer (some t4)), (5, .int .i64 ((IntKind.wrap .i64 (lsn1 + n8)))), (6, .int .i64 (0 : Int))]))) := by kernel_rfl
@[go_sem] theorem c35_o : c35.lo 1000000 = [4, 5, 6] := rfl
@[go_sem] theorem c35_e (t4 : Addr) (t5 : Int) (t6 : Int) (k : Value → W) : RTp c35 [(4, .pointer (some t4)), (5, .int .i64 t5), (6, .int .i64 t6)] k = (ldn e_api_Rec 13 t4 fun (y1_ : api_Rec) => (k (.tuple #[v_api_Rec y1_, .int .i64 t5, .int .i64 t6]))) := by kernel_rfl
theorem c35_ok : (c35.P.follows .mixedOrders && okc c35 c35.body) = true := by kernel_rfl
theorem c35_fn {e : Enc} {args : Array Value} {G : e.α → W} {L : List HP} {ρ : Env} (hρ : envA 0 args.toList = ρ) (hs : Nat.ble args.size 46 = true) (h : E L (D c35 (.seq (.reg 0) (.seq (.block 0 (.seq (.reg 1) (.cond (.tmp 10) (.seq (.reg 2) (.ret)) (.seq (.reg 3) (.cond (.tmp 14) (.seq (.reg 4) (.ret)) (.skip)))))) (.seq (.reg 5) (.seq (.seq (.reg 6) (.cond (.tmp 39) (.seq (.reg 7) (.ret)) (.skip))) (.seq (.reg 8) (.ret)))))) (fnQ c35 e G) ρ)) : E L (cal e Tryz.prog 35 args G) :=
  d_fn (c := c35) Tryz.func35 (by kernel_rfl) (by kernel_rfl) (by kernel_rfl) c35_ok (by kernel_rfl) (by kernel_rfl) hρ hs h
/-! (*gharry.wal.Log).Put -/
/-! (*gharry.wal.Log).From -/
/-! (*gharry.wal.Log).Need -/
end Go.Sp
/- The log: its small functions; how far a text is whole. -/
namespace Go.Sp
open Go Go.Proofs
set_option linter.unusedSimpArgs false
set_option linter.unusedVariables false
set_option maxRecDepth 10000
structure Lg where
  q : Nat
  base : Nat
  sectors : Nat
  run : Nat
  all : List UInt8
  durable : Nat
  dead : Bool
abbrev lgp (G : Lg) (sb : Nat) : HP := ar G.q 66 [.pointer (some ⟨sb, 0, none⟩), .int .i64 (G.base : Int), .int .i64 (G.sectors : Int), .int .i64 (G.run : Int), str G.all, .int .i64 (G.durable : Int), .bool G.dead]
abbrev Lg.p (G : Lg) : Value := .pointer (some ⟨G.q, 0, none⟩)
structure Lg.ok (G : Lg) (n : Nat) : Prop where
  s1 : 1 ≤ G.sectors
  fit : G.base + G.sectors ≤ n
  n1 : n ≤ 8192
  r1 : 1 ≤ G.run
  r2 : G.run < 4294967296
  du : G.durable ≤ G.all.length
  le : G.all.length ≤ 58 * G.sectors
theorem g83 (G : Lg) (sb : Nat) : Fp eB Tryz.prog 83 #[G.p] [lgp G sb] false := fun L => by
  refine c83_fn rfl rfl ?_
  repeat' (first | (with_reducible first | (refine d_seq ?_; intro K hK) | (refine hK _ _ ?_; clear hK K) | (refine SG.p ?_; try intro b)) | ((with_reducible refine SC.p ?_); refine And.intro ?_ ?_) <;> intro hc <;> try simp only [push_cast, Int.reduceEq, Int.reduceLT, Int.reduceLE, Int.reduceNe] at hc | with_reducible refine r_rq (by first | decide | omega) ?_ | ((with_reducible refine SL.p ?_); first | refine ⟨_, rfl, ?_⟩ | refine ⟨_, _, _, rfl, ?_⟩ | (refine ⟨?_, rfl, ?_⟩; focus (simp; done))) | ((with_reducible first | apply i_ldn | apply i_ldnq); exact rfl; exact rfl; exact rfl) | ((try with_reducible refine d_reg ?_); simp only [go_sem, Nat.reduceAdd, Nat.reduceEqDiff, Int.reduceToNat, Nat.reduceMul, Nat.reduceSub]) | clear hK K)
  (with_reducible first | apply i_ret0 | apply i_ret2 | apply i_ret3 | apply i_ret); exact rfl
  rfl
def Lg.off (G : Lg) : Int := if G.dead then 9 else 0
theorem g75 (G : Lg) (sb : Nat) : Fp eI Tryz.prog 75 #[G.p] [lgp G sb] G.off := fun L => by
  unfold Lg.off
  refine c75_fn rfl rfl ?_
  repeat' ((fail_if_success with_reducible refine nph ?_); first | (with_reducible first | (refine d_seq ?_; intro K hK) | (refine hK _ _ ?_; clear hK K) | (refine SG.p ?_; try intro b)) | ((with_reducible refine SC.p ?_); refine And.intro ?_ ?_) <;> intro hc <;> try simp only [push_cast, Int.reduceEq, Int.reduceLT, Int.reduceLE, Int.reduceNe] at hc | with_reducible refine r_rq (by first | decide | omega) ?_ | ((with_reducible refine SL.p ?_); first | refine ⟨_, rfl, ?_⟩ | refine ⟨_, _, _, rfl, ?_⟩ | (refine ⟨?_, rfl, ?_⟩; focus (simp; done))) | ((with_reducible first | apply i_ldn | apply i_ldnq); exact rfl; exact rfl; exact rfl) | ((try with_reducible refine d_reg ?_); simp only [go_sem, Nat.reduceAdd, Nat.reduceEqDiff, Int.reduceToNat, Nat.reduceMul, Nat.reduceSub]) | clear hK K)
  refine i_clp (g83 G sb) ?_
  repeat' ((fail_if_success with_reducible refine nph ?_); first | (with_reducible first | (refine d_seq ?_; intro K hK) | (refine hK _ _ ?_; clear hK K) | (refine SG.p ?_; try intro b)) | ((with_reducible refine SC.p ?_); refine And.intro ?_ ?_) <;> intro hc <;> try simp only [push_cast, Int.reduceEq, Int.reduceLT, Int.reduceLE, Int.reduceNe] at hc | with_reducible refine r_rq (by first | decide | omega) ?_ | ((with_reducible refine SL.p ?_); first | refine ⟨_, rfl, ?_⟩ | refine ⟨_, _, _, rfl, ?_⟩ | (refine ⟨?_, rfl, ?_⟩; focus (simp; done))) | ((with_reducible first | apply i_ldn | apply i_ldnq); exact rfl; exact rfl; exact rfl) | ((try with_reducible refine d_reg ?_); simp only [go_sem, Nat.reduceAdd, Nat.reduceEqDiff, Int.reduceToNat, Nat.reduceMul, Nat.reduceSub]) | clear hK K)
  all_goals try contradiction
  · (with_reducible first | apply i_ret0 | apply i_ret2 | apply i_ret3 | apply i_ret); exact rfl
    rw [if_pos (by assumption)]
  · (with_reducible first | apply i_ret0 | apply i_ret2 | apply i_ret3 | apply i_ret); exact rfl
    rw [if_neg (by simpa using hc)]
def Lg.down (G : Lg) (e : Int) : Lg := if e = 0 then G else { G with dead := true }
theorem g78 (G : Lg) (sb : Nat) (e : Int) : Fq eI Tryz.prog 78 #[G.p, .int .i64 e] [lgp G sb] [lgp (G.down e) sb] e := fun L => by
  unfold Lg.down
  refine c78_fn rfl rfl ?_
  by_cases he : e = 0
  · rw [if_pos he]
    repeat' ((fail_if_success with_reducible refine nph ?_); first | (with_reducible first | (refine d_seq ?_; intro K hK) | (refine hK _ _ ?_; clear hK K) | (refine SG.p ?_; try intro b)) | ((with_reducible refine SC.p ?_); refine And.intro ?_ ?_) <;> intro hc <;> try simp only [push_cast, Int.reduceEq, Int.reduceLT, Int.reduceLE, Int.reduceNe] at hc | with_reducible refine r_rq (by first | decide | omega) ?_ | ((with_reducible refine SL.p ?_); first | refine ⟨_, rfl, ?_⟩ | refine ⟨_, _, _, rfl, ?_⟩ | (refine ⟨?_, rfl, ?_⟩; focus (simp; done))) | ((with_reducible first | apply i_ldn | apply i_ldnq); exact rfl; exact rfl; exact rfl) | ((try with_reducible refine d_reg ?_); simp only [go_sem, Nat.reduceAdd, Nat.reduceEqDiff, Int.reduceToNat, Nat.reduceMul, Nat.reduceSub]) | clear hK K)
    all_goals try (first | contradiction | (simp only [ reduceCtorEq] at *; done) | (exfalso; omega))
    (with_reducible first | apply i_ret0 | apply i_ret2 | apply i_ret3 | apply i_ret); exact rfl
    rfl
  · rw [if_neg he]
    repeat' ((fail_if_success with_reducible refine nph ?_); first | (with_reducible first | (refine d_seq ?_; intro K hK) | (refine hK _ _ ?_; clear hK K) | (refine SG.p ?_; try intro b)) | ((with_reducible refine SC.p ?_); refine And.intro ?_ ?_) <;> intro hc <;> try simp only [push_cast, Int.reduceEq, Int.reduceLT, Int.reduceLE, Int.reduceNe] at hc | with_reducible refine r_rq (by first | decide | omega) ?_ | ((with_reducible refine SL.p ?_); first | refine ⟨_, rfl, ?_⟩ | refine ⟨_, _, _, rfl, ?_⟩ | (refine ⟨?_, rfl, ?_⟩; focus (simp; done))) | ((with_reducible first | apply i_ldn | apply i_ldnq); exact rfl; exact rfl; exact rfl) | ((try with_reducible refine d_reg ?_); simp only [go_sem, Nat.reduceAdd, Nat.reduceEqDiff, Int.reduceToNat, Nat.reduceMul, Nat.reduceSub]) | clear hK K)
    all_goals try (first | contradiction | (simp only [ reduceCtorEq] at *; done) | (exfalso; omega))
    (with_reducible first | apply i_ret0 | apply i_ret2 | apply i_ret3 | apply i_ret); exact rfl
    rfl
theorem g28 (G : Lg) (sb : Nat) (h : G.all.length ≤ 1000000) : Fp eI Tryz.prog 28 #[G.p] [lgp G sb] ((G.all.length + 1 : Nat) : Int) := fun L => by
  refine c28_fn rfl rfl ?_
  repeat' ((fail_if_success with_reducible refine nph ?_); first | (with_reducible first | (refine d_seq ?_; intro K hK) | (refine hK _ _ ?_; clear hK K) | (refine SG.p ?_; try intro b)) | ((with_reducible refine SC.p ?_); refine And.intro ?_ ?_) <;> intro hc <;> try simp only [push_cast, Int.reduceEq, Int.reduceLT, Int.reduceLE, Int.reduceNe] at hc | with_reducible refine r_rq (by first | decide | omega) ?_ | ((with_reducible refine SL.p ?_); first | refine ⟨_, rfl, ?_⟩ | refine ⟨_, _, _, rfl, ?_⟩ | (refine ⟨?_, rfl, ?_⟩; focus (simp; done))) | ((with_reducible first | apply i_ldn | apply i_ldnq); exact rfl; exact rfl; exact rfl) | ((try with_reducible refine d_reg ?_); simp only [go_sem, Nat.reduceAdd, Nat.reduceEqDiff, Int.reduceToNat, Nat.reduceMul, Nat.reduceSub]) | clear hK K)
  refine i_clp (g83 G sb) ?_
  repeat' (first | (with_reducible first | (refine d_seq ?_; intro K hK) | (refine hK _ _ ?_; clear hK K) | (refine SG.p ?_; try intro b)) | ((with_reducible refine SC.p ?_); refine And.intro ?_ ?_) <;> intro hc <;> try simp only [push_cast, Int.reduceEq, Int.reduceLT, Int.reduceLE, Int.reduceNe] at hc | with_reducible refine r_rq (by first | decide | omega) ?_ | ((with_reducible refine SL.p ?_); first | refine ⟨_, rfl, ?_⟩ | refine ⟨_, _, _, rfl, ?_⟩ | (refine ⟨?_, rfl, ?_⟩; focus (simp; done))) | ((with_reducible first | apply i_ldn | apply i_ldnq); exact rfl; exact rfl; exact rfl) | ((try with_reducible refine d_reg ?_); simp only [go_sem, Nat.reduceAdd, Nat.reduceEqDiff, Int.reduceToNat, Nat.reduceMul, Nat.reduceSub]) | clear hK K)
  (with_reducible first | apply i_ret0 | apply i_ret2 | apply i_ret3 | apply i_ret); exact rfl
  rw [w64 (by omega) (by omega)]
  rfl
theorem g29 (G : Lg) (sb : Nat) (h : G.durable ≤ 1000000) : Fp eI Tryz.prog 29 #[G.p] [lgp G sb] ((G.durable + 1 : Nat) : Int) := fun L => by
  refine c29_fn rfl rfl ?_
  repeat' ((fail_if_success with_reducible refine nph ?_); first | (with_reducible first | (refine d_seq ?_; intro K hK) | (refine hK _ _ ?_; clear hK K) | (refine SG.p ?_; try intro b)) | ((with_reducible refine SC.p ?_); refine And.intro ?_ ?_) <;> intro hc <;> try simp only [push_cast, Int.reduceEq, Int.reduceLT, Int.reduceLE, Int.reduceNe] at hc | with_reducible refine r_rq (by first | decide | omega) ?_ | ((with_reducible refine SL.p ?_); first | refine ⟨_, rfl, ?_⟩ | refine ⟨_, _, _, rfl, ?_⟩ | (refine ⟨?_, rfl, ?_⟩; focus (simp; done))) | ((with_reducible first | apply i_ldn | apply i_ldnq); exact rfl; exact rfl; exact rfl) | ((try with_reducible refine d_reg ?_); simp only [go_sem, Nat.reduceAdd, Nat.reduceEqDiff, Int.reduceToNat, Nat.reduceMul, Nat.reduceSub]) | clear hK K)
  refine i_clp (g83 G sb) ?_
  repeat' (first | (with_reducible first | (refine d_seq ?_; intro K hK) | (refine hK _ _ ?_; clear hK K) | (refine SG.p ?_; try intro b)) | ((with_reducible refine SC.p ?_); refine And.intro ?_ ?_) <;> intro hc <;> try simp only [push_cast, Int.reduceEq, Int.reduceLT, Int.reduceLE, Int.reduceNe] at hc | with_reducible refine r_rq (by first | decide | omega) ?_ | ((with_reducible refine SL.p ?_); first | refine ⟨_, rfl, ?_⟩ | refine ⟨_, _, _, rfl, ?_⟩ | (refine ⟨?_, rfl, ?_⟩; focus (simp; done))) | ((with_reducible first | apply i_ldn | apply i_ldnq); exact rfl; exact rfl; exact rfl) | ((try with_reducible refine d_reg ?_); simp only [go_sem, Nat.reduceAdd, Nat.reduceEqDiff, Int.reduceToNat, Nat.reduceMul, Nat.reduceSub]) | clear hK K)
  (with_reducible first | apply i_ret0 | apply i_ret2 | apply i_ret3 | apply i_ret); exact rfl
  rw [w64 (by omega) (by omega)]
  rfl
theorem g30 (G : Lg) (sb : Nat) (h : G.all.length ≤ 58 * G.sectors) (h2 : G.sectors ≤ 8192) : Fp eI Tryz.prog 30 #[G.p] [lgp G sb] ((58 * G.sectors - G.all.length : Nat) : Int) := fun L => by
  refine c30_fn rfl rfl ?_
  repeat' ((fail_if_success with_reducible refine nph ?_); first | (with_reducible first | (refine d_seq ?_; intro K hK) | (refine hK _ _ ?_; clear hK K) | (refine SG.p ?_; try intro b)) | ((with_reducible refine SC.p ?_); refine And.intro ?_ ?_) <;> intro hc <;> try simp only [push_cast, Int.reduceEq, Int.reduceLT, Int.reduceLE, Int.reduceNe] at hc | with_reducible refine r_rq (by first | decide | omega) ?_ | ((with_reducible refine SL.p ?_); first | refine ⟨_, rfl, ?_⟩ | refine ⟨_, _, _, rfl, ?_⟩ | (refine ⟨?_, rfl, ?_⟩; focus (simp; done))) | ((with_reducible first | apply i_ldn | apply i_ldnq); exact rfl; exact rfl; exact rfl) | ((try with_reducible refine d_reg ?_); simp only [go_sem, Nat.reduceAdd, Nat.reduceEqDiff, Int.reduceToNat, Nat.reduceMul, Nat.reduceSub]) | clear hK K)
  refine i_clp (g83 G sb) ?_
  repeat' (first | (with_reducible first | (refine d_seq ?_; intro K hK) | (refine hK _ _ ?_; clear hK K) | (refine SG.p ?_; try intro b)) | ((with_reducible refine SC.p ?_); refine And.intro ?_ ?_) <;> intro hc <;> try simp only [push_cast, Int.reduceEq, Int.reduceLT, Int.reduceLE, Int.reduceNe] at hc | with_reducible refine r_rq (by first | decide | omega) ?_ | ((with_reducible refine SL.p ?_); first | refine ⟨_, rfl, ?_⟩ | refine ⟨_, _, _, rfl, ?_⟩ | (refine ⟨?_, rfl, ?_⟩; focus (simp; done))) | ((with_reducible first | apply i_ldn | apply i_ldnq); exact rfl; exact rfl; exact rfl) | ((try with_reducible refine d_reg ?_); simp only [go_sem, Nat.reduceAdd, Nat.reduceEqDiff, Int.reduceToNat, Nat.reduceMul, Nat.reduceSub]) | clear hK K)
  (with_reducible first | apply i_ret0 | apply i_ret2 | apply i_ret3 | apply i_ret); exact rfl
  rw [w64 (n := (G.sectors : Int) * 58) (by omega) (by omega), w64 (by omega) (by omega)]
  show ((G.sectors : Int) * 58 - (G.all.length : Int)) = ((58 * G.sectors - G.all.length : Nat) : Int)
  omega
def lchk (n : Nat) (base sectors run : Int) : Int := if base < 0 ∨ sectors < 1 ∨ run < 1 ∨ 4294967296 ≤ run then 1 else if (n : Int) < base ∨ (n : Int) - base < sectors then 6 else 0
theorem g67 (Z : Dk) (h : Z.ok) (base sectors run : Int) (hb : wf64 base) : Fp eI Tryz.prog 67 #[.pointer (some ⟨Z.sb, 0, none⟩), .int .i64 base, .int .i64 sectors, .int .i64 run] [dk Z] (lchk Z.sure.length base sectors run) := fun L => by
  have F := F26 Z h
  have hn := h.n1
  unfold wf64 at hb
  unfold lchk
  simp only [Dk.p] at F
  refine c67_fn rfl rfl ?_
  by_cases h1 : base < 0 ∨ sectors < 1 ∨ run < 1 ∨ 4294967296 ≤ run
  · rw [if_pos h1]
    repeat' ((fail_if_success with_reducible refine nph ?_); first | (with_reducible first | (refine d_seq ?_; intro K hK) | (refine hK _ _ ?_; clear hK K) | (refine SG.p ?_; try intro b)) | ((with_reducible refine SC.p ?_); refine And.intro ?_ ?_) <;> intro hc <;> try simp only [push_cast, Int.reduceEq, Int.reduceLT, Int.reduceLE, Int.reduceNe] at hc | with_reducible refine r_rq (by first | decide | omega) ?_ | ((with_reducible refine SL.p ?_); first | refine ⟨_, rfl, ?_⟩ | refine ⟨_, _, _, rfl, ?_⟩ | (refine ⟨?_, rfl, ?_⟩; focus (simp; done))) | ((with_reducible first | apply i_ldn | apply i_ldnq); exact rfl; exact rfl; exact rfl) | ((try with_reducible refine d_reg ?_); simp only [go_sem, Nat.reduceAdd, Nat.reduceEqDiff, Int.reduceToNat, Nat.reduceMul, Nat.reduceSub]) | clear hK K)
    all_goals try (exfalso; omega)
    all_goals first | contradiction | ((with_reducible first | apply i_ret0 | apply i_ret2 | apply i_ret3 | apply i_ret); exact rfl; rfl)
  · rw [if_neg h1]
    by_cases h2 : (Z.sure.length : Int) < base ∨ (Z.sure.length : Int) - base < sectors
    · rw [if_pos h2]
      repeat' ((fail_if_success with_reducible refine nph ?_); first | (with_reducible first | (refine d_seq ?_; intro K hK) | (refine hK _ _ ?_; clear hK K) | (refine SG.p ?_; try intro b)) | ((with_reducible refine SC.p ?_); refine And.intro ?_ ?_) <;> intro hc <;> try simp only [push_cast, Int.reduceEq, Int.reduceLT, Int.reduceLE, Int.reduceNe] at hc | with_reducible refine r_rq (by first | decide | omega) ?_ | ((with_reducible refine SL.p ?_); first | refine ⟨_, rfl, ?_⟩ | refine ⟨_, _, _, rfl, ?_⟩ | (refine ⟨?_, rfl, ?_⟩; focus (simp; done))) | ((with_reducible first | apply i_ldn | apply i_ldnq); exact rfl; exact rfl; exact rfl) | ((try with_reducible refine d_reg ?_); simp only [go_sem, Nat.reduceAdd, Nat.reduceEqDiff, Int.reduceToNat, Nat.reduceMul, Nat.reduceSub]) | clear hK K)
      all_goals try (exfalso; omega)
      all_goals try contradiction
      refine i_clp F ?_
      repeat' ((fail_if_success with_reducible refine nph ?_); first | (with_reducible first | (refine d_seq ?_; intro K hK) | (refine hK _ _ ?_; clear hK K) | (refine SG.p ?_; try intro b)) | ((with_reducible refine SC.p ?_); refine And.intro ?_ ?_) <;> intro hc <;> try simp only [push_cast, Int.reduceEq, Int.reduceLT, Int.reduceLE, Int.reduceNe] at hc | with_reducible refine r_rq (by first | decide | omega) ?_ | ((with_reducible refine SL.p ?_); first | refine ⟨_, rfl, ?_⟩ | refine ⟨_, _, _, rfl, ?_⟩ | (refine ⟨?_, rfl, ?_⟩; focus (simp; done))) | ((with_reducible first | apply i_ldn | apply i_ldnq); exact rfl; exact rfl; exact rfl) | ((try with_reducible refine d_reg ?_); simp only [go_sem, Nat.reduceAdd, Nat.reduceEqDiff, Int.reduceToNat, Nat.reduceMul, Nat.reduceSub]) | clear hK K)
      all_goals try (exfalso; omega)
      · (with_reducible first | apply i_ret0 | apply i_ret2 | apply i_ret3 | apply i_ret); exact rfl
        rfl
      · refine i_clp F ?_
        rw [w64 (by omega) (by omega)]
        repeat' ((fail_if_success with_reducible refine nph ?_); first | (with_reducible first | (refine d_seq ?_; intro K hK) | (refine hK _ _ ?_; clear hK K) | (refine SG.p ?_; try intro b)) | ((with_reducible refine SC.p ?_); refine And.intro ?_ ?_) <;> intro hc <;> try simp only [push_cast, Int.reduceEq, Int.reduceLT, Int.reduceLE, Int.reduceNe] at hc | with_reducible refine r_rq (by first | decide | omega) ?_ | ((with_reducible refine SL.p ?_); first | refine ⟨_, rfl, ?_⟩ | refine ⟨_, _, _, rfl, ?_⟩ | (refine ⟨?_, rfl, ?_⟩; focus (simp; done))) | ((with_reducible first | apply i_ldn | apply i_ldnq); exact rfl; exact rfl; exact rfl) | ((try with_reducible refine d_reg ?_); simp only [go_sem, Nat.reduceAdd, Nat.reduceEqDiff, Int.reduceToNat, Nat.reduceMul, Nat.reduceSub]) | clear hK K)
        all_goals try (exfalso; omega)
        (with_reducible first | apply i_ret0 | apply i_ret2 | apply i_ret3 | apply i_ret); exact rfl
        rfl
    · rw [if_neg h2]
      repeat' ((fail_if_success with_reducible refine nph ?_); first | (with_reducible first | (refine d_seq ?_; intro K hK) | (refine hK _ _ ?_; clear hK K) | (refine SG.p ?_; try intro b)) | ((with_reducible refine SC.p ?_); refine And.intro ?_ ?_) <;> intro hc <;> try simp only [push_cast, Int.reduceEq, Int.reduceLT, Int.reduceLE, Int.reduceNe] at hc | with_reducible refine r_rq (by first | decide | omega) ?_ | ((with_reducible refine SL.p ?_); first | refine ⟨_, rfl, ?_⟩ | refine ⟨_, _, _, rfl, ?_⟩ | (refine ⟨?_, rfl, ?_⟩; focus (simp; done))) | ((with_reducible first | apply i_ldn | apply i_ldnq); exact rfl; exact rfl; exact rfl) | ((try with_reducible refine d_reg ?_); simp only [go_sem, Nat.reduceAdd, Nat.reduceEqDiff, Int.reduceToNat, Nat.reduceMul, Nat.reduceSub]) | clear hK K)
      all_goals try (exfalso; omega)
      all_goals try contradiction
      refine i_clp F ?_
      repeat' ((fail_if_success with_reducible refine nph ?_); first | (with_reducible first | (refine d_seq ?_; intro K hK) | (refine hK _ _ ?_; clear hK K) | (refine SG.p ?_; try intro b)) | ((with_reducible refine SC.p ?_); refine And.intro ?_ ?_) <;> intro hc <;> try simp only [push_cast, Int.reduceEq, Int.reduceLT, Int.reduceLE, Int.reduceNe] at hc | with_reducible refine r_rq (by first | decide | omega) ?_ | ((with_reducible refine SL.p ?_); first | refine ⟨_, rfl, ?_⟩ | refine ⟨_, _, _, rfl, ?_⟩ | (refine ⟨?_, rfl, ?_⟩; focus (simp; done))) | ((with_reducible first | apply i_ldn | apply i_ldnq); exact rfl; exact rfl; exact rfl) | ((try with_reducible refine d_reg ?_); simp only [go_sem, Nat.reduceAdd, Nat.reduceEqDiff, Int.reduceToNat, Nat.reduceMul, Nat.reduceSub]) | clear hK K)
      all_goals try (exfalso; omega)
      refine i_clp F ?_
      rw [w64 (by omega) (by omega)]
      repeat' ((fail_if_success with_reducible refine nph ?_); first | (with_reducible first | (refine d_seq ?_; intro K hK) | (refine hK _ _ ?_; clear hK K) | (refine SG.p ?_; try intro b)) | ((with_reducible refine SC.p ?_); refine And.intro ?_ ?_) <;> intro hc <;> try simp only [push_cast, Int.reduceEq, Int.reduceLT, Int.reduceLE, Int.reduceNe] at hc | with_reducible refine r_rq (by first | decide | omega) ?_ | ((with_reducible refine SL.p ?_); first | refine ⟨_, rfl, ?_⟩ | refine ⟨_, _, _, rfl, ?_⟩ | (refine ⟨?_, rfl, ?_⟩; focus (simp; done))) | ((with_reducible first | apply i_ldn | apply i_ldnq); exact rfl; exact rfl; exact rfl) | ((try with_reducible refine d_reg ?_); simp only [go_sem, Nat.reduceAdd, Nat.reduceEqDiff, Int.reduceToNat, Nat.reduceMul, Nat.reduceSub]) | clear hK K)
      all_goals try (exfalso; omega)
      (with_reducible first | apply i_ret0 | apply i_ret2 | apply i_ret3 | apply i_ret); exact rfl
      rfl
/-- How many bytes from a place on are whole records. -/
def whl (s : List UInt8) : Nat → Nat → Nat
  | 0, a => a
  | k + 1, a => if (opn s (a : Int)).2.2 = 0 then whl s k (a + (opn s (a : Int)).2.1.toNat) else a
def whole (s : List UInt8) : Nat := whl s (s.length + 1) 0
theorem opn_nat {s : List UInt8} {a : Nat} (h : a ≤ s.length) : opn s (a : Int) = opn0 (s.drop a) := by
  unfold opn
  rw [if_neg (by omega), Int.toNat_natCast]
theorem opn_step {s : List UInt8} {a : Nat} (h : a ≤ s.length) (h0 : (opn s (a : Int)).2.2 = 0) : ∃ m : Nat, (opn s (a : Int)).2.1 = (m : Int) ∧ 7 ≤ m ∧ a + m ≤ s.length := by
  rw [opn_nat h] at h0 ⊢
  generalize ho : opn0 (s.drop a) = o at *
  obtain ⟨c, n, e⟩ := o
  dsimp only at h0 ⊢
  subst h0
  obtain ⟨hs, _, f, Y, ht, hf, hn⟩ := opn0_ok ho
  have hl := frame_len hs hf
  have := congrArg List.length ht
  rw [List.length_drop, List.length_append] at this
  exact ⟨f.length, hn, hl.1, by omega⟩
set_option maxHeartbeats 1000000 in
theorem g69 (s : List UInt8) (hs : s.length ≤ 4611686018427387903) : Fp eI Tryz.prog 69 #[str s] [] (whole s : Int) := fun L => by
  refine c69_fn rfl rfl ?_
  repeat' ((fail_if_success with_reducible refine nph ?_); first | (with_reducible first | (refine d_seq ?_; intro K hK) | (refine hK _ _ ?_; clear hK K) | (refine SG.p ?_; try intro b)) | ((with_reducible refine SC.p ?_); refine And.intro ?_ ?_) <;> intro hc <;> try simp only [push_cast, Int.reduceEq, Int.reduceLT, Int.reduceLE, Int.reduceNe] at hc | with_reducible refine r_rq (by first | decide | omega) ?_ | ((with_reducible refine SL.p ?_); first | refine ⟨_, rfl, ?_⟩ | refine ⟨_, _, _, rfl, ?_⟩ | (refine ⟨?_, rfl, ?_⟩; focus (simp; done))) | ((with_reducible first | apply i_ldn | apply i_ldnq); exact rfl; exact rfl; exact rfl) | ((try with_reducible refine d_reg ?_); simp only [go_sem, Nat.reduceAdd, Nat.reduceEqDiff, Int.reduceToNat, Nat.reduceMul, Nat.reduceSub]) | clear hK K)
  refine d_lp [0, 3] (fun t : Nat × Nat => [(0, str s), (3, .int .i64 (t.2 : Int))]) (fun _ => L) (fun t => t.2 ≤ s.length ∧ whl s t.1 t.2 = whole s ∧ s.length + 1 ≤ t.1 + t.2) (fun t => t.1) (s.length + 1, 0) rfl SX.p ⟨by dsimp only; omega, rfl, by dsimp only; omega⟩ ?_
  rintro ⟨k, a⟩ ⟨h1, h2, h3⟩
  dsimp only at h1 h2 h3 ⊢
  obtain ⟨k', rfl⟩ : ∃ k', k = k' + 1 := ⟨k - 1, by omega⟩
  rw [show whl s (k' + 1) a = if (opn s (a : Int)).2.2 = 0 then whl s k' (a + (opn s (a : Int)).2.1.toNat) else a from rfl] at h2
  have O := g26 s (a : Int) (by omega)
  have S := opn_step h1
  generalize opn s (a : Int) = o at *
  obtain ⟨c, n, e⟩ := o
  dsimp only at h2 O S
  repeat' ((fail_if_success with_reducible refine nph ?_); first | (with_reducible first | (refine d_seq ?_; intro K hK) | (refine hK _ _ ?_; clear hK K) | (refine SG.p ?_; try intro b)) | ((with_reducible refine SC.p ?_); refine And.intro ?_ ?_) <;> intro hc <;> try simp only [push_cast, Int.reduceEq, Int.reduceLT, Int.reduceLE, Int.reduceNe] at hc | with_reducible refine r_rq (by first | decide | omega) ?_ | ((with_reducible refine SL.p ?_); first | refine ⟨_, rfl, ?_⟩ | refine ⟨_, _, _, rfl, ?_⟩ | (refine ⟨?_, rfl, ?_⟩; focus (simp; done))) | ((with_reducible first | apply i_ldn | apply i_ldnq); exact rfl; exact rfl; exact rfl) | ((try with_reducible refine d_reg ?_); simp only [go_sem, Nat.reduceAdd, Nat.reduceEqDiff, Int.reduceToNat, Nat.reduceMul, Nat.reduceSub]) | clear hK K)
  refine i_cal O ?_
  rintro ⟨⟨k1, k2, k3, k4, k5, k6, k7, k8, k9, k10, k11, k12, k13⟩, y⟩ X ⟨A, rfl, hr, he⟩
  dsimp only at he
  subst he
  by_cases h0 : e = 0
  · subst h0
    obtain ⟨m, rfl, hm1, hm2⟩ := S rfl
    rw [if_pos rfl, Int.toNat_natCast] at h2
    repeat' ((fail_if_success with_reducible refine nph ?_); first | (with_reducible first | (refine d_seq ?_; intro K hK) | (refine hK _ _ ?_; clear hK K) | (refine SG.p ?_; try intro b)) | ((with_reducible refine SC.p ?_); refine And.intro ?_ ?_) <;> intro hc <;> try simp only [push_cast, Int.reduceEq, Int.reduceLT, Int.reduceLE, Int.reduceNe] at hc | with_reducible refine r_rq (by first | decide | omega) ?_ | ((with_reducible refine SL.p ?_); first | refine ⟨_, rfl, ?_⟩ | refine ⟨_, _, _, rfl, ?_⟩ | (refine ⟨?_, rfl, ?_⟩; focus (simp; done))) | ((with_reducible first | apply i_ldn | apply i_ldnq); exact rfl; exact rfl; exact rfl) | ((try with_reducible refine d_reg ?_); simp only [go_sem, Nat.reduceAdd, Nat.reduceEqDiff, Int.reduceToNat, Nat.reduceMul, Nat.reduceSub]) | clear hK K)
    all_goals try (first | contradiction | (simp only [ reduceCtorEq] at *; done) | (exfalso; omega))
    rw [w64 (by omega) (by omega)]
    exact i_bk (k', a + m) rfl ⟨by dsimp only; omega, h2, by dsimp only; omega⟩ (by dsimp only; omega)
  · rw [if_neg h0] at h2
    repeat' ((fail_if_success with_reducible refine nph ?_); first | (with_reducible first | (refine d_seq ?_; intro K hK) | (refine hK _ _ ?_; clear hK K) | (refine SG.p ?_; try intro b)) | ((with_reducible refine SC.p ?_); refine And.intro ?_ ?_) <;> intro hc <;> try simp only [push_cast, Int.reduceEq, Int.reduceLT, Int.reduceLE, Int.reduceNe] at hc | with_reducible refine r_rq (by first | decide | omega) ?_ | ((with_reducible refine SL.p ?_); first | refine ⟨_, rfl, ?_⟩ | refine ⟨_, _, _, rfl, ?_⟩ | (refine ⟨?_, rfl, ?_⟩; focus (simp; done))) | ((with_reducible first | apply i_ldn | apply i_ldnq); exact rfl; exact rfl; exact rfl) | ((try with_reducible refine d_reg ?_); simp only [go_sem, Nat.reduceAdd, Nat.reduceEqDiff, Int.reduceToNat, Nat.reduceMul, Nat.reduceSub]) | clear hK K)
    all_goals try (first | contradiction | (simp only [ reduceCtorEq] at *; done) | (exfalso; omega))
    (with_reducible first | apply i_ret0 | apply i_ret2 | apply i_ret3 | apply i_ret); exact rfl
    rw [h2]
end Go.Sp
/- A contract that keeps what lies below a block: the kit's strings.Builder over parts that lie below it. -/
namespace Go.Sp
open Go
/-- Just this. -/
def ex (h0 : PH) : HP := fun h => h = h0
def dm (b : Nat) (h : PH) : Prop := ∀ n, b < n → h n = none
def lo (b : Nat) (h : PH) : PH := fun n => if n ≤ b then h n else none
/-- What lies below a block tells the part. -/
def Low (b : Nat) (A : HP) : Prop := ∀ h, A h → A (lo b h)
theorem lo_mono {b : Nat} {a h : PH} (s : sub a h) : sub (lo b a) (lo b h) := fun n o e => by
  unfold lo at e ⊢
  split at e
  · rename_i hn
    rw [if_pos hn]
    exact s n o e
  · cases e
theorem Low.blk {b c : Nat} {o : Obj} (h : c < b) : Low b (blk c o) := fun x hx => by
  show lo b x (c + 1) = _
  unfold lo
  rw [if_pos (by omega)]
  exact hx
theorem Low.ex {b : Nat} {h0 : PH} (h : dm b h0) : Low b (ex h0) := fun x hx => by
  subst hx
  funext n
  unfold lo
  split
  · rfl
  · rename_i hn
    exact (h n (by omega)).symm
theorem Low.HS {b : Nat} : ∀ {L : List HP}, (∀ A ∈ L, Low b A) → ∀ h, HS L h → HS L (lo b h)
  | [], _, _, _ => trivial
  | A :: L, hl, h, ⟨x, y, d, sx, sy, px, py⟩ => by
    refine ⟨lo b x, lo b y, fun n => ?_, lo_mono sx, lo_mono sy, hl A (by simp) x px, Low.HS (fun B hB => hl B (by simp [hB])) y py⟩
    unfold lo
    split
    · exact d n
    · exact .inl rfl
theorem Low.fold {b : Nat} {L : List HP} (h : ∀ A ∈ L, Low b A) : Low b (Sp.HS L) := Low.HS h
/-- The frame may be taken as it is. -/
theorem HS.ex {L : List HP} : ∀ {A : List HP} {h : PH}, HS (A ++ L) h → ∃ h0, HS L h0 ∧ HS (A ++ [Sp.ex h0]) h
  | [], h, x => ⟨h, x, h, fun _ => none, fun _ => .inr rfl, sub.refl _, sub.none _, rfl, trivial⟩
  | B :: A, h, ⟨x, y, d, sx, sy, px, py⟩ => by
    obtain ⟨h0, h1, h2⟩ := HS.ex (A := A) py
    exact ⟨h0, h1, x, y, d, sx, sy, px, h2⟩
theorem HS.unex {L : List HP} {h0 : PH} (hL : HS L h0) : ∀ {A : List HP} {h : PH}, HS (A ++ [Sp.ex h0]) h → HS (A ++ L) h
  | [], h, ⟨x, y, d, sx, sy, px, py⟩ => by
    have e : x = h0 := px
    subst e
    exact HS.mono hL sx
  | B :: A, h, ⟨x, y, d, sx, sy, px, py⟩ => ⟨x, y, d, sx, sy, px, HS.unex hL py⟩
theorem Fn.ex {e : Enc} {P : Program} {f : FuncId} {args : Array Value} {A : List HP} {B : e.α → List HP → Prop} (h : ∀ h0, E (A ++ [Sp.ex h0]) (cal e P f args fun x w => ∃ X, B x X ∧ Holds w (X ++ [Sp.ex h0]))) : Fn e P f args A B := fun L w hw => by
  obtain ⟨h0, h1, h2⟩ := HS.ex hw
  refine (h h0 w h2).mono ?_
  rintro _ w' ⟨x, he, X, hB, hX⟩
  exact ⟨x, he, X, hB, HS.unex h1 hX⟩
/-- A new block lies behind all that is there. -/
theorem HS.dom {b : Nat} : ∀ {L : List HP} {h : PH}, HS L h → dm b h → ∀ X ∈ L, ∃ a, X a ∧ dm b a
  | A :: L, h, ⟨x, y, d, sx, sy, px, py⟩, hd, X, hX => by
    have dx : dm b x := fun n hn => by
      cases hx : x n with
      | none => rfl
      | some o => exact absurd (sx n o hx) (by simp [hd n hn])
    have dy : dm b y := fun n hn => by
      cases hy : y n with
      | none => rfl
      | some o => exact absurd (sy n o hy) (by simp [hd n hn])
    rcases List.mem_cons.1 hX with rfl | hX
    · exact ⟨x, px, dx⟩
    · exact HS.dom py dy X hX
theorem r_nwcD {L : List HP} {k : Addr → W} {l : List Value} {t : TypeId} (h : ∀ b, (∀ X ∈ L, ∃ a, X a ∧ dm b a) → E (ar b t l :: L) (k ⟨b, 0, none⟩)) : E L (nwc l.toArray t k) := fun w hw => by
  refine h w.heap.size (HS.dom hw fun n hn => ?_) _ (Holds.push hw (.cells ⟨l⟩ t (0, 0)) rfl)
  cases n with
  | zero => omega
  | succ n => rw [hp_s, Array.getElem?_eq_none (by omega)]; rfl
theorem dm_blk {b c : Nat} {o : Obj} {a : PH} (h : blk c o a) (hd : dm b a) : c < b := by
  rcases Nat.lt_or_ge b (c + 1) with h1 | h1
  · have := hd (c + 1) h1
    rw [show a (c + 1) = some (.inl o) from h] at this
    cases this
  · omega
/-! ### The builder -/
abbrev bld (b T e : TypeId) (p : Option Addr) (s : SlV) (bs : List Value) : List HP := [ar b T [.pointer p, .slice s.1 s.2.1 s.2.2], ow e 1 s bs]
section
variable {T e : TypeId} {b : Nat} {p : Option Addr} {s : SlV} {bs : List Value} {L : List HP} {w w' : World}
theorem bld_is (hp : p = none ∨ p = some ⟨b, 0, none⟩) (hs : ∀ g, s.1 = some g → b < g.block) (h : Holds w (bld b T e p s bs ++ L)) : Lib.IsBuilder T e b b bs w := by
  have h1 : Holds w (ar b T [.pointer p, .slice s.1 s.2.1 s.2.2] :: (ow e 1 s bs :: L)) := h
  have h2 : Holds w (ow e 1 s bs :: L) := HS.tl h1
  have hg := Holds.get h1
  have ho := ow_world h2 b (fun g hg => by have := hs g hg; omega)
  have hl : bs.length = s.2.1 := by have := ho.1; omega
  have hA : Lib.BuilderAt T e b b (.pointer p) bs w := by
    refine ⟨Nat.le_refl _, _, hg, ?_, ?_⟩
    · rw [hl]; exact ho
    · obtain ⟨q, n, c⟩ := s
      cases q with
      | none => simp [Value.ownBlock]
      | some g =>
        have := hs g rfl
        simp only [Value.ownBlock, ne_eq, Option.some.injEq]
        omega
  rcases hp with rfl | rfl
  · exact .inl hA
  · exact .inr hA
theorem bld_of (hL : ∀ A ∈ L, Low b A) (h : Holds w (bld b T e p s bs ++ L)) {bs' : List Value} (hb : Lib.BuilderAt T e b b (.pointer (some ⟨b, 0, none⟩)) bs' w') (hbe : RowKit.Below b w w') :
    ∃ s' : SlV, (∀ g, s'.1 = some g → b < g.block) ∧ Holds w' (bld b T e (some ⟨b, 0, none⟩) s' bs' ++ L) := by
  obtain ⟨x, y, d, sx, sy, px, x2, y2, d2, sx2, sy2, px2, hr⟩ := h
  have hrl := Low.HS hL y2 hr
  have srl : sub (lo b y2) (Sp.hp w') := fun n o hn => by
    unfold lo at hn
    split at hn
    · rename_i hnb
      have h1 := sy n o (sy2 n o hn)
      cases n with
      | zero => simpa [Sp.hp, hbe.os, hbe.output, hbe.tape] using h1
      | succ n =>
        rw [hp_s] at h1 ⊢
        rw [hbe.block n (by omega)]
        exact h1
    · cases hn
  obtain ⟨_, v, hv, hown, hne⟩ := hb
  obtain ⟨ho1, ho2⟩ := hown
  rcases ho2 with ⟨rfl, hn0⟩ | ⟨g, cap, cur, rfl, hbg, hgc, hn, hm, hcs, ht⟩
  · have : bs' = [] := List.eq_nil_of_length_eq_zero (by omega)
    subst this
    refine ⟨(none, 0, 0), ⟨fun g hg => (by cases hg), ?_⟩⟩
    refine ⟨fun n => if n = b + 1 then some (.inl (.cells ⟨[.pointer (some ⟨b, 0, none⟩), .slice none 0 0]⟩ T (0, 0))) else none, lo b y2, fun n => ?_, ?_, srl, by show (if b + 1 = b + 1 then _ else _) = _; rw [if_pos rfl], ?_⟩
    · by_cases hnb : n = b + 1
      · right; unfold lo; rw [if_neg (by omega)]
      · left; dsimp only; rw [if_neg hnb]
    · intro n o hn
      dsimp only at hn
      split at hn
      · rename_i hnb
        subst hnb
        simp only [Option.some.injEq] at hn
        subst hn
        exact hp_o.2 hv
      · cases hn
    · exact ⟨fun _ => none, lo b y2, fun _ => .inl rfl, sub.none _, sub.refl _, ow_nil _ _ _, hrl⟩
  · have hgb : g ≠ b := fun h => hne (by simp [Value.ownBlock, h])
    refine ⟨(some ⟨g, 0, none⟩, bs'.length, cap), fun g' hg' => by simp only [Option.some.injEq] at hg'; subst hg'; show b < g; omega, ?_⟩
    refine ⟨fun n => if n = b + 1 then some (.inl (.cells ⟨[.pointer (some ⟨b, 0, none⟩), .slice (some ⟨g, 0, none⟩) bs'.length cap]⟩ T (0, 0))) else none, fun n => if n = g + 1 then some (.inl (.cells cur e (0, 0))) else lo b y2 n, fun n => ?_, ?_, ?_, by show (if b + 1 = b + 1 then _ else _) = _; rw [if_pos rfl], ?_⟩
    · by_cases hnb : n = b + 1
      · right; dsimp only; rw [if_neg (by omega)]; unfold lo; rw [if_neg (by omega)]
      · left; dsimp only; rw [if_neg hnb]
    · intro n o hn
      dsimp only at hn
      split at hn
      · rename_i hnb
        subst hnb
        simp only [Option.some.injEq] at hn
        subst hn
        exact hp_o.2 hv
      · cases hn
    · intro n o hn
      dsimp only at hn
      split at hn
      · rename_i hnb
        subst hnb
        simp only [Option.some.injEq] at hn
        subst hn
        exact hp_o.2 hgc
      · exact srl n o hn
    · refine ⟨fun n => if n = g + 1 then some (.inl (.cells cur e (0, 0))) else none, lo b y2, fun n => ?_, ?_, ?_, ⟨by simp, .inr ⟨g, cap, cur, rfl, by simp, hn, hm, by simpa using hcs, by simpa using ht⟩⟩, hrl⟩
      · by_cases hng : n = g + 1
        · right; unfold lo; rw [if_neg (by omega)]
        · left; dsimp only; rw [if_neg hng]
      · intro n o hn
        dsimp only at hn ⊢
        split at hn
        · rename_i hng
          rw [if_pos hng]; exact hn
        · cases hn
      · intro n o hn
        dsimp only
        by_cases hng : n = g + 1
        · subst hng
          unfold lo at hn
          rw [if_neg (by omega)] at hn
          cases hn
        · rw [if_neg hng]; exact hn
end
end Go.Sp
/- What each region of the Go functions does. Written by my own generator. -/
namespace Go.Sp
open Go
set_option maxRecDepth 100000
set_option linter.unusedVariables false
open Go.Proofs
/-! (*gharry.store.Store).Is -/
/-! (*gharry.store.Store).Read -/
/-! gharry.store.New -/
/-! (*gharry.store.Store).Pages -/
/-! (*gharry.store.Store).check -/
noncomputable def c98 : Cfg := { P := Tryz.prog, n := 26, T := TT, body := (Tryz.f98.body).getD .skip, res := Tryz.f98.results.toList, li := lk [] [(0, [0, 1]), (1, [0, 1]), (2, []), (3, [0, 1]), (4, []), (5, [])], lo := lk [] [(0, [0, 1]), (1, [0, 1, 5]), (2, [4]), (3, [15]), (4, [4]), (5, [4]), (1000000, [4])], ord := lk (false, []) [] }
@[go_sem] theorem c98_i0 : c98.li 0 = [0, 1] := rfl
@[go_sem] theorem c98_i1 : c98.li 1 = [0, 1] := rfl
@[go_sem] theorem c98_i2 : c98.li 2 = [] := rfl
@[go_sem] theorem c98_i3 : c98.li 3 = [0, 1] := rfl
@[go_sem] theorem c98_i4 : c98.li 4 = [] := rfl
@[go_sem] theorem c98_i5 : c98.li 5 = [] := rfl
@[go_sem] theorem c98_r0 (s0 : Option Addr) (id1 : Int) (K : Env → W) : RP c98 0 [(0, .pointer s0), (1, .int .i64 id1)] K =
    (K [(0, .pointer s0), (1, .int .i64 id1)]) := by kernel_rfl
@[go_sem] theorem c98_r1 (s0 : Option Addr) (id1 : Int) (K : Env → W) : RP c98 1 [(0, .pointer s0), (1, .int .i64 id1)] K =
    (cnd ((s0).isNone) (K [(0, .pointer s0), (1, .int .i64 id1), (5, .bool true)]) (nn s0 fun y1_ => (ld eP y1_ fun (y2_ : Option Addr) => (K [(0, .pointer s0), (1, .int .i64 id1), (5, .bool ((y2_).isNone))])))) := by kernel_rfl
@[go_sem] theorem c98_r2 (K : Env → W) : RP c98 2 [] K =
    (K [(4, .int .i64 (11 : Int))]) := by kernel_rfl
@[go_sem] theorem c98_r3 (s0 : Option Addr) (id1 : Int) (K : Env → W) : RP c98 3 [(0, .pointer s0), (1, .int .i64 id1)] K =
    (cnd ((decide (id1 < (0 : Int)))) (K [(15, .bool true)]) (nn s0 fun y1_ => (ld eI ((y1_.add 2)) fun (y2_ : Int) => (K [(15, .bool ((decide (y2_ ≤ id1))))])))) := by kernel_rfl
@[go_sem] theorem c98_r4 (K : Env → W) : RP c98 4 [] K =
    (K [(4, .int .i64 (6 : Int))]) := by kernel_rfl
@[go_sem] theorem c98_r5 (K : Env → W) : RP c98 5 [] K =
    (K [(4, .int .i64 (0 : Int))]) := by kernel_rfl
@[go_sem] theorem c98_o : c98.lo 1000000 = [4] := rfl
@[go_sem] theorem c98_e (t4 : Int) (k : Value → W) : RTp c98 [(4, .int .i64 t4)] k = (k (.int .i64 t4)) := by kernel_rfl
theorem c98_ok : (c98.P.follows .mixedOrders && okc c98 c98.body) = true := by kernel_rfl
theorem c98_fn {e : Enc} {args : Array Value} {G : e.α → W} {L : List HP} {ρ : Env} (hρ : envA 0 args.toList = ρ) (hs : Nat.ble args.size 26 = true) (h : E L (D c98 (.seq (.reg 0) (.seq (.block 0 (.seq (.reg 1) (.cond (.tmp 5) (.seq (.reg 2) (.ret)) (.seq (.reg 3) (.cond (.tmp 15) (.seq (.reg 4) (.ret)) (.skip)))))) (.seq (.reg 5) (.ret)))) (fnQ c98 e G) ρ)) : E L (cal e Tryz.prog 98 args G) :=
  d_fn (c := c98) Tryz.func98 (by kernel_rfl) (by kernel_rfl) (by kernel_rfl) c98_ok (by kernel_rfl) (by kernel_rfl) hρ hs h
/-! (*gharry.store.Store).Write -/
/-! (*gharry.store.Store).Sync -/
/-! (*gharry.store.Store).mark -/
noncomputable def c135 : Cfg := { P := Tryz.prog, n := 21, T := TT, body := (Tryz.f135.body).getD .skip, res := Tryz.f135.results.toList, li := lk [] [(0, [0, 1]), (1, [0, 1]), (2, [1, 6])], lo := lk [] [(0, [0, 1]), (1, [1, 6]), (2, [4, 5]), (1000000, [4, 5])], ord := lk (false, []) [] }
@[go_sem] theorem c135_i0 : c135.li 0 = [0, 1] := rfl
@[go_sem] theorem c135_i1 : c135.li 1 = [0, 1] := rfl
@[go_sem] theorem c135_i2 : c135.li 2 = [1, 6] := rfl
@[go_sem] theorem c135_r0 (s0 : Option Addr) (lsn1 : Int) (K : Env → W) : RP c135 0 [(0, .pointer s0), (1, .int .i64 lsn1)] K =
    (K [(0, .pointer s0), (1, .int .i64 lsn1)]) := by kernel_rfl
@[go_sem] theorem c135_r1 (s0 : Option Addr) (lsn1 : Int) (K : Env → W) : RP c135 1 [(0, .pointer s0), (1, .int .i64 lsn1)] K =
    (nn s0 fun y1_ => (ld eI ((y1_.add 3)) fun (y2_ : Int) => (cal (eT2 eS eI) Tryz.prog 73 #[str (([] : List UInt8)), .int .i64 y2_, .int .i64 (2 : Int)] fun (y3_ : ((List UInt8) × Int)) => (K [(1, .int .i64 lsn1), (6, str y3_.1)])))) := by kernel_rfl
@[go_sem] theorem c135_r2 (lsn1 : Int) (out6 : List UInt8) (K : Env → W) : RP c135 2 [(1, .int .i64 lsn1), (6, str out6)] K =
    (cal (eT2 eS eI) Tryz.prog 73 #[str out6, .int .i64 lsn1, .int .i64 (6 : Int)] fun (y1_ : ((List UInt8) × Int)) => (K [(4, str y1_.1), (5, .int .i64 y1_.2)])) := by kernel_rfl
@[go_sem] theorem c135_o : c135.lo 1000000 = [4, 5] := rfl
@[go_sem] theorem c135_e (t4 : List UInt8) (t5 : Int) (k : Value → W) : RTp c135 [(4, str t4), (5, .int .i64 t5)] k = (k (.tuple #[str t4, .int .i64 t5])) := by kernel_rfl
theorem c135_ok : (c135.P.follows .mixedOrders && okc c135 c135.body) = true := by kernel_rfl
theorem c135_fn {e : Enc} {args : Array Value} {G : e.α → W} {L : List HP} {ρ : Env} (hρ : envA 0 args.toList = ρ) (hs : Nat.ble args.size 21 = true) (h : E L (D c135 (.seq (.reg 0) (.seq (.reg 1) (.seq (.reg 2) (.ret)))) (fnQ c135 e G) ρ)) : E L (cal e Tryz.prog 135 args G) :=
  d_fn (c := c135) Tryz.func135 (by kernel_rfl) (by kernel_rfl) (by kernel_rfl) c135_ok (by kernel_rfl) (by kernel_rfl) hρ hs h
end Go.Sp
/- What each region of the Go functions does. Written by my own generator. -/
namespace Go.Sp
open Go
set_option maxRecDepth 100000
set_option linter.unusedVariables false
open Go.Proofs
/-! gharry.gharrylaw10.made -/
/-! gharry.gharrylaw10.awake -/
/-! (*gharry.gharrylaw10.world).set -/
/-! gharry.gharrylaw10.fill -/
/-! (*gharry.gharrylaw10.world).pinned -/
/-! gharry.gharrylaw10.in -/
end Go.Sp
/- The store: what a page is in its sectors; its small functions. -/
namespace Go.Sp
open Go Go.Proofs
set_option linter.unusedSimpArgs false
set_option linter.unusedVariables false
set_option maxRecDepth 10000
structure St where
  q : Nat
  base : Nat
  pages : Nat
  gen : Nat
abbrev spt (S : St) (sb : Nat) : HP := ar S.q 141 [.pointer (some ⟨sb, 0, none⟩), .int .i64 (S.base : Int), .int .i64 (S.pages : Int), .int .i64 (S.gen : Int)]
abbrev St.p (S : St) : Value := .pointer (some ⟨S.q, 0, none⟩)
/-- The store lies in its disk. -/
structure St.ok (S : St) (n : Nat) : Prop where
  g1 : 1 ≤ S.gen
  g2 : S.gen < 65536
  p1 : 1 ≤ S.pages
  p2 : S.pages ≤ 200
  fit : S.base + 4 * S.pages ≤ n
  n1 : n ≤ 8192
def St.chk (S : St) (id : Int) : Int := if id < 0 ∨ (S.pages : Int) ≤ id then 6 else 0
theorem f82 (S : St) (sb : Nat) (id : Int) : Fp eI Tryz.prog 98 #[S.p, .int .i64 id] [spt S sb] (S.chk id) := fun L => by
  refine c98_fn rfl rfl ?_
  unfold St.chk
  repeat' ((fail_if_success with_reducible refine nph ?_); first | (with_reducible first | (refine d_seq ?_; intro K hK) | (refine hK _ _ ?_; clear hK K) | (refine SG.p ?_; try intro b)) | ((with_reducible refine SC.p ?_); refine And.intro ?_ ?_) <;> intro hc <;> try simp only [push_cast, Int.reduceEq, Int.reduceLT, Int.reduceLE, Int.reduceNe] at hc | with_reducible refine r_rq (by first | decide | omega) ?_ | ((with_reducible refine SL.p ?_); first | refine ⟨_, rfl, ?_⟩ | refine ⟨_, _, _, rfl, ?_⟩ | (refine ⟨?_, rfl, ?_⟩; focus (simp; done))) | ((with_reducible first | apply i_ldn | apply i_ldnq); exact rfl; exact rfl; exact rfl) | ((try with_reducible refine d_reg ?_); simp only [go_sem, Nat.reduceAdd, Nat.reduceEqDiff, Int.reduceToNat, Nat.reduceMul, Nat.reduceSub]) | clear hK K)
  · (with_reducible first | apply i_ret0 | apply i_ret2 | apply i_ret3 | apply i_ret); exact rfl
    rw [if_pos (by omega)]
  · (with_reducible first | apply i_ret0 | apply i_ret2 | apply i_ret3 | apply i_ret); exact rfl
    rw [if_pos (by omega)]
  · (with_reducible first | apply i_ret0 | apply i_ret2 | apply i_ret3 | apply i_ret); exact rfl
    rw [if_neg (by omega)]
def mk8 (gen : Nat) (lsn : Int) : List UInt8 := lowb (gen : Int) 2 ++ lowb lsn 6
theorem p2566 : ((256 ^ 6 : Nat) : Int) = 281474976710656 := by decide
theorem p2562 : ((256 ^ 2 : Nat) : Int) = 65536 := by decide
theorem f83 (S : St) (sb : Nat) (hg : S.gen < 65536) (lsn : Int) : Fp (eT2 eS eI) Tryz.prog 135 #[S.p, .int .i64 lsn] [spt S sb] (if lsn < 0 ∨ 281474976710656 ≤ lsn then ([], 6) else (mk8 S.gen lsn, 0)) := fun L => by
  have F := f97 [] (S.gen : Int) 2 (by decide) (by decide) (by decide)
  have G := f97 (lowb (S.gen : Int) 2) lsn 6 (by decide) (by decide) (by rw [lowb_len]; decide)
  unfold putN at F G
  rw [p2562, if_neg (by omega)] at F
  rw [p2566] at G
  refine c135_fn rfl rfl ?_
  repeat' ((fail_if_success with_reducible refine nph ?_); first | (with_reducible first | (refine d_seq ?_; intro K hK) | (refine hK _ _ ?_; clear hK K) | (refine SG.p ?_; try intro b)) | ((with_reducible refine SC.p ?_); refine And.intro ?_ ?_) <;> intro hc <;> try simp only [push_cast, Int.reduceEq, Int.reduceLT, Int.reduceLE, Int.reduceNe] at hc | with_reducible refine r_rq (by first | decide | omega) ?_ | ((with_reducible refine SL.p ?_); first | refine ⟨_, rfl, ?_⟩ | refine ⟨_, _, _, rfl, ?_⟩ | (refine ⟨?_, rfl, ?_⟩; focus (simp; done))) | ((with_reducible first | apply i_ldn | apply i_ldnq); exact rfl; exact rfl; exact rfl) | ((try with_reducible refine d_reg ?_); simp only [go_sem, Nat.reduceAdd, Nat.reduceEqDiff, Int.reduceToNat, Nat.reduceMul, Nat.reduceSub]) | clear hK K)
  refine i_clp F ?_
  repeat' ((fail_if_success with_reducible refine nph ?_); first | (with_reducible first | (refine d_seq ?_; intro K hK) | (refine hK _ _ ?_; clear hK K) | (refine SG.p ?_; try intro b)) | ((with_reducible refine SC.p ?_); refine And.intro ?_ ?_) <;> intro hc <;> try simp only [push_cast, Int.reduceEq, Int.reduceLT, Int.reduceLE, Int.reduceNe] at hc | with_reducible refine r_rq (by first | decide | omega) ?_ | ((with_reducible refine SL.p ?_); first | refine ⟨_, rfl, ?_⟩ | refine ⟨_, _, _, rfl, ?_⟩ | (refine ⟨?_, rfl, ?_⟩; focus (simp; done))) | ((with_reducible first | apply i_ldn | apply i_ldnq); exact rfl; exact rfl; exact rfl) | ((try with_reducible refine d_reg ?_); simp only [go_sem, Nat.reduceAdd, Nat.reduceEqDiff, Int.reduceToNat, Nat.reduceMul, Nat.reduceSub]) | clear hK K)
  refine i_clp G ?_
  repeat' ((fail_if_success with_reducible refine nph ?_); first | (with_reducible first | (refine d_seq ?_; intro K hK) | (refine hK _ _ ?_; clear hK K) | (refine SG.p ?_; try intro b)) | ((with_reducible refine SC.p ?_); refine And.intro ?_ ?_) <;> intro hc <;> try simp only [push_cast, Int.reduceEq, Int.reduceLT, Int.reduceLE, Int.reduceNe] at hc | with_reducible refine r_rq (by first | decide | omega) ?_ | ((with_reducible refine SL.p ?_); first | refine ⟨_, rfl, ?_⟩ | refine ⟨_, _, _, rfl, ?_⟩ | (refine ⟨?_, rfl, ?_⟩; focus (simp; done))) | ((with_reducible first | apply i_ldn | apply i_ldnq); exact rfl; exact rfl; exact rfl) | ((try with_reducible refine d_reg ?_); simp only [go_sem, Nat.reduceAdd, Nat.reduceEqDiff, Int.reduceToNat, Nat.reduceMul, Nat.reduceSub]) | clear hK K)
  (with_reducible first | apply i_ret0 | apply i_ret2 | apply i_ret3 | apply i_ret); exact rfl
  rfl
def fl (c : UInt8) : List UInt8 := List.replicate 224 c
end Go.Sp
/- The store: a page is written. -/
namespace Go.Sp
open Go Go.Proofs
set_option linter.unusedSimpArgs false
set_option linter.unusedVariables false
set_option maxRecDepth 10000
def pt (text : List UInt8) (i : Nat) : List UInt8 := (text.drop (56 * i)).take 56
theorem pt_len {text : List UInt8} (h : text.length = 224) {i : Nat} (hi : i < 4) : (pt text i).length = 56 := by
  simp [pt, h]; omega
def Dk.wp (Z : Dk) (a : Nat) (m text : List UInt8) : Nat → Int × Dk
  | 0 => (0, Z)
  | k + 1 => if (Z.wp a m text k).1 = 0 then (Z.wp a m text k).2.write ((a + k : Nat) : Int) (m ++ pt text k) else Z.wp a m text k
theorem Dk.wp_ok {Z : Dk} (h : Z.ok) (a : Nat) (m text : List UInt8) : ∀ k, (Z.wp a m text k).2.ok ∧ (Z.wp a m text k).2.sb = Z.sb
  | 0 => ⟨h, rfl⟩
  | k + 1 => by
    obtain ⟨h1, h2⟩ := Dk.wp_ok h a m text k
    unfold Dk.wp
    split
    · exact ⟨Dk.write_ok h1 _ _, (Dk.write_sb _ _ _).trans h2⟩
    · exact ⟨h1, h2⟩
end Go.Sp
/- The store: a page is read. -/
namespace Go.Sp
open Go Go.Proofs
set_option linter.unusedSimpArgs false
set_option linter.unusedVariables false
set_option maxRecDepth 10000
def Dk.sc (Z : Dk) (a i : Nat) : List UInt8 := Z.get ((a + i : Nat) : Int)
end Go.Sp
/- The store: its other functions; what every sector has. -/
namespace Go.Sp
open Go Go.Proofs
set_option linter.unusedSimpArgs false
set_option linter.unusedVariables false
set_option maxRecDepth 10000
end Go.Sp
/- The store: what every sector has, whatever is done; a page that is written is read. -/
namespace Go.Sp
open Go Go.Proofs
set_option linter.unusedSimpArgs false
set_option linter.unusedVariables false
set_option maxRecDepth 10000
/-- All that a sector may have, lasting or waiting. -/
def All (P : Nat → List UInt8 → Prop) (Z : Dk) : Prop := ∀ j, j < Z.sure.length → P j (wh (Z.sure.getD j [])) ∧ ∀ v, gk Z.es (j : Int) = some v → P j v
section
variable {P : Nat → List UInt8 → Prop} {Z : Dk}
theorem All.get (h : All P Z) {j : Nat} (hj : j < Z.sure.length) : P j (Z.get (j : Int)) := by
  obtain ⟨h1, h2⟩ := h j hj
  unfold Dk.get
  cases hg : gk Z.es (j : Int) with
  | none => simpa using h1
  | some v => simpa using h2 v hg
theorem All.of {Z' : Dk} (h : All P Z) (hs : Z'.sure = Z.sure) (he : Z'.es = Z.es) : All P Z' := by
  intro j hj
  rw [hs] at hj ⊢
  rw [he]
  exact h j hj
theorem All.off (hok : Z.ok) (h : All P Z) (keep : Int) : All P (Z.off keep) := by
  have hl := Dk.cutn_len Z keep Z.keys.length
  intro j hj
  have hj' : j < Z.sure.length := by rw [← hl]; exact hj
  refine ⟨?_, fun v hv => by cases hv⟩
  show P j (wh ((Z.cutn keep Z.keys.length).getD j []))
  rcases Dk.cut_or hok keep Z.keys.length (Nat.le_refl _) j with h1 | h1
  · rw [h1]; exact (h j hj').1
  · obtain ⟨x, hx, _, hv⟩ := gk_mem h1
    have h64 := hok.e64 x hx
    rw [hv] at h64
    rw [wh_full h64]
    exact (h j hj').2 _ h1
theorem All.act (hok : Z.ok) (h : All P Z) : All P Z.act.2 := by
  unfold Dk.act
  split
  · exact All.off hok h _
  · exact All.of h rfl rfl
theorem All.write (hok : Z.ok) (h : All P Z) {i : Nat} {s : List UInt8} (hp : s.length ≤ 64 → P i (wh s)) : All P (Z.write (i : Int) s).2 := by
  have ha := All.act hok h
  unfold Dk.write
  split
  · split
    · exact h
    · rename_i hs
      split
      · intro j hj
        refine ⟨(ha j hj).1, fun v hv => ?_⟩
        have e : gk (Z.act.2.put (i : Int) (wh s)).es (j : Int) = if (i : Int) = (j : Int) then some (wh s) else gk Z.act.2.es (j : Int) := gk_pk _ _ _ _ _
        rw [e] at hv
        by_cases hij : (i : Int) = (j : Int)
        · rw [if_pos hij] at hv
          have : i = j := by omega
          subst this
          simp only [Option.some.injEq] at hv
          rw [← hv]
          exact hp (by omega)
        · rw [if_neg hij] at hv
          exact (ha j hj).2 v hv
      · exact ha
  · exact h
theorem All.flush (hok : Z.ok) (h : All P Z) : All P Z.flush := by
  intro j hj
  have hj' : j < Z.sure.length := by rw [← sy_len Z.es Z.sure]; exact hj
  refine ⟨?_, fun v hv => by cases hv⟩
  have e := Dk.flush_get hok hj'
  have e2 : Z.flush.get (j : Int) = wh (Z.flush.sure.getD j []) := by
    unfold Dk.get
    simp [Dk.flush, gk]
  rw [← e2, e]
  exact h.get hj'
theorem All.sync (hok : Z.ok) (h : All P Z) : All P Z.sync.2 := by
  have ha := All.act hok h
  unfold Dk.sync
  split
  · split
    · exact All.flush (Dk.act_ok hok) ha
    · exact ha
  · exact h
theorem All.wp (hok : Z.ok) (h : All P Z) {a : Nat} {m text : List UInt8} (hm : m.length = 8) (ht : text.length = 224) (hp : ∀ i, i < 4 → P (a + i) (m ++ pt text i)) : ∀ k, k ≤ 4 → All P (Z.wp a m text k).2
  | 0, _ => h
  | k + 1, hk => by
    have ih := All.wp hok h hm ht hp k (by omega)
    have h1 := (Dk.wp_ok hok a m text k).1
    unfold Dk.wp
    split
    · refine All.write h1 ih fun _ => ?_
      rw [wh_full (by rw [List.length_append, pt_len ht (by omega)]; omega)]
      exact hp k (by omega)
    · exact ih
end
theorem Dk.write_n (Z : Dk) (i : Int) (s : List UInt8) : (Z.write i s).2.sure.length = Z.sure.length := by
  have := Dk.act_len Z
  unfold Dk.write
  split
  · split
    · rfl
    · split
      · exact this
      · exact this
  · rfl
/-! ### Writes on a disk that nothing lets go -/
theorem Dk.calm.wp {Z : Dk} {sb n : Nat} (h : Z.calm sb n) {a : Nat} (ha : a + 4 ≤ n) {m text : List UInt8} (hm : m.length = 8) (ht : text.length = 224) : ∀ k, k ≤ 4 → (Z.wp a m text k).1 = 0 ∧ (Z.wp a m text k).2.calm sb n ∧ (Z.wp a m text k).2.sure = Z.sure ∧
    ∀ j : Nat, gk (Z.wp a m text k).2.es (j : Int) = if a ≤ j ∧ j < a + k then some (m ++ pt text (j - a)) else gk Z.es (j : Int)
  | 0, _ => ⟨rfl, h, rfl, fun j => by rw [if_neg (by omega)]; rfl⟩
  | k + 1, hk => by
    obtain ⟨h1, h2, h3, h4⟩ := Dk.calm.wp h ha hm ht k (by omega)
    have hpl := pt_len ht (i := k) (by omega)
    have hl : (m ++ pt text k).length = 64 := by rw [List.length_append]; omega
    obtain ⟨w1, w2, w3, w4, w5⟩ := h2.write (i := a + k) (by omega) (by omega : (m ++ pt text k).length ≤ 64)
    have e : Z.wp a m text (k + 1) = (Z.wp a m text k).2.write ((a + k : Nat) : Int) (m ++ pt text k) := by show ite _ _ _ = _; rw [if_pos h1]
    rw [e]
    refine ⟨w1, w2, w3.trans h3, fun j => ?_⟩
    rw [w5, h4, wh_full hl]
    by_cases hj : a + k = j
    · rw [if_pos (by omega), if_pos ⟨by omega, by omega⟩]
      have : j - a = k := by omega
      rw [this]
    · rw [if_neg (by omega)]
      by_cases hc : a ≤ j ∧ j < a + k
      · rw [if_pos hc, if_pos ⟨hc.1, by omega⟩]
      · rw [if_neg hc, if_neg (by omega)]
end Go.Sp
/- The log: a sector is written; scan. -/
namespace Go.Sp
open Go Go.Proofs
set_option linter.unusedSimpArgs false
set_option linter.unusedVariables false
set_option maxRecDepth 10000
def part (s : List UInt8) (i : Nat) : List UInt8 := (s.drop (58 * i)).take 58
theorem part_le (s : List UInt8) (i : Nat) : (part s i).length ≤ 58 := by unfold part; rw [List.length_take]; omega
def Lg.sec (G : Lg) (i : Nat) : List UInt8 := lowb (G.run : Int) 4 ++ lowb ((part G.all i).length : Int) 2 ++ part G.all i
def Dk.lw (Z : Dk) (G : Lg) (i : Nat) : Int × Dk := if G.sectors ≤ i then (0, Z) else Z.write ((G.base + i : Nat) : Int) (G.sec i)
theorem min_part (s : List UInt8) (i : Nat) (hs : s.length ≤ 1000000) (hi : i ≤ 8192) :
    (if (s.length : Int) < (i : Int) * 58 then (s.length : Int) else (i : Int) * 58) = ((min (58 * i) s.length : Nat) : Int) := by
  split <;> omega
theorem ss_part (s : List UInt8) (i : Nat) : ss s ((min (58 * i) s.length : Nat) : Int) ((min (58 * (i + 1)) s.length : Nat) : Int) = part s i := by
  unfold ss part
  simp only [Int.toNat_natCast]
  rcases Nat.lt_or_ge (58 * i) s.length with h | h
  · rw [show min (58 * i) s.length = 58 * i by omega]
    rcases Nat.lt_or_ge (58 * (i + 1)) s.length with h2 | h2
    · rw [show min (58 * (i + 1)) s.length = 58 * i + 58 by omega, List.drop_take]
      congr 1
      omega
    · rw [show min (58 * (i + 1)) s.length = s.length by omega, List.take_length, List.take_of_length_le (by rw [List.length_drop]; omega)]
  · rw [show min (58 * i) s.length = s.length by omega, show min (58 * (i + 1)) s.length = s.length by omega, List.take_length, List.drop_length, List.drop_eq_nil_of_le h]
    rfl
theorem layN_go {s : List UInt8} {n : Int} {w : Nat} (h : fitN n w) : layN (s, 0) n w = (s ++ lowb n w, 0) := by
  have h' : ¬ (n < 0 ∨ ((256 ^ w : Nat) : Int) ≤ n) := by
    have h1 := h.1
    have h2 := h.2
    omega
  have e : putN s n w = (s ++ lowb n w, 0) := if_neg h'
  unfold layN lay1
  rw [if_neg (by simp), e, if_neg (by simp)]
theorem fit4 {n : Nat} (h : n < 4294967296) : fitN (n : Int) 4 := ⟨by omega, by rw [show ((256 ^ 4 : Nat) : Int) = 4294967296 by decide]; omega⟩
theorem sec_w (G : Lg) (i : Nat) (h1 : G.run < 4294967296) : layN (layN ([], 0) (G.run : Int) 4) ((part G.all i).length : Int) 2 = (lowb (G.run : Int) 4 ++ lowb ((part G.all i).length : Int) 2, 0) := by
  have hp := part_le G.all i
  rw [layN_go (fit4 h1), layN_go (fit2 (by omega))]
  rfl
theorem g77 (G : Lg) (Z : Dk) (h : Z.ok) (hG : G.ok Z.sure.length) (i : Nat) (hi : i ≤ 8192) : Fq eI Tryz.prog 77 #[G.p, .int .i64 (i : Int)] [lgp G Z.sb, dk Z] [lgp G Z.sb, dk (Z.lw G i).2] (Z.lw G i).1 := fun L => by
  have hfit := hG.fit
  have hn1 := hG.n1
  have hle := hG.le
  have F := F27 Z h ((G.base + i : Nat) : Int) (G.sec i)
  have hp := part_le G.all i
  simp only [Dk.p] at F
  unfold Dk.lw Lg.sec
  refine c77_fn rfl rfl ?_
  by_cases h1 : G.sectors ≤ i
  · rw [if_pos h1]
    repeat' ((fail_if_success with_reducible refine nph ?_); first | (with_reducible first | (refine d_seq ?_; intro K hK) | (refine hK _ _ ?_; clear hK K) | (refine SG.p ?_; try intro b)) | ((with_reducible refine SC.p ?_); refine And.intro ?_ ?_) <;> intro hc <;> try simp only [push_cast, Int.reduceEq, Int.reduceLT, Int.reduceLE, Int.reduceNe] at hc | with_reducible refine r_rq (by first | decide | omega) ?_ | ((with_reducible refine SL.p ?_); first | refine ⟨_, rfl, ?_⟩ | refine ⟨_, _, _, rfl, ?_⟩ | (refine ⟨?_, rfl, ?_⟩; focus (simp; done))) | ((with_reducible first | apply i_ldn | apply i_ldnq); exact rfl; exact rfl; exact rfl) | ((try with_reducible refine d_reg ?_); simp only [go_sem, Nat.reduceAdd, Nat.reduceEqDiff, Int.reduceToNat, Nat.reduceMul, Nat.reduceSub]) | clear hK K)
    all_goals try (exfalso; omega)
    (with_reducible first | apply i_ret0 | apply i_ret2 | apply i_ret3 | apply i_ret); exact rfl
    rfl
  · rw [if_neg h1]
    have W := sec_w G i hG.r2
    have m1 := min_part G.all i (by omega) hi
    have m2 := min_part G.all (i + 1) (by omega) (by omega)
    have e1 : IntKind.wrap .i64 ((i : Int) * 58) = (i : Int) * 58 := w64 (by omega) (by omega)
    have e2 : IntKind.wrap .i64 (IntKind.wrap .i64 ((i : Int) + 1) * 58) = ((i + 1 : Nat) : Int) * 58 := by rw [w64 (n := (i : Int) + 1) (by omega) (by omega), w64 (by omega) (by omega)]; omega
    have e3 : IntKind.wrap .i64 ((G.base : Int) + (i : Int)) = ((G.base + i : Nat) : Int) := by rw [w64 (by omega) (by omega)]; omega
    have l1 := layN_len ([], 0) (G.run : Int) 4
    unfold Lg.sec at F
    repeat' ((fail_if_success with_reducible refine nph ?_); first | (with_reducible first | (refine d_seq ?_; intro K hK) | (refine hK _ _ ?_; clear hK K) | (refine SG.p ?_; try intro b)) | ((with_reducible refine SC.p ?_); refine And.intro ?_ ?_) <;> intro hc <;> try simp only [push_cast, Int.reduceEq, Int.reduceLT, Int.reduceLE, Int.reduceNe] at hc | with_reducible refine r_rq (by first | decide | omega) ?_ | ((with_reducible refine SL.p ?_); first | refine ⟨_, rfl, ?_⟩ | refine ⟨_, _, _, rfl, ?_⟩ | (refine ⟨?_, rfl, ?_⟩; focus (simp; done))) | ((with_reducible first | apply i_ldn | apply i_ldnq); exact rfl; exact rfl; exact rfl) | ((try with_reducible refine d_reg ?_); simp only [go_sem, Nat.reduceAdd, Nat.reduceEqDiff, Int.reduceToNat, Nat.reduceMul, Nat.reduceSub]) | clear hK K)
    all_goals try (exfalso; omega)
    refine r_ph0 ?_
    repeat' (first | rw [e1] | rw [e2] | rw [m1] | rw [m2] | rw [ss_part] | (fail_if_success with_reducible refine nph ?_); first | (with_reducible first | (refine d_seq ?_; intro K hK) | (refine hK _ _ ?_; clear hK K) | (refine SG.p ?_; try intro b)) | ((with_reducible refine SC.p ?_); refine And.intro ?_ ?_) <;> intro hc <;> try simp only [push_cast, Int.reduceEq, Int.reduceLT, Int.reduceLE, Int.reduceNe] at hc | with_reducible refine r_rq (by first | decide | omega) ?_ | ((with_reducible refine SL.p ?_); first | refine ⟨_, rfl, ?_⟩ | refine ⟨_, _, _, rfl, ?_⟩ | (refine ⟨?_, rfl, ?_⟩; focus (simp; done))) | ((with_reducible first | apply i_ldn | apply i_ldnq); exact rfl; exact rfl; exact rfl) | ((try with_reducible refine d_reg ?_); simp only [go_sem, Nat.reduceAdd, Nat.reduceEqDiff, Int.reduceToNat, Nat.reduceMul, Nat.reduceSub]) | clear hK K)
    refine i_clq (gN b ([], 0) (G.run : Int) 4 (by decide) (by decide) (by decide)) ?_
    repeat' ((fail_if_success with_reducible refine nph ?_); first | (with_reducible first | (refine d_seq ?_; intro K hK) | (refine hK _ _ ?_; clear hK K) | (refine SG.p ?_; try intro b)) | ((with_reducible refine SC.p ?_); refine And.intro ?_ ?_) <;> intro hc <;> try simp only [push_cast, Int.reduceEq, Int.reduceLT, Int.reduceLE, Int.reduceNe] at hc | with_reducible refine r_rq (by first | decide | omega) ?_ | ((with_reducible refine SL.p ?_); first | refine ⟨_, rfl, ?_⟩ | refine ⟨_, _, _, rfl, ?_⟩ | (refine ⟨?_, rfl, ?_⟩; focus (simp; done))) | ((with_reducible first | apply i_ldn | apply i_ldnq); exact rfl; exact rfl; exact rfl) | ((try with_reducible refine d_reg ?_); simp only [go_sem, Nat.reduceAdd, Nat.reduceEqDiff, Int.reduceToNat, Nat.reduceMul, Nat.reduceSub]) | clear hK K)
    refine i_clq (gN b (layN ([], 0) (G.run : Int) 4) ((part G.all i).length : Int) 2 (by decide) (by decide) (by dsimp only [List.length_nil] at l1; omega)) ?_
    rw [W]
    repeat' ((fail_if_success with_reducible refine nph ?_); first | (with_reducible first | (refine d_seq ?_; intro K hK) | (refine hK _ _ ?_; clear hK K) | (refine SG.p ?_; try intro b)) | ((with_reducible refine SC.p ?_); refine And.intro ?_ ?_) <;> intro hc <;> try simp only [push_cast, Int.reduceEq, Int.reduceLT, Int.reduceLE, Int.reduceNe] at hc | with_reducible refine r_rq (by first | decide | omega) ?_ | ((with_reducible refine SL.p ?_); first | refine ⟨_, rfl, ?_⟩ | refine ⟨_, _, _, rfl, ?_⟩ | (refine ⟨?_, rfl, ?_⟩; focus (simp; done))) | ((with_reducible first | apply i_ldn | apply i_ldnq); exact rfl; exact rfl; exact rfl) | ((try with_reducible refine d_reg ?_); simp only [go_sem, Nat.reduceAdd, Nat.reduceEqDiff, Int.reduceToNat, Nat.reduceMul, Nat.reduceSub]) | clear hK K)
    refine i_clp (f96 b (lowb (G.run : Int) 4 ++ lowb ((part G.all i).length : Int) 2, 0)) ?_
    have q4 := lowb_len (G.run : Int) 4
    have q2 := lowb_len ((part G.all i).length : Int) 2
    repeat' ((fail_if_success with_reducible refine nph ?_); first | (with_reducible first | (refine d_seq ?_; intro K hK) | (refine hK _ _ ?_; clear hK K) | (refine SG.p ?_; try intro b)) | ((with_reducible refine SC.p ?_); refine And.intro ?_ ?_) <;> intro hc <;> try simp only [push_cast, Int.reduceEq, Int.reduceLT, Int.reduceLE, Int.reduceNe] at hc | with_reducible refine r_rq (by first | decide | omega) ?_ | ((with_reducible refine SL.p ?_); first | refine ⟨_, rfl, ?_⟩ | refine ⟨_, _, _, rfl, ?_⟩ | (refine ⟨?_, rfl, ?_⟩; focus (simp; done))) | ((with_reducible first | apply i_ldn | apply i_ldnq); exact rfl; exact rfl; exact rfl) | ((try with_reducible refine d_reg ?_); simp only [go_sem, Nat.reduceAdd, Nat.reduceEqDiff, Int.reduceToNat, Nat.reduceMul, Nat.reduceSub]) | clear hK K)
    refine r_ph [lgp G Z.sb] SX.p ?_
    repeat' ((fail_if_success with_reducible refine nph ?_); first | (with_reducible first | (refine d_seq ?_; intro K hK) | (refine hK _ _ ?_; clear hK K) | (refine SG.p ?_; try intro b)) | ((with_reducible refine SC.p ?_); refine And.intro ?_ ?_) <;> intro hc <;> try simp only [push_cast, Int.reduceEq, Int.reduceLT, Int.reduceLE, Int.reduceNe] at hc | with_reducible refine r_rq (by first | decide | omega) ?_ | ((with_reducible refine SL.p ?_); first | refine ⟨_, rfl, ?_⟩ | refine ⟨_, _, _, rfl, ?_⟩ | (refine ⟨?_, rfl, ?_⟩; focus (simp; done))) | ((with_reducible first | apply i_ldn | apply i_ldnq); exact rfl; exact rfl; exact rfl) | ((try with_reducible refine d_reg ?_); simp only [go_sem, Nat.reduceAdd, Nat.reduceEqDiff, Int.reduceToNat, Nat.reduceMul, Nat.reduceSub]) | clear hK K)
    refine r_rq (by rw [List.length_append]; omega) ?_
    rw [e3]
    refine i_clq F ?_
    repeat' ((fail_if_success with_reducible refine nph ?_); first | (with_reducible first | (refine d_seq ?_; intro K hK) | (refine hK _ _ ?_; clear hK K) | (refine SG.p ?_; try intro b)) | ((with_reducible refine SC.p ?_); refine And.intro ?_ ?_) <;> intro hc <;> try simp only [push_cast, Int.reduceEq, Int.reduceLT, Int.reduceLE, Int.reduceNe] at hc | with_reducible refine r_rq (by first | decide | omega) ?_ | ((with_reducible refine SL.p ?_); first | refine ⟨_, rfl, ?_⟩ | refine ⟨_, _, _, rfl, ?_⟩ | (refine ⟨?_, rfl, ?_⟩; focus (simp; done))) | ((with_reducible first | apply i_ldn | apply i_ldnq); exact rfl; exact rfl; exact rfl) | ((try with_reducible refine d_reg ?_); simp only [go_sem, Nat.reduceAdd, Nat.reduceEqDiff, Int.reduceToNat, Nat.reduceMul, Nat.reduceSub]) | clear hK K)
    (with_reducible first | apply i_ret0 | apply i_ret2 | apply i_ret3 | apply i_ret); exact rfl
    rfl
theorem Dk.lw_ok {Z : Dk} (h : Z.ok) (G : Lg) (i : Nat) : (Z.lw G i).2.ok ∧ (Z.lw G i).2.sb = Z.sb ∧ (Z.lw G i).2.sure.length = Z.sure.length := by
  unfold Dk.lw Lg.sec
  split
  · exact ⟨h, rfl, rfl⟩
  · exact ⟨Dk.write_ok h _ _, Dk.write_sb _ _ _, Dk.write_n _ _ _⟩
end Go.Sp
/- The log: scan. -/
namespace Go.Sp
open Go Go.Proofs
set_option linter.unusedSimpArgs false
set_option linter.unusedVariables false
set_option maxRecDepth 10000
section
variable {L : List HP} {b : Nat} {p : Option Addr} {s : SlV} {l t : List UInt8}
theorem bld_size {w : World} {T e : TypeId} {bs : List Value} (h : Holds w (bld b T e p s bs ++ L)) : b ≤ w.heap.size := by
  have h1 : Holds w (ar b T [.pointer p, .slice s.1 s.2.1 s.2.2] :: (ow e 1 s bs :: L)) := h
  have hg := Holds.get h1
  rcases Nat.lt_or_ge b w.heap.size with h | h
  · omega
  · rw [Array.getElem?_eq_none h] at hg; cases hg
theorem r_ws {k : Int × Value → W} (hL : ∀ A ∈ L, Low b A) (hp : p = none ∨ p = some ⟨b, 0, none⟩) (hs : ∀ g, s.1 = some g → b < g.block) (hlen : l.length + t.length ≤ 140737488355328)
    (hk : ∀ s' : SlV, (∀ g, s'.1 = some g → b < g.block) → E (bld b 144 5 (some ⟨b, 0, none⟩) s' (cb (l ++ t)) ++ L) (k ((t.length : Int), .nilIface))) :
    E (bld b 144 5 p s (cb l) ++ L) (cal (eT2 eI eV) Tryz.prog 100 #[.pointer (some ⟨b, 0, none⟩), str t] k) := fun w hw => by
  have hi := bld_is hp hs hw
  have hc := Any.Builder_WriteString Tryz.lays166 Tryz.builderW b b (cb l) ⟨t.toArray⟩ w hi (by rw [cb_len]; exact hlen) (bld_size hw)
  refine hc.mono ?_
  rintro _ w' ⟨rfl, hb, hbe⟩
  obtain ⟨s', h1, h2⟩ := bld_of hL hw hb hbe
  refine ⟨((t.length : Int), .nilIface), rfl, hk s' h1 w' ?_⟩
  have e : cb (l ++ t) = cb l ++ Lib.strCells ⟨t.toArray⟩ := by simp [cb, Lib.strCells]
  rw [e]
  exact h2
theorem low_keeps {w w' : World} (hL : ∀ A ∈ L, Low b A) (h : Holds w L) (hbe : RowKit.Below b w w') : Holds w' L := by
  refine HS.mono (Low.HS hL _ h) fun n o hn => ?_
  unfold lo at hn
  split at hn
  · rename_i hnb
    cases n with
    | zero => simpa [Sp.hp, hbe.os, hbe.output, hbe.tape] using hn
    | succ n =>
      rw [hp_s] at hn ⊢
      rw [hbe.block n (by omega)]
      exact hn
  · cases hn
theorem r_bs' {k : List UInt8 → W} (hL : ∀ A ∈ L, Low b A) (hp : p = none ∨ p = some ⟨b, 0, none⟩) (hs : ∀ g, s.1 = some g → b < g.block) (hk : E L (k l)) :
    E (bld b 144 5 p s (cb l) ++ L) (cal eS Tryz.prog 102 #[.pointer (some ⟨b, 0, none⟩)] k) := fun w hw => by
  have hi := bld_is hp hs hw
  have hi' : Lib.IsBuilder 144 5 b b (Lib.byteCells l) w := by simpa [cb, Lib.byteCells] using hi
  have hc := Any.Builder_String_any Tryz.lays169 Tryz.builderS b b l w hi' (bld_size hw)
  refine hc.mono ?_
  rintro _ w' ⟨rfl, hbe⟩
  refine ⟨l, rfl, hk w' (low_keeps hL ?_ hbe)⟩
  have h1 : Holds w (ar b 144 [.pointer p, .slice s.1 s.2.1 s.2.2] :: (ow 5 1 s (cb l) :: L)) := hw
  exact HS.tl (HS.tl h1)
end
theorem low_dk {Z : Dk} {b : Nat} (h : ∃ a, dk Z a ∧ dm b a) : Low b (dk Z) := by
  obtain ⟨a, ha, hd⟩ := h
  have := HS.dom (L := dkl Z) ha hd
  refine Low.fold fun A hA => ?_
  obtain ⟨x, hx, hdx⟩ := this A hA
  simp only [dkl, List.mem_cons, List.not_mem_nil, or_false] at hA
  rcases hA with rfl | rfl | rfl
  · exact Low.blk (dm_blk hx hdx)
  · exact Low.blk (dm_blk hx hdx)
  · exact Low.blk (dm_blk hx hdx)
/-- The bytes of the sectors that go on. -/
def Dk.scn (Z : Dk) (base top : Nat) : Nat → Nat → Nat → List UInt8
  | 0, _, _ => []
  | k + 1, i, r =>
    if be ((Z.get ((base + i : Nat) : Int)).take 4) < r ∨ top < be ((Z.get ((base + i : Nat) : Int)).take 4) ∨ 58 < be (((Z.get ((base + i : Nat) : Int)).drop 4).take 2) then []
    else ((Z.get ((base + i : Nat) : Int)).drop 6).take (be (((Z.get ((base + i : Nat) : Int)).drop 4).take 2)) ++ (if be (((Z.get ((base + i : Nat) : Int)).drop 4).take 2) < 58 then [] else Z.scn base top k (i + 1) (be ((Z.get ((base + i : Nat) : Int)).take 4)))
set_option maxHeartbeats 2000000 in
theorem g68 (G : Lg) (Z : Dk) (h : Z.ok) (hG : G.ok Z.sure.length) : Fn (eT2 eS eI) Tryz.prog 68 #[G.p] [lgp G Z.sb, dk Z] fun y X => X = [lgp G Z.sb, dk Z] ∧ y = if Z.up then (Z.scn G.base G.run G.sectors 0 1, 0) else ([], 9) := by
  refine Fn.ex fun h0 => ?_
  have hfit := hG.fit
  have hn1 := hG.n1
  have hs1 := hG.s1
  have hr2 := hG.r2
  refine c68_fn rfl rfl ?_
  refine d_seq ?_
  intro K0 hK0
  refine d_reg ?_
  simp only [go_sem, Nat.reduceAdd, Nat.reduceEqDiff, Int.reduceToNat, Nat.reduceMul, Nat.reduceSub]
  refine hK0 _ _ ?_
  clear hK0 K0
  refine d_seq ?_
  intro K0 hK0
  refine d_reg ?_
  simp only [go_sem, Nat.reduceAdd, Nat.reduceEqDiff, Int.reduceToNat, Nat.reduceMul, Nat.reduceSub]
  refine r_nwcD fun b hd => ?_
  refine hK0 _ _ ?_
  clear hK0 K0
  have hL : ∀ A ∈ [lgp G Z.sb, dk Z, ex h0], Low b A := by
    intro A hA
    simp only [List.mem_cons, List.not_mem_nil, or_false] at hA
    rcases hA with rfl | rfl | rfl
    · obtain ⟨x, hx, hdx⟩ := hd (lgp G Z.sb) (by simp)
      exact Low.blk (dm_blk hx hdx)
    · exact low_dk (hd (dk Z) (by simp))
    · obtain ⟨x, hx, hdx⟩ := hd (ex h0) (by simp)
      have e : x = h0 := hx
      subst e
      exact Low.ex hdx
  clear hd
  refine r_nilow 5 1 ?_
  repeat' ((fail_if_success with_reducible refine nph ?_); first | (with_reducible first | (refine d_seq ?_; intro K hK) | (refine hK _ _ ?_; clear hK K) | (refine SG.p ?_; try intro b)) | ((with_reducible refine SC.p ?_); refine And.intro ?_ ?_) <;> intro hc <;> try simp only [push_cast, Int.reduceEq, Int.reduceLT, Int.reduceLE, Int.reduceNe] at hc | with_reducible refine r_rq (by first | decide | omega) ?_ | ((with_reducible refine SL.p ?_); first | refine ⟨_, rfl, ?_⟩ | refine ⟨_, _, _, rfl, ?_⟩ | (refine ⟨?_, rfl, ?_⟩; focus (simp; done))) | ((with_reducible first | apply i_ldn | apply i_ldnq); exact rfl; exact rfl; exact rfl) | ((try with_reducible refine d_reg ?_); simp only [go_sem, Nat.reduceAdd, Nat.reduceEqDiff, Int.reduceToNat, Nat.reduceMul, Nat.reduceSub]) | clear hK K)
  cases hu : Z.up
  · have F : Fp (eT2 eS eI) Tryz.prog 22 #[.pointer (some ⟨Z.sb, 0, none⟩), .int .i64 (G.base : Int)] [dk Z] ([], 9) := by
      have := F31 Z h (G.base : Int)
      have e : Z.chk (G.base : Int) = 9 := by unfold Dk.chk; rw [hu, if_pos rfl]
      rw [e, if_neg (by decide : ¬ (9 : Int) = 0)] at this
      exact this
    refine d_lp [0, 4, 5, 15, 16] (fun _ : Unit => [(0, .pointer (some ⟨G.q, 0, none⟩)), (4, .pointer (some ⟨b, 0, none⟩)), (5, .int .i64 1), (15, .int .i64 (G.sectors : Int)), (16, .int .i64 0)])
      (fun _ => [ow 5 1 (none, 0, 0) [], ar b 144 [.pointer none, .slice none 0 0], lgp G Z.sb, dk Z, ex h0]) (fun _ => True) (fun _ => 0) () rfl SX.p trivial ?_
    intro _ _
    repeat' ((fail_if_success with_reducible refine nph ?_); first | (with_reducible first | (refine d_seq ?_; intro K hK) | (refine hK _ _ ?_; clear hK K) | (refine SG.p ?_; try intro b)) | ((with_reducible refine SC.p ?_); refine And.intro ?_ ?_) <;> intro hc <;> try simp only [push_cast, Int.reduceEq, Int.reduceLT, Int.reduceLE, Int.reduceNe] at hc | with_reducible refine r_rq (by first | decide | omega) ?_ | ((with_reducible refine SL.p ?_); first | refine ⟨_, rfl, ?_⟩ | refine ⟨_, _, _, rfl, ?_⟩ | (refine ⟨?_, rfl, ?_⟩; focus (simp; done))) | ((with_reducible first | apply i_ldn | apply i_ldnq); exact rfl; exact rfl; exact rfl) | ((try with_reducible refine d_reg ?_); simp only [go_sem, Nat.reduceAdd, Nat.reduceEqDiff, Int.reduceToNat, Nat.reduceMul, Nat.reduceSub]) | clear hK K)
    all_goals try (exfalso; omega)
    refine r_ph [lgp G Z.sb] SX.p ?_
    have e3 : IntKind.wrap .i64 ((G.base : Int) + 0) = (G.base : Int) := by rw [w64 (by omega) (by omega)]; omega
    repeat' ((fail_if_success with_reducible refine nph ?_); first | (with_reducible first | (refine d_seq ?_; intro K hK) | (refine hK _ _ ?_; clear hK K) | (refine SG.p ?_; try intro b)) | ((with_reducible refine SC.p ?_); refine And.intro ?_ ?_) <;> intro hc <;> try simp only [push_cast, Int.reduceEq, Int.reduceLT, Int.reduceLE, Int.reduceNe] at hc | with_reducible refine r_rq (by first | decide | omega) ?_ | ((with_reducible refine SL.p ?_); first | refine ⟨_, rfl, ?_⟩ | refine ⟨_, _, _, rfl, ?_⟩ | (refine ⟨?_, rfl, ?_⟩; focus (simp; done))) | ((with_reducible first | apply i_ldn | apply i_ldnq); exact rfl; exact rfl; exact rfl) | ((try with_reducible refine d_reg ?_); simp only [go_sem, Nat.reduceAdd, Nat.reduceEqDiff, Int.reduceToNat, Nat.reduceMul, Nat.reduceSub]) | clear hK K)
    rw [e3]
    refine i_clp F ?_
    repeat' ((fail_if_success with_reducible refine nph ?_); first | (with_reducible first | (refine d_seq ?_; intro K hK) | (refine hK _ _ ?_; clear hK K) | (refine SG.p ?_; try intro b)) | ((with_reducible refine SC.p ?_); refine And.intro ?_ ?_) <;> intro hc <;> try simp only [push_cast, Int.reduceEq, Int.reduceLT, Int.reduceLE, Int.reduceNe] at hc | with_reducible refine r_rq (by first | decide | omega) ?_ | ((with_reducible refine SL.p ?_); first | refine ⟨_, rfl, ?_⟩ | refine ⟨_, _, _, rfl, ?_⟩ | (refine ⟨?_, rfl, ?_⟩; focus (simp; done))) | ((with_reducible first | apply i_ldn | apply i_ldnq); exact rfl; exact rfl; exact rfl) | ((try with_reducible refine d_reg ?_); simp only [go_sem, Nat.reduceAdd, Nat.reduceEqDiff, Int.reduceToNat, Nat.reduceMul, Nat.reduceSub]) | clear hK K)
    all_goals try (first | contradiction | (simp only [ reduceCtorEq] at *; done) | (exfalso; omega))
    (with_reducible first | apply i_ret0 | apply i_ret2 | apply i_ret3 | apply i_ret); exact rfl
    simp [hu]
  · generalize hB : Z.scn G.base G.run G.sectors 0 1 = B
    refine d_lp [0, 4, 5, 15, 16] (fun t : Nat × Nat × List UInt8 × Option Addr × SlV => [(0, .pointer (some ⟨G.q, 0, none⟩)), (4, .pointer (some ⟨b, 0, none⟩)), (5, .int .i64 (t.2.1 : Int)), (15, .int .i64 (G.sectors : Int)), (16, .int .i64 (t.1 : Int))])
      (fun t => bld b 144 5 t.2.2.2.1 t.2.2.2.2 (cb t.2.2.1) ++ [lgp G Z.sb, dk Z, ex h0])
      (fun t => t.1 ≤ G.sectors ∧ t.2.2.1 ++ Z.scn G.base G.run (G.sectors - t.1) t.1 t.2.1 = B ∧ (t.2.2.2.1 = none ∨ t.2.2.2.1 = some ⟨b, 0, none⟩) ∧ (∀ g, t.2.2.2.2.1 = some g → b < g.block) ∧ t.2.2.1.length ≤ 58 * t.1) (fun t => G.sectors - t.1)
      (0, 1, [], none, (none, 0, 0)) rfl ?_ ⟨by dsimp only; omega, by dsimp only; rw [List.nil_append]; exact hB, .inl rfl, ⟨fun g hg => (by cases hg), (by simp)⟩⟩ ?_
    · show Sub ([ar b 144 [.pointer none, .slice none 0 0], ow 5 1 (none, 0, 0) []] ++ [lgp G Z.sb, dk Z, ex h0]) _
      exact SX.p
    rintro ⟨i, r, t, p, ⟨sp, sn, sc⟩⟩ ⟨hi, hb, hp, hs, ht⟩
    dsimp only at hi hb hp hs ht ⊢
    repeat' ((fail_if_success with_reducible refine nph ?_); first | (with_reducible first | (refine d_seq ?_; intro K hK) | (refine hK _ _ ?_; clear hK K) | (refine SG.p ?_; try intro b)) | ((with_reducible refine SC.p ?_); refine And.intro ?_ ?_) <;> intro hc <;> try simp only [push_cast, Int.reduceEq, Int.reduceLT, Int.reduceLE, Int.reduceNe] at hc | with_reducible refine r_rq (by first | decide | omega) ?_ | ((with_reducible refine SL.p ?_); first | refine ⟨_, rfl, ?_⟩ | refine ⟨_, _, _, rfl, ?_⟩ | (refine ⟨?_, rfl, ?_⟩; focus (simp; done))) | ((with_reducible first | apply i_ldn | apply i_ldnq); exact rfl; exact rfl; exact rfl) | ((try with_reducible refine d_reg ?_); simp only [go_sem, Nat.reduceAdd, Nat.reduceEqDiff, Int.reduceToNat, Nat.reduceMul, Nat.reduceSub]) | clear hK K)
    · have hch : Z.chk ((G.base + i : Nat) : Int) = 0 := by unfold Dk.chk; rw [hu, if_neg (by simp), if_neg (by omega)]
      have F := F31 Z h ((G.base + i : Nat) : Int)
      rw [hch, if_pos rfl] at F
      simp only [Dk.p] at F
      have hl := Dk.get_len h hch
      have e3 : IntKind.wrap .i64 ((G.base : Int) + (i : Int)) = ((G.base + i : Nat) : Int) := by rw [w64 (by omega) (by omega)]; omega
      obtain ⟨k, hk⟩ : ∃ k, G.sectors - i = k + 1 := ⟨G.sectors - i - 1, by omega⟩
      rw [hk] at hb
      unfold Dk.scn at hb
      generalize Z.get ((G.base + i : Nat) : Int) = v at *
      refine r_ph [lgp G Z.sb] SX.p ?_
      repeat' ((fail_if_success with_reducible refine nph ?_); first | (with_reducible first | (refine d_seq ?_; intro K hK) | (refine hK _ _ ?_; clear hK K) | (refine SG.p ?_; try intro b)) | ((with_reducible refine SC.p ?_); refine And.intro ?_ ?_) <;> intro hc <;> try simp only [push_cast, Int.reduceEq, Int.reduceLT, Int.reduceLE, Int.reduceNe] at hc | with_reducible refine r_rq (by first | decide | omega) ?_ | ((with_reducible refine SL.p ?_); first | refine ⟨_, rfl, ?_⟩ | refine ⟨_, _, _, rfl, ?_⟩ | (refine ⟨?_, rfl, ?_⟩; focus (simp; done))) | ((with_reducible first | apply i_ldn | apply i_ldnq); exact rfl; exact rfl; exact rfl) | ((try with_reducible refine d_reg ?_); simp only [go_sem, Nat.reduceAdd, Nat.reduceEqDiff, Int.reduceToNat, Nat.reduceMul, Nat.reduceSub]) | clear hK K)
      rw [e3]
      refine i_clp F ?_
      repeat' ((fail_if_success with_reducible refine nph ?_); first | (with_reducible first | (refine d_seq ?_; intro K hK) | (refine hK _ _ ?_; clear hK K) | (refine SG.p ?_; try intro b)) | ((with_reducible refine SC.p ?_); refine And.intro ?_ ?_) <;> intro hc <;> try simp only [push_cast, Int.reduceEq, Int.reduceLT, Int.reduceLE, Int.reduceNe] at hc | with_reducible refine r_rq (by first | decide | omega) ?_ | ((with_reducible refine SL.p ?_); first | refine ⟨_, rfl, ?_⟩ | refine ⟨_, _, _, rfl, ?_⟩ | (refine ⟨?_, rfl, ?_⟩; focus (simp; done))) | ((with_reducible first | apply i_ldn | apply i_ldnq); exact rfl; exact rfl; exact rfl) | ((try with_reducible refine d_reg ?_); simp only [go_sem, Nat.reduceAdd, Nat.reduceEqDiff, Int.reduceToNat, Nat.reduceMul, Nat.reduceSub]) | clear hK K)
      all_goals try (first | contradiction | (simp only [ reduceCtorEq] at *; done) | (exfalso; omega))
      refine i_cal (f72 v) ?_
      rintro y X ⟨rb, rfl, rfl⟩
      repeat' ((fail_if_success with_reducible refine nph ?_); first | (with_reducible first | (refine d_seq ?_; intro K hK) | (refine hK _ _ ?_; clear hK K) | (refine SG.p ?_; try intro b)) | ((with_reducible refine SC.p ?_); refine And.intro ?_ ?_) <;> intro hc <;> try simp only [push_cast, Int.reduceEq, Int.reduceLT, Int.reduceLE, Int.reduceNe] at hc | with_reducible refine r_rq (by first | decide | omega) ?_ | ((with_reducible refine SL.p ?_); first | refine ⟨_, rfl, ?_⟩ | refine ⟨_, _, _, rfl, ?_⟩ | (refine ⟨?_, rfl, ?_⟩; focus (simp; done))) | ((with_reducible first | apply i_ldn | apply i_ldnq); exact rfl; exact rfl; exact rfl) | ((try with_reducible refine d_reg ?_); simp only [go_sem, Nat.reduceAdd, Nat.reduceEqDiff, Int.reduceToNat, Nat.reduceMul, Nat.reduceSub]) | clear hK K)
      refine i_clq (num_go rb v 0 4 (by omega) (by decide) (by decide) (by omega)) ?_
      rw [List.drop_zero]
      refine i_clq (num_go rb v 4 2 (by omega) (by decide) (by decide) (by omega)) ?_
      generalize be (v.take 4) = at' at *
      generalize be ((v.drop 4).take 2) = n at *
      by_cases hbad : at' < r ∨ G.run < at' ∨ 58 < n
      · rw [if_pos hbad, List.append_nil] at hb
        subst hb
        repeat' ((fail_if_success with_reducible refine nph ?_); first | (with_reducible first | (refine d_seq ?_; intro K hK) | (refine hK _ _ ?_; clear hK K) | (refine SG.p ?_; try intro b)) | ((with_reducible refine SC.p ?_); refine And.intro ?_ ?_) <;> intro hc <;> try simp only [push_cast, Int.reduceEq, Int.reduceLT, Int.reduceLE, Int.reduceNe] at hc | with_reducible refine r_rq (by first | decide | omega) ?_ | ((with_reducible refine SL.p ?_); first | refine ⟨_, rfl, ?_⟩ | refine ⟨_, _, _, rfl, ?_⟩ | (refine ⟨?_, rfl, ?_⟩; focus (simp; done))) | ((with_reducible first | apply i_ldn | apply i_ldnq); exact rfl; exact rfl; exact rfl) | ((try with_reducible refine d_reg ?_); simp only [go_sem, Nat.reduceAdd, Nat.reduceEqDiff, Int.reduceToNat, Nat.reduceMul, Nat.reduceSub]) | clear hK K)
        all_goals try (exfalso; omega)
        all_goals
          refine E.sub (L' := bld b 144 5 p (sp, sn, sc) (cb t) ++ [lgp G Z.sb, dk Z, ex h0]) SX.p ?_
          refine r_bs' hL hp hs ?_
          repeat' ((fail_if_success with_reducible refine nph ?_); first | (with_reducible first | (refine d_seq ?_; intro K hK) | (refine hK _ _ ?_; clear hK K) | (refine SG.p ?_; try intro b)) | ((with_reducible refine SC.p ?_); refine And.intro ?_ ?_) <;> intro hc <;> try simp only [push_cast, Int.reduceEq, Int.reduceLT, Int.reduceLE, Int.reduceNe] at hc | with_reducible refine r_rq (by first | decide | omega) ?_ | ((with_reducible refine SL.p ?_); first | refine ⟨_, rfl, ?_⟩ | refine ⟨_, _, _, rfl, ?_⟩ | (refine ⟨?_, rfl, ?_⟩; focus (simp; done))) | ((with_reducible first | apply i_ldn | apply i_ldnq); exact rfl; exact rfl; exact rfl) | ((try with_reducible refine d_reg ?_); simp only [go_sem, Nat.reduceAdd, Nat.reduceEqDiff, Int.reduceToNat, Nat.reduceMul, Nat.reduceSub]) | clear hK K)
          (with_reducible first | apply i_ret0 | apply i_ret2 | apply i_ret3 | apply i_ret); exact rfl
          rw [if_pos hu, hB]
      · rw [if_neg hbad] at hb
        have R := f90 ⟨rb, v, 6, 0⟩ (n : Int) (by dsimp only; omega) (by dsimp only; omega)
        rw [raw_go rb v 6 n (by omega)] at R
        have hul : ((v.drop 6).take n).length = n := by rw [List.length_take, List.length_drop]; omega
        generalize (v.drop 6).take n = u at *
        repeat' ((fail_if_success with_reducible refine nph ?_); first | (with_reducible first | (refine d_seq ?_; intro K hK) | (refine hK _ _ ?_; clear hK K) | (refine SG.p ?_; try intro b)) | ((with_reducible refine SC.p ?_); refine And.intro ?_ ?_) <;> intro hc <;> try simp only [push_cast, Int.reduceEq, Int.reduceLT, Int.reduceLE, Int.reduceNe] at hc | with_reducible refine r_rq (by first | decide | omega) ?_ | ((with_reducible refine SL.p ?_); first | refine ⟨_, rfl, ?_⟩ | refine ⟨_, _, _, rfl, ?_⟩ | (refine ⟨?_, rfl, ?_⟩; focus (simp; done))) | ((with_reducible first | apply i_ldn | apply i_ldnq); exact rfl; exact rfl; exact rfl) | ((try with_reducible refine d_reg ?_); simp only [go_sem, Nat.reduceAdd, Nat.reduceEqDiff, Int.reduceToNat, Nat.reduceMul, Nat.reduceSub]) | clear hK K)
        all_goals try (exfalso; omega)
        refine i_clq R ?_
        refine E.sub (L' := bld b 144 5 p (sp, sn, sc) (cb t) ++ [lgp G Z.sb, dk Z, ex h0]) SX.p ?_
        refine r_ws (t := u) hL hp hs (by omega) fun s' hs' => ?_
        by_cases h58 : n < 58
        · rw [if_pos h58, List.append_nil] at hb
          subst hb
          repeat' ((fail_if_success with_reducible refine nph ?_); first | (with_reducible first | (refine d_seq ?_; intro K hK) | (refine hK _ _ ?_; clear hK K) | (refine SG.p ?_; try intro b)) | ((with_reducible refine SC.p ?_); refine And.intro ?_ ?_) <;> intro hc <;> try simp only [push_cast, Int.reduceEq, Int.reduceLT, Int.reduceLE, Int.reduceNe] at hc | with_reducible refine r_rq (by first | decide | omega) ?_ | ((with_reducible refine SL.p ?_); first | refine ⟨_, rfl, ?_⟩ | refine ⟨_, _, _, rfl, ?_⟩ | (refine ⟨?_, rfl, ?_⟩; focus (simp; done))) | ((with_reducible first | apply i_ldn | apply i_ldnq); exact rfl; exact rfl; exact rfl) | ((try with_reducible refine d_reg ?_); simp only [go_sem, Nat.reduceAdd, Nat.reduceEqDiff, Int.reduceToNat, Nat.reduceMul, Nat.reduceSub]) | clear hK K)
          all_goals try (exfalso; omega)
          refine E.sub (L' := bld b 144 5 (some ⟨b, 0, none⟩) s' (cb (t ++ u)) ++ [lgp G Z.sb, dk Z, ex h0]) SX.p ?_
          refine r_bs' hL (.inr rfl) hs' ?_
          repeat' ((fail_if_success with_reducible refine nph ?_); first | (with_reducible first | (refine d_seq ?_; intro K hK) | (refine hK _ _ ?_; clear hK K) | (refine SG.p ?_; try intro b)) | ((with_reducible refine SC.p ?_); refine And.intro ?_ ?_) <;> intro hc <;> try simp only [push_cast, Int.reduceEq, Int.reduceLT, Int.reduceLE, Int.reduceNe] at hc | with_reducible refine r_rq (by first | decide | omega) ?_ | ((with_reducible refine SL.p ?_); first | refine ⟨_, rfl, ?_⟩ | refine ⟨_, _, _, rfl, ?_⟩ | (refine ⟨?_, rfl, ?_⟩; focus (simp; done))) | ((with_reducible first | apply i_ldn | apply i_ldnq); exact rfl; exact rfl; exact rfl) | ((try with_reducible refine d_reg ?_); simp only [go_sem, Nat.reduceAdd, Nat.reduceEqDiff, Int.reduceToNat, Nat.reduceMul, Nat.reduceSub]) | clear hK K)
          (with_reducible first | apply i_ret0 | apply i_ret2 | apply i_ret3 | apply i_ret); exact rfl
          rw [if_pos hu, hB]
        · rw [if_neg h58] at hb
          repeat' ((fail_if_success with_reducible refine nph ?_); first | (with_reducible first | (refine d_seq ?_; intro K hK) | (refine hK _ _ ?_; clear hK K) | (refine SG.p ?_; try intro b)) | ((with_reducible refine SC.p ?_); refine And.intro ?_ ?_) <;> intro hc <;> try simp only [push_cast, Int.reduceEq, Int.reduceLT, Int.reduceLE, Int.reduceNe] at hc | with_reducible refine r_rq (by first | decide | omega) ?_ | ((with_reducible refine SL.p ?_); first | refine ⟨_, rfl, ?_⟩ | refine ⟨_, _, _, rfl, ?_⟩ | (refine ⟨?_, rfl, ?_⟩; focus (simp; done))) | ((with_reducible first | apply i_ldn | apply i_ldnq); exact rfl; exact rfl; exact rfl) | ((try with_reducible refine d_reg ?_); simp only [go_sem, Nat.reduceAdd, Nat.reduceEqDiff, Int.reduceToNat, Nat.reduceMul, Nat.reduceSub]) | clear hK K)
          all_goals try (exfalso; omega)
          rw [w64 (by omega) (by omega)]
          exact i_bk (i + 1, at', t ++ u, some ⟨b, 0, none⟩, s') rfl ⟨by dsimp only; omega, by dsimp only; rw [show G.sectors - (i + 1) = k by omega, List.append_assoc]; exact hb, .inr rfl, hs', by dsimp only; rw [List.length_append]; omega⟩ (by dsimp only; omega)
    · obtain rfl : i = G.sectors := by omega
      rw [Nat.sub_self, show Z.scn G.base G.run 0 G.sectors r = [] from rfl, List.append_nil] at hb
      subst hb
      refine E.sub (L' := bld b 144 5 p (sp, sn, sc) (cb t) ++ [lgp G Z.sb, dk Z, ex h0]) SX.p ?_
      refine r_bs' hL hp hs ?_
      repeat' ((fail_if_success with_reducible refine nph ?_); first | (with_reducible first | (refine d_seq ?_; intro K hK) | (refine hK _ _ ?_; clear hK K) | (refine SG.p ?_; try intro b)) | ((with_reducible refine SC.p ?_); refine And.intro ?_ ?_) <;> intro hc <;> try simp only [push_cast, Int.reduceEq, Int.reduceLT, Int.reduceLE, Int.reduceNe] at hc | with_reducible refine r_rq (by first | decide | omega) ?_ | ((with_reducible refine SL.p ?_); first | refine ⟨_, rfl, ?_⟩ | refine ⟨_, _, _, rfl, ?_⟩ | (refine ⟨?_, rfl, ?_⟩; focus (simp; done))) | ((with_reducible first | apply i_ldn | apply i_ldnq); exact rfl; exact rfl; exact rfl) | ((try with_reducible refine d_reg ?_); simp only [go_sem, Nat.reduceAdd, Nat.reduceEqDiff, Int.reduceToNat, Nat.reduceMul, Nat.reduceSub]) | clear hK K)
      (with_reducible first | apply i_ret0 | apply i_ret2 | apply i_ret3 | apply i_ret); exact rfl
      rw [if_pos hu, hB]
end Go.Sp
/- The log: mend, Flush, Need. -/
namespace Go.Sp
open Go Go.Proofs
set_option linter.unusedSimpArgs false
set_option linter.unusedVariables false
set_option maxRecDepth 10000
abbrev Lr := Int × Dk × Lg
def Dk.lmend (Z : Dk) (G : Lg) : Lr :=
  if (Z.lw G (G.durable / 58)).1 = 0 then ((Z.lw G (G.durable / 58)).2.sync.1, (Z.lw G (G.durable / 58)).2.sync.2, G.down (Z.lw G (G.durable / 58)).2.sync.1)
  else ((Z.lw G (G.durable / 58)).1, (Z.lw G (G.durable / 58)).2, G.down (Z.lw G (G.durable / 58)).1)
theorem down_0 (G : Lg) : G.down 0 = G := if_pos rfl
theorem g70 (G : Lg) (Z : Dk) (h : Z.ok) (hG : G.ok Z.sure.length) : Fq eI Tryz.prog 70 #[G.p] [lgp G Z.sb, dk Z] [lgp (Z.lmend G).2.2 Z.sb, dk (Z.lmend G).2.1] (Z.lmend G).1 := fun L => by
  have hdu := hG.du
  have hle := hG.le
  have hfit := hG.fit
  have hn1 := hG.n1
  have F := g77 G Z h hG (G.durable / 58) (by omega)
  obtain ⟨o1, o2, o3⟩ := Dk.lw_ok h G (G.durable / 58)
  have S := F28 _ o1
  simp only [Dk.p, o2] at S
  have e1 : IntKind.wrap .i64 ((G.durable : Int).tdiv 58) = ((G.durable / 58 : Nat) : Int) := by rw [td (by omega), w64 (by omega) (by omega)]; omega
  unfold Dk.lmend
  generalize Z.lw G (G.durable / 58) = T at *
  obtain ⟨e, Y⟩ := T
  dsimp only at F S ⊢
  refine c70_fn rfl rfl ?_
  by_cases he : e = 0
  · subst he
    rw [if_pos rfl]
    repeat' ((fail_if_success with_reducible refine nph ?_); first | (with_reducible first | (refine d_seq ?_; intro K hK) | (refine hK _ _ ?_; clear hK K) | (refine SG.p ?_; try intro b)) | ((with_reducible refine SC.p ?_); refine And.intro ?_ ?_) <;> intro hc <;> try simp only [push_cast, Int.reduceEq, Int.reduceLT, Int.reduceLE, Int.reduceNe] at hc | with_reducible refine r_rq (by first | decide | omega) ?_ | ((with_reducible refine SL.p ?_); first | refine ⟨_, rfl, ?_⟩ | refine ⟨_, _, _, rfl, ?_⟩ | (refine ⟨?_, rfl, ?_⟩; focus (simp; done))) | ((with_reducible first | apply i_ldn | apply i_ldnq); exact rfl; exact rfl; exact rfl) | ((try with_reducible refine d_reg ?_); simp only [go_sem, Nat.reduceAdd, Nat.reduceEqDiff, Int.reduceToNat, Nat.reduceMul, Nat.reduceSub]) | clear hK K)
    rw [e1]
    refine i_clq F ?_
    repeat' ((fail_if_success with_reducible refine nph ?_); first | (with_reducible first | (refine d_seq ?_; intro K hK) | (refine hK _ _ ?_; clear hK K) | (refine SG.p ?_; try intro b)) | ((with_reducible refine SC.p ?_); refine And.intro ?_ ?_) <;> intro hc <;> try simp only [push_cast, Int.reduceEq, Int.reduceLT, Int.reduceLE, Int.reduceNe] at hc | with_reducible refine r_rq (by first | decide | omega) ?_ | ((with_reducible refine SL.p ?_); first | refine ⟨_, rfl, ?_⟩ | refine ⟨_, _, _, rfl, ?_⟩ | (refine ⟨?_, rfl, ?_⟩; focus (simp; done))) | ((with_reducible first | apply i_ldn | apply i_ldnq); exact rfl; exact rfl; exact rfl) | ((try with_reducible refine d_reg ?_); simp only [go_sem, Nat.reduceAdd, Nat.reduceEqDiff, Int.reduceToNat, Nat.reduceMul, Nat.reduceSub]) | clear hK K)
    all_goals try (first | contradiction | (simp only [ reduceCtorEq] at *; done) | (exfalso; omega))
    refine i_clq S ?_
    refine i_clq (g78 G Z.sb _) ?_
    repeat' ((fail_if_success with_reducible refine nph ?_); first | (with_reducible first | (refine d_seq ?_; intro K hK) | (refine hK _ _ ?_; clear hK K) | (refine SG.p ?_; try intro b)) | ((with_reducible refine SC.p ?_); refine And.intro ?_ ?_) <;> intro hc <;> try simp only [push_cast, Int.reduceEq, Int.reduceLT, Int.reduceLE, Int.reduceNe] at hc | with_reducible refine r_rq (by first | decide | omega) ?_ | ((with_reducible refine SL.p ?_); first | refine ⟨_, rfl, ?_⟩ | refine ⟨_, _, _, rfl, ?_⟩ | (refine ⟨?_, rfl, ?_⟩; focus (simp; done))) | ((with_reducible first | apply i_ldn | apply i_ldnq); exact rfl; exact rfl; exact rfl) | ((try with_reducible refine d_reg ?_); simp only [go_sem, Nat.reduceAdd, Nat.reduceEqDiff, Int.reduceToNat, Nat.reduceMul, Nat.reduceSub]) | clear hK K)
    (with_reducible first | apply i_ret0 | apply i_ret2 | apply i_ret3 | apply i_ret); exact rfl
    rfl
  · rw [if_neg he]
    repeat' ((fail_if_success with_reducible refine nph ?_); first | (with_reducible first | (refine d_seq ?_; intro K hK) | (refine hK _ _ ?_; clear hK K) | (refine SG.p ?_; try intro b)) | ((with_reducible refine SC.p ?_); refine And.intro ?_ ?_) <;> intro hc <;> try simp only [push_cast, Int.reduceEq, Int.reduceLT, Int.reduceLE, Int.reduceNe] at hc | with_reducible refine r_rq (by first | decide | omega) ?_ | ((with_reducible refine SL.p ?_); first | refine ⟨_, rfl, ?_⟩ | refine ⟨_, _, _, rfl, ?_⟩ | (refine ⟨?_, rfl, ?_⟩; focus (simp; done))) | ((with_reducible first | apply i_ldn | apply i_ldnq); exact rfl; exact rfl; exact rfl) | ((try with_reducible refine d_reg ?_); simp only [go_sem, Nat.reduceAdd, Nat.reduceEqDiff, Int.reduceToNat, Nat.reduceMul, Nat.reduceSub]) | clear hK K)
    rw [e1]
    refine i_clq F ?_
    repeat' ((fail_if_success with_reducible refine nph ?_); first | (with_reducible first | (refine d_seq ?_; intro K hK) | (refine hK _ _ ?_; clear hK K) | (refine SG.p ?_; try intro b)) | ((with_reducible refine SC.p ?_); refine And.intro ?_ ?_) <;> intro hc <;> try simp only [push_cast, Int.reduceEq, Int.reduceLT, Int.reduceLE, Int.reduceNe] at hc | with_reducible refine r_rq (by first | decide | omega) ?_ | ((with_reducible refine SL.p ?_); first | refine ⟨_, rfl, ?_⟩ | refine ⟨_, _, _, rfl, ?_⟩ | (refine ⟨?_, rfl, ?_⟩; focus (simp; done))) | ((with_reducible first | apply i_ldn | apply i_ldnq); exact rfl; exact rfl; exact rfl) | ((try with_reducible refine d_reg ?_); simp only [go_sem, Nat.reduceAdd, Nat.reduceEqDiff, Int.reduceToNat, Nat.reduceMul, Nat.reduceSub]) | clear hK K)
    all_goals try (first | contradiction | (simp only [ reduceCtorEq] at *; done) | (exfalso; omega))
    refine i_clq (g78 G Z.sb _) ?_
    repeat' ((fail_if_success with_reducible refine nph ?_); first | (with_reducible first | (refine d_seq ?_; intro K hK) | (refine hK _ _ ?_; clear hK K) | (refine SG.p ?_; try intro b)) | ((with_reducible refine SC.p ?_); refine And.intro ?_ ?_) <;> intro hc <;> try simp only [push_cast, Int.reduceEq, Int.reduceLT, Int.reduceLE, Int.reduceNe] at hc | with_reducible refine r_rq (by first | decide | omega) ?_ | ((with_reducible refine SL.p ?_); first | refine ⟨_, rfl, ?_⟩ | refine ⟨_, _, _, rfl, ?_⟩ | (refine ⟨?_, rfl, ?_⟩; focus (simp; done))) | ((with_reducible first | apply i_ldn | apply i_ldnq); exact rfl; exact rfl; exact rfl) | ((try with_reducible refine d_reg ?_); simp only [go_sem, Nat.reduceAdd, Nat.reduceEqDiff, Int.reduceToNat, Nat.reduceMul, Nat.reduceSub]) | clear hK K)
    (with_reducible first | apply i_ret0 | apply i_ret2 | apply i_ret3 | apply i_ret); exact rfl
    rfl
/-- Sectors from one on are written, as far as there is something. -/
def lws (G : Lg) : Nat → Nat → Dk → Int × Dk
  | 0, _, Z => (0, Z)
  | k + 1, i, Z => if 58 * i < G.all.length then (if (Z.lw G i).1 = 0 then lws G k (i + 1) (Z.lw G i).2 else Z.lw G i) else (0, Z)
def Dk.lflush (Z : Dk) (G : Lg) : Lr :=
  if G.dead then (9, Z, G) else if G.durable = G.all.length then (0, Z, G) else
  (fun a : Int × Dk => if a.1 = 0 then (if a.2.sync.1 = 0 then (0, a.2.sync.2, { G with durable := G.all.length }) else (a.2.sync.1, a.2.sync.2, G.down a.2.sync.1)) else (a.1, a.2, G.down a.1)) (lws G (G.sectors + 1) (G.durable / 58) Z)
set_option maxHeartbeats 1000000 in
theorem g21 (G : Lg) (Z : Dk) (h : Z.ok) (hG : G.ok Z.sure.length) : Fq eI Tryz.prog 21 #[G.p] [lgp G Z.sb, dk Z] [lgp (Z.lflush G).2.2 Z.sb, dk (Z.lflush G).2.1] (Z.lflush G).1 := fun L => by
  have hdu := hG.du
  have hle := hG.le
  have hfit := hG.fit
  have hn1 := hG.n1
  have O := g75 G Z.sb
  unfold Lg.off at O
  unfold Dk.lflush
  refine c21_fn rfl rfl ?_
  by_cases hd : G.dead = true
  · rw [if_pos hd] at O
    rw [if_pos hd]
    repeat' ((fail_if_success with_reducible refine nph ?_); first | (with_reducible first | (refine d_seq ?_; intro K hK) | (refine hK _ _ ?_; clear hK K) | (refine SG.p ?_; try intro b)) | ((with_reducible refine SC.p ?_); refine And.intro ?_ ?_) <;> intro hc <;> try simp only [push_cast, Int.reduceEq, Int.reduceLT, Int.reduceLE, Int.reduceNe] at hc | with_reducible refine r_rq (by first | decide | omega) ?_ | ((with_reducible refine SL.p ?_); first | refine ⟨_, rfl, ?_⟩ | refine ⟨_, _, _, rfl, ?_⟩ | (refine ⟨?_, rfl, ?_⟩; focus (simp; done))) | ((with_reducible first | apply i_ldn | apply i_ldnq); exact rfl; exact rfl; exact rfl) | ((try with_reducible refine d_reg ?_); simp only [go_sem, Nat.reduceAdd, Nat.reduceEqDiff, Int.reduceToNat, Nat.reduceMul, Nat.reduceSub]) | clear hK K)
    refine i_clp O ?_
    repeat' ((fail_if_success with_reducible refine nph ?_); first | (with_reducible first | (refine d_seq ?_; intro K hK) | (refine hK _ _ ?_; clear hK K) | (refine SG.p ?_; try intro b)) | ((with_reducible refine SC.p ?_); refine And.intro ?_ ?_) <;> intro hc <;> try simp only [push_cast, Int.reduceEq, Int.reduceLT, Int.reduceLE, Int.reduceNe] at hc | with_reducible refine r_rq (by first | decide | omega) ?_ | ((with_reducible refine SL.p ?_); first | refine ⟨_, rfl, ?_⟩ | refine ⟨_, _, _, rfl, ?_⟩ | (refine ⟨?_, rfl, ?_⟩; focus (simp; done))) | ((with_reducible first | apply i_ldn | apply i_ldnq); exact rfl; exact rfl; exact rfl) | ((try with_reducible refine d_reg ?_); simp only [go_sem, Nat.reduceAdd, Nat.reduceEqDiff, Int.reduceToNat, Nat.reduceMul, Nat.reduceSub]) | clear hK K)
    all_goals try (first | contradiction | (simp only [ reduceCtorEq] at *; done) | (exfalso; omega))
    (with_reducible first | apply i_ret0 | apply i_ret2 | apply i_ret3 | apply i_ret); exact rfl
    rfl
  · rw [if_neg hd] at O
    rw [if_neg hd]
    by_cases hq : G.durable = G.all.length
    · rw [if_pos hq]
      repeat' ((fail_if_success with_reducible refine nph ?_); first | (with_reducible first | (refine d_seq ?_; intro K hK) | (refine hK _ _ ?_; clear hK K) | (refine SG.p ?_; try intro b)) | ((with_reducible refine SC.p ?_); refine And.intro ?_ ?_) <;> intro hc <;> try simp only [push_cast, Int.reduceEq, Int.reduceLT, Int.reduceLE, Int.reduceNe] at hc | with_reducible refine r_rq (by first | decide | omega) ?_ | ((with_reducible refine SL.p ?_); first | refine ⟨_, rfl, ?_⟩ | refine ⟨_, _, _, rfl, ?_⟩ | (refine ⟨?_, rfl, ?_⟩; focus (simp; done))) | ((with_reducible first | apply i_ldn | apply i_ldnq); exact rfl; exact rfl; exact rfl) | ((try with_reducible refine d_reg ?_); simp only [go_sem, Nat.reduceAdd, Nat.reduceEqDiff, Int.reduceToNat, Nat.reduceMul, Nat.reduceSub]) | clear hK K)
      refine i_clp O ?_
      repeat' ((fail_if_success with_reducible refine nph ?_); first | (with_reducible first | (refine d_seq ?_; intro K hK) | (refine hK _ _ ?_; clear hK K) | (refine SG.p ?_; try intro b)) | ((with_reducible refine SC.p ?_); refine And.intro ?_ ?_) <;> intro hc <;> try simp only [push_cast, Int.reduceEq, Int.reduceLT, Int.reduceLE, Int.reduceNe] at hc | with_reducible refine r_rq (by first | decide | omega) ?_ | ((with_reducible refine SL.p ?_); first | refine ⟨_, rfl, ?_⟩ | refine ⟨_, _, _, rfl, ?_⟩ | (refine ⟨?_, rfl, ?_⟩; focus (simp; done))) | ((with_reducible first | apply i_ldn | apply i_ldnq); exact rfl; exact rfl; exact rfl) | ((try with_reducible refine d_reg ?_); simp only [go_sem, Nat.reduceAdd, Nat.reduceEqDiff, Int.reduceToNat, Nat.reduceMul, Nat.reduceSub]) | clear hK K)
      all_goals try (first | contradiction | (simp only [ reduceCtorEq] at *; done) | (exfalso; omega))
      refine r_ph0 ?_
      repeat' ((fail_if_success with_reducible refine nph ?_); first | (with_reducible first | (refine d_seq ?_; intro K hK) | (refine hK _ _ ?_; clear hK K) | (refine SG.p ?_; try intro b)) | ((with_reducible refine SC.p ?_); refine And.intro ?_ ?_) <;> intro hc <;> try simp only [push_cast, Int.reduceEq, Int.reduceLT, Int.reduceLE, Int.reduceNe] at hc | with_reducible refine r_rq (by first | decide | omega) ?_ | ((with_reducible refine SL.p ?_); first | refine ⟨_, rfl, ?_⟩ | refine ⟨_, _, _, rfl, ?_⟩ | (refine ⟨?_, rfl, ?_⟩; focus (simp; done))) | ((with_reducible first | apply i_ldn | apply i_ldnq); exact rfl; exact rfl; exact rfl) | ((try with_reducible refine d_reg ?_); simp only [go_sem, Nat.reduceAdd, Nat.reduceEqDiff, Int.reduceToNat, Nat.reduceMul, Nat.reduceSub]) | clear hK K)
      all_goals try (exfalso; omega)
      (with_reducible first | apply i_ret0 | apply i_ret2 | apply i_ret3 | apply i_ret); exact rfl
      rfl
    · rw [if_neg hq]
      generalize hA : lws G (G.sectors + 1) (G.durable / 58) Z = A
      dsimp only
      generalize hRes : (if A.1 = 0 then (if A.2.sync.1 = 0 then ((0 : Int), A.2.sync.2, ({ G with durable := G.all.length } : Lg)) else (A.2.sync.1, A.2.sync.2, G.down A.2.sync.1)) else (A.1, A.2, G.down A.1)) = Res
      have e1 : IntKind.wrap .i64 ((G.durable : Int).tdiv 58) = ((G.durable / 58 : Nat) : Int) := by rw [td (by omega), w64 (by omega) (by omega)]; omega
      repeat' ((fail_if_success with_reducible refine nph ?_); first | (with_reducible first | (refine d_seq ?_; intro K hK) | (refine hK _ _ ?_; clear hK K) | (refine SG.p ?_; try intro b)) | ((with_reducible refine SC.p ?_); refine And.intro ?_ ?_) <;> intro hc <;> try simp only [push_cast, Int.reduceEq, Int.reduceLT, Int.reduceLE, Int.reduceNe] at hc | with_reducible refine r_rq (by first | decide | omega) ?_ | ((with_reducible refine SL.p ?_); first | refine ⟨_, rfl, ?_⟩ | refine ⟨_, _, _, rfl, ?_⟩ | (refine ⟨?_, rfl, ?_⟩; focus (simp; done))) | ((with_reducible first | apply i_ldn | apply i_ldnq); exact rfl; exact rfl; exact rfl) | ((try with_reducible refine d_reg ?_); simp only [go_sem, Nat.reduceAdd, Nat.reduceEqDiff, Int.reduceToNat, Nat.reduceMul, Nat.reduceSub]) | clear hK K)
      refine i_clp O ?_
      repeat' ((fail_if_success with_reducible refine nph ?_); first | (with_reducible first | (refine d_seq ?_; intro K hK) | (refine hK _ _ ?_; clear hK K) | (refine SG.p ?_; try intro b)) | ((with_reducible refine SC.p ?_); refine And.intro ?_ ?_) <;> intro hc <;> try simp only [push_cast, Int.reduceEq, Int.reduceLT, Int.reduceLE, Int.reduceNe] at hc | with_reducible refine r_rq (by first | decide | omega) ?_ | ((with_reducible refine SL.p ?_); first | refine ⟨_, rfl, ?_⟩ | refine ⟨_, _, _, rfl, ?_⟩ | (refine ⟨?_, rfl, ?_⟩; focus (simp; done))) | ((with_reducible first | apply i_ldn | apply i_ldnq); exact rfl; exact rfl; exact rfl) | ((try with_reducible refine d_reg ?_); simp only [go_sem, Nat.reduceAdd, Nat.reduceEqDiff, Int.reduceToNat, Nat.reduceMul, Nat.reduceSub]) | clear hK K)
      all_goals try (first | contradiction | (simp only [ reduceCtorEq] at *; done) | (exfalso; omega))
      refine r_ph0 ?_
      repeat' ((fail_if_success with_reducible refine nph ?_); first | (with_reducible first | (refine d_seq ?_; intro K hK) | (refine hK _ _ ?_; clear hK K) | (refine SG.p ?_; try intro b)) | ((with_reducible refine SC.p ?_); refine And.intro ?_ ?_) <;> intro hc <;> try simp only [push_cast, Int.reduceEq, Int.reduceLT, Int.reduceLE, Int.reduceNe] at hc | with_reducible refine r_rq (by first | decide | omega) ?_ | ((with_reducible refine SL.p ?_); first | refine ⟨_, rfl, ?_⟩ | refine ⟨_, _, _, rfl, ?_⟩ | (refine ⟨?_, rfl, ?_⟩; focus (simp; done))) | ((with_reducible first | apply i_ldn | apply i_ldnq); exact rfl; exact rfl; exact rfl) | ((try with_reducible refine d_reg ?_); simp only [go_sem, Nat.reduceAdd, Nat.reduceEqDiff, Int.reduceToNat, Nat.reduceMul, Nat.reduceSub]) | clear hK K)
      all_goals try (exfalso; omega)
      rw [e1]
      repeat' ((fail_if_success with_reducible refine nph ?_); first | (with_reducible first | (refine d_seq ?_; intro K hK) | (refine hK _ _ ?_; clear hK K) | (refine SG.p ?_; try intro b)) | ((with_reducible refine SC.p ?_); refine And.intro ?_ ?_) <;> intro hc <;> try simp only [push_cast, Int.reduceEq, Int.reduceLT, Int.reduceLE, Int.reduceNe] at hc | with_reducible refine r_rq (by first | decide | omega) ?_ | ((with_reducible refine SL.p ?_); first | refine ⟨_, rfl, ?_⟩ | refine ⟨_, _, _, rfl, ?_⟩ | (refine ⟨?_, rfl, ?_⟩; focus (simp; done))) | ((with_reducible first | apply i_ldn | apply i_ldnq); exact rfl; exact rfl; exact rfl) | ((try with_reducible refine d_reg ?_); simp only [go_sem, Nat.reduceAdd, Nat.reduceEqDiff, Int.reduceToNat, Nat.reduceMul, Nat.reduceSub]) | clear hK K)
      refine d_lp [0, 4] (fun t : Nat × Nat × Dk => [(0, .pointer (some ⟨G.q, 0, none⟩)), (4, .int .i64 (t.2.1 : Int))])
        (fun t => lgp G Z.sb :: dk t.2.2 :: L) (fun t => t.2.2.ok ∧ t.2.2.sb = Z.sb ∧ t.2.2.sure.length = Z.sure.length ∧ lws G t.1 t.2.1 t.2.2 = A ∧ G.sectors + 1 ≤ t.1 + t.2.1 ∧ t.2.1 ≤ 8192) (fun t => t.1)
        (G.sectors + 1, G.durable / 58, Z) rfl SX.p ⟨h, rfl, rfl, hA, by dsimp only; omega, by dsimp only; omega⟩ ?_
      rintro ⟨k, i, Y⟩ ⟨y1, y2, y3, y4, y5, y6⟩
      dsimp only at y1 y2 y3 y4 y5 y6 ⊢
      have e2 : IntKind.wrap .i64 ((i : Int) * 58) = (i : Int) * 58 := w64 (by omega) (by omega)
      repeat' (first | rw [e2] | (fail_if_success with_reducible refine nph ?_); first | (with_reducible first | (refine d_seq ?_; intro K hK) | (refine hK _ _ ?_; clear hK K) | (refine SG.p ?_; try intro b)) | ((with_reducible refine SC.p ?_); refine And.intro ?_ ?_) <;> intro hc <;> try simp only [push_cast, Int.reduceEq, Int.reduceLT, Int.reduceLE, Int.reduceNe] at hc | with_reducible refine r_rq (by first | decide | omega) ?_ | ((with_reducible refine SL.p ?_); first | refine ⟨_, rfl, ?_⟩ | refine ⟨_, _, _, rfl, ?_⟩ | (refine ⟨?_, rfl, ?_⟩; focus (simp; done))) | ((with_reducible first | apply i_ldn | apply i_ldnq); exact rfl; exact rfl; exact rfl) | ((try with_reducible refine d_reg ?_); simp only [go_sem, Nat.reduceAdd, Nat.reduceEqDiff, Int.reduceToNat, Nat.reduceMul, Nat.reduceSub]) | clear hK K)
      · obtain ⟨k', rfl⟩ : ∃ k', k = k' + 1 := ⟨k - 1, by omega⟩
        have W := g77 G Y y1 (by rw [y3]; exact hG) i y6
        rw [y2] at W
        obtain ⟨z1, z2, z3⟩ := Dk.lw_ok y1 G i
        rw [show lws G (k' + 1) i Y = if 58 * i < G.all.length then (if (Y.lw G i).1 = 0 then lws G k' (i + 1) (Y.lw G i).2 else Y.lw G i) else (0, Y) from rfl, if_pos (by omega)] at y4
        generalize Y.lw G i = T at *
        obtain ⟨e, V⟩ := T
        dsimp only at W y4 z1 z2 z3
        by_cases he : e = 0
        · subst he
          rw [if_pos rfl] at y4
          refine i_clq W ?_
          repeat' ((fail_if_success with_reducible refine nph ?_); first | (with_reducible first | (refine d_seq ?_; intro K hK) | (refine hK _ _ ?_; clear hK K) | (refine SG.p ?_; try intro b)) | ((with_reducible refine SC.p ?_); refine And.intro ?_ ?_) <;> intro hc <;> try simp only [push_cast, Int.reduceEq, Int.reduceLT, Int.reduceLE, Int.reduceNe] at hc | with_reducible refine r_rq (by first | decide | omega) ?_ | ((with_reducible refine SL.p ?_); first | refine ⟨_, rfl, ?_⟩ | refine ⟨_, _, _, rfl, ?_⟩ | (refine ⟨?_, rfl, ?_⟩; focus (simp; done))) | ((with_reducible first | apply i_ldn | apply i_ldnq); exact rfl; exact rfl; exact rfl) | ((try with_reducible refine d_reg ?_); simp only [go_sem, Nat.reduceAdd, Nat.reduceEqDiff, Int.reduceToNat, Nat.reduceMul, Nat.reduceSub]) | clear hK K)
          all_goals try (first | contradiction | (simp only [ reduceCtorEq] at *; done) | (exfalso; omega))
          rw [w64 (by omega) (by omega)]
          exact i_bk (k', i + 1, V) rfl ⟨z1, z2.trans y2, z3.trans y3, y4, by dsimp only; omega, by dsimp only; omega⟩ (by dsimp only; omega)
        · rw [if_neg he] at y4
          subst y4
          dsimp only at hRes
          rw [if_neg he] at hRes
          subst hRes
          refine i_clq W ?_
          repeat' ((fail_if_success with_reducible refine nph ?_); first | (with_reducible first | (refine d_seq ?_; intro K hK) | (refine hK _ _ ?_; clear hK K) | (refine SG.p ?_; try intro b)) | ((with_reducible refine SC.p ?_); refine And.intro ?_ ?_) <;> intro hc <;> try simp only [push_cast, Int.reduceEq, Int.reduceLT, Int.reduceLE, Int.reduceNe] at hc | with_reducible refine r_rq (by first | decide | omega) ?_ | ((with_reducible refine SL.p ?_); first | refine ⟨_, rfl, ?_⟩ | refine ⟨_, _, _, rfl, ?_⟩ | (refine ⟨?_, rfl, ?_⟩; focus (simp; done))) | ((with_reducible first | apply i_ldn | apply i_ldnq); exact rfl; exact rfl; exact rfl) | ((try with_reducible refine d_reg ?_); simp only [go_sem, Nat.reduceAdd, Nat.reduceEqDiff, Int.reduceToNat, Nat.reduceMul, Nat.reduceSub]) | clear hK K)
          all_goals try (first | contradiction | (simp only [ reduceCtorEq] at *; done) | (exfalso; omega))
          refine i_clq (g78 G Z.sb e) ?_
          repeat' ((fail_if_success with_reducible refine nph ?_); first | (with_reducible first | (refine d_seq ?_; intro K hK) | (refine hK _ _ ?_; clear hK K) | (refine SG.p ?_; try intro b)) | ((with_reducible refine SC.p ?_); refine And.intro ?_ ?_) <;> intro hc <;> try simp only [push_cast, Int.reduceEq, Int.reduceLT, Int.reduceLE, Int.reduceNe] at hc | with_reducible refine r_rq (by first | decide | omega) ?_ | ((with_reducible refine SL.p ?_); first | refine ⟨_, rfl, ?_⟩ | refine ⟨_, _, _, rfl, ?_⟩ | (refine ⟨?_, rfl, ?_⟩; focus (simp; done))) | ((with_reducible first | apply i_ldn | apply i_ldnq); exact rfl; exact rfl; exact rfl) | ((try with_reducible refine d_reg ?_); simp only [go_sem, Nat.reduceAdd, Nat.reduceEqDiff, Int.reduceToNat, Nat.reduceMul, Nat.reduceSub]) | clear hK K)
          (with_reducible first | apply i_ret0 | apply i_ret2 | apply i_ret3 | apply i_ret); exact rfl
          rfl
      · have hA2 : A = (0, Y) := by
          rw [← y4]
          cases k with
          | zero => rfl
          | succ k => unfold lws; rw [if_neg (by omega)]
        subst hA2
        have S := F28 Y y1
        simp only [Dk.p, y2] at S
        dsimp only at hRes
        rw [if_pos rfl] at hRes
        generalize Y.sync = T at *
        obtain ⟨e, V⟩ := T
        dsimp only at S hRes
        by_cases he : e = 0
        · subst he
          rw [if_pos rfl] at hRes
          subst hRes
          repeat' ((fail_if_success with_reducible refine nph ?_); first | (with_reducible first | (refine d_seq ?_; intro K hK) | (refine hK _ _ ?_; clear hK K) | (refine SG.p ?_; try intro b)) | ((with_reducible refine SC.p ?_); refine And.intro ?_ ?_) <;> intro hc <;> try simp only [push_cast, Int.reduceEq, Int.reduceLT, Int.reduceLE, Int.reduceNe] at hc | with_reducible refine r_rq (by first | decide | omega) ?_ | ((with_reducible refine SL.p ?_); first | refine ⟨_, rfl, ?_⟩ | refine ⟨_, _, _, rfl, ?_⟩ | (refine ⟨?_, rfl, ?_⟩; focus (simp; done))) | ((with_reducible first | apply i_ldn | apply i_ldnq); exact rfl; exact rfl; exact rfl) | ((try with_reducible refine d_reg ?_); simp only [go_sem, Nat.reduceAdd, Nat.reduceEqDiff, Int.reduceToNat, Nat.reduceMul, Nat.reduceSub]) | clear hK K)
          refine i_clq S ?_
          repeat' ((fail_if_success with_reducible refine nph ?_); first | (with_reducible first | (refine d_seq ?_; intro K hK) | (refine hK _ _ ?_; clear hK K) | (refine SG.p ?_; try intro b)) | ((with_reducible refine SC.p ?_); refine And.intro ?_ ?_) <;> intro hc <;> try simp only [push_cast, Int.reduceEq, Int.reduceLT, Int.reduceLE, Int.reduceNe] at hc | with_reducible refine r_rq (by first | decide | omega) ?_ | ((with_reducible refine SL.p ?_); first | refine ⟨_, rfl, ?_⟩ | refine ⟨_, _, _, rfl, ?_⟩ | (refine ⟨?_, rfl, ?_⟩; focus (simp; done))) | ((with_reducible first | apply i_ldn | apply i_ldnq); exact rfl; exact rfl; exact rfl) | ((try with_reducible refine d_reg ?_); simp only [go_sem, Nat.reduceAdd, Nat.reduceEqDiff, Int.reduceToNat, Nat.reduceMul, Nat.reduceSub]) | clear hK K)
          all_goals try (first | contradiction | (simp only [ reduceCtorEq] at *; done) | (exfalso; omega))
          (with_reducible first | apply i_ret0 | apply i_ret2 | apply i_ret3 | apply i_ret); exact rfl
          rfl
        · rw [if_neg he] at hRes
          subst hRes
          repeat' ((fail_if_success with_reducible refine nph ?_); first | (with_reducible first | (refine d_seq ?_; intro K hK) | (refine hK _ _ ?_; clear hK K) | (refine SG.p ?_; try intro b)) | ((with_reducible refine SC.p ?_); refine And.intro ?_ ?_) <;> intro hc <;> try simp only [push_cast, Int.reduceEq, Int.reduceLT, Int.reduceLE, Int.reduceNe] at hc | with_reducible refine r_rq (by first | decide | omega) ?_ | ((with_reducible refine SL.p ?_); first | refine ⟨_, rfl, ?_⟩ | refine ⟨_, _, _, rfl, ?_⟩ | (refine ⟨?_, rfl, ?_⟩; focus (simp; done))) | ((with_reducible first | apply i_ldn | apply i_ldnq); exact rfl; exact rfl; exact rfl) | ((try with_reducible refine d_reg ?_); simp only [go_sem, Nat.reduceAdd, Nat.reduceEqDiff, Int.reduceToNat, Nat.reduceMul, Nat.reduceSub]) | clear hK K)
          refine i_clq S ?_
          repeat' ((fail_if_success with_reducible refine nph ?_); first | (with_reducible first | (refine d_seq ?_; intro K hK) | (refine hK _ _ ?_; clear hK K) | (refine SG.p ?_; try intro b)) | ((with_reducible refine SC.p ?_); refine And.intro ?_ ?_) <;> intro hc <;> try simp only [push_cast, Int.reduceEq, Int.reduceLT, Int.reduceLE, Int.reduceNe] at hc | with_reducible refine r_rq (by first | decide | omega) ?_ | ((with_reducible refine SL.p ?_); first | refine ⟨_, rfl, ?_⟩ | refine ⟨_, _, _, rfl, ?_⟩ | (refine ⟨?_, rfl, ?_⟩; focus (simp; done))) | ((with_reducible first | apply i_ldn | apply i_ldnq); exact rfl; exact rfl; exact rfl) | ((try with_reducible refine d_reg ?_); simp only [go_sem, Nat.reduceAdd, Nat.reduceEqDiff, Int.reduceToNat, Nat.reduceMul, Nat.reduceSub]) | clear hK K)
          all_goals try (first | contradiction | (simp only [ reduceCtorEq] at *; done) | (exfalso; omega))
          refine i_clq (g78 G Z.sb e) ?_
          repeat' ((fail_if_success with_reducible refine nph ?_); first | (with_reducible first | (refine d_seq ?_; intro K hK) | (refine hK _ _ ?_; clear hK K) | (refine SG.p ?_; try intro b)) | ((with_reducible refine SC.p ?_); refine And.intro ?_ ?_) <;> intro hc <;> try simp only [push_cast, Int.reduceEq, Int.reduceLT, Int.reduceLE, Int.reduceNe] at hc | with_reducible refine r_rq (by first | decide | omega) ?_ | ((with_reducible refine SL.p ?_); first | refine ⟨_, rfl, ?_⟩ | refine ⟨_, _, _, rfl, ?_⟩ | (refine ⟨?_, rfl, ?_⟩; focus (simp; done))) | ((with_reducible first | apply i_ldn | apply i_ldnq); exact rfl; exact rfl; exact rfl) | ((try with_reducible refine d_reg ?_); simp only [go_sem, Nat.reduceAdd, Nat.reduceEqDiff, Int.reduceToNat, Nat.reduceMul, Nat.reduceSub]) | clear hK K)
          (with_reducible first | apply i_ret0 | apply i_ret2 | apply i_ret3 | apply i_ret); exact rfl
          rfl
end Go.Sp
/- The log: Append, Need, Open. -/
namespace Go.Sp
open Go Go.Proofs
set_option linter.unusedSimpArgs false
set_option linter.unusedVariables false
set_option maxRecDepth 10000
def Lg.add (G : Lg) (s : List UInt8) : (Int × Int) × Lg := if 58 * G.sectors < G.all.length + s.length then ((0, 7), G) else ((((G.all.length + 1 : Nat) : Int), 0), { G with all := G.all ++ s })
theorem g76 (G : Lg) (sb : Nat) (h : G.all.length ≤ 58 * G.sectors) (h2 : G.sectors ≤ 8192) (s : List UInt8) (hs : s.length ≤ 4611686018427387904) : Fq (eT2 eI eI) Tryz.prog 76 #[G.p, str s] [lgp G sb] [lgp (G.add s).2 sb] (G.add s).1 := fun L => by
  unfold Lg.add
  refine c76_fn rfl rfl ?_
  by_cases hq : 58 * G.sectors < G.all.length + s.length
  · rw [if_pos hq]
    repeat' ((fail_if_success with_reducible refine nph ?_); first | (with_reducible first | (refine d_seq ?_; intro K hK) | (refine hK _ _ ?_; clear hK K) | (refine SG.p ?_; try intro b)) | ((with_reducible refine SC.p ?_); refine And.intro ?_ ?_) <;> intro hc <;> try simp only [push_cast, Int.reduceEq, Int.reduceLT, Int.reduceLE, Int.reduceNe] at hc | with_reducible refine r_rq (by first | decide | omega) ?_ | ((with_reducible refine SL.p ?_); first | refine ⟨_, rfl, ?_⟩ | refine ⟨_, _, _, rfl, ?_⟩ | (refine ⟨?_, rfl, ?_⟩; focus (simp; done))) | ((with_reducible first | apply i_ldn | apply i_ldnq); exact rfl; exact rfl; exact rfl) | ((try with_reducible refine d_reg ?_); simp only [go_sem, Nat.reduceAdd, Nat.reduceEqDiff, Int.reduceToNat, Nat.reduceMul, Nat.reduceSub]) | clear hK K)
    refine i_clp (g30 G sb h h2) ?_
    repeat' ((fail_if_success with_reducible refine nph ?_); first | (with_reducible first | (refine d_seq ?_; intro K hK) | (refine hK _ _ ?_; clear hK K) | (refine SG.p ?_; try intro b)) | ((with_reducible refine SC.p ?_); refine And.intro ?_ ?_) <;> intro hc <;> try simp only [push_cast, Int.reduceEq, Int.reduceLT, Int.reduceLE, Int.reduceNe] at hc | with_reducible refine r_rq (by first | decide | omega) ?_ | ((with_reducible refine SL.p ?_); first | refine ⟨_, rfl, ?_⟩ | refine ⟨_, _, _, rfl, ?_⟩ | (refine ⟨?_, rfl, ?_⟩; focus (simp; done))) | ((with_reducible first | apply i_ldn | apply i_ldnq); exact rfl; exact rfl; exact rfl) | ((try with_reducible refine d_reg ?_); simp only [go_sem, Nat.reduceAdd, Nat.reduceEqDiff, Int.reduceToNat, Nat.reduceMul, Nat.reduceSub]) | clear hK K)
    all_goals try (exfalso; omega)
    (with_reducible first | apply i_ret0 | apply i_ret2 | apply i_ret3 | apply i_ret); exact rfl
    rfl
  · rw [if_neg hq]
    repeat' ((fail_if_success with_reducible refine nph ?_); first | (with_reducible first | (refine d_seq ?_; intro K hK) | (refine hK _ _ ?_; clear hK K) | (refine SG.p ?_; try intro b)) | ((with_reducible refine SC.p ?_); refine And.intro ?_ ?_) <;> intro hc <;> try simp only [push_cast, Int.reduceEq, Int.reduceLT, Int.reduceLE, Int.reduceNe] at hc | with_reducible refine r_rq (by first | decide | omega) ?_ | ((with_reducible refine SL.p ?_); first | refine ⟨_, rfl, ?_⟩ | refine ⟨_, _, _, rfl, ?_⟩ | (refine ⟨?_, rfl, ?_⟩; focus (simp; done))) | ((with_reducible first | apply i_ldn | apply i_ldnq); exact rfl; exact rfl; exact rfl) | ((try with_reducible refine d_reg ?_); simp only [go_sem, Nat.reduceAdd, Nat.reduceEqDiff, Int.reduceToNat, Nat.reduceMul, Nat.reduceSub]) | clear hK K)
    refine i_clp (g30 G sb h h2) ?_
    repeat' ((fail_if_success with_reducible refine nph ?_); first | (with_reducible first | (refine d_seq ?_; intro K hK) | (refine hK _ _ ?_; clear hK K) | (refine SG.p ?_; try intro b)) | ((with_reducible refine SC.p ?_); refine And.intro ?_ ?_) <;> intro hc <;> try simp only [push_cast, Int.reduceEq, Int.reduceLT, Int.reduceLE, Int.reduceNe] at hc | with_reducible refine r_rq (by first | decide | omega) ?_ | ((with_reducible refine SL.p ?_); first | refine ⟨_, rfl, ?_⟩ | refine ⟨_, _, _, rfl, ?_⟩ | (refine ⟨?_, rfl, ?_⟩; focus (simp; done))) | ((with_reducible first | apply i_ldn | apply i_ldnq); exact rfl; exact rfl; exact rfl) | ((try with_reducible refine d_reg ?_); simp only [go_sem, Nat.reduceAdd, Nat.reduceEqDiff, Int.reduceToNat, Nat.reduceMul, Nat.reduceSub]) | clear hK K)
    all_goals try (exfalso; omega)
    refine i_clp (g28 G sb (by omega)) ?_
    repeat' ((fail_if_success with_reducible refine nph ?_); first | (with_reducible first | (refine d_seq ?_; intro K hK) | (refine hK _ _ ?_; clear hK K) | (refine SG.p ?_; try intro b)) | ((with_reducible refine SC.p ?_); refine And.intro ?_ ?_) <;> intro hc <;> try simp only [push_cast, Int.reduceEq, Int.reduceLT, Int.reduceLE, Int.reduceNe] at hc | with_reducible refine r_rq (by first | decide | omega) ?_ | ((with_reducible refine SL.p ?_); first | refine ⟨_, rfl, ?_⟩ | refine ⟨_, _, _, rfl, ?_⟩ | (refine ⟨?_, rfl, ?_⟩; focus (simp; done))) | ((with_reducible first | apply i_ldn | apply i_ldnq); exact rfl; exact rfl; exact rfl) | ((try with_reducible refine d_reg ?_); simp only [go_sem, Nat.reduceAdd, Nat.reduceEqDiff, Int.reduceToNat, Nat.reduceMul, Nat.reduceSub]) | clear hK K)
    (with_reducible first | apply i_ret0 | apply i_ret2 | apply i_ret3 | apply i_ret); exact rfl
    rfl
def Lg.append (G : Lg) (c : Rc) : (Int × Int) × Lg := if G.dead then ((0, 9), G) else if c.frame.2 = 0 then G.add c.frame.1 else ((0, c.frame.2), G)
theorem frame_le (c : Rc) : c.frame.1.length ≤ 4102 := by
  unfold Rc.frame
  have := c.clean.body_le
  split
  · simp only [List.length_append, lowb_len]; omega
  · simp
theorem g20 (G : Lg) (sb : Nat) (h : G.all.length ≤ 58 * G.sectors) (h2 : G.sectors ≤ 8192) (A : HP) (r : api_Rec) (c : Rc) (hr : RcAt A r c) : Fq (eT2 eI eI) Tryz.prog 20 #[G.p, v_api_Rec r] [lgp G sb, A] [lgp (G.append c).2 sb, A] (G.append c).1 := fun L => by
  have O := g75 G sb
  have F := g18 A r c hr
  have hl := frame_le c
  have D := g76 G sb h h2 c.frame.1 (by omega)
  unfold Lg.off at O
  unfold Lg.append
  obtain ⟨k1, k2, k3, k4, k5, k6, k7, k8, k9, k10, k11, k12, k13⟩ := r
  refine c20_fn rfl rfl ?_
  by_cases hd : G.dead = true
  · rw [if_pos hd] at O
    rw [if_pos hd]
    repeat' ((fail_if_success with_reducible refine nph ?_); first | (with_reducible first | (refine d_seq ?_; intro K hK) | (refine hK _ _ ?_; clear hK K) | (refine SG.p ?_; try intro b)) | ((with_reducible refine SC.p ?_); refine And.intro ?_ ?_) <;> intro hc <;> try simp only [push_cast, Int.reduceEq, Int.reduceLT, Int.reduceLE, Int.reduceNe] at hc | with_reducible refine r_rq (by first | decide | omega) ?_ | ((with_reducible refine SL.p ?_); first | refine ⟨_, rfl, ?_⟩ | refine ⟨_, _, _, rfl, ?_⟩ | (refine ⟨?_, rfl, ?_⟩; focus (simp; done))) | ((with_reducible first | apply i_ldn | apply i_ldnq); exact rfl; exact rfl; exact rfl) | ((try with_reducible refine d_reg ?_); simp only [go_sem, Nat.reduceAdd, Nat.reduceEqDiff, Int.reduceToNat, Nat.reduceMul, Nat.reduceSub]) | clear hK K)
    refine i_clp O ?_
    repeat' ((fail_if_success with_reducible refine nph ?_); first | (with_reducible first | (refine d_seq ?_; intro K hK) | (refine hK _ _ ?_; clear hK K) | (refine SG.p ?_; try intro b)) | ((with_reducible refine SC.p ?_); refine And.intro ?_ ?_) <;> intro hc <;> try simp only [push_cast, Int.reduceEq, Int.reduceLT, Int.reduceLE, Int.reduceNe] at hc | with_reducible refine r_rq (by first | decide | omega) ?_ | ((with_reducible refine SL.p ?_); first | refine ⟨_, rfl, ?_⟩ | refine ⟨_, _, _, rfl, ?_⟩ | (refine ⟨?_, rfl, ?_⟩; focus (simp; done))) | ((with_reducible first | apply i_ldn | apply i_ldnq); exact rfl; exact rfl; exact rfl) | ((try with_reducible refine d_reg ?_); simp only [go_sem, Nat.reduceAdd, Nat.reduceEqDiff, Int.reduceToNat, Nat.reduceMul, Nat.reduceSub]) | clear hK K)
    all_goals try (first | contradiction | (simp only [ reduceCtorEq] at *; done) | (exfalso; omega))
    (with_reducible first | apply i_ret0 | apply i_ret2 | apply i_ret3 | apply i_ret); exact rfl
    rfl
  · rw [if_neg hd] at O
    rw [if_neg hd]
    generalize c.frame = f at *
    obtain ⟨t, e⟩ := f
    dsimp only at D ⊢
    by_cases he : e = 0
    · subst he
      rw [if_pos rfl]
      generalize G.add t = T at *
      obtain ⟨⟨y1, y2⟩, V⟩ := T
      repeat' ((fail_if_success with_reducible refine nph ?_); first | (with_reducible first | (refine d_seq ?_; intro K hK) | (refine hK _ _ ?_; clear hK K) | (refine SG.p ?_; try intro b)) | ((with_reducible refine SC.p ?_); refine And.intro ?_ ?_) <;> intro hc <;> try simp only [push_cast, Int.reduceEq, Int.reduceLT, Int.reduceLE, Int.reduceNe] at hc | with_reducible refine r_rq (by first | decide | omega) ?_ | ((with_reducible refine SL.p ?_); first | refine ⟨_, rfl, ?_⟩ | refine ⟨_, _, _, rfl, ?_⟩ | (refine ⟨?_, rfl, ?_⟩; focus (simp; done))) | ((with_reducible first | apply i_ldn | apply i_ldnq); exact rfl; exact rfl; exact rfl) | ((try with_reducible refine d_reg ?_); simp only [go_sem, Nat.reduceAdd, Nat.reduceEqDiff, Int.reduceToNat, Nat.reduceMul, Nat.reduceSub]) | clear hK K)
      refine i_clp O ?_
      repeat' ((fail_if_success with_reducible refine nph ?_); first | (with_reducible first | (refine d_seq ?_; intro K hK) | (refine hK _ _ ?_; clear hK K) | (refine SG.p ?_; try intro b)) | ((with_reducible refine SC.p ?_); refine And.intro ?_ ?_) <;> intro hc <;> try simp only [push_cast, Int.reduceEq, Int.reduceLT, Int.reduceLE, Int.reduceNe] at hc | with_reducible refine r_rq (by first | decide | omega) ?_ | ((with_reducible refine SL.p ?_); first | refine ⟨_, rfl, ?_⟩ | refine ⟨_, _, _, rfl, ?_⟩ | (refine ⟨?_, rfl, ?_⟩; focus (simp; done))) | ((with_reducible first | apply i_ldn | apply i_ldnq); exact rfl; exact rfl; exact rfl) | ((try with_reducible refine d_reg ?_); simp only [go_sem, Nat.reduceAdd, Nat.reduceEqDiff, Int.reduceToNat, Nat.reduceMul, Nat.reduceSub]) | clear hK K)
      all_goals try (first | contradiction | (simp only [ reduceCtorEq] at *; done) | (exfalso; omega))
      refine i_ldn (e := e_api_Rec) (x := ⟨k1, k2, k3, k4, k5, k6, k7, k8, k9, k10, k11, k12, k13⟩) rfl rfl rfl ?_
      refine i_clp F ?_
      repeat' ((fail_if_success with_reducible refine nph ?_); first | (with_reducible first | (refine d_seq ?_; intro K hK) | (refine hK _ _ ?_; clear hK K) | (refine SG.p ?_; try intro b)) | ((with_reducible refine SC.p ?_); refine And.intro ?_ ?_) <;> intro hc <;> try simp only [push_cast, Int.reduceEq, Int.reduceLT, Int.reduceLE, Int.reduceNe] at hc | with_reducible refine r_rq (by first | decide | omega) ?_ | ((with_reducible refine SL.p ?_); first | refine ⟨_, rfl, ?_⟩ | refine ⟨_, _, _, rfl, ?_⟩ | (refine ⟨?_, rfl, ?_⟩; focus (simp; done))) | ((with_reducible first | apply i_ldn | apply i_ldnq); exact rfl; exact rfl; exact rfl) | ((try with_reducible refine d_reg ?_); simp only [go_sem, Nat.reduceAdd, Nat.reduceEqDiff, Int.reduceToNat, Nat.reduceMul, Nat.reduceSub]) | clear hK K)
      all_goals try (first | contradiction | (simp only [ reduceCtorEq] at *; done) | (exfalso; omega))
      refine i_clq D ?_
      repeat' ((fail_if_success with_reducible refine nph ?_); first | (with_reducible first | (refine d_seq ?_; intro K hK) | (refine hK _ _ ?_; clear hK K) | (refine SG.p ?_; try intro b)) | ((with_reducible refine SC.p ?_); refine And.intro ?_ ?_) <;> intro hc <;> try simp only [push_cast, Int.reduceEq, Int.reduceLT, Int.reduceLE, Int.reduceNe] at hc | with_reducible refine r_rq (by first | decide | omega) ?_ | ((with_reducible refine SL.p ?_); first | refine ⟨_, rfl, ?_⟩ | refine ⟨_, _, _, rfl, ?_⟩ | (refine ⟨?_, rfl, ?_⟩; focus (simp; done))) | ((with_reducible first | apply i_ldn | apply i_ldnq); exact rfl; exact rfl; exact rfl) | ((try with_reducible refine d_reg ?_); simp only [go_sem, Nat.reduceAdd, Nat.reduceEqDiff, Int.reduceToNat, Nat.reduceMul, Nat.reduceSub]) | clear hK K)
      (with_reducible first | apply i_ret0 | apply i_ret2 | apply i_ret3 | apply i_ret); exact rfl
      rfl
    · rw [if_neg he]
      repeat' ((fail_if_success with_reducible refine nph ?_); first | (with_reducible first | (refine d_seq ?_; intro K hK) | (refine hK _ _ ?_; clear hK K) | (refine SG.p ?_; try intro b)) | ((with_reducible refine SC.p ?_); refine And.intro ?_ ?_) <;> intro hc <;> try simp only [push_cast, Int.reduceEq, Int.reduceLT, Int.reduceLE, Int.reduceNe] at hc | with_reducible refine r_rq (by first | decide | omega) ?_ | ((with_reducible refine SL.p ?_); first | refine ⟨_, rfl, ?_⟩ | refine ⟨_, _, _, rfl, ?_⟩ | (refine ⟨?_, rfl, ?_⟩; focus (simp; done))) | ((with_reducible first | apply i_ldn | apply i_ldnq); exact rfl; exact rfl; exact rfl) | ((try with_reducible refine d_reg ?_); simp only [go_sem, Nat.reduceAdd, Nat.reduceEqDiff, Int.reduceToNat, Nat.reduceMul, Nat.reduceSub]) | clear hK K)
      refine i_clp O ?_
      repeat' ((fail_if_success with_reducible refine nph ?_); first | (with_reducible first | (refine d_seq ?_; intro K hK) | (refine hK _ _ ?_; clear hK K) | (refine SG.p ?_; try intro b)) | ((with_reducible refine SC.p ?_); refine And.intro ?_ ?_) <;> intro hc <;> try simp only [push_cast, Int.reduceEq, Int.reduceLT, Int.reduceLE, Int.reduceNe] at hc | with_reducible refine r_rq (by first | decide | omega) ?_ | ((with_reducible refine SL.p ?_); first | refine ⟨_, rfl, ?_⟩ | refine ⟨_, _, _, rfl, ?_⟩ | (refine ⟨?_, rfl, ?_⟩; focus (simp; done))) | ((with_reducible first | apply i_ldn | apply i_ldnq); exact rfl; exact rfl; exact rfl) | ((try with_reducible refine d_reg ?_); simp only [go_sem, Nat.reduceAdd, Nat.reduceEqDiff, Int.reduceToNat, Nat.reduceMul, Nat.reduceSub]) | clear hK K)
      all_goals try (first | contradiction | (simp only [ reduceCtorEq] at *; done) | (exfalso; omega))
      refine i_ldn (e := e_api_Rec) (x := ⟨k1, k2, k3, k4, k5, k6, k7, k8, k9, k10, k11, k12, k13⟩) rfl rfl rfl ?_
      refine i_clp F ?_
      repeat' ((fail_if_success with_reducible refine nph ?_); first | (with_reducible first | (refine d_seq ?_; intro K hK) | (refine hK _ _ ?_; clear hK K) | (refine SG.p ?_; try intro b)) | ((with_reducible refine SC.p ?_); refine And.intro ?_ ?_) <;> intro hc <;> try simp only [push_cast, Int.reduceEq, Int.reduceLT, Int.reduceLE, Int.reduceNe] at hc | with_reducible refine r_rq (by first | decide | omega) ?_ | ((with_reducible refine SL.p ?_); first | refine ⟨_, rfl, ?_⟩ | refine ⟨_, _, _, rfl, ?_⟩ | (refine ⟨?_, rfl, ?_⟩; focus (simp; done))) | ((with_reducible first | apply i_ldn | apply i_ldnq); exact rfl; exact rfl; exact rfl) | ((try with_reducible refine d_reg ?_); simp only [go_sem, Nat.reduceAdd, Nat.reduceEqDiff, Int.reduceToNat, Nat.reduceMul, Nat.reduceSub]) | clear hK K)
      all_goals try (first | contradiction | (simp only [ reduceCtorEq] at *; done) | (exfalso; omega))
      (with_reducible first | apply i_ret0 | apply i_ret2 | apply i_ret3 | apply i_ret); exact rfl
      rfl
theorem whl_le (s : List UInt8) : ∀ k a, a ≤ s.length → whl s k a ≤ s.length
  | 0, a, h => h
  | k + 1, a, h => by
    unfold whl
    split
    · rename_i h0
      obtain ⟨m, hm, _, hm2⟩ := opn_step h h0
      rw [hm, Int.toNat_natCast]
      exact whl_le s k _ hm2
    · exact h
theorem whole_le (s : List UInt8) : whole s ≤ s.length := whl_le s _ 0 (by omega)
theorem scn_len (Z : Dk) (base top : Nat) : ∀ k i r, (Z.scn base top k i r).length ≤ 58 * k
  | 0, i, r => by simp [Dk.scn]
  | k + 1, i, r => by
    unfold Dk.scn
    split
    · simp
    · have ih := scn_len Z base top k (i + 1) (be ((Z.get ((base + i : Nat) : Int)).take 4))
      rw [List.length_append, List.length_take]
      split
      · simp only [List.length_nil]; omega
      · omega
/-- The log that is found. -/
def Dk.found (Z : Dk) (q base sectors run : Nat) : Lg := ⟨q, base, sectors, run, (Z.scn base run sectors 0 1).take (whole (Z.scn base run sectors 0 1)), whole (Z.scn base run sectors 0 1), false⟩
theorem found_ok {Z : Dk} {q base sectors run : Nat} (h1 : 1 ≤ sectors) (h2 : base + sectors ≤ Z.sure.length) (h3 : Z.sure.length ≤ 8192) (h4 : 1 ≤ run) (h5 : run < 4294967296) : (Z.found q base sectors run).ok Z.sure.length := by
  have a := whole_le (Z.scn base run sectors 0 1)
  have b := scn_len Z base run sectors 0 1
  refine ⟨h1, h2, h3, h4, h5, ?_, ?_⟩
  · unfold Dk.found
    dsimp only
    rw [List.length_take]
    omega
  · unfold Dk.found
    dsimp only
    rw [List.length_take]
    omega
set_option maxHeartbeats 1000000 in
theorem g17 (Z : Dk) (h : Z.ok) (base sectors run : Int) (w1 : wf64 base) (w2 : wf64 sectors) :
    Fn (eT2 eP eI) Tryz.prog 17 #[.pointer (some ⟨Z.sb, 0, none⟩), .int .i64 base, .int .i64 sectors, .int .i64 run] [dk Z] fun y X =>
      if lchk Z.sure.length base sectors run = 0 then
        (if Z.up then ∃ q b n r : Nat, base = (b : Int) ∧ sectors = (n : Int) ∧ run = (r : Int) ∧ (Z.found q b n r).ok Z.sure.length ∧
          (if (Z.lmend (Z.found q b n r)).1 = 0 then y = (some ⟨q, 0, none⟩, 0) ∧ X = [lgp (Z.lmend (Z.found q b n r)).2.2 Z.sb, dk (Z.lmend (Z.found q b n r)).2.1] else y = (none, (Z.lmend (Z.found q b n r)).1) ∧ X = [dk (Z.lmend (Z.found q b n r)).2.1])
        else y = (none, 9) ∧ X = [dk Z])
      else y = (none, lchk Z.sure.length base sectors run) ∧ X = [dk Z] := fun L => by
  have C := g67 Z h base sectors run w1
  have hn1 := h.n1
  refine c17_fn rfl rfl ?_
  by_cases hc0 : lchk Z.sure.length base sectors run = 0
  · rw [hc0] at C ⊢
    simp only [if_true]
    have hin : 0 ≤ base ∧ 1 ≤ sectors ∧ 1 ≤ run ∧ run < 4294967296 ∧ base + sectors ≤ (Z.sure.length : Int) := by
      unfold lchk at hc0
      split at hc0
      · cases hc0
      · split at hc0
        · cases hc0
        · omega
    obtain ⟨m0, rfl⟩ : ∃ m : Nat, base = (m : Int) := ⟨base.toNat, by omega⟩
    obtain ⟨n, rfl⟩ : ∃ m : Nat, sectors = (m : Int) := ⟨sectors.toNat, by omega⟩
    obtain ⟨r, rfl⟩ : ∃ m : Nat, run = (m : Int) := ⟨run.toNat, by omega⟩
    repeat' ((fail_if_success with_reducible refine nph ?_); first | (with_reducible first | (refine d_seq ?_; intro K hK) | (refine hK _ _ ?_; clear hK K) | (refine SG.p ?_; try intro b)) | ((with_reducible refine SC.p ?_); refine And.intro ?_ ?_) <;> intro hc <;> try simp only [push_cast, Int.reduceEq, Int.reduceLT, Int.reduceLE, Int.reduceNe] at hc | with_reducible refine r_rq (by first | decide | omega) ?_ | ((with_reducible refine SL.p ?_); first | refine ⟨_, rfl, ?_⟩ | refine ⟨_, _, _, rfl, ?_⟩ | (refine ⟨?_, rfl, ?_⟩; focus (simp; done))) | ((with_reducible first | apply i_ldn | apply i_ldnq); exact rfl; exact rfl; exact rfl) | ((try with_reducible refine d_reg ?_); simp only [go_sem, Nat.reduceAdd, Nat.reduceEqDiff, Int.reduceToNat, Nat.reduceMul, Nat.reduceSub]) | clear hK K)
    refine i_clp C ?_
    repeat' ((fail_if_success with_reducible refine nph ?_); first | (with_reducible first | (refine d_seq ?_; intro K hK) | (refine hK _ _ ?_; clear hK K) | (refine SG.p ?_; try intro b)) | ((with_reducible refine SC.p ?_); refine And.intro ?_ ?_) <;> intro hc <;> try simp only [push_cast, Int.reduceEq, Int.reduceLT, Int.reduceLE, Int.reduceNe] at hc | with_reducible refine r_rq (by first | decide | omega) ?_ | ((with_reducible refine SL.p ?_); first | refine ⟨_, rfl, ?_⟩ | refine ⟨_, _, _, rfl, ?_⟩ | (refine ⟨?_, rfl, ?_⟩; focus (simp; done))) | ((with_reducible first | apply i_ldn | apply i_ldnq); exact rfl; exact rfl; exact rfl) | ((try with_reducible refine d_reg ?_); simp only [go_sem, Nat.reduceAdd, Nat.reduceEqDiff, Int.reduceToNat, Nat.reduceMul, Nat.reduceSub]) | clear hK K)
    all_goals try (first | contradiction | (simp only [ reduceCtorEq] at *; done) | (exfalso; omega))
    have hok0 : (⟨b, m0, n, r, [], 0, false⟩ : Lg).ok Z.sure.length := ⟨by dsimp only; omega, by dsimp only; omega, hn1, by dsimp only; omega, by dsimp only; omega, by simp, by simp⟩
    have hok : (Z.found b m0 n r).ok Z.sure.length := found_ok (by omega) (by omega) hn1 (by omega) (by omega)
    have S := g68 ⟨b, m0, n, r, [], 0, false⟩ Z h hok0
    cases hu : Z.up
    · rw [hu] at S
      simp only [Bool.false_eq_true, if_false] at S
      refine i_cal S ?_
      rintro y X ⟨rfl, rfl⟩
      repeat' ((fail_if_success with_reducible refine nph ?_); first | (with_reducible first | (refine d_seq ?_; intro K hK) | (refine hK _ _ ?_; clear hK K) | (refine SG.p ?_; try intro b)) | ((with_reducible refine SC.p ?_); refine And.intro ?_ ?_) <;> intro hc <;> try simp only [push_cast, Int.reduceEq, Int.reduceLT, Int.reduceLE, Int.reduceNe] at hc | with_reducible refine r_rq (by first | decide | omega) ?_ | ((with_reducible refine SL.p ?_); first | refine ⟨_, rfl, ?_⟩ | refine ⟨_, _, _, rfl, ?_⟩ | (refine ⟨?_, rfl, ?_⟩; focus (simp; done))) | ((with_reducible first | apply i_ldn | apply i_ldnq); exact rfl; exact rfl; exact rfl) | ((try with_reducible refine d_reg ?_); simp only [go_sem, Nat.reduceAdd, Nat.reduceEqDiff, Int.reduceToNat, Nat.reduceMul, Nat.reduceSub]) | clear hK K)
      all_goals try (first | contradiction | (simp only [ reduceCtorEq] at *; done) | (exfalso; omega))
      exact i_done (e := eT2 eP eI) (none, 9) [dk Z] rfl (by rw [if_neg (by simp [hu])]; exact ⟨rfl, rfl⟩)
    · rw [hu] at S
      simp only [if_true] at S
      have M := g70 _ Z h hok
      have hlen := scn_len Z m0 r n 0 1
      have hw := whole_le (Z.scn m0 r n 0 1)
      have W := g69 (Z.scn m0 r n 0 1) (by omega)
      have hA : (Z.found b m0 n r).all = (Z.scn m0 r n 0 1).take (whole (Z.scn m0 r n 0 1)) := rfl
      refine i_cal S ?_
      rintro y X ⟨rfl, rfl⟩
      generalize hsc : Z.scn m0 r n 0 1 = sc at *
      repeat' ((fail_if_success with_reducible refine nph ?_); first | (with_reducible first | (refine d_seq ?_; intro K hK) | (refine hK _ _ ?_; clear hK K) | (refine SG.p ?_; try intro b)) | ((with_reducible refine SC.p ?_); refine And.intro ?_ ?_) <;> intro hc <;> try simp only [push_cast, Int.reduceEq, Int.reduceLT, Int.reduceLE, Int.reduceNe] at hc | with_reducible refine r_rq (by first | decide | omega) ?_ | ((with_reducible refine SL.p ?_); first | refine ⟨_, rfl, ?_⟩ | refine ⟨_, _, _, rfl, ?_⟩ | (refine ⟨?_, rfl, ?_⟩; focus (simp; done))) | ((with_reducible first | apply i_ldn | apply i_ldnq); exact rfl; exact rfl; exact rfl) | ((try with_reducible refine d_reg ?_); simp only [go_sem, Nat.reduceAdd, Nat.reduceEqDiff, Int.reduceToNat, Nat.reduceMul, Nat.reduceSub]) | clear hK K)
      all_goals try (first | contradiction | (simp only [ reduceCtorEq] at *; done) | (exfalso; omega))
      refine i_clp W ?_
      have ess : ss sc 0 (whole sc : Int) = sc.take (whole sc) := by
        unfold ss
        simp
      have hlt : (sc.take (whole sc)).length = whole sc := by rw [List.length_take]; omega
      repeat' (first | rw [ess] | rw [hlt] | (fail_if_success with_reducible refine nph ?_); first | (with_reducible first | (refine d_seq ?_; intro K hK) | (refine hK _ _ ?_; clear hK K) | (refine SG.p ?_; try intro b)) | ((with_reducible refine SC.p ?_); refine And.intro ?_ ?_) <;> intro hc <;> try simp only [push_cast, Int.reduceEq, Int.reduceLT, Int.reduceLE, Int.reduceNe] at hc | with_reducible refine r_rq (by first | decide | omega) ?_ | ((with_reducible refine SL.p ?_); first | refine ⟨_, rfl, ?_⟩ | refine ⟨_, _, _, rfl, ?_⟩ | (refine ⟨?_, rfl, ?_⟩; focus (simp; done))) | ((with_reducible first | apply i_ldn | apply i_ldnq); exact rfl; exact rfl; exact rfl) | ((try with_reducible refine d_reg ?_); simp only [go_sem, Nat.reduceAdd, Nat.reduceEqDiff, Int.reduceToNat, Nat.reduceMul, Nat.reduceSub]) | clear hK K)
      have hfd : Z.found b m0 n r = ⟨b, m0, n, r, sc.take (whole sc), whole sc, false⟩ := by unfold Dk.found; rw [hsc]
      have M' := M
      rw [hfd] at M'
      generalize hR : Z.lmend ⟨b, m0, n, r, sc.take (whole sc), whole sc, false⟩ = R at *
      obtain ⟨e, Y, G'⟩ := R
      dsimp only at M'
      refine i_clq M' ?_
      repeat' ((fail_if_success with_reducible refine nph ?_); first | (with_reducible first | (refine d_seq ?_; intro K hK) | (refine hK _ _ ?_; clear hK K) | (refine SG.p ?_; try intro b)) | ((with_reducible refine SC.p ?_); refine And.intro ?_ ?_) <;> intro hc <;> try simp only [push_cast, Int.reduceEq, Int.reduceLT, Int.reduceLE, Int.reduceNe] at hc | with_reducible refine r_rq (by first | decide | omega) ?_ | ((with_reducible refine SL.p ?_); first | refine ⟨_, rfl, ?_⟩ | refine ⟨_, _, _, rfl, ?_⟩ | (refine ⟨?_, rfl, ?_⟩; focus (simp; done))) | ((with_reducible first | apply i_ldn | apply i_ldnq); exact rfl; exact rfl; exact rfl) | ((try with_reducible refine d_reg ?_); simp only [go_sem, Nat.reduceAdd, Nat.reduceEqDiff, Int.reduceToNat, Nat.reduceMul, Nat.reduceSub]) | clear hK K)
      · have he : ¬ e = 0 := by simpa using hc
        exact i_done (e := eT2 eP eI) (none, e) [dk Y] rfl (by rw [if_pos hu]; exact ⟨b, m0, n, r, rfl, rfl, rfl, hok, by rw [hfd, hR]; dsimp only; rw [if_neg he]; exact ⟨rfl, rfl⟩⟩)
      · have he : e = 0 := by simpa using hc
        exact i_done (e := eT2 eP eI) (some ⟨b, 0, none⟩, 0) [lgp G' Z.sb, dk Y] rfl (by rw [if_pos hu]; exact ⟨b, m0, n, r, rfl, rfl, rfl, hok, by rw [hfd, hR]; dsimp only; rw [if_pos he]; exact ⟨rfl, rfl⟩⟩)
  · simp only [hc0, if_false]
    repeat' ((fail_if_success with_reducible refine nph ?_); first | (with_reducible first | (refine d_seq ?_; intro K hK) | (refine hK _ _ ?_; clear hK K) | (refine SG.p ?_; try intro b)) | ((with_reducible refine SC.p ?_); refine And.intro ?_ ?_) <;> intro hc <;> try simp only [push_cast, Int.reduceEq, Int.reduceLT, Int.reduceLE, Int.reduceNe] at hc | with_reducible refine r_rq (by first | decide | omega) ?_ | ((with_reducible refine SL.p ?_); first | refine ⟨_, rfl, ?_⟩ | refine ⟨_, _, _, rfl, ?_⟩ | (refine ⟨?_, rfl, ?_⟩; focus (simp; done))) | ((with_reducible first | apply i_ldn | apply i_ldnq); exact rfl; exact rfl; exact rfl) | ((try with_reducible refine d_reg ?_); simp only [go_sem, Nat.reduceAdd, Nat.reduceEqDiff, Int.reduceToNat, Nat.reduceMul, Nat.reduceSub]) | clear hK K)
    refine i_clp C ?_
    repeat' ((fail_if_success with_reducible refine nph ?_); first | (with_reducible first | (refine d_seq ?_; intro K hK) | (refine hK _ _ ?_; clear hK K) | (refine SG.p ?_; try intro b)) | ((with_reducible refine SC.p ?_); refine And.intro ?_ ?_) <;> intro hc <;> try simp only [push_cast, Int.reduceEq, Int.reduceLT, Int.reduceLE, Int.reduceNe] at hc | with_reducible refine r_rq (by first | decide | omega) ?_ | ((with_reducible refine SL.p ?_); first | refine ⟨_, rfl, ?_⟩ | refine ⟨_, _, _, rfl, ?_⟩ | (refine ⟨?_, rfl, ?_⟩; focus (simp; done))) | ((with_reducible first | apply i_ldn | apply i_ldnq); exact rfl; exact rfl; exact rfl) | ((try with_reducible refine d_reg ?_); simp only [go_sem, Nat.reduceAdd, Nat.reduceEqDiff, Int.reduceToNat, Nat.reduceMul, Nat.reduceSub]) | clear hK K)
    all_goals try (exfalso; simp at hc; exact hc0 hc)
    all_goals try contradiction
    exact i_done (e := eT2 eP eI) (none, lchk Z.sure.length base sectors run) [dk Z] rfl ⟨rfl, rfl⟩
end Go.Sp
/- The log: Need, Read, Bound. -/
namespace Go.Sp
open Go Go.Proofs
set_option linter.unusedSimpArgs false
set_option linter.unusedVariables false
set_option maxRecDepth 10000
def Lg.read (G : Lg) (lsn : Int) : Rc × Int × Int := if lsn < 1 ∨ (G.all.length : Int) < lsn then (Rc.z 0, 0, 8) else if (opn G.all (lsn - 1)).2.2 = 0 then ((opn G.all (lsn - 1)).1, lsn + (opn G.all (lsn - 1)).2.1, 0) else (Rc.z 0, 0, (opn G.all (lsn - 1)).2.2)
set_option maxHeartbeats 1000000 in
theorem g35 (G : Lg) (sb : Nat) (hl : G.all.length ≤ 1000000) (lsn : Int) : Fn (eT3 e_api_Rec eI eI) Tryz.prog 35 #[G.p, .int .i64 lsn] [lgp G sb] fun y X => ∃ A : HP, X = [A, lgp G sb] ∧ RcAt A y.1 (G.read lsn).1 ∧ y.2 = (G.read lsn).2 := fun L => by
  refine c35_fn rfl rfl ?_
  generalize hB' : G.read lsn = B
  have hB := hB'
  unfold Lg.read at hB
  by_cases h1 : lsn < 1 ∨ (G.all.length : Int) < lsn
  · rw [if_pos h1] at hB
    refine r_nilow 123 2 ?_
    obtain ⟨A, hA⟩ : ∃ A, A = ow 123 2 (none, 0, 0) [] := ⟨_, rfl⟩
    rw [← hA]
    repeat' ((fail_if_success with_reducible refine nph ?_); first | (with_reducible first | (refine d_seq ?_; intro K hK) | (refine hK _ _ ?_; clear hK K) | (refine SG.p ?_; try intro b)) | ((with_reducible refine SC.p ?_); refine And.intro ?_ ?_) <;> intro hc <;> try simp only [push_cast, Int.reduceEq, Int.reduceLT, Int.reduceLE, Int.reduceNe] at hc | with_reducible refine r_rq (by first | decide | omega) ?_ | ((with_reducible refine SL.p ?_); first | refine ⟨_, rfl, ?_⟩ | refine ⟨_, _, _, rfl, ?_⟩ | (refine ⟨?_, rfl, ?_⟩; focus (simp; done))) | ((with_reducible first | apply i_ldn | apply i_ldnq); exact rfl; exact rfl; exact rfl) | ((try with_reducible refine d_reg ?_); simp only [go_sem, Nat.reduceAdd, Nat.reduceEqDiff, Int.reduceToNat, Nat.reduceMul, Nat.reduceSub]) | clear hK K)
    refine i_clp (g83 G sb) ?_
    repeat' ((fail_if_success with_reducible refine nph ?_); first | (with_reducible first | (refine d_seq ?_; intro K hK) | (refine hK _ _ ?_; clear hK K) | (refine SG.p ?_; try intro b)) | ((with_reducible refine SC.p ?_); refine And.intro ?_ ?_) <;> intro hc <;> try simp only [push_cast, Int.reduceEq, Int.reduceLT, Int.reduceLE, Int.reduceNe] at hc | with_reducible refine r_rq (by first | decide | omega) ?_ | ((with_reducible refine SL.p ?_); first | refine ⟨_, rfl, ?_⟩ | refine ⟨_, _, _, rfl, ?_⟩ | (refine ⟨?_, rfl, ?_⟩; focus (simp; done))) | ((with_reducible first | apply i_ldn | apply i_ldnq); exact rfl; exact rfl; exact rfl) | ((try with_reducible refine d_reg ?_); simp only [go_sem, Nat.reduceAdd, Nat.reduceEqDiff, Int.reduceToNat, Nat.reduceMul, Nat.reduceSub]) | clear hK K)
    all_goals try (exfalso; omega)
    all_goals try contradiction
    all_goals (refine i_ldn (e := e_api_Rec) (x := ⟨0, 0, 0, 0, 0, [], [], [], 0, (none, 0, 0), (none, 0, 0), 0, 0⟩) rfl rfl rfl ?_); exact i_done (e := eT3 e_api_Rec eI eI) (⟨0, 0, 0, 0, 0, [], [], [], 0, (none, 0, 0), (none, 0, 0), 0, 0⟩, 0, 8) [A, lgp G sb] rfl ⟨A, rfl, (by rw [← hB]; exact RcAt_z A 0), (by rw [← hB])⟩
  · rw [if_neg h1] at hB
    have O := g26 G.all (lsn - 1) (by omega)
    have hst : (opn G.all (lsn - 1)).2.2 = 0 → ∃ m : Nat, (opn G.all (lsn - 1)).2.1 = (m : Int) ∧ 7 ≤ m ∧ m ≤ G.all.length := fun h0 => by
      obtain ⟨a, ha⟩ : ∃ a : Nat, lsn - 1 = (a : Int) := ⟨(lsn - 1).toNat, by omega⟩
      rw [ha] at h0 ⊢
      obtain ⟨m, m1, m2, m3⟩ := opn_step (by omega) h0
      exact ⟨m, m1, m2, by omega⟩
    generalize opn G.all (lsn - 1) = o at *
    obtain ⟨c, n, e⟩ := o
    dsimp only at O hB hst
    have ew : IntKind.wrap .i64 (lsn - 1) = lsn - 1 := w64 (by omega) (by omega)
    repeat' ((fail_if_success with_reducible refine nph ?_); first | (with_reducible first | (refine d_seq ?_; intro K hK) | (refine hK _ _ ?_; clear hK K) | (refine SG.p ?_; try intro b)) | ((with_reducible refine SC.p ?_); refine And.intro ?_ ?_) <;> intro hc <;> try simp only [push_cast, Int.reduceEq, Int.reduceLT, Int.reduceLE, Int.reduceNe] at hc | with_reducible refine r_rq (by first | decide | omega) ?_ | ((with_reducible refine SL.p ?_); first | refine ⟨_, rfl, ?_⟩ | refine ⟨_, _, _, rfl, ?_⟩ | (refine ⟨?_, rfl, ?_⟩; focus (simp; done))) | ((with_reducible first | apply i_ldn | apply i_ldnq); exact rfl; exact rfl; exact rfl) | ((try with_reducible refine d_reg ?_); simp only [go_sem, Nat.reduceAdd, Nat.reduceEqDiff, Int.reduceToNat, Nat.reduceMul, Nat.reduceSub]) | clear hK K)
    refine i_clp (g83 G sb) ?_
    repeat' (first | rw [ew] | (fail_if_success with_reducible refine nph ?_); first | (with_reducible first | (refine d_seq ?_; intro K hK) | (refine hK _ _ ?_; clear hK K) | (refine SG.p ?_; try intro b)) | ((with_reducible refine SC.p ?_); refine And.intro ?_ ?_) <;> intro hc <;> try simp only [push_cast, Int.reduceEq, Int.reduceLT, Int.reduceLE, Int.reduceNe] at hc | with_reducible refine r_rq (by first | decide | omega) ?_ | ((with_reducible refine SL.p ?_); first | refine ⟨_, rfl, ?_⟩ | refine ⟨_, _, _, rfl, ?_⟩ | (refine ⟨?_, rfl, ?_⟩; focus (simp; done))) | ((with_reducible first | apply i_ldn | apply i_ldnq); exact rfl; exact rfl; exact rfl) | ((try with_reducible refine d_reg ?_); simp only [go_sem, Nat.reduceAdd, Nat.reduceEqDiff, Int.reduceToNat, Nat.reduceMul, Nat.reduceSub]) | clear hK K)
    all_goals try (exfalso; omega)
    all_goals try contradiction
    refine i_cal O ?_
    rintro ⟨⟨k1, k2, k3, k4, k5, k6, k7, k8, k9, k10, k11, k12, k13⟩, y⟩ X ⟨A, rfl, hr, he⟩
    dsimp only at hr he
    subst he
    by_cases e2 : e = 0
    · subst e2
      rw [if_pos rfl] at hB
      obtain ⟨m, rfl, m1, m2⟩ := hst rfl
      have ew2 : IntKind.wrap .i64 (lsn + (m : Int)) = lsn + (m : Int) := w64 (by omega) (by omega)
      repeat' ((fail_if_success with_reducible refine nph ?_); first | (with_reducible first | (refine d_seq ?_; intro K hK) | (refine hK _ _ ?_; clear hK K) | (refine SG.p ?_; try intro b)) | ((with_reducible refine SC.p ?_); refine And.intro ?_ ?_) <;> intro hc <;> try simp only [push_cast, Int.reduceEq, Int.reduceLT, Int.reduceLE, Int.reduceNe] at hc | with_reducible refine r_rq (by first | decide | omega) ?_ | ((with_reducible refine SL.p ?_); first | refine ⟨_, rfl, ?_⟩ | refine ⟨_, _, _, rfl, ?_⟩ | (refine ⟨?_, rfl, ?_⟩; focus (simp; done))) | ((with_reducible first | apply i_ldn | apply i_ldnq); exact rfl; exact rfl; exact rfl) | ((try with_reducible refine d_reg ?_); simp only [go_sem, Nat.reduceAdd, Nat.reduceEqDiff, Int.reduceToNat, Nat.reduceMul, Nat.reduceSub]) | clear hK K)
      all_goals try (first | contradiction | (simp only [ reduceCtorEq] at *; done) | (exfalso; omega))
      rw [ew2]
      refine i_ldn (e := e_api_Rec) (x := ⟨k1, k2, k3, k4, k5, k6, k7, k8, k9, k10, k11, k12, k13⟩) rfl rfl rfl ?_
      repeat' ((fail_if_success with_reducible refine nph ?_); first | (with_reducible first | (refine d_seq ?_; intro K hK) | (refine hK _ _ ?_; clear hK K) | (refine SG.p ?_; try intro b)) | ((with_reducible refine SC.p ?_); refine And.intro ?_ ?_) <;> intro hc <;> try simp only [push_cast, Int.reduceEq, Int.reduceLT, Int.reduceLE, Int.reduceNe] at hc | with_reducible refine r_rq (by first | decide | omega) ?_ | ((with_reducible refine SL.p ?_); first | refine ⟨_, rfl, ?_⟩ | refine ⟨_, _, _, rfl, ?_⟩ | (refine ⟨?_, rfl, ?_⟩; focus (simp; done))) | ((with_reducible first | apply i_ldn | apply i_ldnq); exact rfl; exact rfl; exact rfl) | ((try with_reducible refine d_reg ?_); simp only [go_sem, Nat.reduceAdd, Nat.reduceEqDiff, Int.reduceToNat, Nat.reduceMul, Nat.reduceSub]) | clear hK K)
      refine i_ldn (e := e_api_Rec) (x := ⟨k1, k2, k3, k4, k5, k6, k7, k8, k9, k10, k11, k12, k13⟩) rfl rfl rfl ?_
      exact i_done (e := eT3 e_api_Rec eI eI) (⟨k1, k2, k3, k4, k5, k6, k7, k8, k9, k10, k11, k12, k13⟩, lsn + (m : Int), 0) [A, lgp G sb] rfl ⟨A, rfl, (by rw [← hB]; exact hr), (by rw [← hB])⟩
    · rw [if_neg e2] at hB
      repeat' ((fail_if_success with_reducible refine nph ?_); first | (with_reducible first | (refine d_seq ?_; intro K hK) | (refine hK _ _ ?_; clear hK K) | (refine SG.p ?_; try intro b)) | ((with_reducible refine SC.p ?_); refine And.intro ?_ ?_) <;> intro hc <;> try simp only [push_cast, Int.reduceEq, Int.reduceLT, Int.reduceLE, Int.reduceNe] at hc | with_reducible refine r_rq (by first | decide | omega) ?_ | ((with_reducible refine SL.p ?_); first | refine ⟨_, rfl, ?_⟩ | refine ⟨_, _, _, rfl, ?_⟩ | (refine ⟨?_, rfl, ?_⟩; focus (simp; done))) | ((with_reducible first | apply i_ldn | apply i_ldnq); exact rfl; exact rfl; exact rfl) | ((try with_reducible refine d_reg ?_); simp only [go_sem, Nat.reduceAdd, Nat.reduceEqDiff, Int.reduceToNat, Nat.reduceMul, Nat.reduceSub]) | clear hK K)
      all_goals try (first | contradiction | (simp only [ reduceCtorEq] at *; done) | (exfalso; omega))
      (refine i_ldn (e := e_api_Rec) (x := ⟨0, 0, 0, 0, 0, [], [], [], 0, (none, 0, 0), (none, 0, 0), 0, 0⟩) rfl rfl rfl ?_); exact i_done (e := eT3 e_api_Rec eI eI) (⟨0, 0, 0, 0, 0, [], [], [], 0, (none, 0, 0), (none, 0, 0), 0, 0⟩, 0, e) [A, lgp G sb] rfl ⟨A, rfl, (by rw [← hB]; exact RcAt_z A 0), (by rw [← hB])⟩
end Go.Sp
/- The log: Cut. -/
namespace Go.Sp
open Go Go.Proofs
set_option linter.unusedSimpArgs false
set_option linter.unusedVariables false
set_option maxRecDepth 10000
end Go.Sp
