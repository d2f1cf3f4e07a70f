/- What a law's arguments are: flat structs, and slices of them, read as they lie. -/
import Derived.Test.YtpadmllpdkknnaaK13
import Derived.ChangeArms
import Derived.WideShapes
import Derived.Carry
namespace Go.Sp
open Go

inductive Lf
  | i (k : IntKind)
  | s
  | b
def lfOk : Lf → Value → Prop
  | .i k, v => ∃ n, v = .int k n ∧ (Lit.int k n).wf = true
  | .s, v => ∃ s : List UInt8, v = str s ∧ s.length ≤ maxLen
  | .b, v => ∃ b, v = .bool b
def lfs : List Lf → List Value → Prop
  | [], [] => True
  | k :: ks, v :: vs => lfOk k v ∧ lfs ks vs
  | _, _ => False
def shFs (P : Program) (sh : TypeId → Option (List Lf)) : List Field → Nat → Option (List Lf)
  | [], _ => some []
  | f :: fs, off => match Nat.beq f.offset off, sh f.type with
    | true, some a => match Nat.beq (P.cellsOf f.type) a.length, shFs P sh fs (off + a.length) with
      | true, some r => some (a ++ r)
      | _, _ => none
    | _, _ => none
/-- The cells of a flat type. -/
def shape (P : Program) : Nat → TypeId → Option (List Lf)
  | 0, _ => none
  | n + 1, t => match P.underlying t with
    | some (.int k) => some [.i k]
    | some .string => some [.s]
    | some .bool => some [.b]
    | some (.struct fs) => match shFs P (shape P n) fs.toList 0 with
      | some r => match Nat.beq (P.cellsOf t) r.length with
        | true => some r
        | false => none
      | none => none
    | _ => none
theorem lfs_append : ∀ {a b : List Lf} {u v : List Value}, lfs a u → lfs b v → lfs (a ++ b) (u ++ v)
  | [], _, [], _, _, h => h
  | _ :: _, _, _ :: _, _, h, h' => ⟨h.1, lfs_append h.2 h'⟩
  | [], _, _ :: _, _, h, _ => h.elim
  | _ :: _, _, [], _, h, _ => h.elim
section
variable {H : Type} {enc : TypeId × Value → H} {P : Program} {w : World} {base : Nat} {spare : Nat → Bool} {held : Bool}
theorem shape_ok : ∀ (n : Nat) (t : TypeId) (ks : List Lf), shape P n t = some ks → ∀ (fuel : Nat) (cs : List Value) (x : DataW H × List MemPlace), DataW.trod enc P w base spare held fuel t cs = some x → lfs ks cs
  | 0, _, _, h, _, _, _, _ => by cases h
  | n + 1, t, ks, h, fuel, cs, x, hx => by
    unfold shape at h
    split at h
    · rename_i k ht
      cases h
      obtain ⟨m, rfl, _, hw⟩ := DataW.trod_int ht hx
      exact ⟨⟨m, rfl, hw⟩, trivial⟩
    · rename_i ht
      cases h
      obtain ⟨s, rfl, _, hs⟩ := DataW.trod_string ht hx
      exact ⟨⟨s.data.toList, rfl, by simpa using hs⟩, trivial⟩
    · rename_i ht
      cases h
      obtain ⟨b, rfl, _⟩ := DataW.trod_bool ht hx
      exact ⟨⟨b, rfl⟩, trivial⟩
    · rename_i fs ht
      obtain ⟨xs, m, _, _, hl, hlen, hf⟩ := DataW.trod_struct ht hx
      have each : ∀ f ∈ fs.toList, ∃ y, DataW.trod enc P w base spare held m f.type ((cs.drop f.offset).take (P.cellsOf f.type)) = some y := by
        intro f hf'
        obtain ⟨i, hi, rfl⟩ := List.getElem_of_mem hf'
        have hi' : i < fs.size := by simpa using hi
        have := hf i fs[i] (by simp [hi'])
        rw [List.getElem?_eq_getElem (by omega)] at this
        exact ⟨_, this⟩
      have go : ∀ (gs : List Field) (off : Nat) (r : List Lf), shFs P (shape P n) gs off = some r → (∀ f ∈ gs, ∃ y, DataW.trod enc P w base spare held m f.type ((cs.drop f.offset).take (P.cellsOf f.type)) = some y) →
          off + r.length ≤ cs.length → lfs r ((cs.drop off).take r.length) := by
        intro gs
        induction gs with
        | nil => intro off r hr _ _; simp only [shFs, Option.some.injEq] at hr; subst hr; simp [lfs]
        | cons g gs ih =>
          intro off r hr hy hle
          unfold shFs at hr
          split at hr
          · rename_i a h1 h2
            split at hr
            · rename_i r' h3 h4
              simp only [Option.some.injEq] at hr
              subst hr
              have e1 := Nat.eq_of_beq_eq_true h1
              have e3 := Nat.eq_of_beq_eq_true h3
              obtain ⟨y, hy'⟩ := hy g (by simp)
              have hA := shape_ok n g.type a h2 m _ y hy'
              rw [e1, e3] at hA
              simp only [List.length_append] at hle
              have hB := ih (off + a.length) r' h4 (fun f hf => hy f (by simp [hf])) (by omega)
              have := lfs_append hA hB
              rwa [show ((cs.drop off).take a.length) ++ ((cs.drop (off + a.length)).take r'.length) = (cs.drop off).take (a ++ r').length by
                rw [List.length_append, List.take_add, List.drop_drop]] at this
            · cases hr
          · cases hr
      split at h
      · rename_i r hr
        split at h
        · rename_i he
          cases h
          have e := Nat.eq_of_beq_eq_true he
          have := go fs.toList 0 ks hr each (by omega)
          simpa [show ks.length = cs.length by omega] using this
        · cases h
      · cases h
    · cases h
/-- An argument that is a flat struct. -/
theorem open_flat {r : Reach} {b0 : Nat} {t : TypeId} {v : Value} {d : DataW H} {p : List MemPlace} {fs : Array Field} {ks : List Lf} (ht : P.underlying t = some (.struct fs)) (hk : shape P 8 t = some ks) (hv : Value.okWide P w r b0 t v)
    (h : DataW.Trod enc P w base spare held t v d p) : ∃ cs : List Value, v = .agg cs.toArray ∧ lfs ks cs := by
  obtain ⟨cs, rfl, _⟩ := WideShapes.okWide_struct ht hv
  obtain ⟨fuel, h⟩ := h
  exact ⟨cs.toList, by simp, by simpa [Value.cells] using shape_ok 8 t ks hk fuel _ _ h⟩
theorem okSlice_cells {r : Reach} {b0 : Nat} {t e : TypeId} {v : Value} (ht : P.underlying t = some (.slice e)) (hv : Value.okWide P w r b0 t v) : v.cells.toList = [v] := by
  obtain ⟨a, n, c, rfl⟩ := WideShapes.okWide_slice ht hv
  rfl
theorem mapM_get {α β : Type} {f : α → Option β} : ∀ (l : List α) (ys : List β), l.mapM f = some ys → ys.length = l.length ∧ ∀ (i : Nat) (x : α), l[i]? = some x → f x = ys[i]?
  | [], ys, h => by
    simp only [List.mapM_nil] at h
    obtain rfl : ys = [] := by cases h; rfl
    simp
  | a :: l, ys, h => by
    simp only [List.mapM_cons] at h
    cases ha : f a with
    | none => simp [ha] at h
    | some b =>
      cases hl : l.mapM f with
      | none => simp [ha, hl] at h
      | some bs =>
        simp only [ha, hl, Option.bind_eq_bind, Option.bind_some, Option.pure_def, Option.some.injEq] at h
        subst h
        obtain ⟨h1, h2⟩ := mapM_get l bs hl
        refine ⟨by simp [h1], fun i x hi => ?_⟩
        cases i with
        | zero => simp only [List.getElem?_cons_zero, Option.some.injEq] at hi; subst hi; simpa using ha
        | succ i => simpa using h2 i x (by simpa using hi)
theorem cells_get {a : Addr} {n : Nat} {cs : List Value} (h : w.cells? base a n = some cs) : cs.length = n ∧ ∀ j v, cs[j]? = some v → w.cell? (a.add j) = some v := by
  unfold World.cells? at h
  split at h
  · obtain ⟨h1, h2⟩ := mapM_get _ _ h
    refine ⟨by simpa using h1, fun j v hj => ?_⟩
    have hlt : j < n := by
      rcases Nat.lt_or_ge j cs.length with h | h
      · simpa [h1] using h
      · rw [List.getElem?_eq_none h] at hj; cases hj
    rw [h2 j j (by simp [hlt]), hj]
  · cases h
theorem lfs_len : ∀ {ks : List Lf} {cs : List Value}, lfs ks cs → cs.length = ks.length
  | [], [], _ => rfl
  | _ :: _, _ :: _, h => by simp [lfs_len h.2]
  | [], _ :: _, h => h.elim
  | _ :: _, [], h => h.elim
theorem pc_old {w0 : World} {h : PH} (x : old w0 h) {a : Addr} {v : Value} (e : w0.cell? a = some v) : pc h a = some v := by
  have hb : a.block < w0.heap.size := by
    rcases Nat.lt_or_ge a.block w0.heap.size with h | h
    · exact h
    · unfold World.cell? at e; rw [Array.getElem?_eq_none h] at e; cases e
  rw [← pc_hp] at e
  unfold pc at *
  rw [x.2 _ hb]; exact e
/-- An argument that is a slice of flat values. -/
theorem open_slice_flat {α : Type} {cel : α → List Value} {Q : α → Prop} {sz : Nat} {t e : TypeId} {v : Value} {d : DataW H} {p : List MemPlace} {ks : List Lf} (ht : P.underlying t = some (.slice e)) (hk : shape P 8 e = some ks) (hsz : P.cellsOf e = sz) (hc : ∀ x, (cel x).length = sz)
    (hv : v.cells.toList = [v]) (hof : ∀ cs, lfs ks cs → ∃ x, cs = cel x ∧ Q x) (h : DataW.Trod enc P w base spare held t v d p) :
    ∃ (s : SlV) (l : List α), v = .slice s.1 s.2.1 s.2.2 ∧ Rs (old w) s sz (l.flatMap cel) ∧ s.2.1 = l.length ∧ (∀ x ∈ l, Q x) ∧ (l.length ≤ maxLen ∧ s.2.1 ≤ s.2.2) ∧ ((s = (none, 0, 0) ∧ d = .nil) ∨ ∃ es ss, d = .slice es ss ∧ es.length = l.length) := by
  obtain ⟨fuel, h⟩ := h
  rw [hv] at h
  rcases Deep.open_slice ht h with ⟨h1, h2⟩ | ⟨a, len, cap, m, n, D, Pl, h1, hb, hl, hm, hmm, hx, hi⟩
  · have : v = .slice none 0 0 := by simpa using h1
    subst this
    refine ⟨(none, 0, 0), [], rfl, ⟨by simp, by simp, by simp⟩, rfl, by simp, ⟨by simp, by simp⟩, .inl ⟨rfl, ?_⟩⟩
    exact congrArg Prod.fst h2
  · have : v = .slice (some a) len cap := by simpa using h1
    subst this
    have hle : len ≤ m := by rw [hmm]; split <;> omega
    have each : ∀ i, i < len → ∃ x, w.cells? base (a.add (i * sz)) sz = some (cel x) ∧ Q x := by
      intro i hlt
      obtain ⟨cs', e1, e2⟩ := hi i (by omega)
      obtain ⟨x, rfl, hq⟩ := hof cs' (shape_ok 8 e ks hk _ _ _ e2)
      rw [hsz] at e1
      exact ⟨x, e1, hq⟩
    have build : ∀ k, k ≤ len → ∃ l : List α, l.length = k ∧ (∀ i x, l[i]? = some x → w.cells? base (a.add (i * sz)) sz = some (cel x) ∧ Q x) := by
      intro k
      induction k with
      | zero => exact fun _ => ⟨[], rfl, by simp⟩
      | succ k ih =>
        intro hk'
        obtain ⟨l, hl1, hl2⟩ := ih (by omega)
        obtain ⟨x, hx1, hx2⟩ := each k (by omega)
        refine ⟨l ++ [x], by simp [hl1], fun i y hy => ?_⟩
        rcases Nat.lt_or_ge i l.length with h | h
        · rw [List.getElem?_append_left h] at hy; exact hl2 i y hy
        · rw [List.getElem?_append_right h] at hy
          have : i = k := by
            rcases Nat.eq_or_lt_of_le h with h' | h'
            · omega
            · rw [List.getElem?_eq_none (by simp; omega)] at hy; cases hy
          subst this
          simp only [hl1, Nat.sub_self, List.getElem?_cons_zero, Option.some.injEq] at hy
          subst hy
          exact ⟨hx1, hx2⟩
    obtain ⟨l, hl1, hl2⟩ := build len (Nat.le_refl _)
    refine ⟨(some a, len, cap), l, rfl, ⟨?_, by simp, ?_⟩, hl1.symm, ?_, ⟨by omega, hl⟩, .inr ⟨_, _, congrArg Prod.fst hx, by simp [hl1]⟩⟩
    · rw [flat_len hc, hl1]
    · intro a' ha' q hq j u hj
      have : a' = a := by simpa using ha'.symm
      subst this
      have hlt : j < l.length * sz := by
        rcases Nat.lt_or_ge j (l.length * sz) with h | h
        · exact h
        · rw [List.getElem?_eq_none (by rw [flat_len hc]; exact h)] at hj; cases hj
      have hs : 0 < sz := by
        rcases Nat.eq_zero_or_pos sz with h | h
        · subst h; simp at hlt
        · exact h
      have hi1 : j / sz < l.length := Nat.div_lt_of_lt_mul (by rw [Nat.mul_comm]; exact hlt)
      have hx1 : l[j / sz]? = some l[j / sz] := by simp [hi1]
      obtain ⟨e1, _⟩ := hl2 _ _ hx1
      have hmod := Nat.mod_lt j hs
      have hdiv : j / sz * sz + j % sz = j := by rw [Nat.mul_comm]; exact Nat.div_add_mod j sz
      have hu : (cel l[j / sz])[j % sz]? = some u := by
        have e2 : (cel l[j / sz])[j % sz]? = some ((cel l[j / sz])[j % sz]'(by rw [hc]; exact hmod)) := by simp [hc, hmod]
        have := flat_get hc l _ _ hx1 _ _ e2
        rw [hdiv, hj] at this
        rw [e2, this]
      have := (cells_get e1).2 _ _ hu
      rw [Deep.add_add, hdiv] at this
      exact pc_old hq this
    · intro x hx'
      obtain ⟨i, hi', rfl⟩ := List.getElem_of_mem hx'
      exact (hl2 i _ (by simp [hi'])).2
end
end Go.Sp
