/- Texts of a proof, one behind the other: V10 K26 V11 W1 V12 Gya0 W4. No condition. -/
import Derived.Test.YtaidhghnflnmnaaGreatM161cab61
import Derived.Test.YtaidhghnflnmnaaGreatMd059da0c
/- The log on a disk that nothing lets go: its calls. -/
namespace Go.Sp
open Go Go.Proofs
set_option linter.unusedSimpArgs false
set_option linter.unusedVariables false
set_option maxRecDepth 10000
theorem at4_nil : at4 (wh []) = 0 := by decide
theorem new_get {sb bb mb n j : Nat} (h : j < n) : (Dk.new sb bb mb n).get (j : Int) = wh [] := by
  unfold Dk.get Dk.new
  simp [gk, h]
theorem wopen0 {Z : Dk} {sb n : Nat} (hc : Z.calm sb n) {base S run : Nat} (hz : ∀ m, m < S → at4 (Z.get ((base + m : Nat) : Int)) = 0) (hS : 1 ≤ S) (hf : base + S ≤ n) (hn : n ≤ 8192) (r1 : 1 ≤ run) (r2 : run < 4294967296) :
    Fn (eT2 eP eI) Tryz.prog 17 #[.pointer (some ⟨sb, 0, none⟩), .int .i64 (base : Int), .int .i64 (S : Int), .int .i64 (run : Int)] [dk Z] fun y X => ∃ (q : Nat) (Y : Dk) (ρ : Nat → Nat), y = (some ⟨q, 0, none⟩, 0) ∧ X = [lgp ⟨q, base, S, run, [], 0, false⟩ sb, dk Y] ∧ Wi Y sb n ⟨q, base, S, run, [], 0, false⟩ ρ ∧ Y.es = [] := fun L w hw => by
  have F := g17 Z hc.ok (base : Int) (S : Int) (run : Int) (by unfold wf64; omega) (by unfold wf64; omega)
  rw [hc.sb] at F
  refine (F L w hw).mono ?_
  rintro _ w' ⟨y, he, X, hX, hW⟩
  have e0 : lchk Z.sure.length (base : Int) (S : Int) (run : Int) = 0 := by
    unfold lchk
    rw [hc.n, if_neg (by omega), if_neg (by omega)]
  rw [if_pos e0, if_pos hc.up] at hX
  obtain ⟨q, b, k, r, e1, e2, e3, hok, h⟩ := hX
  obtain rfl : b = base := by omega
  obtain rfl : k = S := by omega
  obtain rfl : r = run := by omega
  rw [found_zero (by have := hz 0 (by omega); simpa using this) hS] at h
  obtain ⟨ρ, m1, m2, m3, m4⟩ := mend_zero (q := q) hc hz hS hf hn r1 r2
  rw [if_pos m2, m3] at h
  exact ⟨y, he, X, ⟨q, _, ρ, h.1, h.2, m1, m4⟩, hW⟩
theorem wopen {Z : Dk} {sb n : Nat} {G : Lg} {ρ : Nat → Nat} (h : Wi Z sb n G ρ) {run : Nat} (hr : G.run < run) (r2 : run < 4294967296) (hw : whole (G.all.take G.durable) = G.durable) :
    Fn (eT2 eP eI) Tryz.prog 17 #[.pointer (some ⟨sb, 0, none⟩), .int .i64 (G.base : Int), .int .i64 (G.sectors : Int), .int .i64 (run : Int)] [dk Z] fun y X => ∃ (q : Nat) (Y : Dk) (ρ' : Nat → Nat), y = (some ⟨q, 0, none⟩, 0) ∧ X = [lgp ⟨q, G.base, G.sectors, run, G.all.take G.durable, G.durable, false⟩ sb, dk Y] ∧ Wi Y sb n ⟨q, G.base, G.sectors, run, G.all.take G.durable, G.durable, false⟩ ρ' ∧ Y.es = [] := fun L w hw' => by
  have hc := h.calm
  have hok := h.ok
  have hfit := hok.fit
  have hn1 := hok.n1
  have hs1 := hok.s1
  have F := g17 Z hc.ok (G.base : Int) (G.sectors : Int) (run : Int) (by unfold wf64; omega) (by unfold wf64; omega)
  rw [hc.sb] at F
  refine (F L w hw').mono ?_
  rintro _ w' ⟨y, he, X, hX, hW⟩
  have e0 : lchk Z.sure.length (G.base : Int) (G.sectors : Int) (run : Int) = 0 := by
    unfold lchk
    rw [hc.n, if_neg (by omega), if_neg (by omega)]
  rw [if_pos e0, if_pos hc.up] at hX
  obtain ⟨q, b, k, r, e1, e2, e3, _, h4⟩ := hX
  obtain rfl : b = G.base := by omega
  obtain rfl : k = G.sectors := by omega
  obtain rfl : r = run := by omega
  rw [found_wi h (Nat.le_of_lt hr) hw] at h4
  obtain ⟨ρ', m1, m2, m3, m4⟩ := mend_again h (q := q) hr r2
  rw [if_pos m2, m3] at h4
  exact ⟨y, he, X, ⟨q, _, ρ', h4.1, h4.2, m1, m4⟩, hW⟩
theorem wappend {Z : Dk} {sb n : Nat} {G : Lg} {ρ : Nat → Nat} (h : Wi Z sb n G ρ) (A : HP) (r : api_Rec) (c : Rc) (hr : RcAt A r c) :
    Fq (eT2 eI eI) Tryz.prog 20 #[G.p, v_api_Rec r] [lgp G sb, A] [lgp (G.append c).2 sb, A] (G.append c).1 := by
  have hfit := h.ok.fit
  have hn1 := h.ok.n1
  exact g20 G sb h.ok.le (by omega) A r c hr
/-- What a record that is appended makes of a log that is not dead. -/
theorem append_is {G : Lg} (hd : G.dead = false) (c : Rc) : G.append c = if c.frame.2 = 0 then (if G.all.length + c.frame.1.length ≤ 58 * G.sectors then ((((G.all.length + 1 : Nat) : Int), 0), { G with all := G.all ++ c.frame.1 }) else ((0, 7), G)) else ((0, c.frame.2), G) := by
  unfold Lg.append Lg.add
  rw [if_neg (by rw [hd]; decide)]
  by_cases h0 : c.frame.2 = 0
  · rw [if_pos h0, if_pos h0]
    by_cases hq : G.all.length + c.frame.1.length ≤ 58 * G.sectors
    · rw [if_pos hq, if_neg (by omega)]
    · rw [if_neg hq, if_pos (by omega)]
  · rw [if_neg h0, if_neg h0]
theorem Wi.app {Z : Dk} {sb n : Nat} {G : Lg} {ρ : Nat → Nat} (h : Wi Z sb n G ρ) (c : Rc) : Wi Z sb n (G.append c).2 ρ := by
  rw [append_is h.dead]
  split
  · split
    · exact h.append (by assumption)
    · exact h
  · exact h
theorem wflush {Z : Dk} {sb n : Nat} {G : Lg} {ρ : Nat → Nat} (h : Wi Z sb n G ρ) :
    ∃ (Y : Dk) (ρ' : Nat → Nat), Fq eI Tryz.prog 21 #[G.p] [lgp G sb, dk Z] [lgp { G with durable := G.all.length } sb, dk Y] 0 ∧ Wi Y sb n { G with durable := G.all.length } ρ' ∧ (Z.es = [] → Y.es = []) := by
  obtain ⟨ρ', hW⟩ := h.flush
  obtain ⟨l1, l2, _, l4, l5, _⟩ := lflush_calm h.calm h.ok h.dead
  refine ⟨_, ρ', ?_, hW, fun he => ?_⟩
  · have F := g21 G Z h.calm.ok (by rw [h.calm.n]; exact h.ok)
    rw [l1, l2, h.calm.sb] at F
    exact F
  · have hdu := h.ok.du
    rcases Nat.lt_or_ge G.durable G.all.length with x | x
    · exact l4 x
    · rw [l5 (by omega)]; exact he
end Go.Sp
/- What a law's arguments are: structs that hold slices of flat values, and slices of such structs, read as they lie. -/
namespace Go.Sp
open Go
inductive Ln
  | f (l : Lf)
  | sl (sz : Nat) (ks : List Lf)
def lnOk (w : World) : Ln → Value → Prop
  | .f l, v => lfOk l v
  | .sl sz ks, v => ∃ (s : SlV) (css : List (List Value)), v = .slice s.1 s.2.1 s.2.2 ∧ Rs (old w) s sz css.flatten ∧ (∀ c ∈ css, lfs ks c) ∧ s.2.1 ≤ s.2.2
def lns (w : World) : List Ln → List Value → Prop
  | [], [] => True
  | k :: ks, v :: vs => lnOk w k v ∧ lns w ks vs
  | _, _ => False
def shNs (P : Program) (sh : TypeId → Option (List Ln)) : List Field → Nat → Option (List Ln)
  | [], _ => some []
  | f :: fs, off => match Nat.beq f.offset off, sh f.type with
    | true, some a => match Nat.beq (P.cellsOf f.type) a.length, shNs P sh fs (off + a.length) with
      | true, some r => some (a ++ r)
      | _, _ => none
    | _, _ => none
def shapeN (P : Program) : Nat → TypeId → Option (List Ln)
  | 0, _ => none
  | n + 1, t => match P.underlying t with
    | some (.int k) => some [.f (.i k)]
    | some .string => some [.f .s]
    | some .bool => some [.f .b]
    | some (.slice e) => match shape P 8 e with
      | some ks => match Nat.beq (P.cellsOf e) ks.length with
        | true => some [.sl ks.length ks]
        | false => none
      | none => none
    | some (.struct fs) => match shNs P (shapeN P n) fs.toList 0 with
      | some r => match Nat.beq (P.cellsOf t) r.length with
        | true => some r
        | false => none
      | none => none
    | _ => none
theorem lns_append {w : World} : ∀ {a b : List Ln} {u v : List Value}, lns w a u → lns w b v → lns w (a ++ b) (u ++ v)
  | [], _, [], _, _, h => h
  | _ :: _, _, _ :: _, _, h, h' => ⟨h.1, lns_append h.2 h'⟩
  | [], _, _ :: _, _, h, _ => h.elim
  | _ :: _, _, [], _, h, _ => h.elim
section
variable {H : Type} {enc : TypeId × Value → H} {P : Program} {w : World} {base : Nat} {spare : Nat → Bool} {held : Bool}
theorem shapeN_ok : ∀ (n : Nat) (t : TypeId) (ks : List Ln), shapeN P n t = some ks → ∀ (fuel : Nat) (cs : List Value) (x : DataW H × List MemPlace), DataW.trod enc P w base spare held fuel t cs = some x → lns w ks cs
  | 0, _, _, h, _, _, _, _ => by cases h
  | n + 1, t, ks, h, fuel, cs, x, hx => by
    unfold shapeN at h
    split at h
    · rename_i k ht
      cases h
      obtain ⟨m, rfl, _, hw⟩ := DataW.trod_int ht hx
      exact ⟨⟨m, rfl, hw⟩, trivial⟩
    · rename_i ht
      cases h
      obtain ⟨s, rfl, _, hs⟩ := DataW.trod_string ht hx
      exact ⟨⟨s.data.toList, rfl, by simpa using hs⟩, trivial⟩
    · rename_i ht
      cases h
      obtain ⟨b, rfl, _⟩ := DataW.trod_bool ht hx
      exact ⟨⟨b, rfl⟩, trivial⟩
    · rename_i e ht
      split at h
      · rename_i r hr
        split at h
        · rename_i he
          cases h
          have hsz := Nat.eq_of_beq_eq_true he
          have hcs : ∃ v, cs = [v] ∧ v.cells.toList = [v] := by
            rcases Deep.open_slice ht hx with ⟨h1, _⟩ | ⟨a, len, cap, _, _, _, _, h1, _⟩
            · exact ⟨_, h1, rfl⟩
            · exact ⟨_, h1, rfl⟩
          obtain ⟨v, rfl, hv⟩ := hcs
          obtain ⟨d, p⟩ := x
          obtain ⟨s, l, h1, h2, h3, h4, h5, _⟩ := open_slice_flat (α := { c : List Value // c.length = r.length }) (cel := fun c => c.1) (Q := fun c => lfs r c.1) (sz := r.length) (d := d) (p := p) ht hr hsz (fun c => c.2) hv (fun cs hc => ⟨⟨cs, lfs_len hc⟩, rfl, hc⟩) ⟨fuel, by rw [hv]; exact hx⟩
          refine ⟨⟨s, l.map fun c => c.1, h1, ?_, ?_, h5.2⟩, trivial⟩
          · rw [List.flatMap_def] at h2; exact h2
          · intro c hc
            obtain ⟨y, hy, rfl⟩ := List.mem_map.1 hc
            exact h4 y hy
        · cases h
      · cases h
    · rename_i fs ht
      obtain ⟨xs, m, _, _, hl, hlen, hf⟩ := DataW.trod_struct ht hx
      have each : ∀ f ∈ fs.toList, ∃ y, DataW.trod enc P w base spare held m f.type ((cs.drop f.offset).take (P.cellsOf f.type)) = some y := by
        intro f hf'
        obtain ⟨i, hi, rfl⟩ := List.getElem_of_mem hf'
        have hi' : i < fs.size := by simpa using hi
        have := hf i fs[i] (by simp [hi'])
        rw [List.getElem?_eq_getElem (by omega)] at this
        exact ⟨_, this⟩
      have go : ∀ (gs : List Field) (off : Nat) (r : List Ln), shNs P (shapeN P n) gs off = some r → (∀ f ∈ gs, ∃ y, DataW.trod enc P w base spare held m f.type ((cs.drop f.offset).take (P.cellsOf f.type)) = some y) →
          off + r.length ≤ cs.length → lns w r ((cs.drop off).take r.length) := by
        intro gs
        induction gs with
        | nil => intro off r hr _ _; simp only [shNs, Option.some.injEq] at hr; subst hr; simp [lns]
        | cons g gs ih =>
          intro off r hr hy hle
          unfold shNs at hr
          split at hr
          · rename_i a h1 h2
            split at hr
            · rename_i r' h3 h4
              simp only [Option.some.injEq] at hr
              subst hr
              have e1 := Nat.eq_of_beq_eq_true h1
              have e3 := Nat.eq_of_beq_eq_true h3
              obtain ⟨y, hy'⟩ := hy g (by simp)
              have hA := shapeN_ok n g.type a h2 m _ y hy'
              rw [e1, e3] at hA
              simp only [List.length_append] at hle
              have hB := ih (off + a.length) r' h4 (fun f hf => hy f (by simp [hf])) (by omega)
              have := lns_append hA hB
              rwa [show ((cs.drop off).take a.length) ++ ((cs.drop (off + a.length)).take r'.length) = (cs.drop off).take (a ++ r').length by
                rw [List.length_append, List.take_add, List.drop_drop]] at this
            · cases hr
          · cases hr
      split at h
      · rename_i r hr
        split at h
        · rename_i he
          cases h
          have e := Nat.eq_of_beq_eq_true he
          have := go fs.toList 0 ks hr each (by omega)
          simpa [show ks.length = cs.length by omega] using this
        · cases h
      · cases h
    · cases h
/-- An argument that is a slice of structs that hold slices. -/
theorem open_slice_n {α : Type} {cel : α → List Value} {Q : α → Prop} {sz : Nat} {t e : TypeId} {v : Value} {d : DataW H} {p : List MemPlace} {ks : List Ln} (ht : P.underlying t = some (.slice e)) (hk : shapeN P 8 e = some ks) (hsz : P.cellsOf e = sz) (hc : ∀ x, (cel x).length = sz)
    (hv : v.cells.toList = [v]) (hof : ∀ cs, lns w ks cs → ∃ x, cs = cel x ∧ Q x) (h : DataW.Trod enc P w base spare held t v d p) :
    ∃ (s : SlV) (l : List α), v = .slice s.1 s.2.1 s.2.2 ∧ Rs (old w) s sz (l.flatMap cel) ∧ s.2.1 = l.length ∧ (∀ x ∈ l, Q x) ∧ (l.length ≤ maxLen ∧ s.2.1 ≤ s.2.2) := by
  obtain ⟨fuel, h⟩ := h
  rw [hv] at h
  rcases Deep.open_slice ht h with ⟨h1, h2⟩ | ⟨a, len, cap, m, n, D, Pl, h1, hb, hl, hm, hmm, hx, hi⟩
  · have : v = .slice none 0 0 := by simpa using h1
    subst this
    exact ⟨(none, 0, 0), [], rfl, ⟨by simp, by simp, by simp⟩, rfl, by simp, ⟨by simp, by simp⟩⟩
  · have : v = .slice (some a) len cap := by simpa using h1
    subst this
    have hle : len ≤ m := by rw [hmm]; split <;> omega
    have each : ∀ i, i < len → ∃ x, w.cells? base (a.add (i * sz)) sz = some (cel x) ∧ Q x := by
      intro i hlt
      obtain ⟨cs', e1, e2⟩ := hi i (by omega)
      obtain ⟨x, rfl, hq⟩ := hof cs' (shapeN_ok 8 e ks hk _ _ _ e2)
      rw [hsz] at e1
      exact ⟨x, e1, hq⟩
    have build : ∀ k, k ≤ len → ∃ l : List α, l.length = k ∧ (∀ i x, l[i]? = some x → w.cells? base (a.add (i * sz)) sz = some (cel x) ∧ Q x) := by
      intro k
      induction k with
      | zero => exact fun _ => ⟨[], rfl, by simp⟩
      | succ k ih =>
        intro hk'
        obtain ⟨l, hl1, hl2⟩ := ih (by omega)
        obtain ⟨x, hx1, hx2⟩ := each k (by omega)
        refine ⟨l ++ [x], by simp [hl1], fun i y hy => ?_⟩
        rcases Nat.lt_or_ge i l.length with h | h
        · rw [List.getElem?_append_left h] at hy; exact hl2 i y hy
        · rw [List.getElem?_append_right h] at hy
          have : i = k := by
            rcases Nat.eq_or_lt_of_le h with h' | h'
            · omega
            · rw [List.getElem?_eq_none (by simp; omega)] at hy; cases hy
          subst this
          simp only [hl1, Nat.sub_self, List.getElem?_cons_zero, Option.some.injEq] at hy
          subst hy
          exact ⟨hx1, hx2⟩
    obtain ⟨l, hl1, hl2⟩ := build len (Nat.le_refl _)
    refine ⟨(some a, len, cap), l, rfl, ⟨?_, by simp, ?_⟩, hl1.symm, ?_, ⟨by omega, hl⟩⟩
    · rw [flat_len hc, hl1]
    · intro a' ha' q hq j u hj
      have : a' = a := by simpa using ha'.symm
      subst this
      have hlt : j < l.length * sz := by
        rcases Nat.lt_or_ge j (l.length * sz) with h | h
        · exact h
        · rw [List.getElem?_eq_none (by rw [flat_len hc]; exact h)] at hj; cases hj
      have hs : 0 < sz := by
        rcases Nat.eq_zero_or_pos sz with h | h
        · subst h; simp at hlt
        · exact h
      have hi1 : j / sz < l.length := Nat.div_lt_of_lt_mul (by rw [Nat.mul_comm]; exact hlt)
      have hx1 : l[j / sz]? = some l[j / sz] := by simp [hi1]
      obtain ⟨e1, _⟩ := hl2 _ _ hx1
      have hmod := Nat.mod_lt j hs
      have hdiv : j / sz * sz + j % sz = j := by rw [Nat.mul_comm]; exact Nat.div_add_mod j sz
      have hu : (cel l[j / sz])[j % sz]? = some u := by
        have e2 : (cel l[j / sz])[j % sz]? = some ((cel l[j / sz])[j % sz]'(by rw [hc]; exact hmod)) := by simp [hc, hmod]
        have := flat_get hc l _ _ hx1 _ _ e2
        rw [hdiv, hj] at this
        rw [e2, this]
      have := (cells_get e1).2 _ _ hu
      rw [Deep.add_add, hdiv] at this
      exact pc_old hq this
    · intro x hx'
      obtain ⟨i, hi', rfl⟩ := List.getElem_of_mem hx'
      exact (hl2 i _ (by simp [hi'])).2
end
end Go.Sp
/- Records as arguments. -/
namespace Go.Sp
open Go Go.Proofs
set_option linter.unusedSimpArgs false
set_option linter.unusedVariables false
theorem lift_list {α : Type} {cel : α → List Value} {P : List Value → Prop} : ∀ (css : List (List Value)), (∀ c ∈ css, P c) → (∀ c, P c → ∃ x, c = cel x) → ∃ l : List α, css.flatten = l.flatMap cel
  | [], _, _ => ⟨[], rfl⟩
  | c :: css, h, hf => by
    obtain ⟨x, rfl⟩ := hf c (h c (by simp))
    obtain ⟨l, e⟩ := lift_list css (fun d hd => h d (by simp [hd])) hf
    exact ⟨x :: l, by simp [e]⟩
/-- A record that lies in what was there: its lists are read, and no list has less room than it is long. -/
def RcOk (A : HP) (r : api_Rec) : Prop := ∃ (is : List api_Image) (tb : List api_Active), Rs A r.Images 2 (is.flatMap cImg) ∧ Rs A r.Table 2 (tb.flatMap cAct) ∧ r.Images.2.1 ≤ r.Images.2.2 ∧ r.Table.2.1 ≤ r.Table.2.2
abbrev recKs : List Ln := [.f (.i .i64), .f (.i .i64), .f (.i .i64), .f (.i .i64), .f (.i .i64), .f .s, .f .s, .f .s, .f (.i .i64), .sl 2 [.i .i64, .s], .sl 2 [.i .i64, .i .i64], .f (.i .i64), .f (.i .i64)]
theorem rec_of {w : World} : ∀ cs, lns w recKs cs → ∃ r : api_Rec, cs = rcl r ∧ RcOk (old w) r := fun cs h => by
  rcases cs with _ | ⟨v1, _ | ⟨v2, _ | ⟨v3, _ | ⟨v4, _ | ⟨v5, _ | ⟨v6, _ | ⟨v7, _ | ⟨v8, _ | ⟨v9, _ | ⟨v10, _ | ⟨v11, _ | ⟨v12, _ | ⟨v13, _ | ⟨v14, cs⟩⟩⟩⟩⟩⟩⟩⟩⟩⟩⟩⟩⟩⟩ <;> simp only [lns, and_false, false_and, and_true] at h
  obtain ⟨⟨n1, rfl, _⟩, ⟨n2, rfl, _⟩, ⟨n3, rfl, _⟩, ⟨n4, rfl, _⟩, ⟨n5, rfl, _⟩, ⟨n6, rfl, _⟩, ⟨n7, rfl, _⟩, ⟨n8, rfl, _⟩, ⟨n9, rfl, _⟩, ⟨s1, c1, rfl, a1, a2, a3⟩, ⟨s2, c2, rfl, b1, b2, b3⟩, ⟨n12, rfl, _⟩, ⟨n13, rfl, _⟩⟩ := h
  obtain ⟨is, e1⟩ := lift_list (cel := cImg) c1 a2 (fun c hc => by
    rcases c with _ | ⟨u1, _ | ⟨u2, _ | ⟨u3, c⟩⟩⟩ <;> simp only [lfs, and_false, false_and, and_true] at hc
    obtain ⟨⟨m1, rfl, _⟩, ⟨m2, rfl, _⟩⟩ := hc
    exact ⟨⟨m1, m2⟩, rfl⟩)
  obtain ⟨tb, e2⟩ := lift_list (cel := cAct) c2 b2 (fun c hc => by
    rcases c with _ | ⟨u1, _ | ⟨u2, _ | ⟨u3, c⟩⟩⟩ <;> simp only [lfs, and_false, false_and, and_true] at hc
    obtain ⟨⟨m1, rfl, _⟩, ⟨m2, rfl, _⟩⟩ := hc
    exact ⟨⟨m1, m2⟩, rfl⟩)
  rw [e1] at a1
  rw [e2] at b1
  exact ⟨⟨n1, n2, n3, n4, n5, n6, n7, n8, n9, s1, s2, n12, n13⟩, rfl, is, tb, a1, b1, a3, b3⟩
theorem rcl_len (r : api_Rec) : (rcl r).length = 13 := rfl
theorem few_fn {A : HP} {r : api_Rec} (h : RcOk A r) : Fp e_api_Rec Tryz.prog 19 #[v_api_Rec r] [] (fewr r) := by
  obtain ⟨_, _, _, _, c, d⟩ := h
  exact g19 r c d
/-- What few leaves of it. -/
theorem few_ok {A : HP} {r : api_Rec} (h : RcOk A r) : ∃ c, RcAt A (fewr r) c := by
  obtain ⟨is, tb, a, b, c, d⟩ := h
  exact ⟨_, few_at a b c d⟩
end Go.Sp
/- The log's layer: its example. -/
namespace Go.Sp
open Go Go.Proofs
set_option linter.unusedSimpArgs false
set_option linter.unusedVariables false
set_option maxRecDepth 10000
theorem i_sj {e : Enc} {L L' : List HP} {A : HP} {α : Type} {cel : α → List Value} {a : Addr} {n c sz i j : Nat} {xs : List α} {x : α} {k : e.α → W} {y : e.α} (hR : Rs A (some a, n, c) sz (xs.flatMap cel)) (hc : ∀ x, (cel x).length = sz) (hx : xs[i]? = some x) [ha : AX L A L'] (hv : (cel x)[j]? = some (e.enc y)) (h : E L (k y)) : E L (ld e ((a.add (i * sz)).add j) k) :=
  r_sj hR hc hx ha.p hv h
theorem RL.two {S : HP} {rs : List api_Rec} {a b : Rc} (h : RL S rs [a, b]) : ∃ r s, rs = [r, s] ∧ RcAt S s b := by
  have hn := h.n
  match rs, hn with
  | [r, s], _ => exact ⟨r, s, rfl, h.g 1 s b rfl rfl⟩
set_option maxHeartbeats 1000000 in
theorem g15 : Fp eB Tryz.prog 15 #[] [] true := fun L => by
  refine c15_fn rfl rfl ?_
  repeat' ((fail_if_success with_reducible refine nph ?_); first | (with_reducible first | (refine d_seq ?_; intro K hK) | (refine hK _ _ ?_; clear hK K) | refine d_blk ?_ | refine d_rt0 ?_ | refine d_sk0 ?_ | refine d_ex0 ?_ | (refine r_nwc ?_; intro b)) | (first | ((with_reducible refine d_cnd ?_); refine And.intro ?_ ?_) | with_reducible refine r_cnd ?_ ?_) <;> intro hc <;> try simp only [push_cast, Int.reduceEq, Int.reduceLT, Int.reduceLE, Int.reduceNe] at hc | with_reducible refine r_rq (by first | decide | omega) ?_ | ((with_reducible first | apply i_lds | apply i_ldsq | apply i_ld | apply i_ldq); exact rfl) | ((with_reducible first | apply i_ldn | apply i_ldnq); exact rfl; exact rfl; exact rfl) | (with_reducible first | refine r_ph0 ?_ | apply i_kp0) | ((with_reducible first | apply i_st | apply i_stl); (focus simp); exact rfl) | ((try with_reducible refine d_reg ?_); simp only [go_sem, Nat.reduceAdd, Nat.reduceEqDiff, Int.reduceToNat, Nat.reduceMul, Nat.reduceSub]) | clear hK K)
  refine i_cal (F25 20 (by decide) (by decide)) ?_
  rintro y X ⟨sb, bb, mb, rfl, rfl⟩
  have hc0 : (Dk.new sb bb mb 20).calm sb 20 := Dk.calm.new (by decide) (by decide)
  have hz : ∀ m, m < 10 → at4 ((Dk.new sb bb mb 20).get ((1 + m : Nat) : Int)) = 0 := fun m hm => by rw [new_get (by omega)]; exact at4_nil
  generalize Dk.new sb bb mb 20 = Z at *
  repeat' ((fail_if_success with_reducible refine nph ?_); first | (with_reducible first | (refine d_seq ?_; intro K hK) | (refine hK _ _ ?_; clear hK K) | refine d_blk ?_ | refine d_rt0 ?_ | refine d_sk0 ?_ | refine d_ex0 ?_ | (refine r_nwc ?_; intro b)) | (first | ((with_reducible refine d_cnd ?_); refine And.intro ?_ ?_) | with_reducible refine r_cnd ?_ ?_) <;> intro hc <;> try simp only [push_cast, Int.reduceEq, Int.reduceLT, Int.reduceLE, Int.reduceNe] at hc | with_reducible refine r_rq (by first | decide | omega) ?_ | ((with_reducible first | apply i_lds | apply i_ldsq | apply i_ld | apply i_ldq); exact rfl) | ((with_reducible first | apply i_ldn | apply i_ldnq); exact rfl; exact rfl; exact rfl) | (with_reducible first | refine r_ph0 ?_ | apply i_kp0) | ((with_reducible first | apply i_st | apply i_stl); (focus simp); exact rfl) | ((try with_reducible refine d_reg ?_); simp only [go_sem, Nat.reduceAdd, Nat.reduceEqDiff, Int.reduceToNat, Nat.reduceMul, Nat.reduceSub]) | clear hK K)
  all_goals try contradiction
  refine i_cal (wopen0 hc0 hz (by decide) (by decide) (by decide) (by decide : 1 ≤ 1) (by decide)) ?_
  rintro y X ⟨q, Y, ρ, rfl, rfl, hW, hE⟩
  repeat' ((fail_if_success with_reducible refine nph ?_); first | (with_reducible first | (refine d_seq ?_; intro K hK) | (refine hK _ _ ?_; clear hK K) | refine d_blk ?_ | refine d_rt0 ?_ | refine d_sk0 ?_ | refine d_ex0 ?_ | (refine r_nwc ?_; intro b)) | (first | ((with_reducible refine d_cnd ?_); refine And.intro ?_ ?_) | with_reducible refine r_cnd ?_ ?_) <;> intro hc <;> try simp only [push_cast, Int.reduceEq, Int.reduceLT, Int.reduceLE, Int.reduceNe] at hc | with_reducible refine r_rq (by first | decide | omega) ?_ | ((with_reducible first | apply i_lds | apply i_ldsq | apply i_ld | apply i_ldq); exact rfl) | ((with_reducible first | apply i_ldn | apply i_ldnq); exact rfl; exact rfl; exact rfl) | (with_reducible first | refine r_ph0 ?_ | apply i_kp0) | ((with_reducible first | apply i_st | apply i_stl); (focus simp); exact rfl) | ((try with_reducible refine d_reg ?_); simp only [go_sem, Nat.reduceAdd, Nat.reduceEqDiff, Int.reduceToNat, Nat.reduceMul, Nat.reduceSub]) | clear hK K)
  all_goals try contradiction
  obtain ⟨f1, c1, l1⟩ := cm_frame (n := 1) ⟨by decide, by decide⟩
  obtain ⟨f2, c2, l2⟩ := cm_frame (n := 2) ⟨by decide, by decide⟩
  obtain ⟨f3, c3, l3⟩ := cm_frame (n := 3) ⟨by decide, by decide⟩
  have e1 : (⟨q, 1, 10, 1, [], 0, false⟩ : Lg).append (cm 1) = ((1, 0), ⟨q, 1, 10, 1, f1, 0, false⟩) := by
    rw [append_is rfl, c1]
    simp [l1]
  have A1 := wappend hW (dk Y) _ _ (cm_at (dk Y) 1)
  have W1 := hW.app (cm 1)
  rw [e1] at A1 W1
  dsimp only at W1
  have e2 : (⟨q, 1, 10, 1, f1, 0, false⟩ : Lg).append (cm 2) = ((20, 0), ⟨q, 1, 10, 1, f1 ++ f2, 0, false⟩) := by
    rw [append_is rfl, c2]
    simp [l1, l2]
  have A2 := wappend W1 (dk Y) _ _ (cm_at (dk Y) 2)
  have W2 := W1.app (cm 2)
  rw [e2] at A2 W2
  dsimp only at W2
  obtain ⟨V, ρ3, F3, W3, hE3⟩ := wflush W2
  dsimp only at F3 W3
  have l12 : (f1 ++ f2).length = 38 := by rw [List.length_append, l1, l2]
  rw [l12] at F3 W3
  have e4 : (⟨q, 1, 10, 1, f1 ++ f2, 38, false⟩ : Lg).append (cm 3) = ((39, 0), ⟨q, 1, 10, 1, f1 ++ f2 ++ f3, 38, false⟩) := by
    rw [append_is rfl, c3]
    simp [l1, l2, l3]
  have A4 := wappend W3 (dk V) _ _ (cm_at (dk V) 3)
  have W4 := W3.app (cm 3)
  rw [e4] at A4 W4
  dsimp only at W4
  have C5 := calm_c W4.calm (by decide) 0
  have C6 := calm_o W4.calm 0
  have W6 := W4.off (hE3 hE) 0
  have hps : Prs [(f1, cm 1), (f2, cm 2)] := fun x hx => by
    simp only [List.mem_cons, List.not_mem_nil, or_false] at hx
    rcases hx with rfl | rfl
    · exact ⟨⟨Nat.zero_le _, Nat.zero_le _⟩, c1⟩
    · exact ⟨⟨Nat.zero_le _, Nat.zero_le _⟩, c2⟩
  have ht : (f1 ++ f2 ++ f3).take 38 = f1 ++ f2 := List.take_left' l12
  have hwh : whole (f1 ++ f2) = 38 := by
    have := whole_frs hps.frs
    simpa [l1, l2] using this
  have O7 := wopen W6 (run := 2) (Nat.lt_succ_self 1) (by decide) (by dsimp only; rw [ht]; exact hwh)
  dsimp only at O7
  rw [ht] at O7
  have hrec : recs (f1 ++ f2) = [(1, cm 1), (20, cm 2)] := by
    have := recs_prs hps
    simp only [List.map_cons, List.map_nil, List.flatten_cons, List.flatten_nil, List.append_nil] at this
    rw [this]
    simp only [rl, l1]
    rfl
  refine i_clp (g37 1) ?_
  refine i_clq A1 ?_
  repeat' ((fail_if_success with_reducible refine nph ?_); first | (with_reducible first | (refine d_seq ?_; intro K hK) | (refine hK _ _ ?_; clear hK K) | refine d_blk ?_ | refine d_rt0 ?_ | refine d_sk0 ?_ | refine d_ex0 ?_ | (refine r_nwc ?_; intro b)) | (first | ((with_reducible refine d_cnd ?_); refine And.intro ?_ ?_) | with_reducible refine r_cnd ?_ ?_) <;> intro hc <;> try simp only [push_cast, Int.reduceEq, Int.reduceLT, Int.reduceLE, Int.reduceNe] at hc | with_reducible refine r_rq (by first | decide | omega) ?_ | ((with_reducible first | apply i_lds | apply i_ldsq | apply i_ld | apply i_ldq); exact rfl) | ((with_reducible first | apply i_ldn | apply i_ldnq); exact rfl; exact rfl; exact rfl) | (with_reducible first | refine r_ph0 ?_ | apply i_kp0) | ((with_reducible first | apply i_st | apply i_stl); (focus simp); exact rfl) | ((try with_reducible refine d_reg ?_); simp only [go_sem, Nat.reduceAdd, Nat.reduceEqDiff, Int.reduceToNat, Nat.reduceMul, Nat.reduceSub]) | clear hK K)
  refine i_clp (g37 2) ?_
  refine i_clq A2 ?_
  repeat' ((fail_if_success with_reducible refine nph ?_); first | (with_reducible first | (refine d_seq ?_; intro K hK) | (refine hK _ _ ?_; clear hK K) | refine d_blk ?_ | refine d_rt0 ?_ | refine d_sk0 ?_ | refine d_ex0 ?_ | (refine r_nwc ?_; intro b)) | (first | ((with_reducible refine d_cnd ?_); refine And.intro ?_ ?_) | with_reducible refine r_cnd ?_ ?_) <;> intro hc <;> try simp only [push_cast, Int.reduceEq, Int.reduceLT, Int.reduceLE, Int.reduceNe] at hc | with_reducible refine r_rq (by first | decide | omega) ?_ | ((with_reducible first | apply i_lds | apply i_ldsq | apply i_ld | apply i_ldq); exact rfl) | ((with_reducible first | apply i_ldn | apply i_ldnq); exact rfl; exact rfl; exact rfl) | (with_reducible first | refine r_ph0 ?_ | apply i_kp0) | ((with_reducible first | apply i_st | apply i_stl); (focus simp); exact rfl) | ((try with_reducible refine d_reg ?_); simp only [go_sem, Nat.reduceAdd, Nat.reduceEqDiff, Int.reduceToNat, Nat.reduceMul, Nat.reduceSub]) | clear hK K)
  refine i_clq F3 ?_
  repeat' ((fail_if_success with_reducible refine nph ?_); first | (with_reducible first | (refine d_seq ?_; intro K hK) | (refine hK _ _ ?_; clear hK K) | refine d_blk ?_ | refine d_rt0 ?_ | refine d_sk0 ?_ | refine d_ex0 ?_ | (refine r_nwc ?_; intro b)) | (first | ((with_reducible refine d_cnd ?_); refine And.intro ?_ ?_) | with_reducible refine r_cnd ?_ ?_) <;> intro hc <;> try simp only [push_cast, Int.reduceEq, Int.reduceLT, Int.reduceLE, Int.reduceNe] at hc | with_reducible refine r_rq (by first | decide | omega) ?_ | ((with_reducible first | apply i_lds | apply i_ldsq | apply i_ld | apply i_ldq); exact rfl) | ((with_reducible first | apply i_ldn | apply i_ldnq); exact rfl; exact rfl; exact rfl) | (with_reducible first | refine r_ph0 ?_ | apply i_kp0) | ((with_reducible first | apply i_st | apply i_stl); (focus simp); exact rfl) | ((try with_reducible refine d_reg ?_); simp only [go_sem, Nat.reduceAdd, Nat.reduceEqDiff, Int.reduceToNat, Nat.reduceMul, Nat.reduceSub]) | clear hK K)
  all_goals try contradiction
  refine i_clp (g37 3) ?_
  refine i_clq A4 ?_
  repeat' ((fail_if_success with_reducible refine nph ?_); first | (with_reducible first | (refine d_seq ?_; intro K hK) | (refine hK _ _ ?_; clear hK K) | refine d_blk ?_ | refine d_rt0 ?_ | refine d_sk0 ?_ | refine d_ex0 ?_ | (refine r_nwc ?_; intro b)) | (first | ((with_reducible refine d_cnd ?_); refine And.intro ?_ ?_) | with_reducible refine r_cnd ?_ ?_) <;> intro hc <;> try simp only [push_cast, Int.reduceEq, Int.reduceLT, Int.reduceLE, Int.reduceNe] at hc | with_reducible refine r_rq (by first | decide | omega) ?_ | ((with_reducible first | apply i_lds | apply i_ldsq | apply i_ld | apply i_ldq); exact rfl) | ((with_reducible first | apply i_ldn | apply i_ldnq); exact rfl; exact rfl; exact rfl) | (with_reducible first | refine r_ph0 ?_ | apply i_kp0) | ((with_reducible first | apply i_st | apply i_stl); (focus simp); exact rfl) | ((try with_reducible refine d_reg ?_); simp only [go_sem, Nat.reduceAdd, Nat.reduceEqDiff, Int.reduceToNat, Nat.reduceMul, Nat.reduceSub]) | clear hK K)
  refine i_clq C5 ?_
  repeat' ((fail_if_success with_reducible refine nph ?_); first | (with_reducible first | (refine d_seq ?_; intro K hK) | (refine hK _ _ ?_; clear hK K) | refine d_blk ?_ | refine d_rt0 ?_ | refine d_sk0 ?_ | refine d_ex0 ?_ | (refine r_nwc ?_; intro b)) | (first | ((with_reducible refine d_cnd ?_); refine And.intro ?_ ?_) | with_reducible refine r_cnd ?_ ?_) <;> intro hc <;> try simp only [push_cast, Int.reduceEq, Int.reduceLT, Int.reduceLE, Int.reduceNe] at hc | with_reducible refine r_rq (by first | decide | omega) ?_ | ((with_reducible first | apply i_lds | apply i_ldsq | apply i_ld | apply i_ldq); exact rfl) | ((with_reducible first | apply i_ldn | apply i_ldnq); exact rfl; exact rfl; exact rfl) | (with_reducible first | refine r_ph0 ?_ | apply i_kp0) | ((with_reducible first | apply i_st | apply i_stl); (focus simp); exact rfl) | ((try with_reducible refine d_reg ?_); simp only [go_sem, Nat.reduceAdd, Nat.reduceEqDiff, Int.reduceToNat, Nat.reduceMul, Nat.reduceSub]) | clear hK K)
  refine i_clq C6 ?_
  repeat' ((fail_if_success with_reducible refine nph ?_); first | (with_reducible first | (refine d_seq ?_; intro K hK) | (refine hK _ _ ?_; clear hK K) | refine d_blk ?_ | refine d_rt0 ?_ | refine d_sk0 ?_ | refine d_ex0 ?_ | (refine r_nwc ?_; intro b)) | (first | ((with_reducible refine d_cnd ?_); refine And.intro ?_ ?_) | with_reducible refine r_cnd ?_ ?_) <;> intro hc <;> try simp only [push_cast, Int.reduceEq, Int.reduceLT, Int.reduceLE, Int.reduceNe] at hc | with_reducible refine r_rq (by first | decide | omega) ?_ | ((with_reducible first | apply i_lds | apply i_ldsq | apply i_ld | apply i_ldq); exact rfl) | ((with_reducible first | apply i_ldn | apply i_ldnq); exact rfl; exact rfl; exact rfl) | (with_reducible first | refine r_ph0 ?_ | apply i_kp0) | ((with_reducible first | apply i_st | apply i_stl); (focus simp); exact rfl) | ((try with_reducible refine d_reg ?_); simp only [go_sem, Nat.reduceAdd, Nat.reduceEqDiff, Int.reduceToNat, Nat.reduceMul, Nat.reduceSub]) | clear hK K)
  refine i_cal O7 ?_
  rintro y X ⟨q2, Y2, ρ2, rfl, rfl, hW2, hE2⟩
  repeat' ((fail_if_success with_reducible refine nph ?_); first | (with_reducible first | (refine d_seq ?_; intro K hK) | (refine hK _ _ ?_; clear hK K) | refine d_blk ?_ | refine d_rt0 ?_ | refine d_sk0 ?_ | refine d_ex0 ?_ | (refine r_nwc ?_; intro b)) | (first | ((with_reducible refine d_cnd ?_); refine And.intro ?_ ?_) | with_reducible refine r_cnd ?_ ?_) <;> intro hc <;> try simp only [push_cast, Int.reduceEq, Int.reduceLT, Int.reduceLE, Int.reduceNe] at hc | with_reducible refine r_rq (by first | decide | omega) ?_ | ((with_reducible first | apply i_lds | apply i_ldsq | apply i_ld | apply i_ldq); exact rfl) | ((with_reducible first | apply i_ldn | apply i_ldnq); exact rfl; exact rfl; exact rfl) | (with_reducible first | refine r_ph0 ?_ | apply i_kp0) | ((with_reducible first | apply i_st | apply i_stl); (focus simp); exact rfl) | ((try with_reducible refine d_reg ?_); simp only [go_sem, Nat.reduceAdd, Nat.reduceEqDiff, Int.reduceToNat, Nat.reduceMul, Nat.reduceSub]) | clear hK K)
  all_goals try contradiction
  have hlen : (f1 ++ f2).length ≤ 1000000 := by omega
  have R8 := g25 ⟨q2, 1, 10, 2, f1 ++ f2, 38, false⟩ sb hlen
  dsimp only at R8
  rw [hrec] at R8
  refine i_cal R8 ?_
  rintro ⟨⟨p, n, c⟩, y2⟩ X ⟨S, rs, rfl, hRL⟩
  replace hRL : RL S rs [cm 1, cm 2] := hRL
  dsimp only [List.cons_append, List.nil_append]
  obtain ⟨r1, r2, rfl, hr⟩ := hRL.two
  have hr2 := hr.e
  have htx : r2.Txn = 2 := by
    have := congrArg Rc.txn hr2
    exact this.symm
  refine i_ow (t := 36) (sz := 13) (p, n, c) fun hR => ?_
  obtain rfl : n = 2 := hR.len rcl_len (by decide)
  obtain ⟨a, rfl⟩ := hR.ptr (by decide)
  repeat' ((fail_if_success with_reducible refine nph ?_); first | (with_reducible first | (refine d_seq ?_; intro K hK) | (refine hK _ _ ?_; clear hK K) | refine d_blk ?_ | refine d_rt0 ?_ | refine d_sk0 ?_ | refine d_ex0 ?_ | (refine r_nwc ?_; intro b)) | (first | ((with_reducible refine d_cnd ?_); refine And.intro ?_ ?_) | with_reducible refine r_cnd ?_ ?_) <;> intro hc <;> try simp only [push_cast, Int.reduceEq, Int.reduceLT, Int.reduceLE, Int.reduceNe] at hc | with_reducible refine r_rq (by first | decide | omega) ?_ | ((with_reducible first | apply i_lds | apply i_ldsq | apply i_ld | apply i_ldq); exact rfl) | ((with_reducible first | apply i_ldn | apply i_ldnq); exact rfl; exact rfl; exact rfl) | (with_reducible first | refine r_ph0 ?_ | apply i_kp0) | ((with_reducible first | apply i_st | apply i_stl); (focus simp); exact rfl) | ((try with_reducible refine d_reg ?_); simp only [go_sem, Nat.reduceAdd, Nat.reduceEqDiff, Int.reduceToNat, Nat.reduceMul, Nat.reduceSub]) | clear hK K)
  all_goals try contradiction
  refine i_sj (i := 1) (j := 1) hR rcl_len (x := r2) rfl rfl ?_
  repeat' ((fail_if_success with_reducible refine nph ?_); first | (with_reducible first | (refine d_seq ?_; intro K hK) | (refine hK _ _ ?_; clear hK K) | refine d_blk ?_ | refine d_rt0 ?_ | refine d_sk0 ?_ | refine d_ex0 ?_ | (refine r_nwc ?_; intro b)) | (first | ((with_reducible refine d_cnd ?_); refine And.intro ?_ ?_) | with_reducible refine r_cnd ?_ ?_) <;> intro hc <;> try simp only [push_cast, Int.reduceEq, Int.reduceLT, Int.reduceLE, Int.reduceNe] at hc | with_reducible refine r_rq (by first | decide | omega) ?_ | ((with_reducible first | apply i_lds | apply i_ldsq | apply i_ld | apply i_ldq); exact rfl) | ((with_reducible first | apply i_ldn | apply i_ldnq); exact rfl; exact rfl; exact rfl) | (with_reducible first | refine r_ph0 ?_ | apply i_kp0) | ((with_reducible first | apply i_st | apply i_stl); (focus simp); exact rfl) | ((try with_reducible refine d_reg ?_); simp only [go_sem, Nat.reduceAdd, Nat.reduceEqDiff, Int.reduceToNat, Nat.reduceMul, Nat.reduceSub]) | clear hK K)
  rw [htx]
  (with_reducible first | apply i_ret0 | apply i_ret2 | apply i_ret3 | apply i_ret); exact rfl
  rfl
end Go.Sp
/- The log on a disk that nothing lets go: what its sectors have behind Open, and behind Flush. -/
namespace Go.Sp
open Go Go.Proofs
set_option linter.unusedSimpArgs false
set_option linter.unusedVariables false
set_option maxRecDepth 10000
theorem get_len {Z : Dk} (h : Z.ok) (j : Nat) : (Z.get (j : Int)).length = 64 := by
  unfold Dk.get
  cases hg : gk Z.es (j : Int) with
  | none =>
    rw [Option.getD_none]
    refine wh_len ?_
    rw [List.getD_eq_getElem?_getD]
    rcases Nat.lt_or_ge (j : Int).toNat Z.sure.length with x | x
    · rw [List.getElem?_eq_getElem x]
      exact h.l64 _ (List.getElem_mem x)
    · rw [List.getElem?_eq_none x]
      simp
  | some v =>
    obtain ⟨x, hx, _, e⟩ := gk_mem hg
    have := h.e64 x hx
    rw [e] at this
    exact this
theorem wopen0g {Z : Dk} {sb n : Nat} (hc : Z.calm sb n) {base S run : Nat} (hz : ∀ m, m < S → at4 (Z.get ((base + m : Nat) : Int)) = 0) (hS : 1 ≤ S) (hf : base + S ≤ n) (hn : n ≤ 8192) (r1 : 1 ≤ run) (r2 : run < 4294967296) :
    Fn (eT2 eP eI) Tryz.prog 17 #[.pointer (some ⟨sb, 0, none⟩), .int .i64 (base : Int), .int .i64 (S : Int), .int .i64 (run : Int)] [dk Z] fun y X => ∃ (q : Nat) (Y : Dk) (ρ : Nat → Nat), y = (some ⟨q, 0, none⟩, 0) ∧ X = [lgp ⟨q, base, S, run, [], 0, false⟩ sb, dk Y] ∧ Wi Y sb n ⟨q, base, S, run, [], 0, false⟩ ρ ∧ Y.es = [] ∧
      ∀ j : Nat, j < n → Y.get (j : Int) = if j = base then wh (secb run []) else Z.get (j : Int) := fun L w hw => by
  have F := g17 Z hc.ok (base : Int) (S : Int) (run : Int) (by unfold wf64; omega) (by unfold wf64; omega)
  rw [hc.sb] at F
  refine (F L w hw).mono ?_
  rintro _ w' ⟨y, he, X, hX, hW⟩
  have e0 : lchk Z.sure.length (base : Int) (S : Int) (run : Int) = 0 := by
    unfold lchk
    rw [hc.n, if_neg (by omega), if_neg (by omega)]
  rw [if_pos e0, if_pos hc.up] at hX
  obtain ⟨q, b, k, r, e1, e2, e3, hok, h⟩ := hX
  obtain rfl : b = base := by omega
  obtain rfl : k = S := by omega
  obtain rfl : r = run := by omega
  rw [found_zero (by have := hz 0 (by omega); simpa using this) hS] at h
  obtain ⟨ρ, m1, m2, m3, m4⟩ := mend_zero (q := q) hc hz hS hf hn r1 r2
  rw [if_pos m2, m3] at h
  refine ⟨y, he, X, ⟨q, _, ρ, h.1, h.2, m1, m4, fun j hj => ?_⟩, hW⟩
  obtain ⟨_, _, _, _, l5⟩ := lmend_calm hc m1.ok
  rw [l5 j hj]
  by_cases e : j = b
  · rw [if_pos e, if_pos ⟨by dsimp only; omega, by dsimp only; omega⟩, sec_b]
    simp [part]
  · rw [if_neg e, if_neg (by dsimp only; omega)]
theorem wflushg {Z : Dk} {sb n : Nat} {G : Lg} {ρ : Nat → Nat} (h : Wi Z sb n G ρ) :
    ∃ (Y : Dk) (ρ' : Nat → Nat), Fq eI Tryz.prog 21 #[G.p] [lgp G sb, dk Z] [lgp { G with durable := G.all.length } sb, dk Y] 0 ∧ Wi Y sb n { G with durable := G.all.length } ρ' ∧ (Z.es = [] → Y.es = []) ∧
      ∀ j : Nat, j < n → Y.get (j : Int) = if G.durable < G.all.length ∧ G.base + G.durable / 58 ≤ j ∧ 58 * (j - G.base) < G.all.length then wh (G.sec (j - G.base)) else Z.get (j : Int) := by
  obtain ⟨ρ', hW⟩ := h.flush
  obtain ⟨l1, l2, _, l4, l5, l6⟩ := lflush_calm h.calm h.ok h.dead
  refine ⟨_, ρ', ?_, hW, fun he => ?_, l6⟩
  · have F := g21 G Z h.calm.ok (by rw [h.calm.n]; exact h.ok)
    rw [l1, l2, h.calm.sb] at F
    exact F
  · have hdu := h.ok.du
    rcases Nat.lt_or_ge G.durable G.all.length with x | x
    · exact l4 x
    · rw [l5 (by omega)]; exact he
end Go.Sp
/- What each region of the Go functions does. Written by my own generator. -/
namespace Go.Sp
open Go
set_option maxRecDepth 100000
set_option linter.unusedVariables false
open Go.Proofs
/-! gharry.gharrylaw08.WalSectors -/
noncomputable def c3 : Cfg := { P := Tryz.prog, n := 148, T := TT, body := (Tryz.f3.body).getD .skip, res := Tryz.f3.results.toList, li := lk [] [(0, [0, 1]), (1, [0, 1]), (2, []), (3, [0, 1]), (4, [0, 1, 5, 6]), (5, []), (6, [0, 1, 5]), (7, [0, 1, 5, 7, 8]), (8, []), (9, [0, 1, 5, 7]), (10, [0, 1, 5, 7, 9]), (11, [0, 1, 5, 7, 9, 10]), (12, [0, 1, 5, 7, 9, 10]), (13, [0, 1, 5, 7, 9, 10]), (14, [0, 1, 5, 7, 9, 10, 11, 12]), (15, [0, 1, 5, 7, 9, 10, 11, 12, 14]), (16, [0, 1, 5, 7, 9, 10, 11]), (17, [1, 5, 7, 9]), (18, []), (19, [1, 5, 9]), (20, [1, 5, 9, 15]), (21, [1, 5, 9, 15]), (22, [1, 5, 9, 15]), (23, [1, 5, 9, 15, 16, 17]), (24, []), (25, [1, 5, 9, 15, 16]), (26, [1, 5, 9, 15, 16]), (27, [1, 5, 9, 15, 16, 18]), (28, [1, 5, 9, 15, 16, 18]), (29, [1, 5, 9, 15, 16, 18]), (30, [1, 5, 9, 15, 16, 19]), (31, []), (32, [])], lo := lk [] [(0, [0, 1]), (1, [0, 1, 25]), (2, [4]), (3, [0, 1, 5, 6]), (4, [0, 1, 5, 36]), (5, [4]), (6, [0, 1, 5, 7, 8]), (7, [0, 1, 5, 7, 48]), (8, [4]), (9, [0, 1, 5, 7, 9]), (10, [0, 1, 5, 7, 9, 10]), (11, [0, 1, 5, 7, 9, 10, 56]), (12, [0, 1, 5, 7, 9, 10]), (13, [0, 1, 5, 7, 9, 10, 11, 12]), (14, [0, 1, 5, 7, 9, 10, 11, 12, 14]), (15, [0, 1, 5, 7, 9, 10, 11, 83]), (16, [0, 1, 5, 7, 9, 10]), (17, [1, 5, 9, 89]), (18, [4]), (19, [1, 5, 9, 15]), (20, [1, 5, 9, 15, 91]), (21, [1, 5, 9, 15]), (22, [1, 5, 9, 15, 16, 17]), (23, [1, 5, 9, 15, 16, 107]), (24, [4]), (25, [1, 5, 9, 15, 16, 123]), (26, [1, 5, 9, 15, 16, 18]), (27, [1, 5, 9, 15, 16, 18, 130]), (28, [1, 5, 9, 15, 16, 18]), (29, [1, 5, 9, 15, 16, 19]), (30, [1, 5, 9, 15, 146]), (31, [4]), (32, [4]), (1000000, [4])], ord := lk (false, []) [] }
@[go_sem] theorem c3_i0 : c3.li 0 = [0, 1] := rfl
@[go_sem] theorem c3_i1 : c3.li 1 = [0, 1] := rfl
@[go_sem] theorem c3_i2 : c3.li 2 = [] := rfl
@[go_sem] theorem c3_i3 : c3.li 3 = [0, 1] := rfl
@[go_sem] theorem c3_i4 : c3.li 4 = [0, 1, 5, 6] := rfl
@[go_sem] theorem c3_i5 : c3.li 5 = [] := rfl
@[go_sem] theorem c3_i6 : c3.li 6 = [0, 1, 5] := rfl
@[go_sem] theorem c3_i7 : c3.li 7 = [0, 1, 5, 7, 8] := rfl
@[go_sem] theorem c3_i8 : c3.li 8 = [] := rfl
@[go_sem] theorem c3_i9 : c3.li 9 = [0, 1, 5, 7] := rfl
@[go_sem] theorem c3_i10 : c3.li 10 = [0, 1, 5, 7, 9] := rfl
@[go_sem] theorem c3_i11 : c3.li 11 = [0, 1, 5, 7, 9, 10] := rfl
@[go_sem] theorem c3_i12 : c3.li 12 = [0, 1, 5, 7, 9, 10] := rfl
@[go_sem] theorem c3_i13 : c3.li 13 = [0, 1, 5, 7, 9, 10] := rfl
@[go_sem] theorem c3_i14 : c3.li 14 = [0, 1, 5, 7, 9, 10, 11, 12] := rfl
@[go_sem] theorem c3_i15 : c3.li 15 = [0, 1, 5, 7, 9, 10, 11, 12, 14] := rfl
@[go_sem] theorem c3_i16 : c3.li 16 = [0, 1, 5, 7, 9, 10, 11] := rfl
@[go_sem] theorem c3_i17 : c3.li 17 = [1, 5, 7, 9] := rfl
@[go_sem] theorem c3_i18 : c3.li 18 = [] := rfl
@[go_sem] theorem c3_i19 : c3.li 19 = [1, 5, 9] := rfl
@[go_sem] theorem c3_i20 : c3.li 20 = [1, 5, 9, 15] := rfl
@[go_sem] theorem c3_i21 : c3.li 21 = [1, 5, 9, 15] := rfl
@[go_sem] theorem c3_i22 : c3.li 22 = [1, 5, 9, 15] := rfl
@[go_sem] theorem c3_i23 : c3.li 23 = [1, 5, 9, 15, 16, 17] := rfl
@[go_sem] theorem c3_i24 : c3.li 24 = [] := rfl
@[go_sem] theorem c3_i25 : c3.li 25 = [1, 5, 9, 15, 16] := rfl
@[go_sem] theorem c3_i26 : c3.li 26 = [1, 5, 9, 15, 16] := rfl
@[go_sem] theorem c3_i27 : c3.li 27 = [1, 5, 9, 15, 16, 18] := rfl
@[go_sem] theorem c3_i28 : c3.li 28 = [1, 5, 9, 15, 16, 18] := rfl
@[go_sem] theorem c3_i29 : c3.li 29 = [1, 5, 9, 15, 16, 18] := rfl
@[go_sem] theorem c3_i30 : c3.li 30 = [1, 5, 9, 15, 16, 19] := rfl
@[go_sem] theorem c3_i31 : c3.li 31 = [] := rfl
@[go_sem] theorem c3_i32 : c3.li 32 = [] := rfl
@[go_sem] theorem c3_r0 (l0p : Option Addr) (l0n l0c : Nat) (run1 : Int) (K : Env → W) : RP c3 0 [(0, .slice l0p l0n l0c), (1, .int .i64 run1)] K =
    (K [(0, .slice l0p l0n l0c), (1, .int .i64 run1)]) := by kernel_rfl
@[go_sem] theorem c3_r1 (l0p : Option Addr) (l0n l0c : Nat) (run1 : Int) (K : Env → W) : RP c3 1 [(0, .slice l0p l0n l0c), (1, .int .i64 run1)] K =
    (cnd ((decide (run1 < (1 : Int)))) (K [(0, .slice l0p l0n l0c), (1, .int .i64 run1), (25, .bool true)]) (K [(0, .slice l0p l0n l0c), (1, .int .i64 run1), (25, .bool ((decide ((4294967295 : Int) < run1))))])) := by kernel_rfl
@[go_sem] theorem c3_r2 (K : Env → W) : RP c3 2 [] K =
    (cal eB Tryz.prog 15 #[] fun (y1_ : Bool) => (K [(4, .bool y1_)])) := by kernel_rfl
@[go_sem] theorem c3_r3 (l0p : Option Addr) (l0n l0c : Nat) (run1 : Int) (K : Env → W) : RP c3 3 [(0, .slice l0p l0n l0c), (1, .int .i64 run1)] K =
    (cal (eT2 eP eI) Tryz.prog 16 #[.int .i64 (31 : Int)] fun (y1_ : ((Option Addr) × Int)) => (K [(0, .slice l0p l0n l0c), (1, .int .i64 run1), (5, .pointer y1_.1), (6, .int .i64 y1_.2)])) := by kernel_rfl
@[go_sem] theorem c3_r4 (l0p : Option Addr) (l0n l0c : Nat) (run1 : Int) (d5 : Option Addr) (e6 : Int) (K : Env → W) : RP c3 4 [(0, .slice l0p l0n l0c), (1, .int .i64 run1), (5, .pointer d5), (6, .int .i64 e6)] K =
    (cnd ((e6 != (0 : Int))) (K [(0, .slice l0p l0n l0c), (1, .int .i64 run1), (5, .pointer d5), (36, .bool true)]) (K [(0, .slice l0p l0n l0c), (1, .int .i64 run1), (5, .pointer d5), (36, .bool ((d5).isNone))])) := by kernel_rfl
@[go_sem] theorem c3_r5 (K : Env → W) : RP c3 5 [] K =
    (K [(4, .bool false)]) := by kernel_rfl
@[go_sem] theorem c3_r6 (l0p : Option Addr) (l0n l0c : Nat) (run1 : Int) (d5 : Option Addr) (K : Env → W) : RP c3 6 [(0, .slice l0p l0n l0c), (1, .int .i64 run1), (5, .pointer d5)] K =
    (cal (eT2 eP eI) Tryz.prog 17 #[.pointer d5, .int .i64 (1 : Int), .int .i64 (30 : Int), .int .i64 run1] fun (y1_ : ((Option Addr) × Int)) => (K [(0, .slice l0p l0n l0c), (1, .int .i64 run1), (5, .pointer d5), (7, .pointer y1_.1), (8, .int .i64 y1_.2)])) := by kernel_rfl
@[go_sem] theorem c3_r7 (l0p : Option Addr) (l0n l0c : Nat) (run1 : Int) (d5 : Option Addr) (w7 : Option Addr) (f8 : Int) (K : Env → W) : RP c3 7 [(0, .slice l0p l0n l0c), (1, .int .i64 run1), (5, .pointer d5), (7, .pointer w7), (8, .int .i64 f8)] K =
    (cnd ((f8 != (0 : Int))) (K [(0, .slice l0p l0n l0c), (1, .int .i64 run1), (5, .pointer d5), (7, .pointer w7), (48, .bool true)]) (K [(0, .slice l0p l0n l0c), (1, .int .i64 run1), (5, .pointer d5), (7, .pointer w7), (48, .bool ((w7).isNone))])) := by kernel_rfl
@[go_sem] theorem c3_r8 (K : Env → W) : RP c3 8 [] K =
    (K [(4, .bool false)]) := by kernel_rfl
@[go_sem] theorem c3_r9 (l0p : Option Addr) (l0n l0c : Nat) (run1 : Int) (d5 : Option Addr) (w7 : Option Addr) (K : Env → W) : RP c3 9 [(0, .slice l0p l0n l0c), (1, .int .i64 run1), (5, .pointer d5), (7, .pointer w7)] K =
    (K [(0, .slice l0p l0n l0c), (1, .int .i64 run1), (5, .pointer d5), (7, .pointer w7), (9, str (([] : List UInt8)))]) := by kernel_rfl
@[go_sem] theorem c3_r10 (l0p : Option Addr) (l0n l0c : Nat) (run1 : Int) (d5 : Option Addr) (w7 : Option Addr) (all9 : List UInt8) (K : Env → W) : RP c3 10 [(0, .slice l0p l0n l0c), (1, .int .i64 run1), (5, .pointer d5), (7, .pointer w7), (9, str all9)] K =
    (K [(0, .slice l0p l0n l0c), (1, .int .i64 run1), (5, .pointer d5), (7, .pointer w7), (9, str all9), (10, .int .i64 (0 : Int))]) := by kernel_rfl
@[go_sem] theorem c3_r11 (l0p : Option Addr) (l0n l0c : Nat) (run1 : Int) (d5 : Option Addr) (w7 : Option Addr) (all9 : List UInt8) (i10 : Int) (K : Env → W) : RP c3 11 [(0, .slice l0p l0n l0c), (1, .int .i64 run1), (5, .pointer d5), (7, .pointer w7), (9, str all9), (10, .int .i64 i10)] K =
    (cnd ((decide (i10 < (l0n : Int)))) (K [(0, .slice l0p l0n l0c), (1, .int .i64 run1), (5, .pointer d5), (7, .pointer w7), (9, str all9), (10, .int .i64 i10), (56, .bool ((decide (i10 < (20 : Int)))))]) (K [(0, .slice l0p l0n l0c), (1, .int .i64 run1), (5, .pointer d5), (7, .pointer w7), (9, str all9), (10, .int .i64 i10), (56, .bool false)])) := by kernel_rfl
@[go_sem] theorem c3_r12 (l0p : Option Addr) (l0n l0c : Nat) (run1 : Int) (d5 : Option Addr) (w7 : Option Addr) (all9 : List UInt8) (i10 : Int) (K : Env → W) : RP c3 12 [(0, .slice l0p l0n l0c), (1, .int .i64 run1), (5, .pointer d5), (7, .pointer w7), (9, str all9), (10, .int .i64 i10)] K =
    (K [(0, .slice l0p l0n l0c), (1, .int .i64 run1), (5, .pointer d5), (7, .pointer w7), (9, str all9), (10, .int .i64 ((IntKind.wrap .i64 (i10 + (1 : Int)))))]) := by kernel_rfl
@[go_sem] theorem c3_r13 (l0p : Option Addr) (l0n l0c : Nat) (run1 : Int) (d5 : Option Addr) (w7 : Option Addr) (all9 : List UInt8) (i10 : Int) (K : Env → W) : RP c3 13 [(0, .slice l0p l0n l0c), (1, .int .i64 run1), (5, .pointer d5), (7, .pointer w7), (9, str all9), (10, .int .i64 i10)] K =
    (rq (0 ≤ i10 ∧ i10 < (l0n : Int)) (nn l0p fun y1_ => (ldn e_api_Rec 13 ((Addr.add y1_ ((i10).toNat * 13))) fun (y2_ : api_Rec) => (cal e_api_Rec Tryz.prog 19 #[v_api_Rec y2_] fun (y3_ : api_Rec) => (cal (eT2 eS eI) Tryz.prog 18 #[v_api_Rec y3_] fun (y4_ : ((List UInt8) × Int)) => (K [(0, .slice l0p l0n l0c), (1, .int .i64 run1), (5, .pointer d5), (7, .pointer w7), (9, str all9), (10, .int .i64 i10), (11, str y4_.1), (12, .int .i64 y4_.2)])))))) := by kernel_rfl
@[go_sem] theorem c3_r14 (l0p : Option Addr) (l0n l0c : Nat) (run1 : Int) (d5 : Option Addr) (w7 : Option Addr) (all9 : List UInt8) (i10 : Int) (s11 : List UInt8) (g12 : Int) (K : Env → W) : RP c3 14 [(0, .slice l0p l0n l0c), (1, .int .i64 run1), (5, .pointer d5), (7, .pointer w7), (9, str all9), (10, .int .i64 i10), (11, str s11), (12, .int .i64 g12)] K =
    (rq (0 ≤ i10 ∧ i10 < (l0n : Int)) (nn l0p fun y1_ => (ldn e_api_Rec 13 ((Addr.add y1_ ((i10).toNat * 13))) fun (y2_ : api_Rec) => (cal e_api_Rec Tryz.prog 19 #[v_api_Rec y2_] fun (y3_ : api_Rec) => (cal (eT2 eI eI) Tryz.prog 20 #[.pointer w7, v_api_Rec y3_] fun (y4_ : (Int × Int)) => (K [(0, .slice l0p l0n l0c), (1, .int .i64 run1), (5, .pointer d5), (7, .pointer w7), (9, str all9), (10, .int .i64 i10), (11, str s11), (12, .int .i64 g12), (14, .int .i64 y4_.2)])))))) := by kernel_rfl
@[go_sem] theorem c3_r15 (l0p : Option Addr) (l0n l0c : Nat) (run1 : Int) (d5 : Option Addr) (w7 : Option Addr) (all9 : List UInt8) (i10 : Int) (s11 : List UInt8) (g12 : Int) (h14 : Int) (K : Env → W) : RP c3 15 [(0, .slice l0p l0n l0c), (1, .int .i64 run1), (5, .pointer d5), (7, .pointer w7), (9, str all9), (10, .int .i64 i10), (11, str s11), (12, .int .i64 g12), (14, .int .i64 h14)] K =
    (cnd ((g12 == (0 : Int))) (K [(0, .slice l0p l0n l0c), (1, .int .i64 run1), (5, .pointer d5), (7, .pointer w7), (9, str all9), (10, .int .i64 i10), (11, str s11), (83, .bool ((h14 == (0 : Int))))]) (K [(0, .slice l0p l0n l0c), (1, .int .i64 run1), (5, .pointer d5), (7, .pointer w7), (9, str all9), (10, .int .i64 i10), (11, str s11), (83, .bool false)])) := by kernel_rfl
@[go_sem] theorem c3_r16 (l0p : Option Addr) (l0n l0c : Nat) (run1 : Int) (d5 : Option Addr) (w7 : Option Addr) (all9 : List UInt8) (i10 : Int) (s11 : List UInt8) (K : Env → W) : RP c3 16 [(0, .slice l0p l0n l0c), (1, .int .i64 run1), (5, .pointer d5), (7, .pointer w7), (9, str all9), (10, .int .i64 i10), (11, str s11)] K =
    (rq (((all9).length : Int) + ((s11).length : Int) ≤ 9223372036854775807) (K [(0, .slice l0p l0n l0c), (1, .int .i64 run1), (5, .pointer d5), (7, .pointer w7), (9, str ((all9 ++ s11))), (10, .int .i64 i10)])) := by kernel_rfl
@[go_sem] theorem c3_r17 (run1 : Int) (d5 : Option Addr) (w7 : Option Addr) (all9 : List UInt8) (K : Env → W) : RP c3 17 [(1, .int .i64 run1), (5, .pointer d5), (7, .pointer w7), (9, str all9)] K =
    (cal eI Tryz.prog 21 #[.pointer w7] fun (y1_ : Int) => (K [(1, .int .i64 run1), (5, .pointer d5), (9, str all9), (89, .bool ((y1_ != (0 : Int))))])) := by kernel_rfl
@[go_sem] theorem c3_r18 (K : Env → W) : RP c3 18 [] K =
    (K [(4, .bool false)]) := by kernel_rfl
@[go_sem] theorem c3_r19 (run1 : Int) (d5 : Option Addr) (all9 : List UInt8) (K : Env → W) : RP c3 19 [(1, .int .i64 run1), (5, .pointer d5), (9, str all9)] K =
    (K [(1, .int .i64 run1), (5, .pointer d5), (9, str all9), (15, .int .i64 (0 : Int))]) := by kernel_rfl
@[go_sem] theorem c3_r20 (run1 : Int) (d5 : Option Addr) (all9 : List UInt8) (i15 : Int) (K : Env → W) : RP c3 20 [(1, .int .i64 run1), (5, .pointer d5), (9, str all9), (15, .int .i64 i15)] K =
    (K [(1, .int .i64 run1), (5, .pointer d5), (9, str all9), (15, .int .i64 i15), (91, .bool ((decide (i15 < (30 : Int)))))]) := by kernel_rfl
@[go_sem] theorem c3_r21 (run1 : Int) (d5 : Option Addr) (all9 : List UInt8) (i15 : Int) (K : Env → W) : RP c3 21 [(1, .int .i64 run1), (5, .pointer d5), (9, str all9), (15, .int .i64 i15)] K =
    (K [(1, .int .i64 run1), (5, .pointer d5), (9, str all9), (15, .int .i64 ((IntKind.wrap .i64 (i15 + (1 : Int)))))]) := by kernel_rfl
@[go_sem] theorem c3_r22 (run1 : Int) (d5 : Option Addr) (all9 : List UInt8) (i15 : Int) (K : Env → W) : RP c3 22 [(1, .int .i64 run1), (5, .pointer d5), (9, str all9), (15, .int .i64 i15)] K =
    (cal (eT2 eS eI) Tryz.prog 22 #[.pointer d5, .int .i64 ((IntKind.wrap .i64 ((1 : Int) + i15)))] fun (y1_ : ((List UInt8) × Int)) => (K [(1, .int .i64 run1), (5, .pointer d5), (9, str all9), (15, .int .i64 i15), (16, str y1_.1), (17, .int .i64 y1_.2)])) := by kernel_rfl
@[go_sem] theorem c3_r23 (run1 : Int) (d5 : Option Addr) (all9 : List UInt8) (i15 : Int) (b16 : List UInt8) (g17 : Int) (K : Env → W) : RP c3 23 [(1, .int .i64 run1), (5, .pointer d5), (9, str all9), (15, .int .i64 i15), (16, str b16), (17, .int .i64 g17)] K =
    (cnd ((g17 != (0 : Int))) (K [(1, .int .i64 run1), (5, .pointer d5), (9, str all9), (15, .int .i64 i15), (16, str b16), (107, .bool true)]) (K [(1, .int .i64 run1), (5, .pointer d5), (9, str all9), (15, .int .i64 i15), (16, str b16), (107, .bool ((((b16).length : Int) != (64 : Int))))])) := by kernel_rfl
@[go_sem] theorem c3_r24 (K : Env → W) : RP c3 24 [] K =
    (K [(4, .bool false)]) := by kernel_rfl
@[go_sem] theorem c3_r25 (run1 : Int) (d5 : Option Addr) (all9 : List UInt8) (i15 : Int) (b16 : List UInt8) (K : Env → W) : RP c3 25 [(1, .int .i64 run1), (5, .pointer d5), (9, str all9), (15, .int .i64 i15), (16, str b16)] K =
    (cnd ((decide (((all9).length : Int) < (IntKind.wrap .i64 ((58 : Int) * i15))))) (K [(1, .int .i64 run1), (5, .pointer d5), (9, str all9), (15, .int .i64 i15), (16, str b16), (123, .bool true)]) (cnd (((IntKind.wrap .i64 ((58 : Int) * i15)) == ((all9).length : Int))) (K [(1, .int .i64 run1), (5, .pointer d5), (9, str all9), (15, .int .i64 i15), (16, str b16), (123, .bool ((decide ((0 : Int) < i15))))]) (K [(1, .int .i64 run1), (5, .pointer d5), (9, str all9), (15, .int .i64 i15), (16, str b16), (123, .bool false)]))) := by kernel_rfl
@[go_sem] theorem c3_r26 (run1 : Int) (d5 : Option Addr) (all9 : List UInt8) (i15 : Int) (b16 : List UInt8) (K : Env → W) : RP c3 26 [(1, .int .i64 run1), (5, .pointer d5), (9, str all9), (15, .int .i64 i15), (16, str b16)] K =
    (rq (0 ≤ ((IntKind.wrap .i64 ((58 : Int) * i15)) : Int) ∧ (IntKind.wrap .i64 ((58 : Int) * i15)) ≤ ((all9).length : Int) ∧ ((all9).length : Int) ≤ ((all9).length : Int)) (K [(1, .int .i64 run1), (5, .pointer d5), (9, str all9), (15, .int .i64 i15), (16, str b16), (18, str ((ss all9 ((IntKind.wrap .i64 ((58 : Int) * i15))) (((all9).length : Int)))))])) := by kernel_rfl
@[go_sem] theorem c3_r27 (run1 : Int) (d5 : Option Addr) (all9 : List UInt8) (i15 : Int) (b16 : List UInt8) (part18 : List UInt8) (K : Env → W) : RP c3 27 [(1, .int .i64 run1), (5, .pointer d5), (9, str all9), (15, .int .i64 i15), (16, str b16), (18, str part18)] K =
    (K [(1, .int .i64 run1), (5, .pointer d5), (9, str all9), (15, .int .i64 i15), (16, str b16), (18, str part18), (130, .bool ((decide ((58 : Int) < ((part18).length : Int)))))]) := by kernel_rfl
@[go_sem] theorem c3_r28 (run1 : Int) (d5 : Option Addr) (all9 : List UInt8) (i15 : Int) (b16 : List UInt8) (part18 : List UInt8) (K : Env → W) : RP c3 28 [(1, .int .i64 run1), (5, .pointer d5), (9, str all9), (15, .int .i64 i15), (16, str b16), (18, str part18)] K =
    (rq (0 ≤ (0 : Int) ∧ 0 ≤ (58 : Int) ∧ (58 : Int) ≤ ((part18).length : Int)) (K [(1, .int .i64 run1), (5, .pointer d5), (9, str all9), (15, .int .i64 i15), (16, str b16), (18, str ((ss part18 0 (58 : Int))))])) := by kernel_rfl
@[go_sem] theorem c3_r29 (run1 : Int) (d5 : Option Addr) (all9 : List UInt8) (i15 : Int) (b16 : List UInt8) (part18 : List UInt8) (K : Env → W) : RP c3 29 [(1, .int .i64 run1), (5, .pointer d5), (9, str all9), (15, .int .i64 i15), (16, str b16), (18, str part18)] K =
    (cal eS Tryz.prog 23 #[.int .i64 run1, .int .i64 (4 : Int)] fun (y1_ : List UInt8) => (cal eS Tryz.prog 23 #[.int .i64 (((part18).length : Int)), .int .i64 (2 : Int)] fun (y2_ : List UInt8) => (rq (((y1_).length : Int) + ((y2_).length : Int) ≤ 9223372036854775807) (rq ((((y1_ ++ y2_)).length : Int) + ((part18).length : Int) ≤ 9223372036854775807) (K [(1, .int .i64 run1), (5, .pointer d5), (9, str all9), (15, .int .i64 i15), (16, str b16), (19, str (((y1_ ++ y2_) ++ part18)))]))))) := by kernel_rfl
@[go_sem] theorem c3_r30 (run1 : Int) (d5 : Option Addr) (all9 : List UInt8) (i15 : Int) (b16 : List UInt8) (want19 : List UInt8) (K : Env → W) : RP c3 30 [(1, .int .i64 run1), (5, .pointer d5), (9, str all9), (15, .int .i64 i15), (16, str b16), (19, str want19)] K =
    (rq (0 ≤ (0 : Int) ∧ 0 ≤ ((want19).length : Int) ∧ ((want19).length : Int) ≤ ((b16).length : Int)) (K [(1, .int .i64 run1), (5, .pointer d5), (9, str all9), (15, .int .i64 i15), (146, .bool ((!((ss b16 0 (((want19).length : Int))) == want19))))])) := by kernel_rfl
@[go_sem] theorem c3_r31 (K : Env → W) : RP c3 31 [] K =
    (K [(4, .bool false)]) := by kernel_rfl
@[go_sem] theorem c3_r32 (K : Env → W) : RP c3 32 [] K =
    (cal eB Tryz.prog 15 #[] fun (y1_ : Bool) => (K [(4, .bool y1_)])) := by kernel_rfl
@[go_sem] theorem c3_o : c3.lo 1000000 = [4] := rfl
@[go_sem] theorem c3_e (t4 : Bool) (k : Value → W) : RTp c3 [(4, .bool t4)] k = (k (.bool t4)) := by kernel_rfl
theorem c3_ok : (c3.P.follows .mixedOrders && okc c3 c3.body) = true := by kernel_rfl
theorem c3_fn {e : Enc} {args : Array Value} {G : e.α → W} {L : List HP} {ρ : Env} (hρ : envA 0 args.toList = ρ) (hs : Nat.ble args.size 148 = true) (h : E L (D c3 (.seq (.reg 0) (.seq (.seq (.reg 1) (.cond (.tmp 25) (.seq (.reg 2) (.ret)) (.skip))) (.seq (.reg 3) (.seq (.seq (.reg 4) (.cond (.tmp 36) (.seq (.reg 5) (.ret)) (.skip))) (.seq (.reg 6) (.seq (.seq (.reg 7) (.cond (.tmp 48) (.seq (.reg 8) (.ret)) (.skip))) (.seq (.reg 9) (.seq (.seq (.reg 10) (.block 0 (.loop (.seq (.seq (.reg 11) (.cond (.tmp 56) (.skip) (.exit 0))) (.seq (.block 1 (.seq (.reg 13) (.seq (.reg 14) (.seq (.reg 15) (.cond (.tmp 83) (.reg 16) (.skip)))))) (.reg 12)))))) (.seq (.seq (.reg 17) (.cond (.tmp 89) (.seq (.reg 18) (.ret)) (.skip))) (.seq (.seq (.reg 19) (.block 2 (.loop (.seq (.seq (.reg 20) (.cond (.tmp 91) (.skip) (.exit 2))) (.seq (.block 3 (.seq (.reg 22) (.seq (.seq (.reg 23) (.cond (.tmp 107) (.seq (.reg 24) (.ret)) (.skip))) (.seq (.seq (.reg 25) (.cond (.tmp 123) (.exit 3) (.skip))) (.seq (.reg 26) (.seq (.seq (.reg 27) (.cond (.tmp 130) (.reg 28) (.skip))) (.seq (.reg 29) (.seq (.reg 30) (.cond (.tmp 146) (.seq (.reg 31) (.ret)) (.skip)))))))))) (.reg 21)))))) (.seq (.reg 32) (.ret)))))))))))) (fnQ c3 e G) ρ)) : E L (cal e Tryz.prog 3 args G) :=
  d_fn (c := c3) Tryz.func3 (by kernel_rfl) (by kernel_rfl) (by kernel_rfl) c3_ok (by kernel_rfl) (by kernel_rfl) hρ hs h
-- loop (first region 20): live slots 1:run1 5:d5 9:all9 15:i15, of which it writes [15]
-- loop (first region 11): live slots 0:l0 1:run1 5:d5 7:w7 9:all9 10:i10, of which it writes [9, 10]
end Go.Sp
/- The log's layer: the law WalSectors. -/
namespace Go.Sp
open Go Go.Proofs
set_option linter.unusedSimpArgs false
set_option linter.unusedVariables false
set_option maxRecDepth 10000
theorem secb_len (r : Nat) (p : List UInt8) : (secb r p).length = 6 + p.length := by
  unfold secb
  simp only [List.length_append, lowb_len]
theorem ss_wh (r : Nat) (p : List UInt8) : ss (wh (secb r p)) 0 ((secb r p).length : Int) = secb r p := by
  unfold ss wh
  rw [Int.toNat_natCast, List.take_left' rfl]
  rfl
theorem ss_from (s : List UInt8) (a : Nat) : ss s (a : Int) (s.length : Int) = s.drop a := by
  unfold ss
  rw [Int.toNat_natCast, Int.toNat_natCast, List.take_length]
set_option maxHeartbeats 2000000 in
theorem g3 (A : HP) (s : SlV) (rs : List api_Rec) (run : Int) (hR : Rs A s 13 (rs.flatMap rcl)) (hok : ∀ x ∈ rs, RcOk A x) : Fp eB Tryz.prog 3 #[.slice s.1 s.2.1 s.2.2, .int .i64 run] [A] true := fun L => by
  obtain ⟨p, n, c⟩ := s
  obtain rfl : n = rs.length := hR.len rcl_len (by decide)
  refine c3_fn rfl rfl ?_
  by_cases hr : run < 1 ∨ 4294967295 < run
  · repeat' ((fail_if_success with_reducible refine nph ?_); first | (with_reducible first | (refine d_seq ?_; intro K hK) | (refine hK _ _ ?_; clear hK K) | refine d_blk ?_ | refine d_rt0 ?_ | refine d_sk0 ?_ | refine d_ex0 ?_ | (refine r_nwc ?_; intro b)) | (first | ((with_reducible refine d_cnd ?_); refine And.intro ?_ ?_) | with_reducible refine r_cnd ?_ ?_) <;> intro hc <;> try simp only [push_cast, Int.reduceEq, Int.reduceLT, Int.reduceLE, Int.reduceNe] at hc | with_reducible refine r_rq (by first | decide | omega) ?_ | ((with_reducible first | apply i_lds | apply i_ldsq | apply i_ld | apply i_ldq); exact rfl) | ((with_reducible first | apply i_ldn | apply i_ldnq); exact rfl; exact rfl; exact rfl) | (with_reducible first | refine r_ph0 ?_ | apply i_kp0) | ((with_reducible first | apply i_st | apply i_stl); (focus simp); exact rfl) | ((try with_reducible refine d_reg ?_); simp only [go_sem, Nat.reduceAdd, Nat.reduceEqDiff, Int.reduceToNat, Nat.reduceMul, Nat.reduceSub]) | clear hK K)
    all_goals try (exfalso; omega)
    all_goals try contradiction
    all_goals refine i_clp g15 ?_
    all_goals repeat' ((fail_if_success with_reducible refine nph ?_); first | (with_reducible first | (refine d_seq ?_; intro K hK) | (refine hK _ _ ?_; clear hK K) | refine d_blk ?_ | refine d_rt0 ?_ | refine d_sk0 ?_ | refine d_ex0 ?_ | (refine r_nwc ?_; intro b)) | (first | ((with_reducible refine d_cnd ?_); refine And.intro ?_ ?_) | with_reducible refine r_cnd ?_ ?_) <;> intro hc <;> try simp only [push_cast, Int.reduceEq, Int.reduceLT, Int.reduceLE, Int.reduceNe] at hc | with_reducible refine r_rq (by first | decide | omega) ?_ | ((with_reducible first | apply i_lds | apply i_ldsq | apply i_ld | apply i_ldq); exact rfl) | ((with_reducible first | apply i_ldn | apply i_ldnq); exact rfl; exact rfl; exact rfl) | (with_reducible first | refine r_ph0 ?_ | apply i_kp0) | ((with_reducible first | apply i_st | apply i_stl); (focus simp); exact rfl) | ((try with_reducible refine d_reg ?_); simp only [go_sem, Nat.reduceAdd, Nat.reduceEqDiff, Int.reduceToNat, Nat.reduceMul, Nat.reduceSub]) | clear hK K)
    all_goals ((with_reducible first | apply i_ret0 | apply i_ret2 | apply i_ret3 | apply i_ret); exact rfl; rfl)
  obtain ⟨r, rfl⟩ : ∃ r : Nat, run = (r : Int) := ⟨run.toNat, by omega⟩
  repeat' ((fail_if_success with_reducible refine nph ?_); first | (with_reducible first | (refine d_seq ?_; intro K hK) | (refine hK _ _ ?_; clear hK K) | refine d_blk ?_ | refine d_rt0 ?_ | refine d_sk0 ?_ | refine d_ex0 ?_ | (refine r_nwc ?_; intro b)) | (first | ((with_reducible refine d_cnd ?_); refine And.intro ?_ ?_) | with_reducible refine r_cnd ?_ ?_) <;> intro hc <;> try simp only [push_cast, Int.reduceEq, Int.reduceLT, Int.reduceLE, Int.reduceNe] at hc | with_reducible refine r_rq (by first | decide | omega) ?_ | ((with_reducible first | apply i_lds | apply i_ldsq | apply i_ld | apply i_ldq); exact rfl) | ((with_reducible first | apply i_ldn | apply i_ldnq); exact rfl; exact rfl; exact rfl) | (with_reducible first | refine r_ph0 ?_ | apply i_kp0) | ((with_reducible first | apply i_st | apply i_stl); (focus simp); exact rfl) | ((try with_reducible refine d_reg ?_); simp only [go_sem, Nat.reduceAdd, Nat.reduceEqDiff, Int.reduceToNat, Nat.reduceMul, Nat.reduceSub]) | clear hK K)
  all_goals try (exfalso; omega)
  all_goals try contradiction
  refine i_cal (F25 31 (by decide) (by decide)) ?_
  rintro y X ⟨sb, bb, mb, rfl, rfl⟩
  have hc0 : (Dk.new sb bb mb 31).calm sb 31 := Dk.calm.new (by decide) (by decide)
  have hz : ∀ m, m < 30 → at4 ((Dk.new sb bb mb 31).get ((1 + m : Nat) : Int)) = 0 := fun m hm => by rw [new_get (by omega)]; exact at4_nil
  generalize Dk.new sb bb mb 31 = Z at *
  repeat' ((fail_if_success with_reducible refine nph ?_); first | (with_reducible first | (refine d_seq ?_; intro K hK) | (refine hK _ _ ?_; clear hK K) | refine d_blk ?_ | refine d_rt0 ?_ | refine d_sk0 ?_ | refine d_ex0 ?_ | (refine r_nwc ?_; intro b)) | (first | ((with_reducible refine d_cnd ?_); refine And.intro ?_ ?_) | with_reducible refine r_cnd ?_ ?_) <;> intro hc <;> try simp only [push_cast, Int.reduceEq, Int.reduceLT, Int.reduceLE, Int.reduceNe] at hc | with_reducible refine r_rq (by first | decide | omega) ?_ | ((with_reducible first | apply i_lds | apply i_ldsq | apply i_ld | apply i_ldq); exact rfl) | ((with_reducible first | apply i_ldn | apply i_ldnq); exact rfl; exact rfl; exact rfl) | (with_reducible first | refine r_ph0 ?_ | apply i_kp0) | ((with_reducible first | apply i_st | apply i_stl); (focus simp); exact rfl) | ((try with_reducible refine d_reg ?_); simp only [go_sem, Nat.reduceAdd, Nat.reduceEqDiff, Int.reduceToNat, Nat.reduceMul, Nat.reduceSub]) | clear hK K)
  all_goals try contradiction
  refine i_cal (wopen0g hc0 hz (by decide) (by decide) (by decide) (by omega : 1 ≤ r) (by omega)) ?_
  rintro y X ⟨q, Y, ρ, rfl, rfl, hW, hE, hG⟩
  have hg1 := hG 1 (by decide)
  rw [if_pos rfl] at hg1
  clear hG
  repeat' ((fail_if_success with_reducible refine nph ?_); first | (with_reducible first | (refine d_seq ?_; intro K hK) | (refine hK _ _ ?_; clear hK K) | refine d_blk ?_ | refine d_rt0 ?_ | refine d_sk0 ?_ | refine d_ex0 ?_ | (refine r_nwc ?_; intro b)) | (first | ((with_reducible refine d_cnd ?_); refine And.intro ?_ ?_) | with_reducible refine r_cnd ?_ ?_) <;> intro hc <;> try simp only [push_cast, Int.reduceEq, Int.reduceLT, Int.reduceLE, Int.reduceNe] at hc | with_reducible refine r_rq (by first | decide | omega) ?_ | ((with_reducible first | apply i_lds | apply i_ldsq | apply i_ld | apply i_ldq); exact rfl) | ((with_reducible first | apply i_ldn | apply i_ldnq); exact rfl; exact rfl; exact rfl) | (with_reducible first | refine r_ph0 ?_ | apply i_kp0) | ((with_reducible first | apply i_st | apply i_stl); (focus simp); exact rfl) | ((try with_reducible refine d_reg ?_); simp only [go_sem, Nat.reduceAdd, Nat.reduceEqDiff, Int.reduceToNat, Nat.reduceMul, Nat.reduceSub]) | clear hK K)
  all_goals try contradiction
  refine d_lp [0, 1, 5, 7, 9, 10] (fun t : Nat × List UInt8 => [(0, .slice p rs.length c), (1, .int .i64 (r : Int)), (5, .pointer (some ⟨sb, 0, none⟩)), (7, .pointer (some ⟨q, 0, none⟩)), (9, str t.2), (10, .int .i64 (t.1 : Int))])
    (fun t => lgp ⟨q, 1, 30, r, t.2, 0, false⟩ sb :: dk Y :: A :: L) (fun t => t.1 ≤ 20 ∧ Wi Y sb 31 ⟨q, 1, 30, r, t.2, 0, false⟩ ρ) (fun t => 20 - t.1) (0, []) rfl SX.p ⟨by dsimp only; omega, hW⟩ ?_
  rintro ⟨i, all⟩ ⟨i1, hWi⟩
  dsimp only at i1 hWi ⊢
  have hle := hWi.ok.le
  dsimp only at hle
  by_cases hi : i < rs.length ∧ i < 20
  · have hx : rs[i]? = some rs[i] := List.getElem?_eq_getElem hi.1
    have hxo := hok rs[i] (List.getElem_mem hi.1)
    generalize rs[i] = x at *
    obtain ⟨a, rfl⟩ := hR.ptr (by omega)
    obtain ⟨cc, hcc⟩ := few_ok hxo
    have FF := few_fn hxo
    have FR := g18 A (fewr x) cc hcc
    have AP := wappend hWi A (fewr x) cc hcc
    have WA := hWi.app cc
    have hfl := frame_le cc
    rw [append_is rfl] at AP WA
    dsimp only at AP WA
    generalize cc.frame = fr at *
    obtain ⟨f, e⟩ := fr
    dsimp only at AP WA hfl
    by_cases e0 : e = 0
    · subst e0
      rw [if_pos rfl] at AP WA
      by_cases hf : all.length + f.length ≤ 58 * 30
      · rw [if_pos hf] at AP WA
        dsimp only at AP WA
        repeat' ((fail_if_success with_reducible refine nph ?_); first | (with_reducible first | (refine d_seq ?_; intro K hK) | (refine hK _ _ ?_; clear hK K) | refine d_blk ?_ | refine d_rt0 ?_ | refine d_sk0 ?_ | refine d_ex0 ?_ | (refine r_nwc ?_; intro b)) | (first | ((with_reducible refine d_cnd ?_); refine And.intro ?_ ?_) | with_reducible refine r_cnd ?_ ?_) <;> intro hc <;> try simp only [push_cast, Int.reduceEq, Int.reduceLT, Int.reduceLE, Int.reduceNe] at hc | with_reducible refine r_rq (by first | decide | omega) ?_ | ((with_reducible first | apply i_lds | apply i_ldsq | apply i_ld | apply i_ldq); exact rfl) | ((with_reducible first | apply i_ldn | apply i_ldnq); exact rfl; exact rfl; exact rfl) | (with_reducible first | refine r_ph0 ?_ | apply i_kp0) | ((with_reducible first | apply i_st | apply i_stl); (focus simp); exact rfl) | ((try with_reducible refine d_reg ?_); simp only [go_sem, Nat.reduceAdd, Nat.reduceEqDiff, Int.reduceToNat, Nat.reduceMul, Nat.reduceSub]) | clear hK K)
        all_goals try (exfalso; omega)
        refine i_sn hR rcl_len hx rfl ?_
        refine i_clp FF ?_
        refine i_clp FR ?_
        repeat' ((fail_if_success with_reducible refine nph ?_); first | (with_reducible first | (refine d_seq ?_; intro K hK) | (refine hK _ _ ?_; clear hK K) | refine d_blk ?_ | refine d_rt0 ?_ | refine d_sk0 ?_ | refine d_ex0 ?_ | (refine r_nwc ?_; intro b)) | (first | ((with_reducible refine d_cnd ?_); refine And.intro ?_ ?_) | with_reducible refine r_cnd ?_ ?_) <;> intro hc <;> try simp only [push_cast, Int.reduceEq, Int.reduceLT, Int.reduceLE, Int.reduceNe] at hc | with_reducible refine r_rq (by first | decide | omega) ?_ | ((with_reducible first | apply i_lds | apply i_ldsq | apply i_ld | apply i_ldq); exact rfl) | ((with_reducible first | apply i_ldn | apply i_ldnq); exact rfl; exact rfl; exact rfl) | (with_reducible first | refine r_ph0 ?_ | apply i_kp0) | ((with_reducible first | apply i_st | apply i_stl); (focus simp); exact rfl) | ((try with_reducible refine d_reg ?_); simp only [go_sem, Nat.reduceAdd, Nat.reduceEqDiff, Int.reduceToNat, Nat.reduceMul, Nat.reduceSub]) | clear hK K)
        refine i_sn hR rcl_len hx rfl ?_
        refine i_clp FF ?_
        refine i_clq AP ?_
        repeat' ((fail_if_success with_reducible refine nph ?_); first | (with_reducible first | (refine d_seq ?_; intro K hK) | (refine hK _ _ ?_; clear hK K) | refine d_blk ?_ | refine d_rt0 ?_ | refine d_sk0 ?_ | refine d_ex0 ?_ | (refine r_nwc ?_; intro b)) | (first | ((with_reducible refine d_cnd ?_); refine And.intro ?_ ?_) | with_reducible refine r_cnd ?_ ?_) <;> intro hc <;> try simp only [push_cast, Int.reduceEq, Int.reduceLT, Int.reduceLE, Int.reduceNe] at hc | with_reducible refine r_rq (by first | decide | omega) ?_ | ((with_reducible first | apply i_lds | apply i_ldsq | apply i_ld | apply i_ldq); exact rfl) | ((with_reducible first | apply i_ldn | apply i_ldnq); exact rfl; exact rfl; exact rfl) | (with_reducible first | refine r_ph0 ?_ | apply i_kp0) | ((with_reducible first | apply i_st | apply i_stl); (focus simp); exact rfl) | ((try with_reducible refine d_reg ?_); simp only [go_sem, Nat.reduceAdd, Nat.reduceEqDiff, Int.reduceToNat, Nat.reduceMul, Nat.reduceSub]) | clear hK K)
        all_goals try contradiction
        rw [w64 (by omega) (by omega)]
        exact i_bk (i + 1, all ++ f) rfl ⟨by dsimp only; omega, WA⟩ (by dsimp only; omega)
      · rw [if_neg hf] at AP WA
        dsimp only at AP WA
        repeat' ((fail_if_success with_reducible refine nph ?_); first | (with_reducible first | (refine d_seq ?_; intro K hK) | (refine hK _ _ ?_; clear hK K) | refine d_blk ?_ | refine d_rt0 ?_ | refine d_sk0 ?_ | refine d_ex0 ?_ | (refine r_nwc ?_; intro b)) | (first | ((with_reducible refine d_cnd ?_); refine And.intro ?_ ?_) | with_reducible refine r_cnd ?_ ?_) <;> intro hc <;> try simp only [push_cast, Int.reduceEq, Int.reduceLT, Int.reduceLE, Int.reduceNe] at hc | with_reducible refine r_rq (by first | decide | omega) ?_ | ((with_reducible first | apply i_lds | apply i_ldsq | apply i_ld | apply i_ldq); exact rfl) | ((with_reducible first | apply i_ldn | apply i_ldnq); exact rfl; exact rfl; exact rfl) | (with_reducible first | refine r_ph0 ?_ | apply i_kp0) | ((with_reducible first | apply i_st | apply i_stl); (focus simp); exact rfl) | ((try with_reducible refine d_reg ?_); simp only [go_sem, Nat.reduceAdd, Nat.reduceEqDiff, Int.reduceToNat, Nat.reduceMul, Nat.reduceSub]) | clear hK K)
        all_goals try (exfalso; omega)
        refine i_sn hR rcl_len hx rfl ?_
        refine i_clp FF ?_
        refine i_clp FR ?_
        repeat' ((fail_if_success with_reducible refine nph ?_); first | (with_reducible first | (refine d_seq ?_; intro K hK) | (refine hK _ _ ?_; clear hK K) | refine d_blk ?_ | refine d_rt0 ?_ | refine d_sk0 ?_ | refine d_ex0 ?_ | (refine r_nwc ?_; intro b)) | (first | ((with_reducible refine d_cnd ?_); refine And.intro ?_ ?_) | with_reducible refine r_cnd ?_ ?_) <;> intro hc <;> try simp only [push_cast, Int.reduceEq, Int.reduceLT, Int.reduceLE, Int.reduceNe] at hc | with_reducible refine r_rq (by first | decide | omega) ?_ | ((with_reducible first | apply i_lds | apply i_ldsq | apply i_ld | apply i_ldq); exact rfl) | ((with_reducible first | apply i_ldn | apply i_ldnq); exact rfl; exact rfl; exact rfl) | (with_reducible first | refine r_ph0 ?_ | apply i_kp0) | ((with_reducible first | apply i_st | apply i_stl); (focus simp); exact rfl) | ((try with_reducible refine d_reg ?_); simp only [go_sem, Nat.reduceAdd, Nat.reduceEqDiff, Int.reduceToNat, Nat.reduceMul, Nat.reduceSub]) | clear hK K)
        refine i_sn hR rcl_len hx rfl ?_
        refine i_clp FF ?_
        refine i_clq AP ?_
        repeat' ((fail_if_success with_reducible refine nph ?_); first | (with_reducible first | (refine d_seq ?_; intro K hK) | (refine hK _ _ ?_; clear hK K) | refine d_blk ?_ | refine d_rt0 ?_ | refine d_sk0 ?_ | refine d_ex0 ?_ | (refine r_nwc ?_; intro b)) | (first | ((with_reducible refine d_cnd ?_); refine And.intro ?_ ?_) | with_reducible refine r_cnd ?_ ?_) <;> intro hc <;> try simp only [push_cast, Int.reduceEq, Int.reduceLT, Int.reduceLE, Int.reduceNe] at hc | with_reducible refine r_rq (by first | decide | omega) ?_ | ((with_reducible first | apply i_lds | apply i_ldsq | apply i_ld | apply i_ldq); exact rfl) | ((with_reducible first | apply i_ldn | apply i_ldnq); exact rfl; exact rfl; exact rfl) | (with_reducible first | refine r_ph0 ?_ | apply i_kp0) | ((with_reducible first | apply i_st | apply i_stl); (focus simp); exact rfl) | ((try with_reducible refine d_reg ?_); simp only [go_sem, Nat.reduceAdd, Nat.reduceEqDiff, Int.reduceToNat, Nat.reduceMul, Nat.reduceSub]) | clear hK K)
        all_goals try contradiction
        rw [w64 (by omega) (by omega)]
        exact i_bk (i + 1, all) rfl ⟨by dsimp only; omega, WA⟩ (by dsimp only; omega)
    · rw [if_neg e0] at AP WA
      dsimp only at AP WA
      repeat' ((fail_if_success with_reducible refine nph ?_); first | (with_reducible first | (refine d_seq ?_; intro K hK) | (refine hK _ _ ?_; clear hK K) | refine d_blk ?_ | refine d_rt0 ?_ | refine d_sk0 ?_ | refine d_ex0 ?_ | (refine r_nwc ?_; intro b)) | (first | ((with_reducible refine d_cnd ?_); refine And.intro ?_ ?_) | with_reducible refine r_cnd ?_ ?_) <;> intro hc <;> try simp only [push_cast, Int.reduceEq, Int.reduceLT, Int.reduceLE, Int.reduceNe] at hc | with_reducible refine r_rq (by first | decide | omega) ?_ | ((with_reducible first | apply i_lds | apply i_ldsq | apply i_ld | apply i_ldq); exact rfl) | ((with_reducible first | apply i_ldn | apply i_ldnq); exact rfl; exact rfl; exact rfl) | (with_reducible first | refine r_ph0 ?_ | apply i_kp0) | ((with_reducible first | apply i_st | apply i_stl); (focus simp); exact rfl) | ((try with_reducible refine d_reg ?_); simp only [go_sem, Nat.reduceAdd, Nat.reduceEqDiff, Int.reduceToNat, Nat.reduceMul, Nat.reduceSub]) | clear hK K)
      all_goals try (exfalso; omega)
      refine i_sn hR rcl_len hx rfl ?_
      refine i_clp FF ?_
      refine i_clp FR ?_
      repeat' ((fail_if_success with_reducible refine nph ?_); first | (with_reducible first | (refine d_seq ?_; intro K hK) | (refine hK _ _ ?_; clear hK K) | refine d_blk ?_ | refine d_rt0 ?_ | refine d_sk0 ?_ | refine d_ex0 ?_ | (refine r_nwc ?_; intro b)) | (first | ((with_reducible refine d_cnd ?_); refine And.intro ?_ ?_) | with_reducible refine r_cnd ?_ ?_) <;> intro hc <;> try simp only [push_cast, Int.reduceEq, Int.reduceLT, Int.reduceLE, Int.reduceNe] at hc | with_reducible refine r_rq (by first | decide | omega) ?_ | ((with_reducible first | apply i_lds | apply i_ldsq | apply i_ld | apply i_ldq); exact rfl) | ((with_reducible first | apply i_ldn | apply i_ldnq); exact rfl; exact rfl; exact rfl) | (with_reducible first | refine r_ph0 ?_ | apply i_kp0) | ((with_reducible first | apply i_st | apply i_stl); (focus simp); exact rfl) | ((try with_reducible refine d_reg ?_); simp only [go_sem, Nat.reduceAdd, Nat.reduceEqDiff, Int.reduceToNat, Nat.reduceMul, Nat.reduceSub]) | clear hK K)
      refine i_sn hR rcl_len hx rfl ?_
      refine i_clp FF ?_
      refine i_clq AP ?_
      repeat' ((fail_if_success with_reducible refine nph ?_); first | (with_reducible first | (refine d_seq ?_; intro K hK) | (refine hK _ _ ?_; clear hK K) | refine d_blk ?_ | refine d_rt0 ?_ | refine d_sk0 ?_ | refine d_ex0 ?_ | (refine r_nwc ?_; intro b)) | (first | ((with_reducible refine d_cnd ?_); refine And.intro ?_ ?_) | with_reducible refine r_cnd ?_ ?_) <;> intro hc <;> try simp only [push_cast, Int.reduceEq, Int.reduceLT, Int.reduceLE, Int.reduceNe] at hc | with_reducible refine r_rq (by first | decide | omega) ?_ | ((with_reducible first | apply i_lds | apply i_ldsq | apply i_ld | apply i_ldq); exact rfl) | ((with_reducible first | apply i_ldn | apply i_ldnq); exact rfl; exact rfl; exact rfl) | (with_reducible first | refine r_ph0 ?_ | apply i_kp0) | ((with_reducible first | apply i_st | apply i_stl); (focus simp); exact rfl) | ((try with_reducible refine d_reg ?_); simp only [go_sem, Nat.reduceAdd, Nat.reduceEqDiff, Int.reduceToNat, Nat.reduceMul, Nat.reduceSub]) | clear hK K)
      all_goals try (exfalso; exact e0 (by assumption))
      all_goals try contradiction
      all_goals rw [w64 (by omega) (by omega)]
      all_goals exact i_bk (i + 1, all) rfl ⟨by dsimp only; omega, WA⟩ (by dsimp only; omega)
  · obtain ⟨V, ρ', FL, WV, _, hV⟩ := wflushg hWi
    dsimp only at FL WV hV
    have key : ∀ j, j < 30 → ¬ (all.length < 58 * j ∨ (58 * j = all.length ∧ 0 < j)) → V.get ((1 + j : Nat) : Int) = wh (secb r (part all j)) := fun j hj hn => by
      rw [hV (1 + j) (by omega)]
      by_cases h0 : all.length = 0
      · obtain rfl : j = 0 := by omega
        obtain rfl : all = [] := List.length_eq_zero_iff.1 h0
        rw [if_neg (by simp)]
        exact hg1
      · rw [if_pos ⟨by omega, by omega, by omega⟩]
        rw [show 1 + j - 1 = j by omega]
        rfl
    repeat' ((fail_if_success with_reducible refine nph ?_); first | (with_reducible first | (refine d_seq ?_; intro K hK) | (refine hK _ _ ?_; clear hK K) | refine d_blk ?_ | refine d_rt0 ?_ | refine d_sk0 ?_ | refine d_ex0 ?_ | (refine r_nwc ?_; intro b)) | (first | ((with_reducible refine d_cnd ?_); refine And.intro ?_ ?_) | with_reducible refine r_cnd ?_ ?_) <;> intro hc <;> try simp only [push_cast, Int.reduceEq, Int.reduceLT, Int.reduceLE, Int.reduceNe] at hc | with_reducible refine r_rq (by first | decide | omega) ?_ | ((with_reducible first | apply i_lds | apply i_ldsq | apply i_ld | apply i_ldq); exact rfl) | ((with_reducible first | apply i_ldn | apply i_ldnq); exact rfl; exact rfl; exact rfl) | (with_reducible first | refine r_ph0 ?_ | apply i_kp0) | ((with_reducible first | apply i_st | apply i_stl); (focus simp); exact rfl) | ((try with_reducible refine d_reg ?_); simp only [go_sem, Nat.reduceAdd, Nat.reduceEqDiff, Int.reduceToNat, Nat.reduceMul, Nat.reduceSub]) | clear hK K)
    all_goals try (exfalso; omega)
    all_goals
      refine i_clq FL ?_
      repeat' ((fail_if_success with_reducible refine nph ?_); first | (with_reducible first | (refine d_seq ?_; intro K hK) | (refine hK _ _ ?_; clear hK K) | refine d_blk ?_ | refine d_rt0 ?_ | refine d_sk0 ?_ | refine d_ex0 ?_ | (refine r_nwc ?_; intro b)) | (first | ((with_reducible refine d_cnd ?_); refine And.intro ?_ ?_) | with_reducible refine r_cnd ?_ ?_) <;> intro hc <;> try simp only [push_cast, Int.reduceEq, Int.reduceLT, Int.reduceLE, Int.reduceNe] at hc | with_reducible refine r_rq (by first | decide | omega) ?_ | ((with_reducible first | apply i_lds | apply i_ldsq | apply i_ld | apply i_ldq); exact rfl) | ((with_reducible first | apply i_ldn | apply i_ldnq); exact rfl; exact rfl; exact rfl) | (with_reducible first | refine r_ph0 ?_ | apply i_kp0) | ((with_reducible first | apply i_st | apply i_stl); (focus simp); exact rfl) | ((try with_reducible refine d_reg ?_); simp only [go_sem, Nat.reduceAdd, Nat.reduceEqDiff, Int.reduceToNat, Nat.reduceMul, Nat.reduceSub]) | clear hK K)
      all_goals try (first | contradiction | (simp only [ reduceCtorEq] at *; done) | (exfalso; omega))
      refine d_lp [1, 5, 9, 15] (fun j : Nat => [(1, .int .i64 (r : Int)), (5, .pointer (some ⟨sb, 0, none⟩)), (9, str all), (15, .int .i64 (j : Int))])
        (fun _ => lgp ⟨q, 1, 30, r, all, all.length, false⟩ sb :: dk V :: A :: L) (fun j => j ≤ 30) (fun j => 30 - j) 0 rfl SX.p (by omega) ?_
      intro j hj
      by_cases hj30 : j < 30
      · have CR := calm_r WV.calm (i := 1 + j) (by omega)
        have gl := get_len WV.calm.ok (1 + j)
        have ew : IntKind.wrap .i64 (1 + (j : Int)) = ((1 + j : Nat) : Int) := by rw [w64 (by omega) (by omega)]; omega
        have e58 : IntKind.wrap .i64 (58 * (j : Int)) = 58 * (j : Int) := w64 (by omega) (by omega)
        have key := key j hj30
        generalize V.get ((1 + j : Nat) : Int) = gv at *
        repeat' (first | rw [ew] | rw [e58] | (fail_if_success with_reducible refine nph ?_); first | (with_reducible first | (refine d_seq ?_; intro K hK) | (refine hK _ _ ?_; clear hK K) | refine d_blk ?_ | refine d_rt0 ?_ | refine d_sk0 ?_ | refine d_ex0 ?_ | (refine r_nwc ?_; intro b)) | (first | ((with_reducible refine d_cnd ?_); refine And.intro ?_ ?_) | with_reducible refine r_cnd ?_ ?_) <;> intro hc <;> try simp only [push_cast, Int.reduceEq, Int.reduceLT, Int.reduceLE, Int.reduceNe] at hc | with_reducible refine r_rq (by first | decide | omega) ?_ | ((with_reducible first | apply i_lds | apply i_ldsq | apply i_ld | apply i_ldq); exact rfl) | ((with_reducible first | apply i_ldn | apply i_ldnq); exact rfl; exact rfl; exact rfl) | (with_reducible first | refine r_ph0 ?_ | apply i_kp0) | ((with_reducible first | apply i_st | apply i_stl); (focus simp); exact rfl) | ((try with_reducible refine d_reg ?_); simp only [go_sem, Nat.reduceAdd, Nat.reduceEqDiff, Int.reduceToNat, Nat.reduceMul, Nat.reduceSub]) | clear hK K)
        all_goals try (exfalso; omega)
        refine i_clp CR ?_
        by_cases hq : all.length < 58 * j ∨ (58 * j = all.length ∧ 0 < j)
        · repeat' (first | rw [e58] | (fail_if_success with_reducible refine nph ?_); first | (with_reducible first | (refine d_seq ?_; intro K hK) | (refine hK _ _ ?_; clear hK K) | refine d_blk ?_ | refine d_rt0 ?_ | refine d_sk0 ?_ | refine d_ex0 ?_ | (refine r_nwc ?_; intro b)) | (first | ((with_reducible refine d_cnd ?_); refine And.intro ?_ ?_) | with_reducible refine r_cnd ?_ ?_) <;> intro hc <;> try simp only [push_cast, Int.reduceEq, Int.reduceLT, Int.reduceLE, Int.reduceNe] at hc | with_reducible refine r_rq (by first | decide | omega) ?_ | ((with_reducible first | apply i_lds | apply i_ldsq | apply i_ld | apply i_ldq); exact rfl) | ((with_reducible first | apply i_ldn | apply i_ldnq); exact rfl; exact rfl; exact rfl) | (with_reducible first | refine r_ph0 ?_ | apply i_kp0) | ((with_reducible first | apply i_st | apply i_stl); (focus simp); exact rfl) | ((try with_reducible refine d_reg ?_); simp only [go_sem, Nat.reduceAdd, Nat.reduceEqDiff, Int.reduceToNat, Nat.reduceMul, Nat.reduceSub]) | clear hK K)
          all_goals try (exfalso; omega)
          all_goals rw [w64 (by omega) (by omega)]
          all_goals exact i_bk (j + 1) rfl (by omega) (by omega)
        · have key := key hq
          subst key
          have e1 : ss all (58 * (j : Int)) (all.length : Int) = all.drop (58 * j) := ss_from all (58 * j)
          have pl : (part all j).length = min 58 (all.length - 58 * j) := part_len all j
          have ep : ((all.drop (58 * j)).length ≤ 58 → all.drop (58 * j) = part all j) := fun h => by unfold part; rw [List.take_of_length_le h]
          have ep2 : ss (all.drop (58 * j)) 0 58 = part all j := rfl
          have dl : (all.drop (58 * j)).length = all.length - 58 * j := List.length_drop
          have N1 := g23 (r : Int) 4 (by decide) (by omega) (by omega)
          have N2 := g23 ((part all j).length : Int) 2 (by decide) (by omega) (by omega)
          have l4 := lowb_len (r : Int) 4
          have l2 := lowb_len ((part all j).length : Int) 2
          have sl := secb_len r (part all j)
          have sw : ss (wh (secb r (part all j))) 0 ((lowb (r : Int) 4 ++ lowb ((part all j).length : Int) 2 ++ part all j).length : Int) = lowb (r : Int) 4 ++ lowb ((part all j).length : Int) 2 ++ part all j := ss_wh r (part all j)
          unfold secb at sl
          repeat' (first | rw [e58] | rw [e1] | (fail_if_success with_reducible refine nph ?_); first | (with_reducible first | (refine d_seq ?_; intro K hK) | (refine hK _ _ ?_; clear hK K) | refine d_blk ?_ | refine d_rt0 ?_ | refine d_sk0 ?_ | refine d_ex0 ?_ | (refine r_nwc ?_; intro b)) | (first | ((with_reducible refine d_cnd ?_); refine And.intro ?_ ?_) | with_reducible refine r_cnd ?_ ?_) <;> intro hc <;> try simp only [push_cast, Int.reduceEq, Int.reduceLT, Int.reduceLE, Int.reduceNe] at hc | with_reducible refine r_rq (by first | decide | omega) ?_ | ((with_reducible first | apply i_lds | apply i_ldsq | apply i_ld | apply i_ldq); exact rfl) | ((with_reducible first | apply i_ldn | apply i_ldnq); exact rfl; exact rfl; exact rfl) | (with_reducible first | refine r_ph0 ?_ | apply i_kp0) | ((with_reducible first | apply i_st | apply i_stl); (focus simp); exact rfl) | ((try with_reducible refine d_reg ?_); simp only [go_sem, Nat.reduceAdd, Nat.reduceEqDiff, Int.reduceToNat, Nat.reduceMul, Nat.reduceSub]) | clear hK K)
          all_goals try (exfalso; omega)
          all_goals first | rw [ep2] | rw [ep (by omega)]
          all_goals
            refine i_clp N1 ?_
            refine i_clp N2 ?_
            repeat' ((fail_if_success with_reducible refine nph ?_); first | (with_reducible first | (refine d_seq ?_; intro K hK) | (refine hK _ _ ?_; clear hK K) | refine d_blk ?_ | refine d_rt0 ?_ | refine d_sk0 ?_ | refine d_ex0 ?_ | (refine r_nwc ?_; intro b)) | (first | ((with_reducible refine d_cnd ?_); refine And.intro ?_ ?_) | with_reducible refine r_cnd ?_ ?_) <;> intro hc <;> try simp only [push_cast, Int.reduceEq, Int.reduceLT, Int.reduceLE, Int.reduceNe] at hc | with_reducible refine r_rq (by first | decide | omega) ?_ | ((with_reducible first | apply i_lds | apply i_ldsq | apply i_ld | apply i_ldq); exact rfl) | ((with_reducible first | apply i_ldn | apply i_ldnq); exact rfl; exact rfl; exact rfl) | (with_reducible first | refine r_ph0 ?_ | apply i_kp0) | ((with_reducible first | apply i_st | apply i_stl); (focus simp); exact rfl) | ((try with_reducible refine d_reg ?_); simp only [go_sem, Nat.reduceAdd, Nat.reduceEqDiff, Int.reduceToNat, Nat.reduceMul, Nat.reduceSub]) | clear hK K)
            refine r_rq (by rw [List.length_append]; omega) ?_
            repeat' ((fail_if_success with_reducible refine nph ?_); first | (with_reducible first | (refine d_seq ?_; intro K hK) | (refine hK _ _ ?_; clear hK K) | refine d_blk ?_ | refine d_rt0 ?_ | refine d_sk0 ?_ | refine d_ex0 ?_ | (refine r_nwc ?_; intro b)) | (first | ((with_reducible refine d_cnd ?_); refine And.intro ?_ ?_) | with_reducible refine r_cnd ?_ ?_) <;> intro hc <;> try simp only [push_cast, Int.reduceEq, Int.reduceLT, Int.reduceLE, Int.reduceNe] at hc | with_reducible refine r_rq (by first | decide | omega) ?_ | ((with_reducible first | apply i_lds | apply i_ldsq | apply i_ld | apply i_ldq); exact rfl) | ((with_reducible first | apply i_ldn | apply i_ldnq); exact rfl; exact rfl; exact rfl) | (with_reducible first | refine r_ph0 ?_ | apply i_kp0) | ((with_reducible first | apply i_st | apply i_stl); (focus simp); exact rfl) | ((try with_reducible refine d_reg ?_); simp only [go_sem, Nat.reduceAdd, Nat.reduceEqDiff, Int.reduceToNat, Nat.reduceMul, Nat.reduceSub]) | clear hK K)
            all_goals try exact absurd sw hc
            rw [w64 (by omega) (by omega)]
            exact i_bk (j + 1) rfl (by omega) (by omega)
      · repeat' ((fail_if_success with_reducible refine nph ?_); first | (with_reducible first | (refine d_seq ?_; intro K hK) | (refine hK _ _ ?_; clear hK K) | refine d_blk ?_ | refine d_rt0 ?_ | refine d_sk0 ?_ | refine d_ex0 ?_ | (refine r_nwc ?_; intro b)) | (first | ((with_reducible refine d_cnd ?_); refine And.intro ?_ ?_) | with_reducible refine r_cnd ?_ ?_) <;> intro hc <;> try simp only [push_cast, Int.reduceEq, Int.reduceLT, Int.reduceLE, Int.reduceNe] at hc | with_reducible refine r_rq (by first | decide | omega) ?_ | ((with_reducible first | apply i_lds | apply i_ldsq | apply i_ld | apply i_ldq); exact rfl) | ((with_reducible first | apply i_ldn | apply i_ldnq); exact rfl; exact rfl; exact rfl) | (with_reducible first | refine r_ph0 ?_ | apply i_kp0) | ((with_reducible first | apply i_st | apply i_stl); (focus simp); exact rfl) | ((try with_reducible refine d_reg ?_); simp only [go_sem, Nat.reduceAdd, Nat.reduceEqDiff, Int.reduceToNat, Nat.reduceMul, Nat.reduceSub]) | clear hK K)
        all_goals try (exfalso; omega)
        refine i_clp g15 ?_
        repeat' ((fail_if_success with_reducible refine nph ?_); first | (with_reducible first | (refine d_seq ?_; intro K hK) | (refine hK _ _ ?_; clear hK K) | refine d_blk ?_ | refine d_rt0 ?_ | refine d_sk0 ?_ | refine d_ex0 ?_ | (refine r_nwc ?_; intro b)) | (first | ((with_reducible refine d_cnd ?_); refine And.intro ?_ ?_) | with_reducible refine r_cnd ?_ ?_) <;> intro hc <;> try simp only [push_cast, Int.reduceEq, Int.reduceLT, Int.reduceLE, Int.reduceNe] at hc | with_reducible refine r_rq (by first | decide | omega) ?_ | ((with_reducible first | apply i_lds | apply i_ldsq | apply i_ld | apply i_ldq); exact rfl) | ((with_reducible first | apply i_ldn | apply i_ldnq); exact rfl; exact rfl; exact rfl) | (with_reducible first | refine r_ph0 ?_ | apply i_kp0) | ((with_reducible first | apply i_st | apply i_stl); (focus simp); exact rfl) | ((try with_reducible refine d_reg ?_); simp only [go_sem, Nat.reduceAdd, Nat.reduceEqDiff, Int.reduceToNat, Nat.reduceMul, Nat.reduceSub]) | clear hK K)
        (with_reducible first | apply i_ret0 | apply i_ret2 | apply i_ret3 | apply i_ret); exact rfl
        rfl
end Go.Sp
