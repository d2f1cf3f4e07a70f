/- Texts of a proof, one behind the other: T Y0 Gpa0 Gpb0 Gpc0 Y1 Y2 K29 Sh Y3 Y4 Y5 Y6 Sc Y7 Y8 Y9 Gpd0 Y10 Y11 Y12. No condition. -/
import Derived.Test.YtdaochacbbaihaaM19292e1c
import Derived.Test.YtdaochacbbaihaaProg
import Derived.Maps.Own
import Derived.Maps.Views
import Derived.Sort.KeysCollected
import Derived.Lib.SlKeysI
import Derived.Shelf.SlIterI.Nil
import Derived.Shelf.SlIter.Nil
import Derived.Ground.GgzProg
import Derived.Shelf.SlGeneric
import Derived.Shelf.SortM.Plain
import Derived.Shelf.SortM.SortNone
import Derived.Ground.SlgmProg
import Derived.Shelf.Small.Strs
import Derived.Ground.NamesProg
import Derived.Shelf.SlSortCmp.NoneTotal
import Derived.Ground.SlsfProg
import Derived.WalkKit
import Derived.Sort.Grow
namespace Go.Sp
open Go
set_option maxRecDepth 100000
set_option linter.unusedVariables false
structure runtime_boundsError where
  x : Int
  y : Int
  signed : Bool
  code : Int
  deriving DecidableEq
def v_runtime_boundsError (x : runtime_boundsError) : Value := .agg #[.int .i64 x.x, .int .i64 x.y, .bool x.signed, .int .u8 x.code]
abbrev e_runtime_boundsError : Enc := ⟨runtime_boundsError, v_runtime_boundsError⟩
structure runtime_errorAddressString where
  msg : List UInt8
  addr : Int
  deriving DecidableEq
def v_runtime_errorAddressString (x : runtime_errorAddressString) : Value := .agg #[str x.msg, .int .u64 x.addr]
abbrev e_runtime_errorAddressString : Enc := ⟨runtime_errorAddressString, v_runtime_errorAddressString⟩
structure maps_unhashableTypeError where
  typ : Option Addr
  deriving DecidableEq
def v_maps_unhashableTypeError (x : maps_unhashableTypeError) : Value := .agg #[.pointer x.typ]
abbrev e_maps_unhashableTypeError : Enc := ⟨maps_unhashableTypeError, v_maps_unhashableTypeError⟩
structure api_Rec where
  Kind : Int
  Txn : Int
  Prev : Int
  Page : Int
  Act : Int
  Key : List UInt8
  Old : List UInt8
  New : List UInt8
  Next : Int
  Images : (Option Addr × Nat × Nat)
  Table : (Option Addr × Nat × Nat)
  Epoch : Int
  Node : Int
  deriving DecidableEq
def v_api_Rec (x : api_Rec) : Value := .agg #[.int .i64 x.Kind, .int .i64 x.Txn, .int .i64 x.Prev, .int .i64 x.Page, .int .i64 x.Act, str x.Key, str x.Old, str x.New, .int .i64 x.Next, .slice x.Images.1 x.Images.2.1 x.Images.2.2, .slice x.Table.1 x.Table.2.1 x.Table.2.2, .int .i64 x.Epoch, .int .i64 x.Node]
abbrev e_api_Rec : Enc := ⟨api_Rec, v_api_Rec⟩
structure past_Was where
  Val : List UInt8
  Is : Bool
  deriving DecidableEq
def v_past_Was (x : past_Was) : Value := .agg #[str x.Val, .bool x.Is]
abbrev e_past_Was : Enc := ⟨past_Was, v_past_Was⟩
structure api_Cell where
  Key : List UInt8
  Val : List UInt8
  deriving DecidableEq
def v_api_Cell (x : api_Cell) : Value := .agg #[str x.Key, str x.Val]
abbrev e_api_Cell : Enc := ⟨api_Cell, v_api_Cell⟩
structure past_Past where
  f_by : Option Nat
  last : Option Nat
  deriving DecidableEq
def v_past_Past (x : past_Past) : Value := .agg #[.map x.f_by, .map x.last]
abbrev e_past_Past : Enc := ⟨past_Past, v_past_Past⟩
structure api_Active where
  Txn : Int
  Last : Int
  deriving DecidableEq
def v_api_Active (x : api_Active) : Value := .agg #[.int .i64 x.Txn, .int .i64 x.Last]
abbrev e_api_Active : Enc := ⟨api_Active, v_api_Active⟩
structure runtime_TypeAssertionError where
  _interface : Option Addr
  concrete : Option Addr
  asserted : Option Addr
  missingMethod : List UInt8
  deriving DecidableEq
def v_runtime_TypeAssertionError (x : runtime_TypeAssertionError) : Value := .agg #[.pointer x._interface, .pointer x.concrete, .pointer x.asserted, str x.missingMethod]
abbrev e_runtime_TypeAssertionError : Enc := ⟨runtime_TypeAssertionError, v_runtime_TypeAssertionError⟩
structure api_Image where
  Page : Int
  Text : List UInt8
  deriving DecidableEq
def v_api_Image (x : api_Image) : Value := .agg #[.int .i64 x.Page, str x.Text]
abbrev e_api_Image : Enc := ⟨api_Image, v_api_Image⟩
def TT : Nat → Enc := lk eV [(0, eN), (2, eI), (3, eI), (4, eB), (5, eU8), (6, eU8), (8, e_runtime_boundsError), (9, eS), (10, eS), (11, eS), (12, eU64), (14, e_runtime_errorAddressString), (15, eP), (16, eP), (17, eP), (19, e_maps_unhashableTypeError), (22, eSl), (23, eSl), (24, eP), (26, eSl), (27, eSl), (29, e_api_Rec), (31, e_past_Was), (32, (eT2 e_past_Was eB)), (39, e_api_Cell), (42, eM), (43, eM), (45, e_past_Past), (47, eSl), (51, eSl), (56, eM), (68, e_api_Active), (69, eM), (79, eU64), (85, eI), (86, (eT2 eI eI)), (90, (eT2 eI eB)), (93, eU32), (95, eU64), (104, eU64), (108, eP), (118, eP), (119, (eT2 eI eI)), (127, e_runtime_TypeAssertionError), (128, (eA eP)), (131, eU8), (132, eU8), (134, eP), (140, e_api_Image)]
abbrev cI : Coe Int Value := ⟨.int .i64⟩
abbrev cB : Coe Bool Value := ⟨.bool⟩
abbrev cP : Coe (Option Addr) Value := ⟨.pointer⟩
abbrev cA : Coe Addr Value := ⟨fun a => .pointer (some a)⟩
open Go.Proofs in
noncomputable def cf (f : Func) (n : Nat) (li lo : List (Nat × List Nat)) (o : List (Nat × (Bool × List (Nat × Nat)))) (de : List (Nat × Enc)) : Cfg := { P := Try.prog, n := n, T := TT, body := f.body.getD .skip, res := f.results.toList, li := lk [] li, lo := lk [] lo, ord := lk (false, []) o, de := de }
end Go.Sp
namespace Go.Sp
open Go
set_option linter.unusedSimpArgs false
section
variable {κ ε : Enc} [DecidableEq κ.α]
def EOk (es : Ents κ ε) (c : Nat) : Prop := (es.map (·.1)).Nodup ∧ (es.map (·.2.2)).Nodup ∧ ∀ x ∈ es, x.2.2 < c
omit [DecidableEq κ.α] in
theorem EOk.nil (c : Nat) : EOk ([] : Ents κ ε) c := ⟨List.nodup_nil, List.nodup_nil, fun _ h => by cases h⟩
theorem gk_none {es : Ents κ ε} {k : κ.α} : gk es k = none ↔ ∀ x ∈ es, x.1 ≠ k := by
  induction es with
  | nil => simp [gk]
  | cons x r ih =>
    unfold gk
    by_cases h : x.1 = k
    · simp [h]
    · simp [h, ih]
theorem gk_some {es : Ents κ ε} {k : κ.α} {v : ε.α} (h : gk es k = some v) : ∃ b, (k, v, b) ∈ es := by
  induction es with
  | nil => cases h
  | cons x r ih =>
    obtain ⟨a, y, b⟩ := x
    unfold gk at h
    by_cases hx : a = k
    · simp only [hx, if_pos, Option.some.injEq] at h
      subst hx h
      exact ⟨b, List.mem_cons_self⟩
    · simp only [hx, if_neg, if_false] at h
      obtain ⟨b', hb⟩ := ih h
      exact ⟨b', List.mem_cons_of_mem _ hb⟩
theorem pk_new {es : Ents κ ε} {k : κ.α} (h : gk es k = none) (v : ε.α) (c : Nat) : pk es k v c = es ++ [(k, v, c)] := by
  induction es with
  | nil => rfl
  | cons x r ih =>
    unfold gk at h
    by_cases hx : x.1 = k
    · simp [hx] at h
    · simp only [hx, if_false] at h
      simp [pk, hx, ih h]
theorem pk_keys (es : Ents κ ε) (k : κ.α) (v : ε.α) (c : Nat) : (pk es k v c).map (·.1) = if gk es k = none then es.map (·.1) ++ [k] else es.map (·.1) := by
  induction es with
  | nil => simp [pk, gk]
  | cons x r ih =>
    unfold pk gk
    by_cases hx : x.1 = k
    · simp [hx]
    · simp only [hx, if_false, List.map_cons, ih]
      split <;> simp
theorem pk_borns (es : Ents κ ε) (k : κ.α) (v : ε.α) (c : Nat) : (pk es k v c).map (·.2.2) = if gk es k = none then es.map (·.2.2) ++ [c] else es.map (·.2.2) := by
  induction es with
  | nil => simp [pk, gk]
  | cons x r ih =>
    unfold pk gk
    by_cases hx : x.1 = k
    · simp [hx]
    · simp only [hx, if_false, List.map_cons, ih]
      split <;> simp
theorem pk_len (es : Ents κ ε) (k : κ.α) (v : ε.α) (c : Nat) : (pk es k v c).length ≤ es.length + 1 := by
  have := congrArg List.length (pk_keys es k v c)
  simp only [List.length_map] at this
  rw [this]
  split <;> simp
theorem EOk.pk {es : Ents κ ε} {c : Nat} (h : EOk es c) (k : κ.α) (v : ε.α) : EOk (pk es k v c) (ck es k c) := by
  obtain ⟨h1, h2, h3⟩ := h
  have h3' : ∀ n ∈ es.map (·.2.2), n < c := fun n hn => by
    obtain ⟨x, hx, rfl⟩ := List.mem_map.1 hn
    exact h3 x hx
  have h4 : ∀ n ∈ (Sp.pk es k v c).map (·.2.2), n < ck es k c := by
    intro n hn
    rw [pk_borns] at hn
    unfold ck
    split at hn
    · rename_i h0
      rw [if_pos h0]
      rcases List.mem_append.1 hn with h | h
      · have := h3' n h; omega
      · simp at h; omega
    · rename_i h0
      rw [if_neg h0]; exact h3' n hn
  refine ⟨?_, ?_, fun x hx => h4 _ (List.mem_map_of_mem hx)⟩
  · rw [pk_keys]
    split
    · rename_i h0
      rw [List.nodup_append]
      refine ⟨h1, by simp, fun a ha b hb => ?_⟩
      obtain ⟨x, hx, rfl⟩ := List.mem_map.1 ha
      simp at hb
      subst hb
      exact gk_none.1 h0 x hx
    · exact h1
  · rw [pk_borns]
    split
    · rw [List.nodup_append]
      refine ⟨h2, by simp, fun a ha b hb => ?_⟩
      have := h3' a ha
      simp at hb
      omega
    · exact h2
theorem EOk.dk {es : Ents κ ε} {c : Nat} (h : EOk es c) (k : κ.α) : EOk (dk es k) c :=
  ⟨h.1.sublist ((dk_sub es k).map _), h.2.1.sublist ((dk_sub es k).map _), fun x hx => h.2.2 x (dk_mem hx)⟩
end
abbrev eWs := e_past_Was
structure Gn where
  id : Int
  born : Nat
  b : Nat
  ks : Ents eS eWs
  c : Nat
abbrev gm (g : Gn) : HP := mp eS eWs g.b g.ks g.c
def oe (M : List Gn) : Ents eI eM := M.map fun g => (g.id, some g.b, g.born)
structure Ps where
  mb : Nat
  ml : Nat
  M : List Gn
  cb : Nat
  es : Ents eI eI
  cl : Nat
abbrev ppt (tp : TypeId) (p : Nat) (s : Ps) : List HP := [ar p tp [.map (some s.mb), .map (some s.ml)], mp eI eM s.mb (oe s.M) s.cb, mp eI eI s.ml s.es s.cl, HS (s.M.map gm)]
def fg : List Gn → Int → Option Gn
  | [], _ => none
  | g :: r, i => if g.id = i then some g else fg r i
def dg : List Gn → Int → List Gn
  | [], _ => []
  | g :: r, i => if g.id = i then r else g :: dg r i
def ug (k : List UInt8) (w : past_Was) (g : Gn) : Gn := { g with ks := pk g.ks k w g.c, c := ck g.ks k g.c }
def up : List Gn → Int → List UInt8 → past_Was → List Gn
  | [], _, _, _ => []
  | g :: r, i, k, w => if g.id = i then ug k w g :: r else g :: up r i k w
theorem gk_oe (M : List Gn) (i : Int) : gk (oe M) i = (fg M i).map fun g => some g.b := by
  induction M with
  | nil => rfl
  | cons g r ih =>
    show (if g.id = i then some (some g.b) else gk (oe r) i) = _
    unfold fg
    split
    · rfl
    · exact ih
theorem fg_mem {M : List Gn} {i : Int} {g : Gn} (h : fg M i = some g) : g ∈ M ∧ g.id = i := by
  induction M with
  | nil => cases h
  | cons x r ih =>
    unfold fg at h
    split at h
    · rename_i hx
      cases h
      exact ⟨List.mem_cons_self, hx⟩
    · exact ⟨List.mem_cons_of_mem _ (ih h).1, (ih h).2⟩
theorem fg_of {M : List Gn} (hn : (M.map (·.id)).Nodup) {g : Gn} (h : g ∈ M) : fg M g.id = some g := by
  induction M with
  | nil => cases h
  | cons x r ih =>
    rw [List.map_cons, List.nodup_cons] at hn
    unfold fg
    rcases List.mem_cons.1 h with rfl | h
    · simp
    · have : x.id ≠ g.id := fun e => hn.1 (e ▸ List.mem_map_of_mem h)
      simp only [this, if_false]
      exact ih hn.2 h
theorem oe_dg (M : List Gn) (i : Int) : oe (dg M i) = dk (oe M) i := by
  induction M with
  | nil => rfl
  | cons g r ih =>
    show _ = (if g.id = i then oe r else (g.id, some g.b, g.born) :: dk (oe r) i)
    unfold dg
    split
    · rfl
    · rw [← ih]; rfl
theorem oe_up (M : List Gn) (i : Int) (k : List UInt8) (w : past_Was) : oe (up M i k w) = oe M := by
  induction M with
  | nil => rfl
  | cons g r ih =>
    unfold up
    split
    · rfl
    · show (g.id, some g.b, g.born) :: oe (up r i k w) = _
      rw [ih]; rfl
theorem up_perm {M : List Gn} {i : Int} {g : Gn} (h : fg M i = some g) : ∃ M', M.Perm (g :: M') ∧ ∀ k w, (up M i k w).Perm (ug k w g :: M') := by
  induction M with
  | nil => cases h
  | cons x r ih =>
    unfold fg at h
    split at h
    · rename_i hx
      cases h
      exact ⟨r, List.Perm.refl _, fun k w => by simp [up, hx]⟩
    · rename_i hx
      obtain ⟨M', h1, h2⟩ := ih h
      refine ⟨x :: M', (h1.cons x).trans (List.Perm.swap _ _ _), fun k w => ?_⟩
      simp only [up, hx, if_false]
      exact ((h2 k w).cons x).trans (List.Perm.swap _ _ _)
theorem dg_sub (M : List Gn) (i : Int) : (dg M i).Sublist M := by
  induction M with
  | nil => exact .slnil
  | cons y r ih =>
    unfold dg
    split
    · exact .cons _ (List.Sublist.refl _)
    · exact .cons_cons _ ih
def wasR (r : api_Rec) : Option past_Was := if r.Kind = 3 then some ⟨[], false⟩ else if r.Kind = 4 ∨ r.Kind = 5 then some ⟨r.Old, true⟩ else none
def nt (s : Ps) (r : api_Rec) (lsn : Int) (b : Nat) : Ps :=
  if r.Txn = 0 then s
  else if r.Kind = 7 ∨ r.Kind = 8 then { s with M := dg s.M r.Txn, es := dk s.es r.Txn }
  else match wasR r with
    | none => { s with es := pk s.es r.Txn lsn s.cl, cl := ck s.es r.Txn s.cl }
    | some w => match fg s.M r.Txn with
      | some g => if gk g.ks r.Key = none then { s with es := pk s.es r.Txn lsn s.cl, cl := ck s.es r.Txn s.cl, M := up s.M r.Txn r.Key w } else { s with es := pk s.es r.Txn lsn s.cl, cl := ck s.es r.Txn s.cl }
      | none => { s with es := pk s.es r.Txn lsn s.cl, cl := ck s.es r.Txn s.cl, M := s.M ++ [⟨r.Txn, s.cb, b, [(r.Key, w, 0)], 1⟩], cb := s.cb + 1 }
structure Ps.ok (s : Ps) (n : Nat) : Prop where
  o : EOk (oe s.M) s.cb
  l : EOk s.es s.cl
  g : ∀ g ∈ s.M, EOk g.ks g.c
  wo : ∀ g ∈ s.M, wf64 g.id
  wl : ∀ x ∈ s.es, wf64 x.1
  no : s.M.length ≤ n
  nl : s.es.length ≤ n
  nk : (s.M.map (·.ks.length)).sum ≤ n
  wk : ∀ g ∈ s.M, ∀ x ∈ g.ks, x.1.length ≤ maxLen
theorem Ps.ok.mono {s : Ps} {n m : Nat} (h : s.ok n) (hm : n ≤ m) : s.ok m := ⟨h.o, h.l, h.g, h.wo, h.wl, Nat.le_trans h.no hm, Nat.le_trans h.nl hm, Nat.le_trans h.nk hm, h.wk⟩
theorem sub_sum {α : Type} (f : α → Nat) {A B : List α} (h : A.Sublist B) : (A.map f).sum ≤ (B.map f).sum := by
  induction h with
  | slnil => exact Nat.le_refl _
  | cons x _ ih => simp; omega
  | cons_cons x _ ih => simp; omega
theorem pk_mem {κ ε : Enc} [DecidableEq κ.α] {es : Ents κ ε} {k : κ.α} {v : ε.α} {c : Nat} {x : κ.α × ε.α × Nat} (h : x ∈ pk es k v c) : x.1 = k ∨ ∃ y ∈ es, y.1 = x.1 := by
  have h1 : x.1 ∈ (pk es k v c).map (·.1) := List.mem_map_of_mem h
  rw [pk_keys] at h1
  have h2 : x.1 ∈ es.map (·.1) ∨ x.1 = k := by
    split at h1
    · rcases List.mem_append.1 h1 with h | h
      · exact .inl h
      · exact .inr (by simpa using h)
    · exact .inl h1
  rcases h2 with h2 | h2
  · obtain ⟨y, hy, e⟩ := List.mem_map.1 h2
    exact .inr ⟨y, hy, e⟩
  · exact .inl h2
theorem nt_ok {s : Ps} {n : Nat} (h : s.ok n) {r : api_Rec} (hw : wf64 r.Txn) (hk : r.Key.length ≤ maxLen) (lsn : Int) (b : Nat) : (nt s r lsn b).ok (n + 1) := by
  obtain ⟨ho, hl, hg, hwo, hwl, hno, hnl, hnk, hwk⟩ := h
  have e1 : EOk (pk s.es r.Txn lsn s.cl) (ck s.es r.Txn s.cl) := hl.pk _ _
  have e2 : ∀ x ∈ pk s.es r.Txn lsn s.cl, wf64 x.1 := fun x hx => by
    rcases pk_mem hx with e | ⟨y, hy, e⟩
    · rw [e]; exact hw
    · rw [← e]; exact hwl y hy
  have e3 : (pk s.es r.Txn lsn s.cl).length ≤ n + 1 := Nat.le_trans (pk_len _ _ _ _) (by omega)
  unfold nt
  split
  · exact ⟨ho, hl, hg, hwo, hwl, by omega, by omega, by omega, hwk⟩
  split
  · refine ⟨?_, hl.dk _, fun g hx => hg g ((dg_sub _ _).subset hx), fun g hx => hwo g ((dg_sub _ _).subset hx), fun x hx => hwl x (dk_mem (κ := eI) hx), ?_, ?_, ?_, fun g hx => hwk g ((dg_sub _ _).subset hx)⟩
    · show EOk (oe (dg s.M r.Txn)) s.cb
      rw [oe_dg]; exact ho.dk _
    · exact Nat.le_trans (dg_sub _ _).length_le (by omega)
    · exact Nat.le_trans (dk_sub (κ := eI) (ε := eI) s.es r.Txn).length_le (by omega)
    · exact Nat.le_trans (sub_sum _ (dg_sub _ _)) (by omega)
  split
  · exact ⟨ho, e1, hg, hwo, e2, by show s.M.length ≤ _; omega, e3, by show (s.M.map _).sum ≤ _; omega, hwk⟩
  rename_i w _
  split
  · rename_i g hf
    split
    · obtain ⟨M', hp1, hp2⟩ := up_perm hf
      have hp2 := hp2 r.Key w
      have hgM := (fg_mem hf).1
      have hmem : ∀ x ∈ up s.M r.Txn r.Key w, x = ug r.Key w g ∨ x ∈ s.M := fun x hx => by
        rcases List.mem_cons.1 (hp2.mem_iff.1 hx) with e | e
        · exact .inl e
        · exact .inr (hp1.mem_iff.2 (List.mem_cons_of_mem _ e))
      refine ⟨?_, e1, ?_, ?_, e2, ?_, e3, ?_, ?_⟩
      · show EOk (oe (up s.M r.Txn r.Key w)) s.cb
        rw [oe_up]; exact ho
      · intro x hx
        rcases hmem x hx with rfl | e
        · exact (hg g hgM).pk _ _
        · exact hg x e
      · intro x hx
        rcases hmem x hx with rfl | e
        · exact hwo g hgM
        · exact hwo x e
      · show (up s.M r.Txn r.Key w).length ≤ n + 1
        have := hp2.length_eq
        have := hp1.length_eq
        simp at *
        omega
      · show ((up s.M r.Txn r.Key w).map _).sum ≤ n + 1
        have h1 := (hp2.map (·.ks.length)).sum_nat
        have h2 := (hp1.map (·.ks.length)).sum_nat
        have h3 := pk_len g.ks r.Key w g.c
        simp only [List.map_cons, List.sum_cons, ug] at h1 h2 ⊢
        omega
      · intro x hx y hy
        rcases hmem x hx with rfl | e
        · rcases pk_mem hy with e | ⟨z, hz, e⟩
          · rw [e]; exact hk
          · rw [← e]; exact hwk g hgM z hz
        · exact hwk x e y hy
    · exact ⟨ho, e1, hg, hwo, e2, by show s.M.length ≤ _; omega, e3, by show (s.M.map _).sum ≤ _; omega, hwk⟩
  · rename_i hf
    have hn0 : gk (oe s.M) r.Txn = none := by rw [gk_oe, hf]; rfl
    refine ⟨?_, e1, ?_, ?_, e2, ?_, e3, ?_, ?_⟩
    · show EOk (oe (s.M ++ [_])) (s.cb + 1)
      have := ho.pk r.Txn (some b)
      rw [pk_new hn0, show ck (oe s.M) r.Txn s.cb = s.cb + 1 by simp [ck, hn0]] at this
      simpa [oe] using this
    · intro x hx
      rcases List.mem_append.1 hx with e | e
      · exact hg x e
      · simp at e; subst e
        exact ⟨by simp, by simp, by simp⟩
    · intro x hx
      rcases List.mem_append.1 hx with e | e
      · exact hwo x e
      · simp at e; subst e
        exact hw
    · simp; omega
    · simp; omega
    · intro x hx y hy
      rcases List.mem_append.1 hx with e | e
      · exact hwk x e y hy
      · simp at e; subst e
        simp at hy; subst hy
        exact hk
theorem ok0 (mb ml : Nat) : Ps.ok ⟨mb, ml, [], 0, [], 0⟩ 0 := ⟨EOk.nil _, EOk.nil _, fun _ h => (by cases h), fun _ h => (by cases h), fun _ h => (by cases h), Nat.le_refl _, Nat.le_refl _, Nat.le_refl _, fun _ h => (by cases h)⟩
end Go.Sp
namespace Go.Sp
open Go
set_option maxRecDepth 100000
set_option linter.unusedVariables false
open Go.Proofs
variable (K : Env → W) (k : Value → W) {e : Enc} {args : Array Value} {G : e.α → W} {L : List HP} {ρ : Env}
attribute [local instance] cI cB cP cA
noncomputable def c5 := cf Try.f5 5 [(0, []), (1, [])] [(0, []), (1, [0]), (1000000, [0])] [] []
@[go_sem] theorem c5_i : c5.li 0 = [] ∧ c5.li 1 = [] := ⟨rfl, rfl⟩
@[go_sem] theorem c5_r0 : RP c5 0 [] K =
 (K []) := by kernel_rfl
@[go_sem] theorem c5_r1 : RP c5 1 [] K =
 (nwb (.map #[] 0) fun y1_ => (nwb (.map #[] 0) fun y2_ => (nwc #[.map ((⟨(some y1_), (some y2_)⟩ : past_Past).f_by), .map ((⟨(some y1_), (some y2_)⟩ : past_Past).last)] 45 fun y3_ => (K [(0, y3_)])))) := by kernel_rfl
@[go_sem] theorem c5_o : c5.lo 1000000 = [0] := rfl
@[go_sem] theorem c5_e (v0 : Option Addr) : RTp c5 [(0, v0)] k = (k (v0)) := by kernel_rfl
theorem c5_ok : (c5.P.follows .mixedOrders && okc c5 c5.body) = true := by kernel_rfl
theorem c5_fn (hρ : envA 0 args.toList = ρ) (hs : Nat.ble args.size 5 = true) (h : E L (D c5 (.seq (.reg 0) (.seq (.reg 1) (.ret))) (fnQ c5 e G) ρ)) : E L (cal e Try.prog 5 args G) :=
  d_fn (c := c5) Try.func5 (by kernel_rfl) (by kernel_rfl) (by kernel_rfl) c5_ok (by kernel_rfl) (by kernel_rfl) hρ hs h
noncomputable def c6 := cf Try.f6 39 [(0, [0, 1]), (1, [0, 1, 4]), (2, [4]), (3, [0, 1, 4]), (4, [0, 1, 4, 18, 19, 20]), (5, [0, 1, 4, 18, 19, 20]), (6, [0, 1, 4, 7, 18, 19, 20]), (7, [0, 1, 4, 8, 9, 18, 19, 20]), (8, [4, 8]), (9, [0, 1, 4, 18, 19, 20]), (10, [4])] [(0, [0, 1, 4]), (1, [0, 1, 4, 11]), (2, [4, 5]), (3, [0, 1, 4, 18, 19, 20]), (4, [0, 1, 4, 18, 19, 20, 21]), (5, [0, 1, 4, 7, 18, 19, 20]), (6, [0, 1, 4, 8, 9, 18, 19, 20]), (7, [0, 1, 4, 8, 18, 19, 20, 35]), (8, [4, 5]), (9, [0, 1, 4, 18, 19, 20]), (10, [4, 5]), (1000000, [4, 5])] [] []
@[go_sem] theorem c6_i : c6.li 0 = [0, 1] ∧ c6.li 1 = [0, 1, 4] ∧ c6.li 2 = [4] ∧ c6.li 3 = [0, 1, 4] ∧ c6.li 4 = [0, 1, 4, 18, 19, 20] ∧ c6.li 5 = [0, 1, 4, 18, 19, 20] ∧ c6.li 6 = [0, 1, 4, 7, 18, 19, 20] ∧ c6.li 7 = [0, 1, 4, 8, 9, 18, 19, 20] ∧ c6.li 8 = [4, 8] ∧ c6.li 9 = [0, 1, 4, 18, 19, 20] ∧ c6.li 10 = [4] := ⟨rfl, rfl, rfl, rfl, rfl, rfl, rfl, rfl, rfl, rfl, rfl⟩
@[go_sem] theorem c6_r0 (v0 : Option Addr) (v1 : List UInt8) : RP c6 0 [(0, v0), (1, str v1)] K =
 (nwc #[str ([] : List UInt8), false] 31 fun y1_ => (K [(0, v0), (1, str v1), (4, y1_)])) := by kernel_rfl
@[go_sem] theorem c6_r1 (v0 : Option Addr) (v1 : List UInt8) (v4 : Addr) : RP c6 1 [(0, v0), (1, str v1), (4, v4)] K =
 (cal eB Try.prog 15 #[v0] fun (y1_ : Bool) => (K [(0, v0), (1, str v1), (4, v4), (11, y1_)])) := by kernel_rfl
@[go_sem] theorem c6_r2 (v4 : Addr) : RP c6 2 [(4, v4)] K =
 (stl [str ((⟨([] : List UInt8), false⟩ : past_Was).Val), .bool ((⟨([] : List UInt8), false⟩ : past_Was).Is)] v4 0 (K [(4, v4), (5, false)])) := by kernel_rfl
@[go_sem] theorem c6_r3 (v0 : Option Addr) (v1 : List UInt8) (v4 : Addr) : RP c6 3 [(0, v0), (1, str v1), (4, v4)] K =
 (nn v0 fun y1_ => (ld eM y1_ fun (y2_ : Option Nat) => (cal eV Try.prog 17 #[.map y2_] fun (y3_ : Value) => (cal eSl Try.prog 16 #[y3_] fun (y4_ : (Option Addr × Nat × Nat)) => (K [(0, v0), (1, str v1), (4, v4), (18, .slice y4_.1 y4_.2.1 y4_.2.2), (19, .int .i64 (y4_.2.1 : Int)), (20, .int .i64 0)]))))) := by kernel_rfl
@[go_sem] theorem c6_r4 (v0 : Option Addr) (v1 : List UInt8) (v4 : Addr) (v18p : Option Addr) (v18n v18c : Nat) (v19 v20 : Int) : RP c6 4 [(0, v0), (1, str v1), (4, v4), (18, .slice v18p v18n v18c), (19, v19), (20, v20)] K =
 (K [(0, v0), (1, str v1), (4, v4), (18, .slice v18p v18n v18c), (19, v19), (20, v20), (21, decide (v20 < v19))]) := by kernel_rfl
@[go_sem] theorem c6_r5 (v0 : Option Addr) (v1 : List UInt8) (v4 : Addr) (v18p : Option Addr) (v18n v18c : Nat) (v19 v20 : Int) : RP c6 5 [(0, v0), (1, str v1), (4, v4), (18, .slice v18p v18n v18c), (19, v19), (20, v20)] K =
 (rq (0 ≤ v20 ∧ v20 < v18n) (nn v18p fun y1_ => (ld eI (Addr.add y1_ (v20.toNat * 1)) fun (y2_ : Int) => (K [(0, v0), (1, str v1), (4, v4), (7, y2_), (18, .slice v18p v18n v18c), (19, v19), (20, v20)])))) := by kernel_rfl
@[go_sem] theorem c6_r6 (v0 : Option Addr) (v1 : List UInt8) (v4 : Addr) (v7 : Int) (v18p : Option Addr) (v18n v18c : Nat) (v19 v20 : Int) : RP c6 6 [(0, v0), (1, str v1), (4, v4), (7, v7), (18, .slice v18p v18n v18c), (19, v19), (20, v20)] K =
 (nn v0 fun y1_ => (ld eM y1_ fun (y2_ : Option Nat) => (val eM Try.prog (oLookup 42 (.map y2_) (v7) false) fun (y3_ : Option Nat) => (val (eT2 e_past_Was eB) Try.prog (oLookup 56 (.map y3_) (str v1) true) fun (y4_ : (past_Was × Bool)) => (nwc #[str ([] : List UInt8), false] 31 fun y5_ => (stl [str y4_.1.Val, .bool y4_.1.Is] y5_ 0 (K [(0, v0), (1, str v1), (4, v4), (8, y5_), (9, y4_.2), (18, .slice v18p v18n v18c), (19, v19), (20, v20)]))))))) := by kernel_rfl
@[go_sem] theorem c6_r7 (v0 : Option Addr) (v1 : List UInt8) (v4 v8 : Addr) (v9 : Bool) (v18p : Option Addr) (v18n v18c : Nat) (v19 v20 : Int) : RP c6 7 [(0, v0), (1, str v1), (4, v4), (8, v8), (9, v9), (18, .slice v18p v18n v18c), (19, v19), (20, v20)] K =
 (K [(0, v0), (1, str v1), (4, v4), (8, v8), (18, .slice v18p v18n v18c), (19, v19), (20, v20), (35, v9)]) := by kernel_rfl
@[go_sem] theorem c6_r8 (v4 v8 : Addr) : RP c6 8 [(4, v4), (8, v8)] K =
 (ldn e_past_Was 2 v8 fun (y1_ : past_Was) => (stl [str y1_.Val, y1_.Is] v4 0 (K [(4, v4), (5, true)]))) := by kernel_rfl
@[go_sem] theorem c6_r9 (v0 : Option Addr) (v1 : List UInt8) (v4 : Addr) (v18p : Option Addr) (v18n v18c : Nat) (v19 v20 : Int) : RP c6 9 [(0, v0), (1, str v1), (4, v4), (18, .slice v18p v18n v18c), (19, v19), (20, v20)] K =
 (K [(0, v0), (1, str v1), (4, v4), (18, .slice v18p v18n v18c), (19, v19), (20, IntKind.wrap .i64 (v20 + 1))]) := by kernel_rfl
@[go_sem] theorem c6_r10 (v4 : Addr) : RP c6 10 [(4, v4)] K =
 (stl [str ((⟨([] : List UInt8), false⟩ : past_Was).Val), .bool ((⟨([] : List UInt8), false⟩ : past_Was).Is)] v4 0 (K [(4, v4), (5, false)])) := by kernel_rfl
@[go_sem] theorem c6_o : c6.lo 1000000 = [4, 5] := rfl
@[go_sem] theorem c6_e (v4 : Addr) (v5 : Bool) : RTp c6 [(4, v4), (5, v5)] k = (ldn e_past_Was 2 v4 fun (y1_ : past_Was) => (k (.tuple #[v_past_Was y1_, v5]))) := by kernel_rfl
theorem c6_ok : (c6.P.follows .mixedOrders && okc c6 c6.body) = true := by kernel_rfl
theorem c6_fn (hρ : envA 0 args.toList = ρ) (hs : Nat.ble args.size 39 = true) (h : E L (D c6 (.seq (.reg 0) (.seq (.seq (.reg 1) (.cond (.tmp 11) (.seq (.reg 2) (.ret)) (.skip))) (.seq (.seq (.reg 3) (.block 0 (.loop (.seq (.reg 4) (.seq (.cond (.tmp 21) (.skip) (.exit 0)) (.seq (.block 1 (.seq (.reg 5) (.seq (.reg 6) (.seq (.reg 7) (.cond (.tmp 35) (.seq (.reg 8) (.ret)) (.skip)))))) (.reg 9))))))) (.seq (.reg 10) (.ret))))) (fnQ c6 e G) ρ)) : E L (cal e Try.prog 6 args G) :=
  d_fn (c := c6) Try.func6 (by kernel_rfl) (by kernel_rfl) (by kernel_rfl) c6_ok (by kernel_rfl) (by kernel_rfl) hρ hs h
noncomputable def c7 := cf Try.f7 79 [(0, [0, 1, 2]), (1, [0, 2, 4]), (2, [0, 2, 4]), (3, [0, 2, 4, 19]), (4, [0, 2, 4, 19]), (5, [0, 4]), (6, [0, 4]), (7, [0, 2, 4]), (8, [0, 4]), (9, [0, 4, 6, 7]), (10, [0, 4, 6]), (11, [0, 4, 6, 8]), (12, [0, 4, 6]), (13, [0, 4, 6, 8]), (14, [4, 6, 8]), (15, [4, 6, 8, 10]), (16, [4, 6, 8])] [(0, [0, 2, 4]), (1, [0, 2, 4, 17]), (2, [0, 2, 4, 19]), (3, [0, 2, 4, 19, 20]), (4, [0, 2, 4, 20]), (5, [0, 4]), (6, []), (7, [0, 4]), (8, [0, 4, 6, 7]), (9, [0, 4, 6, 48]), (10, [0, 4, 6, 8]), (11, [0, 4, 6, 8, 57]), (12, [0, 4, 6, 8]), (13, [4, 6, 8]), (14, [4, 6, 8, 10]), (15, [4, 6, 8, 74]), (16, []), (1000000, [])] [(5, (true, [(0, 1), (1, 1), (2, 1), (3, 0), (4, 1), (5, 0), (6, 4)])), (6, (true, [(0, 1), (1, 1), (2, 1), (3, 0), (4, 1), (5, 0), (6, 4)])), (7, (true, [(0, 1), (1, 1), (2, 1), (3, 0), (4, 1), (5, 0), (6, 1), (7, 4)])), (10, (true, [(0, 1), (1, 1), (2, 1), (3, 0), (4, 1), (5, 0), (6, 0), (7, 1)])), (13, (true, [(0, 1), (1, 1), (2, 1), (3, 0), (4, 1), (5, 0), (6, 1), (7, 4)]))] []
@[go_sem] theorem c7_i : c7.li 0 = [0, 1, 2] ∧ c7.li 1 = [0, 2, 4] ∧ c7.li 2 = [0, 2, 4] ∧ c7.li 3 = [0, 2, 4, 19] ∧ c7.li 4 = [0, 2, 4, 19] ∧ c7.li 5 = [0, 4] ∧ c7.li 6 = [0, 4] ∧ c7.li 7 = [0, 2, 4] ∧ c7.li 8 = [0, 4] ∧ c7.li 9 = [0, 4, 6, 7] ∧ c7.li 10 = [0, 4, 6] ∧ c7.li 11 = [0, 4, 6, 8] ∧ c7.li 12 = [0, 4, 6] ∧ c7.li 13 = [0, 4, 6, 8] ∧ c7.li 14 = [4, 6, 8] ∧ c7.li 15 = [4, 6, 8, 10] ∧ c7.li 16 = [4, 6, 8] := ⟨rfl, rfl, rfl, rfl, rfl, rfl, rfl, rfl, rfl, rfl, rfl, rfl, rfl, rfl, rfl, rfl, rfl⟩
@[go_sem] theorem c7_r0 (v0 : Option Addr) (v1 : api_Rec) (v2 : Int) : RP c7 0 [(0, v0), (1, v_api_Rec v1), (2, v2)] K =
 (nwc #[v1.Kind, v1.Txn, v1.Prev, v1.Page, v1.Act, str v1.Key, str v1.Old, str v1.New, v1.Next, .slice v1.Images.1 v1.Images.2.1 v1.Images.2.2, .slice v1.Table.1 v1.Table.2.1 v1.Table.2.2, v1.Epoch, v1.Node] 29 fun y1_ => (K [(0, v0), (2, v2), (4, y1_)])) := by kernel_rfl
@[go_sem] theorem c7_r1 (v0 : Option Addr) (v2 : Int) (v4 : Addr) : RP c7 1 [(0, v0), (2, v2), (4, v4)] K =
 (cal eB Try.prog 15 #[v0] fun (y1_ : Bool) => (cnd y1_ (K [(0, v0), (2, v2), (4, v4), (17, true)]) (ld eI (v4.add 1) fun (y2_ : Int) => (K [(0, v0), (2, v2), (4, v4), (17, .bool (y2_ == 0))])))) := by kernel_rfl
@[go_sem] theorem c7_r2 (v0 : Option Addr) (v2 : Int) (v4 : Addr) : RP c7 2 [(0, v0), (2, v2), (4, v4)] K =
 (ld eI v4 fun (y1_ : Int) => (K [(0, v0), (2, v2), (4, v4), (19, y1_)])) := by kernel_rfl
@[go_sem] theorem c7_r3 (v0 : Option Addr) (v2 : Int) (v4 : Addr) (v19 : Int) : RP c7 3 [(0, v0), (2, v2), (4, v4), (19, v19)] K =
 (K [(0, v0), (2, v2), (4, v4), (19, v19), (20, .bool (v19 == 7))]) := by kernel_rfl
@[go_sem] theorem c7_r4 (v0 : Option Addr) (v2 : Int) (v4 : Addr) (v19 : Int) : RP c7 4 [(0, v0), (2, v2), (4, v4), (19, v19)] K =
 (K [(0, v0), (2, v2), (4, v4), (20, .bool (v19 == 8))]) := by kernel_rfl
@[go_sem] theorem c7_r5 (v0 : Option Addr) (v4 : Addr) : RP c7 5 [(0, v0), (4, v4)] K =
 (ph fun S0 => (nn v0 fun y1_ => (ldq S0 eM y1_ fun (y2_ : Option Nat) => (ldq S0 eI (v4.add 1) fun (y3_ : Int) => (val eN Try.prog (oB_delete #[42, 3] 0 #[.map y2_, y3_]) fun (y4_ : Unit) => (K [(0, v0), (4, v4)])))))) := by kernel_rfl
@[go_sem] theorem c7_r6 (v0 : Option Addr) (v4 : Addr) : RP c7 6 [(0, v0), (4, v4)] K =
 (ph fun S0 => (nn v0 fun y1_ => (ldq S0 eM (y1_.add 1) fun (y2_ : Option Nat) => (ldq S0 eI (v4.add 1) fun (y3_ : Int) => (val eN Try.prog (oB_delete #[43, 3] 0 #[.map y2_, y3_]) fun (y4_ : Unit) => (K [])))))) := by kernel_rfl
@[go_sem] theorem c7_r7 (v0 : Option Addr) (v2 : Int) (v4 : Addr) : RP c7 7 [(0, v0), (2, v2), (4, v4)] K =
 (ph fun S0 => (nn v0 fun y1_ => (ldq S0 eM (y1_.add 1) fun (y2_ : Option Nat) => (ldq S0 eI (v4.add 1) fun (y3_ : Int) => (unt Try.prog (oMapUpdate 43 (.map y2_) (y3_) (v2)) (K [(0, v0), (4, v4)])))))) := by kernel_rfl
@[go_sem] theorem c7_r8 (v0 : Option Addr) (v4 : Addr) : RP c7 8 [(0, v0), (4, v4)] K =
 (ldn e_api_Rec 13 v4 fun (y1_ : api_Rec) => (cal (eT2 e_past_Was eB) Try.prog 18 #[v_api_Rec y1_] fun (y2_ : (past_Was × Bool)) => (nwc #[str ([] : List UInt8), false] 31 fun y3_ => (stl [str y2_.1.Val, .bool y2_.1.Is] y3_ 0 (K [(0, v0), (4, v4), (6, y3_), (7, y2_.2)]))))) := by kernel_rfl
@[go_sem] theorem c7_r9 (v0 : Option Addr) (v4 v6 : Addr) (v7 : Bool) : RP c7 9 [(0, v0), (4, v4), (6, v6), (7, v7)] K =
 (K [(0, v0), (4, v4), (6, v6), (48, .bool (!v7))]) := by kernel_rfl
@[go_sem] theorem c7_r10 (v0 : Option Addr) (v4 v6 : Addr) : RP c7 10 [(0, v0), (4, v4), (6, v6)] K =
 (ph fun S0 => (nn v0 fun y1_ => (ldq S0 eM y1_ fun (y2_ : Option Nat) => (ldq S0 eI (v4.add 1) fun (y3_ : Int) => (valq S0 eM Try.prog (oLookup 42 (.map y2_) (y3_) false) fun (y4_ : Option Nat) => (K [(0, v0), (4, v4), (6, v6), (8, .map y4_)])))))) := by kernel_rfl
@[go_sem] theorem c7_r11 (v0 : Option Addr) (v4 v6 : Addr) (v8 : Option Nat) : RP c7 11 [(0, v0), (4, v4), (6, v6), (8, .map v8)] K =
 (K [(0, v0), (4, v4), (6, v6), (8, .map v8), (57, .bool (v8.isNone))]) := by kernel_rfl
@[go_sem] theorem c7_r12 (v0 : Option Addr) (v4 v6 : Addr) : RP c7 12 [(0, v0), (4, v4), (6, v6)] K =
 (nwb (.map #[] 0) fun y1_ => (K [(0, v0), (4, v4), (6, v6), (8, .map (some y1_))])) := by kernel_rfl
@[go_sem] theorem c7_r13 (v0 : Option Addr) (v4 v6 : Addr) (v8 : Option Nat) : RP c7 13 [(0, v0), (4, v4), (6, v6), (8, .map v8)] K =
 (ph fun S0 => (nn v0 fun y1_ => (ldq S0 eM y1_ fun (y2_ : Option Nat) => (ldq S0 eI (v4.add 1) fun (y3_ : Int) => (unt Try.prog (oMapUpdate 42 (.map y2_) (y3_) (.map v8)) (K [(4, v4), (6, v6), (8, .map v8)])))))) := by kernel_rfl
@[go_sem] theorem c7_r14 (v4 v6 : Addr) (v8 : Option Nat) : RP c7 14 [(4, v4), (6, v6), (8, .map v8)] K =
 (ld eS (v4.add 5) fun (y1_ : List UInt8) => (val (eT2 e_past_Was eB) Try.prog (oLookup 56 (.map v8) (str y1_) true) fun (y2_ : (past_Was × Bool)) => (nwc #[str ([] : List UInt8), false] 31 fun y3_ => (stl [str y2_.1.Val, .bool y2_.1.Is] y3_ 0 (K [(4, v4), (6, v6), (8, .map v8), (10, y2_.2)]))))) := by kernel_rfl
@[go_sem] theorem c7_r15 (v4 v6 : Addr) (v8 : Option Nat) (v10 : Bool) : RP c7 15 [(4, v4), (6, v6), (8, .map v8), (10, v10)] K =
 (K [(4, v4), (6, v6), (8, .map v8), (74, .bool (!v10))]) := by kernel_rfl
@[go_sem] theorem c7_r16 (v4 v6 : Addr) (v8 : Option Nat) : RP c7 16 [(4, v4), (6, v6), (8, .map v8)] K =
 (ld eS (v4.add 5) fun (y1_ : List UInt8) => (ldn e_past_Was 2 v6 fun (y2_ : past_Was) => (unt Try.prog (oMapUpdate 56 (.map v8) (str y1_) (v_past_Was y2_)) (K [])))) := by kernel_rfl
@[go_sem] theorem c7_o : c7.lo 1000000 = [] := rfl
@[go_sem] theorem c7_e : RTp c7 [] k = (k (.tuple #[])) := by kernel_rfl
theorem c7_ok : (c7.P.follows .mixedOrders && okc c7 c7.body) = true := by kernel_rfl
theorem c7_fn (hρ : envA 0 args.toList = ρ) (hs : Nat.ble args.size 79 = true) (h : E L (D c7 (.seq (.reg 0) (.seq (.seq (.reg 1) (.cond (.tmp 17) (.ret) (.skip))) (.seq (.seq (.reg 2) (.block 0 (.seq (.seq (.reg 3) (.cond (.tmp 20) (.skip) (.reg 4))) (.cond (.tmp 20) (.seq (.reg 5) (.seq (.reg 6) (.ret))) (.skip))))) (.seq (.reg 7) (.seq (.reg 8) (.seq (.seq (.reg 9) (.cond (.tmp 48) (.ret) (.skip))) (.seq (.reg 10) (.seq (.seq (.reg 11) (.cond (.tmp 57) (.seq (.reg 12) (.reg 13)) (.skip))) (.seq (.reg 14) (.seq (.reg 15) (.cond (.tmp 74) (.reg 16) (.skip)))))))))))) (fnQ c7 e G) ρ)) : E L (cal e Try.prog 7 args G) :=
  d_fn (c := c7) Try.func7 (by kernel_rfl) (by kernel_rfl) (by kernel_rfl) c7_ok (by kernel_rfl) (by kernel_rfl) hρ hs h
noncomputable def c13 := cf Try.f13 30 [(0, [0]), (1, [0]), (2, []), (3, [0]), (4, [0, 3]), (5, [3, 14]), (6, [3, 14]), (7, [3, 5, 14]), (8, [3, 14, 20]), (9, [3, 14, 20]), (10, [3, 6, 14, 20]), (11, [3])] [(0, [0]), (1, [0, 8]), (2, [2]), (3, [0, 3]), (4, [3, 14]), (5, [3, 14, 16]), (6, [3, 5, 14]), (7, [3, 14, 20]), (8, [3, 14, 20, 22]), (9, [3, 6, 14, 20]), (10, [3, 14, 20]), (11, [2]), (1000000, [2])] [] [(14, eP), (15, (eT3 eB eI eM)), (17, (eT2 eI eM)), (20, eP), (21, (eT3 eB eS e_past_Was)), (23, (eT2 eS e_past_Was))]
@[go_sem] theorem c13_i : c13.li 0 = [0] ∧ c13.li 1 = [0] ∧ c13.li 2 = [] ∧ c13.li 3 = [0] ∧ c13.li 4 = [0, 3] ∧ c13.li 5 = [3, 14] ∧ c13.li 6 = [3, 14] ∧ c13.li 7 = [3, 5, 14] ∧ c13.li 8 = [3, 14, 20] ∧ c13.li 9 = [3, 14, 20] ∧ c13.li 10 = [3, 6, 14, 20] ∧ c13.li 11 = [3] := ⟨rfl, rfl, rfl, rfl, rfl, rfl, rfl, rfl, rfl, rfl, rfl, rfl⟩
@[go_sem] theorem c13_r0 (v0 : Option Addr) : RP c13 0 [(0, v0)] K =
 (K [(0, v0)]) := by kernel_rfl
@[go_sem] theorem c13_r1 (v0 : Option Addr) : RP c13 1 [(0, v0)] K =
 (cal eB Try.prog 15 #[v0] fun (y1_ : Bool) => (K [(0, v0), (8, y1_)])) := by kernel_rfl
@[go_sem] theorem c13_r2 : RP c13 2 [] K =
 (K [(2, .slice none 0 0)]) := by kernel_rfl
@[go_sem] theorem c13_r3 (v0 : Option Addr) : RP c13 3 [(0, v0)] K =
 (nwb (.map #[] 0) fun y1_ => (K [(0, v0), (3, .map (some y1_))])) := by kernel_rfl
@[go_sem] theorem c13_r4 (v0 : Option Addr) (v3 : Option Nat) : RP c13 4 [(0, v0), (3, .map v3)] K =
 (nn v0 fun y1_ => (ld eM y1_ fun (y2_ : Option Nat) => (val eP Try.prog (oRange 42 (.map y2_)) fun (y3_ : Option Addr) => (K [(3, .map v3), (14, y3_)])))) := by kernel_rfl
@[go_sem] theorem c13_r5 (v3 : Option Nat) (v14 : Option Addr) : RP c13 5 [(3, .map v3), (14, v14)] K =
 (nxt (eT3 eB eI eM) Try.prog (oNext (v14) false 0) (K [(3, .map v3), (14, v14), (16, false)]) fun (y1_ : (Bool × Int × (Option Nat))) => (K [(3, .map v3), (14, v14), (16, y1_.1)])) := by kernel_rfl
@[go_sem] theorem c13_r6 (v3 : Option Nat) (v14 : Option Addr) : RP c13 6 [(3, .map v3), (14, v14)] K =
 (val (eT2 eI eM) Try.prog (oEntry (v14)) fun (y1_ : (Int × (Option Nat))) => (K [(3, .map v3), (5, .map y1_.2), (14, v14)])) := by kernel_rfl
@[go_sem] theorem c13_r7 (v3 v5 : Option Nat) (v14 : Option Addr) : RP c13 7 [(3, .map v3), (5, .map v5), (14, v14)] K =
 (val eP Try.prog (oRange 56 (.map v5)) fun (y1_ : Option Addr) => (K [(3, .map v3), (14, v14), (20, y1_)])) := by kernel_rfl
@[go_sem] theorem c13_r8 (v3 : Option Nat) (v14 v20 : Option Addr) : RP c13 8 [(3, .map v3), (14, v14), (20, v20)] K =
 (nxt (eT3 eB eS e_past_Was) Try.prog (oNext (v20) false 0) (K [(3, .map v3), (14, v14), (20, v20), (22, false)]) fun (y1_ : (Bool × (List UInt8) × past_Was)) => (K [(3, .map v3), (14, v14), (20, v20), (22, y1_.1)])) := by kernel_rfl
@[go_sem] theorem c13_r9 (v3 : Option Nat) (v14 v20 : Option Addr) : RP c13 9 [(3, .map v3), (14, v14), (20, v20)] K =
 (val (eT2 eS e_past_Was) Try.prog (oEntry (v20)) fun (y1_ : ((List UInt8) × past_Was)) => (K [(3, .map v3), (6, str y1_.1), (14, v14), (20, v20)])) := by kernel_rfl
@[go_sem] theorem c13_r10 (v3 : Option Nat) (v6 : List UInt8) (v14 v20 : Option Addr) : RP c13 10 [(3, .map v3), (6, str v6), (14, v14), (20, v20)] K =
 (unt Try.prog (oMapUpdate 69 (.map v3) (str v6) (true)) (K [(3, .map v3), (14, v14), (20, v20)])) := by kernel_rfl
@[go_sem] theorem c13_r11 (v3 : Option Nat) : RP c13 11 [(3, .map v3)] K =
 (cal eV Try.prog 29 #[.map v3] fun (y1_ : Value) => (cal eSl Try.prog 28 #[y1_] fun (y2_ : (Option Addr × Nat × Nat)) => (K [(2, .slice y2_.1 y2_.2.1 y2_.2.2)]))) := by kernel_rfl
@[go_sem] theorem c13_o : c13.lo 1000000 = [2] := rfl
@[go_sem] theorem c13_e (v2p : Option Addr) (v2n v2c : Nat) : RTp c13 [(2, .slice v2p v2n v2c)] k = (k (.slice v2p v2n v2c)) := by kernel_rfl
theorem c13_ok : (c13.P.follows .mixedOrders && okc c13 c13.body) = true := by kernel_rfl
theorem c13_fn (hρ : envA 0 args.toList = ρ) (hs : Nat.ble args.size 30 = true) (h : E L (D c13 (.seq (.reg 0) (.seq (.seq (.reg 1) (.cond (.tmp 8) (.seq (.reg 2) (.ret)) (.skip))) (.seq (.reg 3) (.seq (.seq (.reg 4) (.block 0 (.loop (.seq (.reg 5) (.seq (.cond (.tmp 16) (.skip) (.exit 0)) (.block 1 (.seq (.reg 6) (.seq (.reg 7) (.block 2 (.loop (.seq (.reg 8) (.seq (.cond (.tmp 22) (.skip) (.exit 2)) (.block 3 (.seq (.reg 9) (.reg 10))))))))))))))) (.seq (.reg 11) (.ret)))))) (fnQ c13 e G) ρ)) : E L (cal e Try.prog 13 args G) :=
  d_fn (c := c13) Try.func13 (by kernel_rfl) (by kernel_rfl) (by kernel_rfl) c13_ok (by kernel_rfl) (by kernel_rfl) hρ hs h
noncomputable def c14 := cf Try.f14 22 [(0, [0]), (1, [0]), (2, []), (3, [0]), (4, [0, 3]), (5, [3, 12]), (6, [3, 12]), (7, [3, 5, 12]), (8, [3])] [(0, [0]), (1, [0, 7]), (2, [2]), (3, [0, 3]), (4, [3, 12]), (5, [3, 12, 14]), (6, [3, 5, 12]), (7, [3, 12]), (8, [2]), (1000000, [2])] [] [(12, eP), (13, (eT3 eB eI eM)), (15, (eT2 eI eM))]
@[go_sem] theorem c14_i : c14.li 0 = [0] ∧ c14.li 1 = [0] ∧ c14.li 2 = [] ∧ c14.li 3 = [0] ∧ c14.li 4 = [0, 3] ∧ c14.li 5 = [3, 12] ∧ c14.li 6 = [3, 12] ∧ c14.li 7 = [3, 5, 12] ∧ c14.li 8 = [3] := ⟨rfl, rfl, rfl, rfl, rfl, rfl, rfl, rfl, rfl⟩
@[go_sem] theorem c14_r0 (v0 : Option Addr) : RP c14 0 [(0, v0)] K =
 (K [(0, v0)]) := by kernel_rfl
@[go_sem] theorem c14_r1 (v0 : Option Addr) : RP c14 1 [(0, v0)] K =
 (cal eB Try.prog 15 #[v0] fun (y1_ : Bool) => (K [(0, v0), (7, y1_)])) := by kernel_rfl
@[go_sem] theorem c14_r2 : RP c14 2 [] K =
 (K [(2, .int .i64 0)]) := by kernel_rfl
@[go_sem] theorem c14_r3 (v0 : Option Addr) : RP c14 3 [(0, v0)] K =
 (K [(0, v0), (3, .int .i64 0)]) := by kernel_rfl
@[go_sem] theorem c14_r4 (v0 : Option Addr) (v3 : Int) : RP c14 4 [(0, v0), (3, v3)] K =
 (nn v0 fun y1_ => (ld eM y1_ fun (y2_ : Option Nat) => (val eP Try.prog (oRange 42 (.map y2_)) fun (y3_ : Option Addr) => (K [(3, v3), (12, y3_)])))) := by kernel_rfl
@[go_sem] theorem c14_r5 (v3 : Int) (v12 : Option Addr) : RP c14 5 [(3, v3), (12, v12)] K =
 (nxt (eT3 eB eI eM) Try.prog (oNext (v12) false 0) (K [(3, v3), (12, v12), (14, false)]) fun (y1_ : (Bool × Int × (Option Nat))) => (K [(3, v3), (12, v12), (14, y1_.1)])) := by kernel_rfl
@[go_sem] theorem c14_r6 (v3 : Int) (v12 : Option Addr) : RP c14 6 [(3, v3), (12, v12)] K =
 (val (eT2 eI eM) Try.prog (oEntry (v12)) fun (y1_ : (Int × (Option Nat))) => (K [(3, v3), (5, .map y1_.2), (12, v12)])) := by kernel_rfl
@[go_sem] theorem c14_r7 (v3 : Int) (v5 : Option Nat) (v12 : Option Addr) : RP c14 7 [(3, v3), (5, .map v5), (12, v12)] K =
 (val eI Try.prog (oB_len #[56] 3 #[.map v5]) fun (y1_ : Int) => (K [(3, IntKind.wrap .i64 (v3 + y1_)), (12, v12)])) := by kernel_rfl
@[go_sem] theorem c14_r8 (v3 : Int) : RP c14 8 [(3, v3)] K =
 (K [(2, v3)]) := by kernel_rfl
@[go_sem] theorem c14_o : c14.lo 1000000 = [2] := rfl
@[go_sem] theorem c14_e (v2 : Int) : RTp c14 [(2, v2)] k = (k (v2)) := by kernel_rfl
theorem c14_ok : (c14.P.follows .mixedOrders && okc c14 c14.body) = true := by kernel_rfl
theorem c14_fn (hρ : envA 0 args.toList = ρ) (hs : Nat.ble args.size 22 = true) (h : E L (D c14 (.seq (.reg 0) (.seq (.seq (.reg 1) (.cond (.tmp 7) (.seq (.reg 2) (.ret)) (.skip))) (.seq (.reg 3) (.seq (.seq (.reg 4) (.block 0 (.loop (.seq (.reg 5) (.seq (.cond (.tmp 14) (.skip) (.exit 0)) (.block 1 (.seq (.reg 6) (.reg 7)))))))) (.seq (.reg 8) (.ret)))))) (fnQ c14 e G) ρ)) : E L (cal e Try.prog 14 args G) :=
  d_fn (c := c14) Try.func14 (by kernel_rfl) (by kernel_rfl) (by kernel_rfl) c14_ok (by kernel_rfl) (by kernel_rfl) hρ hs h
noncomputable def c15 := cf Try.f15 12 [(0, [0]), (1, [0])] [(0, [0]), (1, [2]), (1000000, [2])] [] []
@[go_sem] theorem c15_i : c15.li 0 = [0] ∧ c15.li 1 = [0] := ⟨rfl, rfl⟩
@[go_sem] theorem c15_r0 (v0 : Option Addr) : RP c15 0 [(0, v0)] K =
 (K [(0, v0)]) := by kernel_rfl
@[go_sem] theorem c15_r1 (v0 : Option Addr) : RP c15 1 [(0, v0)] K =
 (cnd (v0.isNone) (K [(2, true)]) (nn v0 fun y1_ => (ld eM y1_ fun (y2_ : Option Nat) => (K [(2, .bool (y2_.isNone))])))) := by kernel_rfl
@[go_sem] theorem c15_o : c15.lo 1000000 = [2] := rfl
@[go_sem] theorem c15_e (v2 : Bool) : RTp c15 [(2, v2)] k = (k (v2)) := by kernel_rfl
theorem c15_ok : (c15.P.follows .mixedOrders && okc c15 c15.body) = true := by kernel_rfl
theorem c15_fn (hρ : envA 0 args.toList = ρ) (hs : Nat.ble args.size 12 = true) (h : E L (D c15 (.seq (.reg 0) (.seq (.reg 1) (.ret))) (fnQ c15 e G) ρ)) : E L (cal e Try.prog 15 args G) :=
  d_fn (c := c15) Try.func15 (by kernel_rfl) (by kernel_rfl) (by kernel_rfl) c15_ok (by kernel_rfl) (by kernel_rfl) hρ hs h
noncomputable def c18 := cf Try.f18 16 [(0, [0]), (1, [1, 2]), (2, [1, 2, 5]), (3, [2]), (4, [1, 2, 5]), (5, [1, 2, 5]), (6, [1, 2]), (7, [2])] [(0, [1, 2]), (1, [1, 2, 5]), (2, [1, 2, 5, 6]), (3, [2, 3]), (4, [1, 2, 5, 9]), (5, [1, 2, 9]), (6, [2, 3]), (7, [2, 3]), (1000000, [2, 3])] [] []
@[go_sem] theorem c18_i : c18.li 0 = [0] ∧ c18.li 1 = [1, 2] ∧ c18.li 2 = [1, 2, 5] ∧ c18.li 3 = [2] ∧ c18.li 4 = [1, 2, 5] ∧ c18.li 5 = [1, 2, 5] ∧ c18.li 6 = [1, 2] ∧ c18.li 7 = [2] := ⟨rfl, rfl, rfl, rfl, rfl, rfl, rfl, rfl⟩
@[go_sem] theorem c18_r0 (v0 : api_Rec) : RP c18 0 [(0, v_api_Rec v0)] K =
 (nwc #[v0.Kind, v0.Txn, v0.Prev, v0.Page, v0.Act, str v0.Key, str v0.Old, str v0.New, v0.Next, .slice v0.Images.1 v0.Images.2.1 v0.Images.2.2, .slice v0.Table.1 v0.Table.2.1 v0.Table.2.2, v0.Epoch, v0.Node] 29 fun y1_ => (nwc #[str ([] : List UInt8), false] 31 fun y2_ => (K [(1, y1_), (2, y2_)]))) := by kernel_rfl
@[go_sem] theorem c18_r1 (v1 v2 : Addr) : RP c18 1 [(1, v1), (2, v2)] K =
 (ld eI v1 fun (y1_ : Int) => (K [(1, v1), (2, v2), (5, y1_)])) := by kernel_rfl
@[go_sem] theorem c18_r2 (v1 v2 : Addr) (v5 : Int) : RP c18 2 [(1, v1), (2, v2), (5, v5)] K =
 (K [(1, v1), (2, v2), (5, v5), (6, .bool (v5 == 3))]) := by kernel_rfl
@[go_sem] theorem c18_r3 (v2 : Addr) : RP c18 3 [(2, v2)] K =
 (stl [str ((⟨([] : List UInt8), false⟩ : past_Was).Val), .bool ((⟨([] : List UInt8), false⟩ : past_Was).Is)] v2 0 (K [(2, v2), (3, true)])) := by kernel_rfl
@[go_sem] theorem c18_r4 (v1 v2 : Addr) (v5 : Int) : RP c18 4 [(1, v1), (2, v2), (5, v5)] K =
 (K [(1, v1), (2, v2), (5, v5), (9, .bool (v5 == 4))]) := by kernel_rfl
@[go_sem] theorem c18_r5 (v1 v2 : Addr) (v5 : Int) : RP c18 5 [(1, v1), (2, v2), (5, v5)] K =
 (K [(1, v1), (2, v2), (9, .bool (v5 == 5))]) := by kernel_rfl
@[go_sem] theorem c18_r6 (v1 v2 : Addr) : RP c18 6 [(1, v1), (2, v2)] K =
 (ld eS (v1.add 6) fun (y1_ : List UInt8) => (stl [str ((⟨y1_, true⟩ : past_Was).Val), .bool ((⟨y1_, true⟩ : past_Was).Is)] v2 0 (K [(2, v2), (3, true)]))) := by kernel_rfl
@[go_sem] theorem c18_r7 (v2 : Addr) : RP c18 7 [(2, v2)] K =
 (stl [str ((⟨([] : List UInt8), false⟩ : past_Was).Val), .bool ((⟨([] : List UInt8), false⟩ : past_Was).Is)] v2 0 (K [(2, v2), (3, false)])) := by kernel_rfl
@[go_sem] theorem c18_o : c18.lo 1000000 = [2, 3] := rfl
@[go_sem] theorem c18_e (v2 : Addr) (v3 : Bool) : RTp c18 [(2, v2), (3, v3)] k = (ldn e_past_Was 2 v2 fun (y1_ : past_Was) => (k (.tuple #[v_past_Was y1_, v3]))) := by kernel_rfl
theorem c18_ok : (c18.P.follows .mixedOrders && okc c18 c18.body) = true := by kernel_rfl
theorem c18_fn (hρ : envA 0 args.toList = ρ) (hs : Nat.ble args.size 16 = true) (h : E L (D c18 (.seq (.reg 0) (.seq (.seq (.reg 1) (.block 0 (.seq (.reg 2) (.cond (.tmp 6) (.seq (.reg 3) (.ret)) (.seq (.seq (.reg 4) (.cond (.tmp 9) (.skip) (.reg 5))) (.cond (.tmp 9) (.seq (.reg 6) (.ret)) (.skip))))))) (.seq (.reg 7) (.ret)))) (fnQ c18 e G) ρ)) : E L (cal e Try.prog 18 args G) :=
  d_fn (c := c18) Try.func18 (by kernel_rfl) (by kernel_rfl) (by kernel_rfl) c18_ok (by kernel_rfl) (by kernel_rfl) hρ hs h
noncomputable def c21 := cf Try.f21 14 [(0, [0, 1]), (1, [1, 2]), (2, [5])] [(0, [1, 2]), (1, [5]), (2, [3]), (1000000, [3])] [] []
@[go_sem] theorem c21_i : c21.li 0 = [0, 1] ∧ c21.li 1 = [1, 2] ∧ c21.li 2 = [5] := ⟨rfl, rfl, rfl⟩
@[go_sem] theorem c21_r0 (v0 : api_Cell) (v1 : Addr) : RP c21 0 [(0, v_api_Cell v0), (1, v1)] K =
 (nwc #[str v0.Key, str v0.Val] 39 fun y1_ => (K [(1, v1), (2, y1_)])) := by kernel_rfl
@[go_sem] theorem c21_r1 (v1 v2 : Addr) : RP c21 1 [(1, v1), (2, v2)] K =
 (ld eP v1 fun (y1_ : Option Addr) => (ld eS v2 fun (y2_ : List UInt8) => (cal (eT2 e_past_Was eB) Try.prog 6 #[y1_, str y2_] fun (y3_ : (past_Was × Bool)) => (nwc #[str ([] : List UInt8), false] 31 fun y4_ => (stl [str y3_.1.Val, .bool y3_.1.Is] y4_ 0 (K [(5, y3_.2)])))))) := by kernel_rfl
@[go_sem] theorem c21_r2 (v5 : Bool) : RP c21 2 [(5, v5)] K =
 (K [(3, v5)]) := by kernel_rfl
@[go_sem] theorem c21_o : c21.lo 1000000 = [3] := rfl
@[go_sem] theorem c21_e (v3 : Bool) : RTp c21 [(3, v3)] k = (k (v3)) := by kernel_rfl
theorem c21_ok : (c21.P.follows .mixedOrders && okc c21 c21.body) = true := by kernel_rfl
theorem c21_fn (hρ : envA 0 args.toList = ρ) (hs : Nat.ble args.size 14 = true) (h : E L (D c21 (.seq (.reg 0) (.seq (.reg 1) (.seq (.reg 2) (.ret)))) (fnQ c21 e G) ρ)) : E L (cal e Try.prog 21 args G) :=
  d_fn (c := c21) Try.func21 (by kernel_rfl) (by kernel_rfl) (by kernel_rfl) c21_ok (by kernel_rfl) (by kernel_rfl) hρ hs h
noncomputable def c22 := cf Try.f22 19 [(0, [0, 1, 2]), (1, [0, 1, 2])] [(0, [0, 1, 2]), (1, [6]), (1000000, [6])] [] []
@[go_sem] theorem c22_i : c22.li 0 = [0, 1, 2] ∧ c22.li 1 = [0, 1, 2] := ⟨rfl, rfl⟩
@[go_sem] theorem c22_r0 (v0 v1 v2 : List UInt8) : RP c22 0 [(0, str v0), (1, str v1), (2, str v2)] K =
 (K [(0, str v0), (1, str v1), (2, str v2)]) := by kernel_rfl
@[go_sem] theorem c22_r1 (v0 v1 v2 : List UInt8) : RP c22 1 [(0, str v0), (1, str v1), (2, str v2)] K =
 (cnd (!(Op.bytesLess v0 v1)) (cnd (v2 == ([] : List UInt8)) (K [(6, true)]) (K [(6, .bool (Op.bytesLess v0 v2 || v0 == v2))])) (K [(6, false)])) := by kernel_rfl
@[go_sem] theorem c22_o : c22.lo 1000000 = [6] := rfl
@[go_sem] theorem c22_e (v6 : Bool) : RTp c22 [(6, v6)] k = (k (v6)) := by kernel_rfl
theorem c22_ok : (c22.P.follows .mixedOrders && okc c22 c22.body) = true := by kernel_rfl
theorem c22_fn (hρ : envA 0 args.toList = ρ) (hs : Nat.ble args.size 19 = true) (h : E L (D c22 (.seq (.reg 0) (.seq (.reg 1) (.ret))) (fnQ c22 e G) ρ)) : E L (cal e Try.prog 22 args G) :=
  d_fn (c := c22) Try.func22 (by kernel_rfl) (by kernel_rfl) (by kernel_rfl) c22_ok (by kernel_rfl) (by kernel_rfl) hρ hs h
end Go.Sp
namespace Go.Sp
open Go
set_option maxRecDepth 100000
set_option linter.unusedVariables false
open Go.Proofs
variable (K : Env → W) (k : Value → W) {e : Enc} {args : Array Value} {G : e.α → W} {L : List HP} {ρ : Env}
attribute [local instance] cI cB cP cA
noncomputable def c8 := cf Try.f8 22 [(0, [0]), (1, [0]), (2, [0, 3]), (3, [0, 3]), (4, [0, 3]), (5, []), (6, [])] [(0, [0]), (1, [0, 3]), (2, [0, 3, 7]), (3, [0, 3]), (4, [0, 3, 21]), (5, [2]), (6, [2]), (1000000, [2])] [(4, (true, [(0, 1), (1, 1), (2, 1), (3, 1), (4, 1), (5, 0), (6, 1), (7, 1), (8, 1), (9, 1), (10, 0), (11, 1)]))] []
@[go_sem] theorem c8_i : c8.li 0 = [0] ∧ c8.li 1 = [0] ∧ c8.li 2 = [0, 3] ∧ c8.li 3 = [0, 3] ∧ c8.li 4 = [0, 3] ∧ c8.li 5 = [] ∧ c8.li 6 = [] := ⟨rfl, rfl, rfl, rfl, rfl, rfl, rfl⟩
@[go_sem] theorem c8_r0 (v0p : Option Addr) (v0n v0c : Nat) : RP c8 0 [(0, .slice v0p v0n v0c)] K =
 (K [(0, .slice v0p v0n v0c)]) := by kernel_rfl
@[go_sem] theorem c8_r1 (v0p : Option Addr) (v0n v0c : Nat) : RP c8 1 [(0, .slice v0p v0n v0c)] K =
 (K [(0, .slice v0p v0n v0c), (3, .int .i64 1)]) := by kernel_rfl
@[go_sem] theorem c8_r2 (v0p : Option Addr) (v0n v0c : Nat) (v3 : Int) : RP c8 2 [(0, .slice v0p v0n v0c), (3, v3)] K =
 (K [(0, .slice v0p v0n v0c), (3, v3), (7, decide (v3 < v0n))]) := by kernel_rfl
@[go_sem] theorem c8_r3 (v0p : Option Addr) (v0n v0c : Nat) (v3 : Int) : RP c8 3 [(0, .slice v0p v0n v0c), (3, v3)] K =
 (K [(0, .slice v0p v0n v0c), (3, IntKind.wrap .i64 (v3 + 1))]) := by kernel_rfl
@[go_sem] theorem c8_r4 (v0p : Option Addr) (v0n v0c : Nat) (v3 : Int) : RP c8 4 [(0, .slice v0p v0n v0c), (3, v3)] K =
 (ph fun S0 => (rq (0 ≤ (IntKind.wrap .i64 (v3 - 1)) ∧ (IntKind.wrap .i64 (v3 - 1)) < (v0n : Int)) (nn v0p fun y1_ => (ldq S0 eS (Addr.add y1_ ((IntKind.wrap .i64 (v3 - 1)).toNat * 2)) fun (y2_ : List UInt8) => (rq (0 ≤ v3 ∧ v3 < v0n) (nn v0p fun y3_ => (ldq S0 eS (Addr.add y3_ (v3.toNat * 2)) fun (y4_ : List UInt8) => (K [(0, .slice v0p v0n v0c), (3, v3), (21, .bool (!(Op.bytesLess y2_ y4_)))])))))))) := by kernel_rfl
@[go_sem] theorem c8_r5 : RP c8 5 [] K =
 (K [(2, false)]) := by kernel_rfl
@[go_sem] theorem c8_r6 : RP c8 6 [] K =
 (K [(2, true)]) := by kernel_rfl
@[go_sem] theorem c8_o : c8.lo 1000000 = [2] := rfl
@[go_sem] theorem c8_e (v2 : Bool) : RTp c8 [(2, v2)] k = (k (v2)) := by kernel_rfl
theorem c8_ok : (c8.P.follows .mixedOrders && okc c8 c8.body) = true := by kernel_rfl
theorem c8_fn (hρ : envA 0 args.toList = ρ) (hs : Nat.ble args.size 22 = true) (h : E L (D c8 (.seq (.reg 0) (.seq (.seq (.reg 1) (.block 0 (.loop (.seq (.seq (.reg 2) (.cond (.tmp 7) (.skip) (.exit 0))) (.seq (.block 1 (.seq (.reg 4) (.cond (.tmp 21) (.seq (.reg 5) (.ret)) (.skip)))) (.reg 3)))))) (.seq (.reg 6) (.ret)))) (fnQ c8 e G) ρ)) : E L (cal e Try.prog 8 args G) :=
  d_fn (c := c8) Try.func8 (by kernel_rfl) (by kernel_rfl) (by kernel_rfl) c8_ok (by kernel_rfl) (by kernel_rfl) hρ hs h
noncomputable def c9 := cf Try.f9 36 [(0, []), (1, []), (2, [1]), (3, [1]), (4, [1, 2, 3]), (5, []), (6, [1]), (7, [1]), (8, [5])] [(0, []), (1, [1]), (2, [1]), (3, [1, 2, 3]), (4, [1, 25]), (5, [0]), (6, [1]), (7, [5]), (8, [0]), (1000000, [0])] [] []
@[go_sem] theorem c9_i : c9.li 0 = [] ∧ c9.li 1 = [] ∧ c9.li 2 = [1] ∧ c9.li 3 = [1] ∧ c9.li 4 = [1, 2, 3] ∧ c9.li 5 = [] ∧ c9.li 6 = [1] ∧ c9.li 7 = [1] ∧ c9.li 8 = [5] := ⟨rfl, rfl, rfl, rfl, rfl, rfl, rfl, rfl, rfl⟩
@[go_sem] theorem c9_r0 : RP c9 0 [] K =
 (K []) := by kernel_rfl
@[go_sem] theorem c9_r1 : RP c9 1 [] K =
 (cal eP Try.prog 5 #[] fun (y1_ : Option Addr) => (K [(1, y1_)])) := by kernel_rfl
@[go_sem] theorem c9_r2 (v1 : Option Addr) : RP c9 2 [(1, v1)] K =
 (cal eN Try.prog 7 #[v1, v_api_Rec (⟨(3 : Int), (5 : Int), (0 : Int), (0 : Int), (0 : Int), ([97] : List UInt8), ([] : List UInt8), ([49] : List UInt8), (0 : Int), (none, 0, 0), (none, 0, 0), (0 : Int), (0 : Int)⟩ : api_Rec), .int .i64 3] fun (y1_ : Unit) => (K [(1, v1)])) := by kernel_rfl
@[go_sem] theorem c9_r3 (v1 : Option Addr) : RP c9 3 [(1, v1)] K =
 (cal (eT2 e_past_Was eB) Try.prog 6 #[v1, str ([97] : List UInt8)] fun (y1_ : (past_Was × Bool)) => (nwc #[str ([] : List UInt8), false] 31 fun y2_ => (stl [str y1_.1.Val, .bool y1_.1.Is] y2_ 0 (K [(1, v1), (2, y2_), (3, y1_.2)])))) := by kernel_rfl
@[go_sem] theorem c9_r4 (v1 : Option Addr) (v2 : Addr) (v3 : Bool) : RP c9 4 [(1, v1), (2, v2), (3, v3)] K =
 (cnd (!v3) (K [(1, v1), (25, true)]) (ld eB (v2.add 1) fun (y1_ : Bool) => (cnd y1_ (K [(1, v1), (25, true)]) (cal eI Try.prog 14 #[v1] fun (y2_ : Int) => (K [(1, v1), (25, .bool (y2_ != 1))]))))) := by kernel_rfl
@[go_sem] theorem c9_r5 : RP c9 5 [] K =
 (K [(0, false)]) := by kernel_rfl
@[go_sem] theorem c9_r6 (v1 : Option Addr) : RP c9 6 [(1, v1)] K =
 (cal eN Try.prog 7 #[v1, v_api_Rec (⟨(7 : Int), (5 : Int), (0 : Int), (0 : Int), (0 : Int), ([] : List UInt8), ([] : List UInt8), ([] : List UInt8), (0 : Int), (none, 0, 0), (none, 0, 0), (0 : Int), (0 : Int)⟩ : api_Rec), .int .i64 9] fun (y1_ : Unit) => (K [(1, v1)])) := by kernel_rfl
@[go_sem] theorem c9_r7 (v1 : Option Addr) : RP c9 7 [(1, v1)] K =
 (cal (eT2 e_past_Was eB) Try.prog 6 #[v1, str ([97] : List UInt8)] fun (y1_ : (past_Was × Bool)) => (nwc #[str ([] : List UInt8), false] 31 fun y2_ => (stl [str y1_.1.Val, .bool y1_.1.Is] y2_ 0 (K [(5, y1_.2)])))) := by kernel_rfl
@[go_sem] theorem c9_r8 (v5 : Bool) : RP c9 8 [(5, v5)] K =
 (K [(0, .bool (!v5))]) := by kernel_rfl
@[go_sem] theorem c9_o : c9.lo 1000000 = [0] := rfl
@[go_sem] theorem c9_e (v0 : Bool) : RTp c9 [(0, v0)] k = (k (v0)) := by kernel_rfl
theorem c9_ok : (c9.P.follows .mixedOrders && okc c9 c9.body) = true := by kernel_rfl
theorem c9_fn (hρ : envA 0 args.toList = ρ) (hs : Nat.ble args.size 36 = true) (h : E L (D c9 (.seq (.reg 0) (.seq (.reg 1) (.seq (.reg 2) (.seq (.reg 3) (.seq (.seq (.reg 4) (.cond (.tmp 25) (.seq (.reg 5) (.ret)) (.skip))) (.seq (.reg 6) (.seq (.reg 7) (.seq (.reg 8) (.ret))))))))) (fnQ c9 e G) ρ)) : E L (cal e Try.prog 9 args G) :=
  d_fn (c := c9) Try.func9 (by kernel_rfl) (by kernel_rfl) (by kernel_rfl) c9_ok (by kernel_rfl) (by kernel_rfl) hρ hs h
noncomputable def c10 := cf Try.f10 58 [(0, [0, 1, 2, 3, 4]), (1, [1, 2, 3, 4, 5]), (2, [2, 3, 4, 5, 11]), (3, [2, 3, 4, 5, 11, 21, 22, 23]), (4, [2, 3, 4, 5, 11, 21, 22, 23]), (5, [2, 3, 4, 5, 11, 13, 21, 22, 23]), (6, [2, 3, 4, 5, 11, 13, 14, 21, 22, 23]), (7, [2, 3, 4, 5, 11, 13, 14, 21, 22, 23]), (8, [2, 3, 4, 5, 11, 21, 22, 23]), (9, [4, 11]), (10, [4, 11])] [(0, [1, 2, 3, 4, 5]), (1, [2, 3, 4, 5, 11]), (2, [2, 3, 4, 5, 11, 21, 22, 23]), (3, [2, 3, 4, 5, 11, 21, 22, 23, 24]), (4, [2, 3, 4, 5, 11, 13, 21, 22, 23]), (5, [2, 3, 4, 5, 11, 13, 14, 21, 22, 23]), (6, [2, 3, 4, 5, 11, 13, 14, 21, 22, 23, 40]), (7, [2, 3, 4, 5, 11, 21, 22, 23]), (8, [2, 3, 4, 5, 11, 21, 22, 23]), (9, [4, 11]), (10, [10]), (1000000, [10])] [] []
@[go_sem] theorem c10_i : c10.li 0 = [0, 1, 2, 3, 4] ∧ c10.li 1 = [1, 2, 3, 4, 5] ∧ c10.li 2 = [2, 3, 4, 5, 11] ∧ c10.li 3 = [2, 3, 4, 5, 11, 21, 22, 23] ∧ c10.li 4 = [2, 3, 4, 5, 11, 21, 22, 23] ∧ c10.li 5 = [2, 3, 4, 5, 11, 13, 21, 22, 23] ∧ c10.li 6 = [2, 3, 4, 5, 11, 13, 14, 21, 22, 23] ∧ c10.li 7 = [2, 3, 4, 5, 11, 13, 14, 21, 22, 23] ∧ c10.li 8 = [2, 3, 4, 5, 11, 21, 22, 23] ∧ c10.li 9 = [4, 11] ∧ c10.li 10 = [4, 11] := ⟨rfl, rfl, rfl, rfl, rfl, rfl, rfl, rfl, rfl, rfl, rfl⟩
@[go_sem] theorem c10_r0 (v0 v1p : Option Addr) (v1n v1c : Nat) (v2 v3 : List UInt8) (v4 : Int) : RP c10 0 [(0, v0), (1, .slice v1p v1n v1c), (2, str v2), (3, str v3), (4, v4)] K =
 (nwc #[v0] 24 fun y1_ => (K [(1, .slice v1p v1n v1c), (2, str v2), (3, str v3), (4, v4), (5, y1_)])) := by kernel_rfl
@[go_sem] theorem c10_r1 (v1p : Option Addr) (v1n v1c : Nat) (v2 v3 : List UInt8) (v4 : Int) (v5 : Addr) : RP c10 1 [(1, .slice v1p v1n v1c), (2, str v2), (3, str v3), (4, v4), (5, v5)] K =
 (cal eSl Try.prog 20 #[.slice v1p v1n v1c] fun (y1_ : (Option Addr × Nat × Nat)) => (cal eSl Try.prog 19 #[.slice y1_.1 y1_.2.1 y1_.2.2, .func (.func 21) #[] #[v5]] fun (y2_ : (Option Addr × Nat × Nat)) => (K [(2, str v2), (3, str v3), (4, v4), (5, v5), (11, .slice y2_.1 y2_.2.1 y2_.2.2)]))) := by kernel_rfl
@[go_sem] theorem c10_r2 (v2 v3 : List UInt8) (v4 : Int) (v5 : Addr) (v11p : Option Addr) (v11n v11c : Nat) : RP c10 2 [(2, str v2), (3, str v3), (4, v4), (5, v5), (11, .slice v11p v11n v11c)] K =
 (ld eP v5 fun (y1_ : Option Addr) => (cal eSl Try.prog 13 #[y1_] fun (y2_ : (Option Addr × Nat × Nat)) => (K [(2, str v2), (3, str v3), (4, v4), (5, v5), (11, .slice v11p v11n v11c), (21, .slice y2_.1 y2_.2.1 y2_.2.2), (22, .int .i64 (y2_.2.1 : Int)), (23, .int .i64 0)]))) := by kernel_rfl
@[go_sem] theorem c10_r3 (v2 v3 : List UInt8) (v4 : Int) (v5 : Addr) (v11p : Option Addr) (v11n v11c : Nat) (v21p : Option Addr) (v21n v21c : Nat) (v22 v23 : Int) : RP c10 3 [(2, str v2), (3, str v3), (4, v4), (5, v5), (11, .slice v11p v11n v11c), (21, .slice v21p v21n v21c), (22, v22), (23, v23)] K =
 (K [(2, str v2), (3, str v3), (4, v4), (5, v5), (11, .slice v11p v11n v11c), (21, .slice v21p v21n v21c), (22, v22), (23, v23), (24, decide (v23 < v22))]) := by kernel_rfl
@[go_sem] theorem c10_r4 (v2 v3 : List UInt8) (v4 : Int) (v5 : Addr) (v11p : Option Addr) (v11n v11c : Nat) (v21p : Option Addr) (v21n v21c : Nat) (v22 v23 : Int) : RP c10 4 [(2, str v2), (3, str v3), (4, v4), (5, v5), (11, .slice v11p v11n v11c), (21, .slice v21p v21n v21c), (22, v22), (23, v23)] K =
 (rq (0 ≤ v23 ∧ v23 < v21n) (nn v21p fun y1_ => (ld eS (Addr.add y1_ (v23.toNat * 1)) fun (y2_ : List UInt8) => (K [(2, str v2), (3, str v3), (4, v4), (5, v5), (11, .slice v11p v11n v11c), (13, str y2_), (21, .slice v21p v21n v21c), (22, v22), (23, v23)])))) := by kernel_rfl
@[go_sem] theorem c10_r5 (v2 v3 : List UInt8) (v4 : Int) (v5 : Addr) (v11p : Option Addr) (v11n v11c : Nat) (v13 : List UInt8) (v21p : Option Addr) (v21n v21c : Nat) (v22 v23 : Int) : RP c10 5 [(2, str v2), (3, str v3), (4, v4), (5, v5), (11, .slice v11p v11n v11c), (13, str v13), (21, .slice v21p v21n v21c), (22, v22), (23, v23)] K =
 (ld eP v5 fun (y1_ : Option Addr) => (cal (eT2 e_past_Was eB) Try.prog 6 #[y1_, str v13] fun (y2_ : (past_Was × Bool)) => (nwc #[str ([] : List UInt8), false] 31 fun y3_ => (stl [str y2_.1.Val, .bool y2_.1.Is] y3_ 0 (K [(2, str v2), (3, str v3), (4, v4), (5, v5), (11, .slice v11p v11n v11c), (13, str v13), (14, y3_), (21, .slice v21p v21n v21c), (22, v22), (23, v23)]))))) := by kernel_rfl
@[go_sem] theorem c10_r6 (v2 v3 : List UInt8) (v4 : Int) (v5 : Addr) (v11p : Option Addr) (v11n v11c : Nat) (v13 : List UInt8) (v14 : Addr) (v21p : Option Addr) (v21n v21c : Nat) (v22 v23 : Int) : RP c10 6 [(2, str v2), (3, str v3), (4, v4), (5, v5), (11, .slice v11p v11n v11c), (13, str v13), (14, v14), (21, .slice v21p v21n v21c), (22, v22), (23, v23)] K =
 (ld eB (v14.add 1) fun (y1_ : Bool) => (cnd y1_ (cal eB Try.prog 22 #[str v13, str v2, str v3] fun (y2_ : Bool) => (K [(2, str v2), (3, str v3), (4, v4), (5, v5), (11, .slice v11p v11n v11c), (13, str v13), (14, v14), (21, .slice v21p v21n v21c), (22, v22), (23, v23), (40, y2_)])) (K [(2, str v2), (3, str v3), (4, v4), (5, v5), (11, .slice v11p v11n v11c), (13, str v13), (14, v14), (21, .slice v21p v21n v21c), (22, v22), (23, v23), (40, false)]))) := by kernel_rfl
@[go_sem] theorem c10_r7 (v2 v3 : List UInt8) (v4 : Int) (v5 : Addr) (v11p : Option Addr) (v11n v11c : Nat) (v13 : List UInt8) (v14 : Addr) (v21p : Option Addr) (v21n v21c : Nat) (v22 v23 : Int) : RP c10 7 [(2, str v2), (3, str v3), (4, v4), (5, v5), (11, .slice v11p v11n v11c), (13, str v13), (14, v14), (21, .slice v21p v21n v21c), (22, v22), (23, v23)] K =
 (ld eS v14 fun (y1_ : List UInt8) => (nwc #[str ((⟨v13, y1_⟩ : api_Cell).Key), str ((⟨v13, y1_⟩ : api_Cell).Val)] 39 fun y2_ => (val eSl Try.prog (oB_append #[23, 23] 23 #[.slice v11p v11n v11c, .slice (some y2_) 1 1]) fun (y3_ : (Option Addr × Nat × Nat)) => (K [(2, str v2), (3, str v3), (4, v4), (5, v5), (11, .slice y3_.1 y3_.2.1 y3_.2.2), (21, .slice v21p v21n v21c), (22, v22), (23, v23)])))) := by kernel_rfl
@[go_sem] theorem c10_r8 (v2 v3 : List UInt8) (v4 : Int) (v5 : Addr) (v11p : Option Addr) (v11n v11c : Nat) (v21p : Option Addr) (v21n v21c : Nat) (v22 v23 : Int) : RP c10 8 [(2, str v2), (3, str v3), (4, v4), (5, v5), (11, .slice v11p v11n v11c), (21, .slice v21p v21n v21c), (22, v22), (23, v23)] K =
 (K [(2, str v2), (3, str v3), (4, v4), (5, v5), (11, .slice v11p v11n v11c), (21, .slice v21p v21n v21c), (22, v22), (23, IntKind.wrap .i64 (v23 + 1))]) := by kernel_rfl
@[go_sem] theorem c10_r9 (v4 : Int) (v11p : Option Addr) (v11n v11c : Nat) : RP c10 9 [(4, v4), (11, .slice v11p v11n v11c)] K =
 (cal eN Try.prog 23 #[.slice v11p v11n v11c, .func (.func 24) #[] #[]] fun (y1_ : Unit) => (K [(4, v4), (11, .slice v11p v11n v11c)])) := by kernel_rfl
@[go_sem] theorem c10_r10 (v4 : Int) (v11p : Option Addr) (v11n v11c : Nat) : RP c10 10 [(4, v4), (11, .slice v11p v11n v11c)] K =
 (rq (0 ≤ (0 : Int) ∧ 0 ≤ (if (v11n : Int) < (if v4 < 0 then (0 : Int) else v4) then (v11n : Int) else (if v4 < 0 then (0 : Int) else v4)) ∧ (if (v11n : Int) < (if v4 < 0 then (0 : Int) else v4) then (v11n : Int) else (if v4 < 0 then (0 : Int) else v4)) ≤ (v11c : Int)) (K [(10, .slice (slp v11p 0 (v11c : Int) 2) ((if (v11n : Int) < (if v4 < 0 then (0 : Int) else v4) then (v11n : Int) else (if v4 < 0 then (0 : Int) else v4)).toNat - (0 : Int).toNat) ((v11c : Int).toNat - (0 : Int).toNat))])) := by kernel_rfl
@[go_sem] theorem c10_o : c10.lo 1000000 = [10] := rfl
@[go_sem] theorem c10_e (v10p : Option Addr) (v10n v10c : Nat) : RTp c10 [(10, .slice v10p v10n v10c)] k = (k (.slice v10p v10n v10c)) := by kernel_rfl
theorem c10_ok : (c10.P.follows .mixedOrders && okc c10 c10.body) = true := by kernel_rfl
theorem c10_fn (hρ : envA 0 args.toList = ρ) (hs : Nat.ble args.size 58 = true) (h : E L (D c10 (.seq (.reg 0) (.seq (.reg 1) (.seq (.seq (.reg 2) (.block 0 (.loop (.seq (.reg 3) (.seq (.cond (.tmp 24) (.skip) (.exit 0)) (.seq (.block 1 (.seq (.reg 4) (.seq (.reg 5) (.seq (.reg 6) (.cond (.tmp 40) (.reg 7) (.skip)))))) (.reg 8))))))) (.seq (.reg 9) (.seq (.reg 10) (.ret)))))) (fnQ c10 e G) ρ)) : E L (cal e Try.prog 10 args G) :=
  d_fn (c := c10) Try.func10 (by kernel_rfl) (by kernel_rfl) (by kernel_rfl) c10_ok (by kernel_rfl) (by kernel_rfl) hρ hs h
noncomputable def c11 := cf Try.f11 105 [(0, [0, 1, 2, 3, 4]), (1, [0, 1, 2, 3, 4]), (2, [0, 1, 2, 3, 4, 11]), (3, [0, 1, 2, 3, 4, 11, 12]), (4, [0, 1, 2, 3, 4, 11, 12]), (5, [0, 1, 2, 3, 4, 11, 12]), (6, [0, 1, 2, 3, 4, 11, 12, 14]), (7, [0, 1, 2, 3, 4, 11, 12, 14]), (8, [0, 1, 2, 3, 4, 11, 12, 14]), (9, []), (10, [0, 2, 3, 4, 11]), (11, [0, 2, 3, 4, 11, 15]), (12, [0, 2, 3, 4, 11, 15, 16]), (13, [0, 2, 3, 4, 11, 15, 16]), (14, [0, 2, 3, 4, 11, 15, 16]), (15, [0, 2, 3, 4, 11, 15, 16, 17]), (16, [0, 2, 3, 4, 11, 15, 16, 17]), (17, [0, 2, 3, 4, 11, 15, 16, 17]), (18, []), (19, [2, 11])] [(0, [0, 1, 2, 3, 4]), (1, [0, 1, 2, 3, 4, 11]), (2, [0, 1, 2, 3, 4, 11, 12]), (3, [0, 1, 2, 3, 4, 11, 12, 22]), (4, [0, 1, 2, 3, 4, 11, 12]), (5, [0, 1, 2, 3, 4, 11, 12, 14]), (6, [0, 1, 2, 3, 4, 11, 12, 14, 36]), (7, [0, 1, 2, 3, 4, 11, 12, 14]), (8, [0, 1, 2, 3, 4, 11, 12, 49]), (9, [10]), (10, [0, 2, 3, 4, 11, 15]), (11, [0, 2, 3, 4, 11, 15, 16]), (12, [0, 2, 3, 4, 11, 15, 16, 55]), (13, [0, 2, 3, 4, 11, 15, 16]), (14, [0, 2, 3, 4, 11, 15, 16, 17]), (15, [0, 2, 3, 4, 11, 15, 16, 17, 88]), (16, [0, 2, 3, 4, 11, 15, 16, 17]), (17, [0, 2, 3, 4, 11, 15, 16, 100]), (18, [10]), (19, [10]), (1000000, [10])] [(17, (true, [(0, 1), (1, 1), (2, 1), (3, 1), (4, 0), (5, 1), (6, 0), (7, 1), (8, 4), (9, 1)]))] []
@[go_sem] theorem c11_i : c11.li 0 = [0, 1, 2, 3, 4] ∧ c11.li 1 = [0, 1, 2, 3, 4] ∧ c11.li 2 = [0, 1, 2, 3, 4, 11] ∧ c11.li 3 = [0, 1, 2, 3, 4, 11, 12] ∧ c11.li 4 = [0, 1, 2, 3, 4, 11, 12] ∧ c11.li 5 = [0, 1, 2, 3, 4, 11, 12] ∧ c11.li 6 = [0, 1, 2, 3, 4, 11, 12, 14] ∧ c11.li 7 = [0, 1, 2, 3, 4, 11, 12, 14] ∧ c11.li 8 = [0, 1, 2, 3, 4, 11, 12, 14] ∧ c11.li 9 = [] ∧ c11.li 10 = [0, 2, 3, 4, 11] ∧ c11.li 11 = [0, 2, 3, 4, 11, 15] ∧ c11.li 12 = [0, 2, 3, 4, 11, 15, 16] ∧ c11.li 13 = [0, 2, 3, 4, 11, 15, 16] ∧ c11.li 14 = [0, 2, 3, 4, 11, 15, 16] ∧ c11.li 15 = [0, 2, 3, 4, 11, 15, 16, 17] ∧ c11.li 16 = [0, 2, 3, 4, 11, 15, 16, 17] ∧ c11.li 17 = [0, 2, 3, 4, 11, 15, 16, 17] ∧ c11.li 18 = [] ∧ c11.li 19 = [2, 11] := ⟨rfl, rfl, rfl, rfl, rfl, rfl, rfl, rfl, rfl, rfl, rfl, rfl, rfl, rfl, rfl, rfl, rfl, rfl, rfl, rfl⟩
@[go_sem] theorem c11_r0 (v0 v1p : Option Addr) (v1n v1c : Nat) (v2p : Option Addr) (v2n v2c : Nat) (v3 v4 : List UInt8) : RP c11 0 [(0, v0), (1, .slice v1p v1n v1c), (2, .slice v2p v2n v2c), (3, str v3), (4, str v4)] K =
 (K [(0, v0), (1, .slice v1p v1n v1c), (2, .slice v2p v2n v2c), (3, str v3), (4, str v4)]) := by kernel_rfl
@[go_sem] theorem c11_r1 (v0 v1p : Option Addr) (v1n v1c : Nat) (v2p : Option Addr) (v2n v2c : Nat) (v3 v4 : List UInt8) : RP c11 1 [(0, v0), (1, .slice v1p v1n v1c), (2, .slice v2p v2n v2c), (3, str v3), (4, str v4)] K =
 (K [(0, v0), (1, .slice v1p v1n v1c), (2, .slice v2p v2n v2c), (3, str v3), (4, str v4), (11, .int .i64 0)]) := by kernel_rfl
@[go_sem] theorem c11_r2 (v0 v1p : Option Addr) (v1n v1c : Nat) (v2p : Option Addr) (v2n v2c : Nat) (v3 v4 : List UInt8) (v11 : Int) : RP c11 2 [(0, v0), (1, .slice v1p v1n v1c), (2, .slice v2p v2n v2c), (3, str v3), (4, str v4), (11, v11)] K =
 (K [(0, v0), (1, .slice v1p v1n v1c), (2, .slice v2p v2n v2c), (3, str v3), (4, str v4), (11, v11), (12, .int .i64 0)]) := by kernel_rfl
@[go_sem] theorem c11_r3 (v0 v1p : Option Addr) (v1n v1c : Nat) (v2p : Option Addr) (v2n v2c : Nat) (v3 v4 : List UInt8) (v11 v12 : Int) : RP c11 3 [(0, v0), (1, .slice v1p v1n v1c), (2, .slice v2p v2n v2c), (3, str v3), (4, str v4), (11, v11), (12, v12)] K =
 (K [(0, v0), (1, .slice v1p v1n v1c), (2, .slice v2p v2n v2c), (3, str v3), (4, str v4), (11, v11), (12, v12), (22, decide (v12 < v1n))]) := by kernel_rfl
@[go_sem] theorem c11_r4 (v0 v1p : Option Addr) (v1n v1c : Nat) (v2p : Option Addr) (v2n v2c : Nat) (v3 v4 : List UInt8) (v11 v12 : Int) : RP c11 4 [(0, v0), (1, .slice v1p v1n v1c), (2, .slice v2p v2n v2c), (3, str v3), (4, str v4), (11, v11), (12, v12)] K =
 (K [(0, v0), (1, .slice v1p v1n v1c), (2, .slice v2p v2n v2c), (3, str v3), (4, str v4), (11, v11), (12, IntKind.wrap .i64 (v12 + 1))]) := by kernel_rfl
@[go_sem] theorem c11_r5 (v0 v1p : Option Addr) (v1n v1c : Nat) (v2p : Option Addr) (v2n v2c : Nat) (v3 v4 : List UInt8) (v11 v12 : Int) : RP c11 5 [(0, v0), (1, .slice v1p v1n v1c), (2, .slice v2p v2n v2c), (3, str v3), (4, str v4), (11, v11), (12, v12)] K =
 (rq (0 ≤ v12 ∧ v12 < v1n) (nn v1p fun y1_ => (ld eS (Addr.add y1_ (v12.toNat * 2)) fun (y2_ : List UInt8) => (cal (eT2 e_past_Was eB) Try.prog 6 #[v0, str y2_] fun (y3_ : (past_Was × Bool)) => (nwc #[str ([] : List UInt8), false] 31 fun y4_ => (stl [str y3_.1.Val, .bool y3_.1.Is] y4_ 0 (K [(0, v0), (1, .slice v1p v1n v1c), (2, .slice v2p v2n v2c), (3, str v3), (4, str v4), (11, v11), (12, v12), (14, y3_.2)]))))))) := by kernel_rfl
@[go_sem] theorem c11_r6 (v0 v1p : Option Addr) (v1n v1c : Nat) (v2p : Option Addr) (v2n v2c : Nat) (v3 v4 : List UInt8) (v11 v12 : Int) (v14 : Bool) : RP c11 6 [(0, v0), (1, .slice v1p v1n v1c), (2, .slice v2p v2n v2c), (3, str v3), (4, str v4), (11, v11), (12, v12), (14, v14)] K =
 (K [(0, v0), (1, .slice v1p v1n v1c), (2, .slice v2p v2n v2c), (3, str v3), (4, str v4), (11, v11), (12, v12), (14, v14), (36, .bool (!v14))]) := by kernel_rfl
@[go_sem] theorem c11_r7 (v0 v1p : Option Addr) (v1n v1c : Nat) (v2p : Option Addr) (v2n v2c : Nat) (v3 v4 : List UInt8) (v11 v12 : Int) (v14 : Bool) : RP c11 7 [(0, v0), (1, .slice v1p v1n v1c), (2, .slice v2p v2n v2c), (3, str v3), (4, str v4), (11, v11), (12, v12), (14, v14)] K =
 (K [(0, v0), (1, .slice v1p v1n v1c), (2, .slice v2p v2n v2c), (3, str v3), (4, str v4), (11, IntKind.wrap .i64 (v11 + 1)), (12, v12), (14, v14)]) := by kernel_rfl
@[go_sem] theorem c11_r8 (v0 v1p : Option Addr) (v1n v1c : Nat) (v2p : Option Addr) (v2n v2c : Nat) (v3 v4 : List UInt8) (v11 v12 : Int) (v14 : Bool) : RP c11 8 [(0, v0), (1, .slice v1p v1n v1c), (2, .slice v2p v2n v2c), (3, str v3), (4, str v4), (11, v11), (12, v12), (14, v14)] K =
 (cnd (!v14) (rq (0 ≤ v12 ∧ v12 < v1n) (nn v1p fun y1_ => (ldn e_api_Cell 2 (Addr.add y1_ (v12.toNat * 2)) fun (y2_ : api_Cell) => (cal eB Try.prog 26 #[.slice v2p v2n v2c, v_api_Cell y2_] fun (y3_ : Bool) => (K [(0, v0), (1, .slice v1p v1n v1c), (2, .slice v2p v2n v2c), (3, str v3), (4, str v4), (11, v11), (12, v12), (49, .bool (!y3_))]))))) (K [(0, v0), (1, .slice v1p v1n v1c), (2, .slice v2p v2n v2c), (3, str v3), (4, str v4), (11, v11), (12, v12), (49, false)])) := by kernel_rfl
@[go_sem] theorem c11_r9 : RP c11 9 [] K =
 (K [(10, false)]) := by kernel_rfl
@[go_sem] theorem c11_r10 (v0 v2p : Option Addr) (v2n v2c : Nat) (v3 v4 : List UInt8) (v11 : Int) : RP c11 10 [(0, v0), (2, .slice v2p v2n v2c), (3, str v3), (4, str v4), (11, v11)] K =
 (cal eSl Try.prog 13 #[v0] fun (y1_ : (Option Addr × Nat × Nat)) => (K [(0, v0), (2, .slice v2p v2n v2c), (3, str v3), (4, str v4), (11, v11), (15, .slice y1_.1 y1_.2.1 y1_.2.2)])) := by kernel_rfl
@[go_sem] theorem c11_r11 (v0 v2p : Option Addr) (v2n v2c : Nat) (v3 v4 : List UInt8) (v11 : Int) (v15p : Option Addr) (v15n v15c : Nat) : RP c11 11 [(0, v0), (2, .slice v2p v2n v2c), (3, str v3), (4, str v4), (11, v11), (15, .slice v15p v15n v15c)] K =
 (K [(0, v0), (2, .slice v2p v2n v2c), (3, str v3), (4, str v4), (11, v11), (15, .slice v15p v15n v15c), (16, .int .i64 0)]) := by kernel_rfl
@[go_sem] theorem c11_r12 (v0 v2p : Option Addr) (v2n v2c : Nat) (v3 v4 : List UInt8) (v11 : Int) (v15p : Option Addr) (v15n v15c : Nat) (v16 : Int) : RP c11 12 [(0, v0), (2, .slice v2p v2n v2c), (3, str v3), (4, str v4), (11, v11), (15, .slice v15p v15n v15c), (16, v16)] K =
 (K [(0, v0), (2, .slice v2p v2n v2c), (3, str v3), (4, str v4), (11, v11), (15, .slice v15p v15n v15c), (16, v16), (55, decide (v16 < v15n))]) := by kernel_rfl
@[go_sem] theorem c11_r13 (v0 v2p : Option Addr) (v2n v2c : Nat) (v3 v4 : List UInt8) (v11 : Int) (v15p : Option Addr) (v15n v15c : Nat) (v16 : Int) : RP c11 13 [(0, v0), (2, .slice v2p v2n v2c), (3, str v3), (4, str v4), (11, v11), (15, .slice v15p v15n v15c), (16, v16)] K =
 (K [(0, v0), (2, .slice v2p v2n v2c), (3, str v3), (4, str v4), (11, v11), (15, .slice v15p v15n v15c), (16, IntKind.wrap .i64 (v16 + 1))]) := by kernel_rfl
@[go_sem] theorem c11_r14 (v0 v2p : Option Addr) (v2n v2c : Nat) (v3 v4 : List UInt8) (v11 : Int) (v15p : Option Addr) (v15n v15c : Nat) (v16 : Int) : RP c11 14 [(0, v0), (2, .slice v2p v2n v2c), (3, str v3), (4, str v4), (11, v11), (15, .slice v15p v15n v15c), (16, v16)] K =
 (rq (0 ≤ v16 ∧ v16 < v15n) (nn v15p fun y1_ => (ld eS (Addr.add y1_ (v16.toNat * 1)) fun (y2_ : List UInt8) => (cal (eT2 e_past_Was eB) Try.prog 6 #[v0, str y2_] fun (y3_ : (past_Was × Bool)) => (nwc #[str ([] : List UInt8), false] 31 fun y4_ => (stl [str y3_.1.Val, .bool y3_.1.Is] y4_ 0 (K [(0, v0), (2, .slice v2p v2n v2c), (3, str v3), (4, str v4), (11, v11), (15, .slice v15p v15n v15c), (16, v16), (17, y4_)]))))))) := by kernel_rfl
@[go_sem] theorem c11_r15 (v0 v2p : Option Addr) (v2n v2c : Nat) (v3 v4 : List UInt8) (v11 : Int) (v15p : Option Addr) (v15n v15c : Nat) (v16 : Int) (v17 : Addr) : RP c11 15 [(0, v0), (2, .slice v2p v2n v2c), (3, str v3), (4, str v4), (11, v11), (15, .slice v15p v15n v15c), (16, v16), (17, v17)] K =
 (ld eB (v17.add 1) fun (y1_ : Bool) => (cnd y1_ (rq (0 ≤ v16 ∧ v16 < v15n) (nn v15p fun y2_ => (ld eS (Addr.add y2_ (v16.toNat * 1)) fun (y3_ : List UInt8) => (cnd (!(Op.bytesLess y3_ v3)) (cnd (v4 == ([] : List UInt8)) (K [(0, v0), (2, .slice v2p v2n v2c), (3, str v3), (4, str v4), (11, v11), (15, .slice v15p v15n v15c), (16, v16), (17, v17), (88, true)]) (rq (0 ≤ v16 ∧ v16 < v15n) (nn v15p fun y4_ => (ld eS (Addr.add y4_ (v16.toNat * 1)) fun (y5_ : List UInt8) => (K [(0, v0), (2, .slice v2p v2n v2c), (3, str v3), (4, str v4), (11, v11), (15, .slice v15p v15n v15c), (16, v16), (17, v17), (88, .bool (Op.bytesLess y5_ v4 || y5_ == v4))]))))) (K [(0, v0), (2, .slice v2p v2n v2c), (3, str v3), (4, str v4), (11, v11), (15, .slice v15p v15n v15c), (16, v16), (17, v17), (88, false)]))))) (K [(0, v0), (2, .slice v2p v2n v2c), (3, str v3), (4, str v4), (11, v11), (15, .slice v15p v15n v15c), (16, v16), (17, v17), (88, false)]))) := by kernel_rfl
@[go_sem] theorem c11_r16 (v0 v2p : Option Addr) (v2n v2c : Nat) (v3 v4 : List UInt8) (v11 : Int) (v15p : Option Addr) (v15n v15c : Nat) (v16 : Int) (v17 : Addr) : RP c11 16 [(0, v0), (2, .slice v2p v2n v2c), (3, str v3), (4, str v4), (11, v11), (15, .slice v15p v15n v15c), (16, v16), (17, v17)] K =
 (K [(0, v0), (2, .slice v2p v2n v2c), (3, str v3), (4, str v4), (11, IntKind.wrap .i64 (v11 + 1)), (15, .slice v15p v15n v15c), (16, v16), (17, v17)]) := by kernel_rfl
@[go_sem] theorem c11_r17 (v0 v2p : Option Addr) (v2n v2c : Nat) (v3 v4 : List UInt8) (v11 : Int) (v15p : Option Addr) (v15n v15c : Nat) (v16 : Int) (v17 : Addr) : RP c11 17 [(0, v0), (2, .slice v2p v2n v2c), (3, str v3), (4, str v4), (11, v11), (15, .slice v15p v15n v15c), (16, v16), (17, v17)] K =
 (ph fun S0 => (rq (0 ≤ v16 ∧ v16 < v15n) (nn v15p fun y1_ => (ldq S0 eS (Addr.add y1_ (v16.toNat * 1)) fun (y2_ : List UInt8) => (ldq S0 eS v17 fun (y3_ : List UInt8) => (cal eB Try.prog 26 #[.slice v2p v2n v2c, v_api_Cell (⟨y2_, y3_⟩ : api_Cell)] fun (y4_ : Bool) => (K [(0, v0), (2, .slice v2p v2n v2c), (3, str v3), (4, str v4), (11, v11), (15, .slice v15p v15n v15c), (16, v16), (100, .bool (!y4_))]))))))) := by kernel_rfl
@[go_sem] theorem c11_r18 : RP c11 18 [] K =
 (K [(10, false)]) := by kernel_rfl
@[go_sem] theorem c11_r19 (v2p : Option Addr) (v2n v2c : Nat) (v11 : Int) : RP c11 19 [(2, .slice v2p v2n v2c), (11, v11)] K =
 (K [(10, .bool (v11 == (v2n : Int)))]) := by kernel_rfl
@[go_sem] theorem c11_o : c11.lo 1000000 = [10] := rfl
@[go_sem] theorem c11_e (v10 : Bool) : RTp c11 [(10, v10)] k = (k (v10)) := by kernel_rfl
theorem c11_ok : (c11.P.follows .mixedOrders && okc c11 c11.body) = true := by kernel_rfl
theorem c11_fn (hρ : envA 0 args.toList = ρ) (hs : Nat.ble args.size 105 = true) (h : E L (D c11 (.seq (.reg 0) (.seq (.reg 1) (.seq (.seq (.reg 2) (.block 0 (.loop (.seq (.seq (.reg 3) (.cond (.tmp 22) (.skip) (.exit 0))) (.seq (.block 1 (.seq (.reg 5) (.seq (.seq (.reg 6) (.cond (.tmp 36) (.reg 7) (.skip))) (.seq (.reg 8) (.cond (.tmp 49) (.seq (.reg 9) (.ret)) (.skip)))))) (.reg 4)))))) (.seq (.reg 10) (.seq (.seq (.reg 11) (.block 2 (.loop (.seq (.seq (.reg 12) (.cond (.tmp 55) (.skip) (.exit 2))) (.seq (.block 3 (.seq (.reg 14) (.seq (.reg 15) (.cond (.tmp 88) (.seq (.reg 16) (.seq (.reg 17) (.cond (.tmp 100) (.seq (.reg 18) (.ret)) (.skip)))) (.skip))))) (.reg 13)))))) (.seq (.reg 19) (.ret))))))) (fnQ c11 e G) ρ)) : E L (cal e Try.prog 11 args G) :=
  d_fn (c := c11) Try.func11 (by kernel_rfl) (by kernel_rfl) (by kernel_rfl) c11_ok (by kernel_rfl) (by kernel_rfl) hρ hs h
noncomputable def c26 := cf Try.f26 18 [(0, [0, 1]), (1, [0, 3]), (2, [0, 3, 5]), (3, [0, 3, 5]), (4, [0, 3, 5]), (5, []), (6, [])] [(0, [0, 3]), (1, [0, 3, 5]), (2, [0, 3, 5, 9]), (3, [0, 3, 5]), (4, [0, 3, 5, 17]), (5, [4]), (6, [4]), (1000000, [4])] [(4, (true, [(0, 1), (1, 1), (2, 1), (3, 0), (4, 0), (5, 0)]))] []
@[go_sem] theorem c26_i : c26.li 0 = [0, 1] ∧ c26.li 1 = [0, 3] ∧ c26.li 2 = [0, 3, 5] ∧ c26.li 3 = [0, 3, 5] ∧ c26.li 4 = [0, 3, 5] ∧ c26.li 5 = [] ∧ c26.li 6 = [] := ⟨rfl, rfl, rfl, rfl, rfl, rfl, rfl⟩
@[go_sem] theorem c26_r0 (v0p : Option Addr) (v0n v0c : Nat) (v1 : api_Cell) : RP c26 0 [(0, .slice v0p v0n v0c), (1, v_api_Cell v1)] K =
 (nwc #[str v1.Key, str v1.Val] 39 fun y1_ => (K [(0, .slice v0p v0n v0c), (3, y1_)])) := by kernel_rfl
@[go_sem] theorem c26_r1 (v0p : Option Addr) (v0n v0c : Nat) (v3 : Addr) : RP c26 1 [(0, .slice v0p v0n v0c), (3, v3)] K =
 (K [(0, .slice v0p v0n v0c), (3, v3), (5, .int .i64 0)]) := by kernel_rfl
@[go_sem] theorem c26_r2 (v0p : Option Addr) (v0n v0c : Nat) (v3 : Addr) (v5 : Int) : RP c26 2 [(0, .slice v0p v0n v0c), (3, v3), (5, v5)] K =
 (K [(0, .slice v0p v0n v0c), (3, v3), (5, v5), (9, decide (v5 < v0n))]) := by kernel_rfl
@[go_sem] theorem c26_r3 (v0p : Option Addr) (v0n v0c : Nat) (v3 : Addr) (v5 : Int) : RP c26 3 [(0, .slice v0p v0n v0c), (3, v3), (5, v5)] K =
 (K [(0, .slice v0p v0n v0c), (3, v3), (5, IntKind.wrap .i64 (v5 + 1))]) := by kernel_rfl
@[go_sem] theorem c26_r4 (v0p : Option Addr) (v0n v0c : Nat) (v3 : Addr) (v5 : Int) : RP c26 4 [(0, .slice v0p v0n v0c), (3, v3), (5, v5)] K =
 (ph fun S0 => (rq (0 ≤ v5 ∧ v5 < v0n) (nn v0p fun y1_ => (ldnq S0 e_api_Cell 2 (Addr.add y1_ (v5.toNat * 2)) fun (y2_ : api_Cell) => (ldnq S0 e_api_Cell 2 v3 fun (y3_ : api_Cell) => (valq S0 eB Try.prog (oEq .eql 39 (.tmp 15) (.tmp 16) (v_api_Cell y2_) (v_api_Cell y3_)) fun (y4_ : Bool) => (K [(0, .slice v0p v0n v0c), (3, v3), (5, v5), (17, y4_)]))))))) := by kernel_rfl
@[go_sem] theorem c26_r5 : RP c26 5 [] K =
 (K [(4, true)]) := by kernel_rfl
@[go_sem] theorem c26_r6 : RP c26 6 [] K =
 (K [(4, false)]) := by kernel_rfl
@[go_sem] theorem c26_o : c26.lo 1000000 = [4] := rfl
@[go_sem] theorem c26_e (v4 : Bool) : RTp c26 [(4, v4)] k = (k (v4)) := by kernel_rfl
theorem c26_ok : (c26.P.follows .mixedOrders && okc c26 c26.body) = true := by kernel_rfl
theorem c26_fn (hρ : envA 0 args.toList = ρ) (hs : Nat.ble args.size 18 = true) (h : E L (D c26 (.seq (.reg 0) (.seq (.seq (.reg 1) (.block 0 (.loop (.seq (.seq (.reg 2) (.cond (.tmp 9) (.skip) (.exit 0))) (.seq (.block 1 (.seq (.reg 4) (.cond (.tmp 17) (.seq (.reg 5) (.ret)) (.skip)))) (.reg 3)))))) (.seq (.reg 6) (.ret)))) (fnQ c26 e G) ρ)) : E L (cal e Try.prog 26 args G) :=
  d_fn (c := c26) Try.func26 (by kernel_rfl) (by kernel_rfl) (by kernel_rfl) c26_ok (by kernel_rfl) (by kernel_rfl) hρ hs h
end Go.Sp
namespace Go.Sp
open Go
set_option maxRecDepth 100000
set_option linter.unusedVariables false
open Go.Proofs
variable (K : Env → W) (k : Value → W) {e : Enc} {args : Array Value} {G : e.α → W} {L : List HP} {ρ : Env}
attribute [local instance] cI cB cP cA
noncomputable def c20 := cf Try.f20 8 [(0, [0]), (1, [0]), (2, []), (3, [0])] [(0, [0]), (1, [0, 4]), (2, [2]), (3, [2]), (1000000, [2])] [] []
@[go_sem] theorem c20_i : c20.li 0 = [0] ∧ c20.li 1 = [0] ∧ c20.li 2 = [] ∧ c20.li 3 = [0] := ⟨rfl, rfl, rfl, rfl⟩
@[go_sem] theorem c20_r0 (v0p : Option Addr) (v0n v0c : Nat) : RP c20 0 [(0, .slice v0p v0n v0c)] K =
 (K [(0, .slice v0p v0n v0c)]) := by kernel_rfl
@[go_sem] theorem c20_r1 (v0p : Option Addr) (v0n v0c : Nat) : RP c20 1 [(0, .slice v0p v0n v0c)] K =
 (val eB Try.prog (oEq .eql 23 (.tmp 3) (.const (.slice none 0 0)) (.slice v0p v0n v0c) (.slice none 0 0)) fun (y1_ : Bool) => (K [(0, .slice v0p v0n v0c), (4, y1_)])) := by kernel_rfl
@[go_sem] theorem c20_r2 : RP c20 2 [] K =
 (K [(2, .slice none 0 0)]) := by kernel_rfl
@[go_sem] theorem c20_r3 (v0p : Option Addr) (v0n v0c : Nat) : RP c20 3 [(0, .slice v0p v0n v0c)] K =
 (nwc #[] 39 fun y1_ => (val eSl Try.prog (oB_append #[23, 23] 23 #[.slice (some y1_) 0 0, .slice v0p v0n v0c]) fun (y2_ : (Option Addr × Nat × Nat)) => (K [(2, .slice y2_.1 y2_.2.1 y2_.2.2)]))) := by kernel_rfl
@[go_sem] theorem c20_o : c20.lo 1000000 = [2] := rfl
@[go_sem] theorem c20_e (v2p : Option Addr) (v2n v2c : Nat) : RTp c20 [(2, .slice v2p v2n v2c)] k = (k (.slice v2p v2n v2c)) := by kernel_rfl
theorem c20_ok : (c20.P.follows .mixedOrders && okc c20 c20.body) = true := by kernel_rfl
theorem c20_fn (hρ : envA 0 args.toList = ρ) (hs : Nat.ble args.size 8 = true) (h : E L (D c20 (.seq (.reg 0) (.seq (.seq (.reg 1) (.cond (.tmp 4) (.seq (.reg 2) (.ret)) (.skip))) (.seq (.reg 3) (.ret)))) (fnQ c20 e G) ρ)) : E L (cal e Try.prog 20 args G) :=
  d_fn (c := c20) Try.func20 (by kernel_rfl) (by kernel_rfl) (by kernel_rfl) c20_ok (by kernel_rfl) (by kernel_rfl) hρ hs h
noncomputable def c19 := cf Try.f19 42 [(0, [0, 1]), (1, [0, 1]), (2, [0, 1, 5]), (3, [0]), (4, [0, 1, 5]), (5, [0, 1, 5, 6]), (6, [0, 1, 5, 6]), (7, [0, 1, 5, 6]), (8, [0, 1, 5, 6, 7]), (9, [0, 1, 5, 6, 7]), (10, [0, 1, 5, 6]), (11, [0, 5]), (12, [0, 5])] [(0, [0, 1]), (1, [0, 1, 5]), (2, [0, 1, 5, 12]), (3, [4]), (4, [0, 1, 5, 6]), (5, [0, 1, 5, 6, 19]), (6, [0, 1, 5, 6]), (7, [0, 1, 5, 6, 7]), (8, [0, 1, 5, 6, 7, 29]), (9, [0, 1, 5, 6]), (10, [0, 1, 5, 6]), (11, [0, 5]), (12, [4]), (1000000, [4])] [] []
@[go_sem] theorem c19_i : c19.li 0 = [0, 1] ∧ c19.li 1 = [0, 1] ∧ c19.li 2 = [0, 1, 5] ∧ c19.li 3 = [0] ∧ c19.li 4 = [0, 1, 5] ∧ c19.li 5 = [0, 1, 5, 6] ∧ c19.li 6 = [0, 1, 5, 6] ∧ c19.li 7 = [0, 1, 5, 6] ∧ c19.li 8 = [0, 1, 5, 6, 7] ∧ c19.li 9 = [0, 1, 5, 6, 7] ∧ c19.li 10 = [0, 1, 5, 6] ∧ c19.li 11 = [0, 5] ∧ c19.li 12 = [0, 5] := ⟨rfl, rfl, rfl, rfl, rfl, rfl, rfl, rfl, rfl, rfl, rfl, rfl, rfl⟩
@[go_sem] theorem c19_r0 (v0p : Option Addr) (v0n v0c v1f : Nat) (v1c : Array Value) : RP c19 0 [(0, .slice v0p v0n v0c), (1, .func (.func v1f) #[] v1c)] K =
 (K [(0, .slice v0p v0n v0c), (1, .func (.func v1f) #[] v1c)]) := by kernel_rfl
@[go_sem] theorem c19_r1 (v0p : Option Addr) (v0n v0c v1f : Nat) (v1c : Array Value) : RP c19 1 [(0, .slice v0p v0n v0c), (1, .func (.func v1f) #[] v1c)] K =
 (cal eI Try.prog 33 #[.slice v0p v0n v0c, .func (.func v1f) #[] v1c] fun (y1_ : Int) => (K [(0, .slice v0p v0n v0c), (1, .func (.func v1f) #[] v1c), (5, y1_)])) := by kernel_rfl
@[go_sem] theorem c19_r2 (v0p : Option Addr) (v0n v0c v1f : Nat) (v1c : Array Value) (v5 : Int) : RP c19 2 [(0, .slice v0p v0n v0c), (1, .func (.func v1f) #[] v1c), (5, v5)] K =
 (K [(0, .slice v0p v0n v0c), (1, .func (.func v1f) #[] v1c), (5, v5), (12, .bool (v5 == (-1 : Int)))]) := by kernel_rfl
@[go_sem] theorem c19_r3 (v0p : Option Addr) (v0n v0c : Nat) : RP c19 3 [(0, .slice v0p v0n v0c)] K =
 (K [(4, .slice v0p v0n v0c)]) := by kernel_rfl
@[go_sem] theorem c19_r4 (v0p : Option Addr) (v0n v0c v1f : Nat) (v1c : Array Value) (v5 : Int) : RP c19 4 [(0, .slice v0p v0n v0c), (1, .func (.func v1f) #[] v1c), (5, v5)] K =
 (K [(0, .slice v0p v0n v0c), (1, .func (.func v1f) #[] v1c), (5, v5), (6, IntKind.wrap .i64 (v5 + 1))]) := by kernel_rfl
@[go_sem] theorem c19_r5 (v0p : Option Addr) (v0n v0c v1f : Nat) (v1c : Array Value) (v5 v6 : Int) : RP c19 5 [(0, .slice v0p v0n v0c), (1, .func (.func v1f) #[] v1c), (5, v5), (6, v6)] K =
 (K [(0, .slice v0p v0n v0c), (1, .func (.func v1f) #[] v1c), (5, v5), (6, v6), (19, decide (v6 < v0n))]) := by kernel_rfl
@[go_sem] theorem c19_r6 (v0p : Option Addr) (v0n v0c v1f : Nat) (v1c : Array Value) (v5 v6 : Int) : RP c19 6 [(0, .slice v0p v0n v0c), (1, .func (.func v1f) #[] v1c), (5, v5), (6, v6)] K =
 (K [(0, .slice v0p v0n v0c), (1, .func (.func v1f) #[] v1c), (5, v5), (6, IntKind.wrap .i64 (v6 + 1))]) := by kernel_rfl
@[go_sem] theorem c19_r7 (v0p : Option Addr) (v0n v0c v1f : Nat) (v1c : Array Value) (v5 v6 : Int) : RP c19 7 [(0, .slice v0p v0n v0c), (1, .func (.func v1f) #[] v1c), (5, v5), (6, v6)] K =
 (rq (0 ≤ v6 ∧ v6 < v0n) (nn v0p fun y1_ => (ldn e_api_Cell 2 (Addr.add y1_ (v6.toNat * 2)) fun (y2_ : api_Cell) => (nwc #[str ([] : List UInt8), str ([] : List UInt8)] 39 fun y3_ => (stl [str y2_.Key, str y2_.Val] y3_ 0 (K [(0, .slice v0p v0n v0c), (1, .func (.func v1f) #[] v1c), (5, v5), (6, v6), (7, y3_)])))))) := by kernel_rfl
@[go_sem] theorem c19_r8 (v0p : Option Addr) (v0n v0c v1f : Nat) (v1c : Array Value) (v5 v6 : Int) (v7 : Addr) : RP c19 8 [(0, .slice v0p v0n v0c), (1, .func (.func v1f) #[] v1c), (5, v5), (6, v6), (7, v7)] K =
 (ldn e_api_Cell 2 v7 fun (y1_ : api_Cell) => (ent Try.prog v1f (cal eB Try.prog v1f (#[v_api_Cell y1_] ++ v1c) fun (y2_ : Bool) => (K [(0, .slice v0p v0n v0c), (1, .func (.func v1f) #[] v1c), (5, v5), (6, v6), (7, v7), (29, .bool (!y2_))])))) := by kernel_rfl
@[go_sem] theorem c19_r9 (v0p : Option Addr) (v0n v0c v1f : Nat) (v1c : Array Value) (v5 v6 : Int) (v7 : Addr) : RP c19 9 [(0, .slice v0p v0n v0c), (1, .func (.func v1f) #[] v1c), (5, v5), (6, v6), (7, v7)] K =
 (ldn e_api_Cell 2 v7 fun (y1_ : api_Cell) => (rq (0 ≤ v5 ∧ v5 < v0n) (nn v0p fun y2_ => (stl [str y1_.Key, str y1_.Val] (Addr.add y2_ (v5.toNat * 2)) 0 (K [(0, .slice v0p v0n v0c), (1, .func (.func v1f) #[] v1c), (5, v5), (6, v6)]))))) := by kernel_rfl
@[go_sem] theorem c19_r10 (v0p : Option Addr) (v0n v0c v1f : Nat) (v1c : Array Value) (v5 v6 : Int) : RP c19 10 [(0, .slice v0p v0n v0c), (1, .func (.func v1f) #[] v1c), (5, v5), (6, v6)] K =
 (K [(0, .slice v0p v0n v0c), (1, .func (.func v1f) #[] v1c), (5, IntKind.wrap .i64 (v5 + 1)), (6, v6)]) := by kernel_rfl
@[go_sem] theorem c19_r11 (v0p : Option Addr) (v0n v0c : Nat) (v5 : Int) : RP c19 11 [(0, .slice v0p v0n v0c), (5, v5)] K =
 (rq (0 ≤ (v5 : Int) ∧ v5 ≤ v0n ∧ (v0n : Int) ≤ (v0c : Int)) (val eN Try.prog (oB_clear #[23] 0 #[.slice (slp v0p v5 (v0c : Int) 2) ((v0n : Int).toNat - (v5 : Int).toNat) ((v0c : Int).toNat - (v5 : Int).toNat)]) fun (y1_ : Unit) => (K [(0, .slice v0p v0n v0c), (5, v5)]))) := by kernel_rfl
@[go_sem] theorem c19_r12 (v0p : Option Addr) (v0n v0c : Nat) (v5 : Int) : RP c19 12 [(0, .slice v0p v0n v0c), (5, v5)] K =
 (rq (0 ≤ (0 : Int) ∧ 0 ≤ v5 ∧ v5 ≤ v0c) (K [(4, .slice (slp v0p 0 (v0c : Int) 2) (v5.toNat - (0 : Int).toNat) ((v0c : Int).toNat - (0 : Int).toNat))])) := by kernel_rfl
@[go_sem] theorem c19_o : c19.lo 1000000 = [4] := rfl
@[go_sem] theorem c19_e (v4p : Option Addr) (v4n v4c : Nat) : RTp c19 [(4, .slice v4p v4n v4c)] k = (k (.slice v4p v4n v4c)) := by kernel_rfl
theorem c19_ok : (c19.P.follows .mixedOrders && okc c19 c19.body) = true := by kernel_rfl
theorem c19_fn (hρ : envA 0 args.toList = ρ) (hs : Nat.ble args.size 42 = true) (h : E L (D c19 (.seq (.reg 0) (.seq (.reg 1) (.seq (.seq (.reg 2) (.cond (.tmp 12) (.seq (.reg 3) (.ret)) (.skip))) (.seq (.seq (.reg 4) (.block 0 (.loop (.seq (.seq (.reg 5) (.cond (.tmp 19) (.skip) (.exit 0))) (.seq (.block 1 (.seq (.reg 7) (.seq (.reg 8) (.cond (.tmp 29) (.seq (.reg 9) (.reg 10)) (.skip))))) (.reg 6)))))) (.seq (.reg 11) (.seq (.reg 12) (.ret))))))) (fnQ c19 e G) ρ)) : E L (cal e Try.prog 19 args G) :=
  d_fn (c := c19) Try.func19 (by kernel_rfl) (by kernel_rfl) (by kernel_rfl) c19_ok (by kernel_rfl) (by kernel_rfl) hρ hs h
noncomputable def c33 := cf Try.f33 19 [(0, [0, 1]), (1, [0, 1]), (2, [0, 1, 7, 8]), (3, [0, 1, 7, 8]), (4, [0, 1, 5, 7, 8]), (5, [5]), (6, [0, 1, 7, 8]), (7, [])] [(0, [0, 1]), (1, [0, 1, 7, 8]), (2, [0, 1, 7, 8, 9]), (3, [0, 1, 5, 7, 8]), (4, [0, 1, 5, 7, 8, 16]), (5, [4]), (6, [0, 1, 7, 8]), (7, [4]), (1000000, [4])] [] []
@[go_sem] theorem c33_i : c33.li 0 = [0, 1] ∧ c33.li 1 = [0, 1] ∧ c33.li 2 = [0, 1, 7, 8] ∧ c33.li 3 = [0, 1, 7, 8] ∧ c33.li 4 = [0, 1, 5, 7, 8] ∧ c33.li 5 = [5] ∧ c33.li 6 = [0, 1, 7, 8] ∧ c33.li 7 = [] := ⟨rfl, rfl, rfl, rfl, rfl, rfl, rfl, rfl⟩
@[go_sem] theorem c33_r0 (v0p : Option Addr) (v0n v0c v1f : Nat) (v1c : Array Value) : RP c33 0 [(0, .slice v0p v0n v0c), (1, .func (.func v1f) #[] v1c)] K =
 (K [(0, .slice v0p v0n v0c), (1, .func (.func v1f) #[] v1c)]) := by kernel_rfl
@[go_sem] theorem c33_r1 (v0p : Option Addr) (v0n v0c v1f : Nat) (v1c : Array Value) : RP c33 1 [(0, .slice v0p v0n v0c), (1, .func (.func v1f) #[] v1c)] K =
 (K [(0, .slice v0p v0n v0c), (1, .func (.func v1f) #[] v1c), (7, .int .i64 (v0n : Int)), (8, .int .i64 0)]) := by kernel_rfl
@[go_sem] theorem c33_r2 (v0p : Option Addr) (v0n v0c v1f : Nat) (v1c : Array Value) (v7 v8 : Int) : RP c33 2 [(0, .slice v0p v0n v0c), (1, .func (.func v1f) #[] v1c), (7, v7), (8, v8)] K =
 (K [(0, .slice v0p v0n v0c), (1, .func (.func v1f) #[] v1c), (7, v7), (8, v8), (9, decide (v8 < v7))]) := by kernel_rfl
@[go_sem] theorem c33_r3 (v0p : Option Addr) (v0n v0c v1f : Nat) (v1c : Array Value) (v7 v8 : Int) : RP c33 3 [(0, .slice v0p v0n v0c), (1, .func (.func v1f) #[] v1c), (7, v7), (8, v8)] K =
 (K [(0, .slice v0p v0n v0c), (1, .func (.func v1f) #[] v1c), (5, v8), (7, v7), (8, v8)]) := by kernel_rfl
@[go_sem] theorem c33_r4 (v0p : Option Addr) (v0n v0c v1f : Nat) (v1c : Array Value) (v5 v7 v8 : Int) : RP c33 4 [(0, .slice v0p v0n v0c), (1, .func (.func v1f) #[] v1c), (5, v5), (7, v7), (8, v8)] K =
 (rq (0 ≤ v5 ∧ v5 < v0n) (nn v0p fun y1_ => (ldn e_api_Cell 2 (Addr.add y1_ (v5.toNat * 2)) fun (y2_ : api_Cell) => (ent Try.prog v1f (cal eB Try.prog v1f (#[v_api_Cell y2_] ++ v1c) fun (y3_ : Bool) => (K [(0, .slice v0p v0n v0c), (1, .func (.func v1f) #[] v1c), (5, v5), (7, v7), (8, v8), (16, y3_)])))))) := by kernel_rfl
@[go_sem] theorem c33_r5 (v5 : Int) : RP c33 5 [(5, v5)] K =
 (K [(4, v5)]) := by kernel_rfl
@[go_sem] theorem c33_r6 (v0p : Option Addr) (v0n v0c v1f : Nat) (v1c : Array Value) (v7 v8 : Int) : RP c33 6 [(0, .slice v0p v0n v0c), (1, .func (.func v1f) #[] v1c), (7, v7), (8, v8)] K =
 (K [(0, .slice v0p v0n v0c), (1, .func (.func v1f) #[] v1c), (7, v7), (8, IntKind.wrap .i64 (v8 + 1))]) := by kernel_rfl
@[go_sem] theorem c33_r7 : RP c33 7 [] K =
 (K [(4, .int .i64 (-1 : Int))]) := by kernel_rfl
@[go_sem] theorem c33_o : c33.lo 1000000 = [4] := rfl
@[go_sem] theorem c33_e (v4 : Int) : RTp c33 [(4, v4)] k = (k (v4)) := by kernel_rfl
theorem c33_ok : (c33.P.follows .mixedOrders && okc c33 c33.body) = true := by kernel_rfl
theorem c33_fn (hρ : envA 0 args.toList = ρ) (hs : Nat.ble args.size 19 = true) (h : E L (D c33 (.seq (.reg 0) (.seq (.seq (.reg 1) (.block 0 (.loop (.seq (.reg 2) (.seq (.cond (.tmp 9) (.skip) (.exit 0)) (.seq (.block 1 (.seq (.reg 3) (.seq (.reg 4) (.cond (.tmp 16) (.seq (.reg 5) (.ret)) (.skip))))) (.reg 6))))))) (.seq (.reg 7) (.ret)))) (fnQ c33 e G) ρ)) : E L (cal e Try.prog 33 args G) :=
  d_fn (c := c33) Try.func33 (by kernel_rfl) (by kernel_rfl) (by kernel_rfl) c33_ok (by kernel_rfl) (by kernel_rfl) hρ hs h
end Go.Sp
namespace Go.Sp
open Go Go.Proofs
set_option linter.unusedSimpArgs false
set_option linter.unusedVariables false
set_option maxRecDepth 10000
variable {L : List HP}
theorem f15 (p m l : Nat) : Fp eB Try.prog 15 #[.pointer (some ⟨p, 0, none⟩)] [ar p 45 [.map (some m), .map (some l)]] false := fun L => by
  refine c15_fn rfl rfl ?_
  repeat' (first | (with_reducible first | refine d_seq fun K hK => ?_ | (refine hK _ _ ?_; clear hK K) | (refine SG.p ?_; try intro b)) | refine i_c ?_ ?_ <;> intro hc <;> try simp only [push_cast, seval] at hc | refine i_x ?_ | clear hK K)
  all_goals (try (exfalso; simp at hc; done))
  (with_reducible first | apply i_ret0 | apply i_ret2 | apply i_ret3 | apply i_ret); exact rfl
  rfl
theorem f18 (r : api_Rec) : Fp (eT2 eWs eB) Try.prog 18 #[v_api_Rec r] [] ((wasR r).getD ⟨[], false⟩, (wasR r).isSome) := fun L => by
  refine c18_fn rfl rfl ?_
  repeat' (first | (with_reducible first | refine d_seq fun K hK => ?_ | (refine hK _ _ ?_; clear hK K) | (refine SG.p ?_; try intro b)) | refine i_c ?_ ?_ <;> intro hc <;> try simp only [push_cast, seval] at hc | refine i_x ?_ | clear hK K)
  all_goals (try (exfalso; omega))
  · refine i_ldn (x := (⟨[], false⟩ : past_Was)) rfl rfl rfl ?_
    (with_reducible first | apply i_ret0 | apply i_ret2 | apply i_ret3 | apply i_ret); exact rfl
    simp [wasR, *]
  · refine i_ldn (x := (⟨r.Old, true⟩ : past_Was)) rfl rfl rfl ?_
    (with_reducible first | apply i_ret0 | apply i_ret2 | apply i_ret3 | apply i_ret); exact rfl
    simp [wasR, *]
  · refine i_ldn (x := (⟨r.Old, true⟩ : past_Was)) rfl rfl rfl ?_
    (with_reducible first | apply i_ret0 | apply i_ret2 | apply i_ret3 | apply i_ret); exact rfl
    simp [wasR, *]
  · refine i_ldn (x := (⟨[], false⟩ : past_Was)) rfl rfl rfl ?_
    (with_reducible first | apply i_ret0 | apply i_ret2 | apply i_ret3 | apply i_ret); exact rfl
    simp [wasR, *]
def ins (k lo hi : List UInt8) : Bool := !Op.bytesLess k lo && (hi == [] || (Op.bytesLess k hi || k == hi))
theorem f22 (k lo hi : List UInt8) : Fp eB Try.prog 22 #[str k, str lo, str hi] [] (ins k lo hi) := fun L => by
  refine c22_fn rfl rfl ?_
  repeat' (first | (with_reducible first | refine d_seq fun K hK => ?_ | (refine hK _ _ ?_; clear hK K) | (refine SG.p ?_; try intro b)) | refine i_c ?_ ?_ <;> intro hc <;> try simp only [push_cast, seval] at hc | refine i_x ?_ | clear hK K)
  all_goals ((with_reducible first | apply i_ret0 | apply i_ret2 | apply i_ret3 | apply i_ret); exact rfl; simp [ins, *])
theorem nilg {G : World → Prop} (h : E (HS (([] : List Gn).map gm) :: L) G) : E L G := E.nil0 h
theorem f5 : Fn eP Try.prog 5 #[] [] (fun x X => ∃ p mb ml, x = some ⟨p, 0, none⟩ ∧ X = ppt 45 p ⟨mb, ml, [], 0, [], 0⟩) := fun L => by
  refine c5_fn rfl rfl ?_
  repeat' (first | (with_reducible first | refine d_seq fun K hK => ?_ | (refine hK _ _ ?_; clear hK K) | (refine SG.p ?_; try intro b)) | refine i_c ?_ ?_ <;> intro hc <;> try simp only [push_cast, seval] at hc | refine i_x ?_ | clear hK K)
  refine r_nwm eI eM fun mb => ?_
  refine r_nwm eI eI fun ml => ?_
  repeat' (first | (with_reducible first | refine d_seq fun K hK => ?_ | (refine hK _ _ ?_; clear hK K) | (refine SG.p ?_; try intro b)) | refine i_c ?_ ?_ <;> intro hc <;> try simp only [push_cast, seval] at hc | refine i_x ?_ | clear hK K)
  refine nilg ?_
  rw [show ([] : Ents eI eM) = oe [] from rfl]
  exact i_done (some ⟨_, 0, none⟩) (ppt 45 _ ⟨mb, ml, [], 0, [], 0⟩) rfl ⟨_, mb, ml, rfl, rfl⟩
theorem sub_perm {α : Type} {A B : List α} (h : A.Sublist B) : ∃ C, B.Perm (A ++ C) := by
  induction h with
  | slnil => exact ⟨[], .refl _⟩
  | cons x _ ih => obtain ⟨C, h⟩ := ih; exact ⟨x :: C, (h.cons x).trans (List.perm_middle.symm)⟩
  | cons_cons x _ ih => obtain ⟨C, h⟩ := ih; exact ⟨C, h.cons x⟩
theorem HS.left {A B : List HP} {h : PH} (x : HS (A ++ B) h) : HS A h := by
  induction A generalizing h with
  | nil => trivial
  | cons a A ih => exact HS.cong (fun _ hh => ih hh) x
class G1 (L : List HP) (M : outParam (List Gn)) (R : outParam (List HP)) : Prop where p : At L (HS (M.map gm)) R
instance G1.there {M : List Gn} {R : List HP} {y : HP} [h : G1 L M R] : G1 (y :: L) M (y :: R) := ⟨.there h.p⟩
instance G1.here {M : List Gn} : G1 (HS (M.map gm) :: L) M L := ⟨.here⟩
theorem drg {G : World → Prop} (M M' : List Gn) {R : List HP} (hs : M'.Sublist M) [ha : G1 L M R] (h : E (HS (M'.map gm) :: R) G) : E L G := fun w hw => by
  obtain ⟨C, hp⟩ := sub_perm hs
  refine h w (HS.hd (fun _ x => ?_) (ha.p.hs hw))
  have := HS.perm (hp.map gm) x
  rw [List.map_append] at this
  exact HS.left this
theorem pul {G : World → Prop} {M : List Gn} {R : List HP} (g : Gn) (M' : List Gn) (hp : M.Perm (g :: M')) [ha : G1 L M R] (h : E (mp eS eWs g.b g.ks g.c :: HS (M'.map gm) :: R) G) : E L G := fun w hw => E.pull hp h w (ha.p.hs hw)
class G2 (L : List HP) (b : Nat) (ks : outParam (Ents eS eWs)) (c : outParam Nat) (R : outParam (List HP)) : Prop where p : At L (mp eS eWs b ks c) R
instance G2.there {b c : Nat} {ks : Ents eS eWs} {R : List HP} {y : HP} [h : G2 L b ks c R] : G2 (y :: L) b ks c (y :: R) := ⟨.there h.p⟩
instance G2.here {b c : Nat} {ks : Ents eS eWs} : G2 (mp eS eWs b ks c :: L) b ks c L := ⟨.here⟩
theorem psh {G : World → Prop} (g : Gn) (M' M : List Gn) (hp : M.Perm (g :: M')) {R R' : List HP} [hb : G2 L g.b g.ks g.c R] [ha : AX R (HS (M'.map gm)) R'] (h : E (HS (M.map gm) :: R') G) : E L G := fun w hw => by
  have h1 := hb.p.hs hw
  have h2 : Holds w (gm g :: HS (M'.map gm) :: R') := HS.cong (fun _ x => ha.p.hs x) h1
  exact E.push (f := gm) (x := g) (N := M) (N' := M') hp h w h2
theorem psg {G : World → Prop} (g : Gn) (M : List Gn) {R R' : List HP} [hb : G2 L g.b g.ks g.c R] [ha : AX R (HS (M.map gm)) R'] (h : E (HS ((M ++ [g]).map gm) :: R') G) : E L G := psh g M (M ++ [g]) (List.perm_append_singleton g M) h
set_option maxHeartbeats 1000000 in
theorem f7 (p : Nat) (s : Ps) (r : api_Rec) (lsn : Int) : Fn eN Try.prog 7 #[.pointer (some ⟨p, 0, none⟩), v_api_Rec r, .int .i64 lsn] (ppt 45 p s) (fun _ X => ∃ b, X = ppt 45 p (nt s r lsn b)) := fun L => by
  refine c7_fn rfl rfl ?_
  repeat' (first | (with_reducible first | refine d_seq fun K hK => ?_ | (refine hK _ _ ?_; clear hK K) | (refine SG.p ?_; try intro b)) | refine i_c ?_ ?_ <;> intro hc <;> try simp only [push_cast, seval] at hc | refine i_x ?_ | clear hK K)
  refine i_clp (f15 p s.mb s.ml) ?_
  repeat' (first | (with_reducible first | refine d_seq fun K hK => ?_ | (refine hK _ _ ?_; clear hK K) | (refine SG.p ?_; try intro b)) | refine i_c ?_ ?_ <;> intro hc <;> try simp only [push_cast, seval] at hc | refine i_x ?_ | clear hK K)
  all_goals (try (exfalso; simp at hc; done))
  all_goals (try (exfalso; omega))
  · refine i_done () (ppt 45 p s) rfl ⟨0, ?_⟩
    simp [nt, *]
  iterate 2
    · repeat' (first | (with_reducible first | refine d_seq fun K hK => ?_ | (refine hK _ _ ?_; clear hK K) | (refine SG.p ?_; try intro b) | refine SP.p ?_) | refine i_c ?_ ?_ <;> intro hc <;> try simp only [push_cast, seval] at hc | refine i_x ?_ | clear hK K)
      refine i_dki (ε := eM) none rfl ?_
      repeat' (first | (with_reducible first | refine d_seq fun K hK => ?_ | (refine hK _ _ ?_; clear hK K) | (refine SG.p ?_; try intro b) | refine SP.p ?_) | refine i_c ?_ ?_ <;> intro hc <;> try simp only [push_cast, seval] at hc | refine i_x ?_ | clear hK K)
      refine i_dki (ε := eI) 0 rfl ?_
      repeat' (first | (with_reducible first | refine d_seq fun K hK => ?_ | (refine hK _ _ ?_; clear hK K) | (refine SG.p ?_; try intro b) | refine SP.p ?_) | refine i_c ?_ ?_ <;> intro hc <;> try simp only [push_cast, seval] at hc | refine i_x ?_ | clear hK K)
      refine drg s.M (dg s.M r.Txn) (dg_sub _ _) ?_
      rw [← oe_dg]
      refine i_done () (ppt 45 p { s with M := dg s.M r.Txn, es := dk s.es r.Txn }) rfl ⟨0, ?_⟩
      simp [nt, *]
  repeat' (first | (with_reducible first | refine d_seq fun K hK => ?_ | (refine hK _ _ ?_; clear hK K) | (refine SG.p ?_; try intro b) | refine SP.p ?_) | refine i_c ?_ ?_ <;> intro hc <;> try simp only [push_cast, seval] at hc | refine i_x ?_ | clear hK K)
  refine i_mui (ε := eI) 0 lsn rfl rfl ?_
  repeat' (first | (with_reducible first | refine d_seq fun K hK => ?_ | (refine hK _ _ ?_; clear hK K) | (refine SG.p ?_; try intro b) | refine SP.p ?_) | refine i_c ?_ ?_ <;> intro hc <;> try simp only [push_cast, seval] at hc | refine i_x ?_ | clear hK K)
  repeat' (first | (with_reducible first | refine d_seq fun K hK => ?_ | (refine hK _ _ ?_; clear hK K) | (refine SG.p ?_; try intro b) | refine SP.p ?_) | refine i_c ?_ ?_ <;> intro hc <;> try simp only [push_cast, seval] at hc | refine i_x ?_ | clear hK K)
  refine i_clp (f18 r) ?_
  repeat' (first | (with_reducible first | refine d_seq fun K hK => ?_ | (refine hK _ _ ?_; clear hK K) | (refine SG.p ?_; try intro b)) | refine i_c ?_ ?_ <;> intro hc <;> try simp only [push_cast, seval] at hc | refine i_x ?_ | clear hK K)
  · have hw : wasR r = none := by simpa using hc
    refine i_done () (ppt 45 p { s with es := pk s.es r.Txn lsn s.cl, cl := ck s.es r.Txn s.cl }) rfl ⟨0, ?_⟩
    simp [nt, *]
  · obtain ⟨w, hw⟩ : ∃ w, wasR r = some w := Option.isSome_iff_exists.1 (by simpa using hc)
    simp only [hw, Option.getD_some]
    repeat' (first | (with_reducible first | refine d_seq fun K hK => ?_ | (refine hK _ _ ?_; clear hK K) | (refine SG.p ?_; try intro b) | refine SP.p ?_) | refine i_c ?_ ?_ <;> intro hc <;> try simp only [push_cast, seval] at hc | refine i_x ?_ | clear hK K)
    refine i_lk1iq (ε := eM) none rfl ?_
    rw [gk_oe]
    cases hf : fg s.M r.Txn with
    | none =>
      simp only [Option.map_none, Option.getD_none]
      repeat' (first | (with_reducible first | refine d_seq fun K hK => ?_ | (refine hK _ _ ?_; clear hK K) | (refine SG.p ?_; try intro b)) | refine i_c ?_ ?_ <;> intro hc <;> try simp only [push_cast, seval] at hc | refine i_x ?_ | clear hK K)
      all_goals (try (exfalso; simp at hc; done))
      refine r_nwm eS eWs fun nb => ?_
      repeat' (first | (with_reducible first | refine d_seq fun K hK => ?_ | (refine hK _ _ ?_; clear hK K) | (refine SG.p ?_; try intro b) | refine SP.p ?_) | refine i_c ?_ ?_ <;> intro hc <;> try simp only [push_cast, seval] at hc | refine i_x ?_ | clear hK K)
      refine i_mui (ε := eM) none (some nb) rfl rfl ?_
      repeat' (first | (with_reducible first | refine d_seq fun K hK => ?_ | (refine hK _ _ ?_; clear hK K) | (refine SG.p ?_; try intro b) | refine SP.p ?_) | refine i_c ?_ ?_ <;> intro hc <;> try simp only [push_cast, seval] at hc | refine i_x ?_ | clear hK K)
      refine i_lk2s (ε := eWs) ⟨[], false⟩ rfl ?_
      repeat' (first | (with_reducible first | refine d_seq fun K hK => ?_ | (refine hK _ _ ?_; clear hK K) | (refine SG.p ?_; try intro b)) | refine i_c ?_ ?_ <;> intro hc <;> try simp only [push_cast, seval] at hc | refine i_x ?_ | clear hK K)
      all_goals (try (exfalso; simp [gk] at hc; done))
      refine i_mus (ε := eWs) ⟨[], false⟩ w rfl rfl ?_
      repeat' (first | (with_reducible first | refine d_seq fun K hK => ?_ | (refine hK _ _ ?_; clear hK K) | (refine SG.p ?_; try intro b)) | refine i_c ?_ ?_ <;> intro hc <;> try simp only [push_cast, seval] at hc | refine i_x ?_ | clear hK K)
      have hg : gk (oe s.M) r.Txn = none := by rw [gk_oe, hf]; rfl
      rw [pk_new hg, show ck (oe s.M) r.Txn s.cb = s.cb + 1 by simp [ck, hg]]
      rw [show oe s.M ++ [(r.Txn, some nb, s.cb)] = oe (s.M ++ [⟨r.Txn, s.cb, nb, [(r.Key, w, 0)], 1⟩]) by simp [oe]]
      refine psg ⟨r.Txn, s.cb, nb, [(r.Key, w, 0)], 1⟩ s.M ?_
      refine i_done () (ppt 45 p { s with es := pk s.es r.Txn lsn s.cl, cl := ck s.es r.Txn s.cl, M := s.M ++ [⟨r.Txn, s.cb, nb, [(r.Key, w, 0)], 1⟩], cb := s.cb + 1 }) rfl ⟨nb, ?_⟩
      simp [nt, *]
    | some g =>
      simp only [Option.map_some, Option.getD_some]
      obtain ⟨M', hp1, hp2⟩ := up_perm hf
      repeat' (first | (with_reducible first | refine d_seq fun K hK => ?_ | (refine hK _ _ ?_; clear hK K) | (refine SG.p ?_; try intro b)) | refine i_c ?_ ?_ <;> intro hc <;> try simp only [push_cast, seval] at hc | refine i_x ?_ | clear hK K)
      all_goals (try (exfalso; simp at hc; done))
      refine pul g M' hp1 ?_
      refine i_lk2s (ε := eWs) ⟨[], false⟩ rfl ?_
      repeat' (first | (with_reducible first | refine d_seq fun K hK => ?_ | (refine hK _ _ ?_; clear hK K) | (refine SG.p ?_; try intro b)) | refine i_c ?_ ?_ <;> intro hc <;> try simp only [push_cast, seval] at hc | refine i_x ?_ | clear hK K)
      · have hk : gk g.ks r.Key = none := by simpa using hc
        refine i_mus (ε := eWs) ⟨[], false⟩ w rfl rfl ?_
        repeat' (first | (with_reducible first | refine d_seq fun K hK => ?_ | (refine hK _ _ ?_; clear hK K) | (refine SG.p ?_; try intro b)) | refine i_c ?_ ?_ <;> intro hc <;> try simp only [push_cast, seval] at hc | refine i_x ?_ | clear hK K)
        refine psh ⟨g.id, g.born, g.b, pk g.ks r.Key w g.c, ck g.ks r.Key g.c⟩ M' (up s.M r.Txn r.Key w) (hp2 r.Key w) ?_
        rw [← oe_up s.M r.Txn r.Key w]
        refine i_done () (ppt 45 p { s with es := pk s.es r.Txn lsn s.cl, cl := ck s.es r.Txn s.cl, M := up s.M r.Txn r.Key w }) rfl ⟨0, ?_⟩
        simp [nt, *]
      · obtain ⟨v, hk⟩ : ∃ v, gk g.ks r.Key = some v := Option.isSome_iff_exists.1 (by simpa using hc)
        refine psh g M' _ hp1 ?_
        refine i_done () (ppt 45 p { s with es := pk s.es r.Txn lsn s.cl, cl := ck s.es r.Txn s.cl }) rfl ⟨0, ?_⟩
        simp [nt, *]
end Go.Sp
namespace Go.Sp
open Go Go.Proofs
set_option linter.unusedSimpArgs false
set_option linter.unusedVariables false
set_option maxRecDepth 10000
variable {L : List HP}
theorem mem_perm {α : Type} {M : List α} {g : α} (h : g ∈ M) : ∃ M', M.Perm (g :: M') := by
  obtain ⟨A, B, rfl⟩ := List.append_of_mem h
  exact ⟨A ++ B, List.perm_middle⟩
theorem oe_mem {M : List Gn} {x : Int × Option Nat × Nat} (h : x ∈ oe M) : ∃ g ∈ M, x = (g.id, some g.b, g.born) := by
  obtain ⟨g, hg, rfl⟩ := List.mem_map.1 h
  exact ⟨g, hg, rfl⟩
def acts (M : List Gn) : Nat := (M.map (·.ks.length)).sum
def kl (M : List Gn) (x : Int × Option Nat × Nat) : Nat := ((fg M x.1).map (·.ks.length)).getD 0
theorem oe_ids (M : List Gn) : (oe M).map (·.1) = M.map (·.id) := by simp [oe]
theorem kl_sum {M : List Gn} (hn : (M.map (·.id)).Nodup) : ((oe M).map (kl M)).sum = acts M := by
  unfold acts
  congr 1
  simp only [oe, List.map_map]
  refine List.map_congr_left fun g hg => ?_
  simp [kl, fg_of hn hg]
theorem kl_le {M : List Gn} (hn : (M.map (·.id)).Nodup) {S R : Ents eI eM} (h : Rg (oe M) S R) : (S.map (kl M)).sum ≤ acts M := by
  have := (h.map (kl M)).sum_nat
  rw [List.map_append, List.sum_append, kl_sum hn] at this
  omega
set_option maxHeartbeats 1000000 in
theorem f14 (p : Nat) (s : Ps) {n : Nat} (h : s.ok n) (hn : n ≤ 1000000) : Fp eI Try.prog 14 #[.pointer (some ⟨p, 0, none⟩)] (ppt 45 p s) (acts s.M : Int) := fun L => by
  have hid : (s.M.map (·.id)).Nodup := by have := h.o.1; rwa [oe_ids] at this
  have hk : acts s.M ≤ n := h.nk
  refine c14_fn rfl rfl ?_
  repeat' (first | (with_reducible first | refine d_seq fun K hK => ?_ | (refine hK _ _ ?_; clear hK K) | (refine SG.p ?_; try intro b)) | refine i_c ?_ ?_ <;> intro hc <;> try simp only [push_cast, seval] at hc | refine i_x ?_ | clear hK K)
  refine i_clp (f15 p s.mb s.ml) ?_
  repeat' (first | (with_reducible first | refine d_seq fun K hK => ?_ | (refine hK _ _ ?_; clear hK K) | (refine SG.p ?_; try intro b)) | refine i_c ?_ ?_ <;> intro hc <;> try simp only [push_cast, seval] at hc | refine i_x ?_ | clear hK K)
  all_goals (try (exfalso; simp at hc; done))
  refine i_mrng (κ := eI) (ε := eM) (a := 3) (b := 56) (by kernel_rfl) fun it => ?_
  repeat' (first | (with_reducible first | refine d_seq fun K hK => ?_ | (refine hK _ _ ?_; clear hK K) | (refine SG.p ?_; try intro b) | refine SP.p ?_) | refine i_c ?_ ?_ <;> intro hc <;> try simp only [push_cast, seval] at hc | refine i_x ?_ | clear hK K)
  refine d_lp [3, 12] (fun t : Ents eI eM × Ents eI eM => [(3, .int .i64 ((t.1.map (kl s.M)).sum : Nat)), (12, .pointer (some ⟨it, 0, none⟩))])
    (fun t => blk it (.mapIter (some s.mb) s.cb (sn t.1) s.cb) :: (ppt 45 p s ++ L)) (fun t => Rg (oe s.M) t.1 t.2) (fun t => t.2.length) ([], oe s.M) rfl ?_ (Rg.start _) ?_
  · show Sub (blk it (.mapIter (some s.mb) s.cb #[] s.cb) :: (ppt 45 p s ++ L)) _
    exact SX.p
  rintro ⟨S, R⟩ hR
  dsimp only at hR ⊢
  have hle := kl_le hid hR
  repeat' (first | (with_reducible first | refine d_seq fun K hK => ?_ | (refine hK _ _ ?_; clear hK K) | (refine SG.p ?_; try intro b) | refine SP.p ?_) | refine i_c ?_ ?_ <;> intro hc <;> try simp only [push_cast, seval] at hc | refine i_x ?_ | clear hK K)
  refine i_mnx (κ := eI) (ε := eM) h.o.2.2 (Nat.le_refl _) (fun ha => ?_) fun x hx hns => ?_
  · repeat' (first | (with_reducible first | refine d_seq fun K hK => ?_ | (refine hK _ _ ?_; clear hK K) | (refine SG.p ?_; try intro b) | refine SP.p ?_) | refine i_c ?_ ?_ <;> intro hc <;> try simp only [push_cast, seval] at hc | refine i_x ?_ | clear hK K)
    obtain rfl := hR.done h.o.2.1 ha
    have hS : S.Perm (oe s.M) := by have := hR; unfold Rg at this; simpa using this
    have e := (hS.map (kl s.M)).sum_nat
    rw [kl_sum hid] at e
    rw [e]
    (with_reducible first | apply i_ret0 | apply i_ret2 | apply i_ret3 | apply i_ret); exact rfl
    rfl
  · repeat' (first | (with_reducible first | refine d_seq fun K hK => ?_ | (refine hK _ _ ?_; clear hK K) | (refine SG.p ?_; try intro b) | refine SP.p ?_) | refine i_c ?_ ?_ <;> intro hc <;> try simp only [push_cast, seval] at hc | refine i_x ?_ | clear hK K)
    rw [sn_push]
    refine i_ment hx h.o.2.1 ?_
    obtain ⟨R', hlt, hst⟩ := hR.step hx hns
    have hle' := kl_le hid hst
    obtain ⟨g, hg, rfl⟩ := oe_mem hx
    have hkg : kl s.M (g.id, some g.b, g.born) = g.ks.length := by simp [kl, fg_of hid hg]
    rw [List.map_append, List.sum_append] at hle'
    simp only [List.map_cons, List.map_nil, List.sum_cons, List.sum_nil, hkg] at hle'
    obtain ⟨M', hp⟩ := mem_perm hg
    repeat' (first | (with_reducible first | refine d_seq fun K hK => ?_ | (refine hK _ _ ?_; clear hK K) | (refine SG.p ?_; try intro b) | refine SP.p ?_) | refine i_c ?_ ?_ <;> intro hc <;> try simp only [push_cast, seval] at hc | refine i_x ?_ | clear hK K)
    refine pul g M' hp ?_
    refine r_mlen (κ := eS) (ε := eWs) (a := 9) (b := 31) (by kernel_rfl) M1.p ?_
    repeat' (first | (with_reducible first | refine d_seq fun K hK => ?_ | (refine hK _ _ ?_; clear hK K) | (refine SG.p ?_; try intro b) | refine SP.p ?_) | refine i_c ?_ ?_ <;> intro hc <;> try simp only [push_cast, seval] at hc | refine i_x ?_ | clear hK K)
    refine psh g M' _ hp ?_
    rw [w64 (by omega) (by omega)]
    refine i_bk (S ++ [(g.id, some g.b, g.born)], R') ?_ hst hlt
    show [_, _] = [_, _]
    simp [hkg]
end Go.Sp
namespace Go.Sp
open Go Go.MapKept Go.WideElems Go.Maps Go.WideMaps
set_option linter.unusedSimpArgs false
theorem ins_perm (x : Lit × DataW Unit) : ∀ l : List (Lit × DataW Unit), (DataW.insert x l).Perm (x :: l)
  | [] => List.Perm.refl _
  | y :: r => by
    unfold DataW.insert
    split
    · exact List.Perm.refl _
    · exact ((ins_perm x r).cons y).trans (List.Perm.swap _ _ _)
theorem fold_perm : ∀ l : List (Lit × DataW Unit), (l.foldr DataW.insert []).Perm l
  | [] => List.Perm.refl _
  | x :: r => (ins_perm x _).trans ((fold_perm r).cons x)
def R0 : Value → Option (DataW Unit × List MemPlace) := fun _ => some (.lit (.bool true), [])
section
variable {κ ε : Enc}
def EOk0 (es : Ents κ ε) (c : Nat) : Prop := (es.map (·.1)).Nodup ∧ (es.map (·.2.2)).Nodup ∧ ∀ x ∈ es, x.2.2 < c
omit κ ε in
theorem wf_i64 {n : Int} (h : wf64 n) : (Lit.int .i64 n).wf = true := by
  obtain ⟨h1, h2⟩ := h
  simp only [Lit.wf, IntKind.min, IntKind.max, IntKind.bits, IntKind.signed]
  simp
  omega
theorem own_of {P : Program} {k : TypeId} {lit : κ.α → Lit} {es : Ents κ ε} {c b : Nat} {w : World} (hk : ∀ x ∈ es, keyOf P k (κ.enc x.1) = some (lit x.1)) (hinj : ∀ a b : κ.α, κ.enc a = κ.enc b → a = b) (ho : EOk0 es c) (hl : es.length ≤ 1000000)
    (hb : w.heap[b]? = some (.map ⟨es.map (men κ ε)⟩ c)) : ∃ l : List (Lit × DataW Unit), (l.map (·.1)).Perm (es.map fun x => lit x.1) ∧ w.ownsMap P k R0 b es.length (.map l) := by
  have hrd : ∀ x ∈ es, Go.WideElems.rd P k R0 (men κ ε x) = some (lit x.1, DataW.lit (.bool true)) := fun x hx => WideElems.rd_mk (key := κ.enc x.1) (val := ε.enc x.2.1) (born := x.2.2) (yv := (DataW.lit (.bool true), [])) (hk x hx) rfl
  have hF : Fit P k R0 (⟨es.map (men κ ε)⟩ : Array MapEntry) c := by
    refine ⟨by simp [maxLen]; omega, ⟨?_, ?_, ?_⟩, ?_⟩
    · intro x hx
      obtain ⟨y, hy, rfl⟩ := List.mem_map.1 hx
      exact ho.2.2 y hy
    · simpa [men, Function.comp_def] using ho.2.1
    · have := ho.1
      simp only [List.map_map, Function.comp_def, men]
      rw [List.nodup_iff_pairwise_ne, List.pairwise_map] at this ⊢
      exact this.imp fun h e => h (hinj _ _ e)
    · intro x hx
      obtain ⟨y, hy, rfl⟩ := List.mem_map.1 hx
      exact ⟨_, hrd y hy⟩
  refine ⟨_, ?_, ⟨_, c, hb, hF, by simp, rfl⟩⟩
  refine ((fold_perm _).map _).trans ?_
  rw [List.map_map, List.map_map]
  rw [List.map_congr_left (g := fun x => lit x.1) fun x hx => by simp [WideElems.rg, hrd x hx]]
end
theorem grown_b {w w' : World} (h : RowKit.Below w.heap.size w w') (row : Option Nat) : w.grownBy w' row := ⟨h.os, h.tape, h.output, h.size, fun k hk _ => h.block k hk⟩
section
variable {P : Program} {f g : FuncId} {T kt tt : TypeId} {c b clk : Nat}
theorem fn_keys (hK : ∀ mb W, Calls P f #[.map mb] W fun e w' => e = .returned (.func (.func g) #[] #[.pointer (some ⟨W.heap.size, 0, none⟩)]) ∧ w' = W.alloc (.cells #[.map mb] T)) (mb : Option Nat) :
    Fn eV P f #[.map mb] [] (fun y X => ∃ c, y = .func (.func g) #[] #[.pointer (some ⟨c, 0, none⟩)] ∧ X = [ar c T [.map mb]]) := fun L w hw => by
  refine (hK mb w).mono ?_
  rintro _ _ ⟨rfl, rfl⟩
  exact ⟨_, rfl, _, ⟨_, rfl, rfl⟩, Holds.push (by simpa using hw) (.cells #[.map mb] T (0, 0)) rfl⟩
theorem fn_srt {w w' : World} {A : List HP} {n : Nat} {L : List HP} {p : Option Addr} {m cp : Nat} {xs : List Value} (hw : Holds w (A ++ L)) (hr : w'.ownsRow w.heap.size kt 1 (.slice p m cp) n xs) (hb : RowKit.Below w.heap.size w w') : Holds w' (ow kt 1 (p, m, cp) xs :: (A ++ L)) := by
  have h0 := hw.nilow kt 1
  have hr' : w'.ownsRow w.heap.size kt 1 (.slice p m cp) m xs := by
    obtain ⟨h1, h2⟩ := hr
    rcases h2 with ⟨e, h2⟩ | ⟨g, cap, cur, e, h2⟩
    · cases e
      exact ⟨by rw [h1, h2], .inl ⟨rfl, rfl⟩⟩
    · cases e
      exact ⟨h1, .inr ⟨g, _, cur, rfl, h2⟩⟩
  exact Holds.grown (s := (none, 0, 0)) (s' := (p, m, cp)) h0 w.heap.size (fun _ => rfl) hr' (grown_b hb _) (fun g e => by cases e)
def srt (es : List Int) : List Int := es.mergeSort leI
def srs (es : List (List UInt8)) : List (List UInt8) := es.mergeSort leB
theorem fn_sorted_i {ε : Enc} {es : Ents eI ε} (hkt : P.underlying kt = some (.int .i64))
    (hS : ∀ (D : DataW Unit) (w : World), w.heap[c]? = some (.cells #[.map (some b)] T (0, 0)) → w.ownsMap P kt R0 b es.length D → Maps.size D ≤ maxLen → Maps.size D * 8 ≤ 140737488355328 →
      Calls P f #[.func (.func g) #[] #[.pointer (some ⟨c, 0, none⟩)]] w fun e w' => ∃ (v : Value) (ss : List Int), e = .returned v ∧ ss.Perm (intKeys D) ∧ w'.ownsRow w.heap.size kt 1 v ss.length ((ss.mergeSort fun x y => decide (x ≤ y)).map encZ) ∧ (v = .slice none 0 0 ↔ ss = []) ∧ RowKit.Below w.heap.size w w')
    (ho : EOk0 es clk) (hwf : ∀ x ∈ es, wf64 x.1) (hl : es.length ≤ 1000000) :
    Fn eSl P f #[.func (.func g) #[] #[.pointer (some ⟨c, 0, none⟩)]] [ar c T [.map (some b)], mp eI ε b es clk] (fun s X => X = [ow kt 1 s ((srt (es.map (·.1))).map fun n => .int .i64 n), ar c T [.map (some b)], mp eI ε b es clk]) := fun L w hw => by
  have hc : w.heap[c]? = some (.cells #[.map (some b)] T (0, 0)) := Holds.get hw
  have hb := mp_get (HS.tl hw)
  obtain ⟨l, hp, hown⟩ := own_of (P := P) (k := kt) (κ := eI) (lit := fun x => .int .i64 x) (fun x hx => keyOf_int_mk hkt (by
    have := hwf x hx
    exact wf_i64 this)) (fun a b h => by simpa using h) ho hl hb
  have hsz : Maps.size (.map l : DataW Unit) = es.length := by
    have := hp.length_eq
    simpa [Maps.size] using this
  refine (hS _ w hc hown (by rw [hsz]; simp [maxLen]; omega) (by rw [hsz]; omega)).mono ?_
  rintro _ w' ⟨v, ss, rfl, hss, hrow, _, hbel⟩
  obtain ⟨p, m, cp, rfl⟩ : ∃ p m cp, v = .slice p m cp := by
    rcases hrow.2 with ⟨e, _⟩ | ⟨_, _, _, e, _⟩
    · exact ⟨_, _, _, e⟩
    · exact ⟨_, _, _, e⟩
  refine ⟨(p, m, cp), rfl, _, rfl, ?_⟩
  have hpk : ss.Perm (es.map (·.1)) := by
    refine hss.trans ?_
    have := hp.map intOf
    rw [List.map_map, List.map_map] at this
    refine List.Perm.trans (.of_eq ?_) (this.trans (.of_eq ?_))
    · rfl
    · exact List.map_congr_left fun x _ => rfl
  have hm : (ss.mergeSort fun x y => decide (x ≤ y)) = srt (es.map (·.1)) := mergeSort_of_perm_i hpk
  rw [hm] at hrow
  exact fn_srt (A := [ar c T [.map (some b)], mp eI ε b es clk]) hw hrow hbel
theorem fn_sorted_s {ε : Enc} {es : Ents eS ε} (hkt : P.underlying kt = some .string)
    (hS : ∀ (D : DataW Unit) (w : World), w.heap[c]? = some (.cells #[.map (some b)] T (0, 0)) → w.ownsMap P kt R0 b es.length D → Maps.size D ≤ maxLen → Maps.size D * 16 ≤ 140737488355328 →
      Calls P f #[.func (.func g) #[] #[.pointer (some ⟨c, 0, none⟩)]] w fun e w' => ∃ (v : Value) (ss : List (List UInt8)), e = .returned v ∧ ss.Perm (strKeys D) ∧ w'.ownsRow w.heap.size kt 1 v ss.length ((ss.mergeSort fun x y => decide (x ≤ y)).map Proofs.encStr) ∧ (v = .slice none 0 0 ↔ ss = []) ∧ RowKit.Below w.heap.size w w')
    (ho : EOk0 es clk) (hwf : ∀ x ∈ es, x.1.length ≤ maxLen) (hl : es.length ≤ 1000000) :
    Fn eSl P f #[.func (.func g) #[] #[.pointer (some ⟨c, 0, none⟩)]] [ar c T [.map (some b)], mp eS ε b es clk] (fun s X => X = [ow kt 1 s ((srs (es.map (·.1))).map fun n => str n), ar c T [.map (some b)], mp eS ε b es clk]) := fun L w hw => by
  have hc : w.heap[c]? = some (.cells #[.map (some b)] T (0, 0)) := Holds.get hw
  have hb := mp_get (HS.tl hw)
  obtain ⟨l, hp, hown⟩ := own_of (P := P) (k := kt) (κ := eS) (lit := fun x => .string x) (fun x hx => keyOf_string_mk (s := ⟨x.1.toArray⟩) hkt (by
    have := hwf x hx
    simpa [ByteArray.size] using this)) (fun a b h => str_inj h) ho hl hb
  have hsz : Maps.size (.map l : DataW Unit) = es.length := by
    have := hp.length_eq
    simpa [Maps.size] using this
  refine (hS _ w hc hown (by rw [hsz]; simp [maxLen]; omega) (by rw [hsz]; omega)).mono ?_
  rintro _ w' ⟨v, ss, rfl, hss, hrow, _, hbel⟩
  obtain ⟨p, m, cp, rfl⟩ : ∃ p m cp, v = .slice p m cp := by
    rcases hrow.2 with ⟨e, _⟩ | ⟨_, _, _, e, _⟩
    · exact ⟨_, _, _, e⟩
    · exact ⟨_, _, _, e⟩
  refine ⟨(p, m, cp), rfl, _, rfl, ?_⟩
  have hpk : ss.Perm (es.map (·.1)) := by
    refine hss.trans ?_
    have := hp.map strOf
    rw [List.map_map, List.map_map] at this
    refine List.Perm.trans (.of_eq ?_) (this.trans (.of_eq ?_))
    · rfl
    · exact List.map_congr_left fun x _ => rfl
  have hm : (ss.mergeSort fun x y => decide (x ≤ y)) = srs (es.map (·.1)) := mergeSort_of_perm hpk
  rw [hm] at hrow
  exact fn_srt (A := [ar c T [.map (some b)], mp eS ε b es clk]) hw hrow hbel
end
end Go.Sp
namespace Go.Proofs
open Go.Shelf
def Try.lkB_ren : Go.Shelf.Ren := ⟨fun | 7 => 17 | 10 => 32 | n => n, fun | 23 => 42 | 26 => 3 | 3 => 56 | 28 => 54 | 0 => 0 | 27 => 53 | 33 => 75 | 4 => 4 | n => n, fun | n => n⟩
theorem Try.lkB : Go.Proofs.SlLaysZI.n7 Try.prog Try.lkB_ren := {
  mixed := by kernel_rfl
  f7 := ⟨Try.f17.name, by decide, Try.func17.trans (congrArg some (by kernel_rfl))⟩
  f10 := ⟨Try.f32.name, by decide, Try.func32.trans (congrArg some (by kernel_rfl))⟩
  t0 := Try.underlying0
  a0 := Try.isAgg0
  z0 := Try.sizeOf0
  v0 := Try.zeroValue0
  t4 := Try.underlying4
  a4 := Try.isAgg4
  z4 := Try.sizeOf4
  v4 := Try.zeroValue4
  t23 := Try.underlying42
  a23 := Try.isAgg42
  z23 := Try.sizeOf42
  v23 := Try.zeroValue42
  t26 := Try.underlying3
  a26 := Try.isAgg3
  z26 := Try.sizeOf3
  v26 := Try.zeroValue3
  t27 := Try.underlying53
  a27 := Try.isAgg53
  z27 := Try.sizeOf53
  v27 := Try.zeroValue53
  t28 := Try.underlying54
  a28 := Try.isAgg54
  z28 := Try.sizeOf54
  v28 := Try.zeroValue54
  t33 := Try.underlying75
  a33 := Try.isAgg75
  z33 := Try.sizeOf75
  v33 := Try.zeroValue75 }
def Try.lkS_ren : Go.Shelf.Ren := ⟨fun | 7 => 29 | 10 => 40 | n => n, fun | 23 => 69 | 26 => 9 | 3 => 4 | 28 => 72 | 0 => 0 | 27 => 71 | 33 => 81 | 4 => 4 | n => n, fun | n => n⟩
theorem Try.lkS : Go.Proofs.SlLaysZ.n7 Try.prog Try.lkS_ren := {
  mixed := by kernel_rfl
  f7 := ⟨Try.f29.name, by decide, Try.func29.trans (congrArg some (by kernel_rfl))⟩
  f10 := ⟨Try.f40.name, by decide, Try.func40.trans (congrArg some (by kernel_rfl))⟩
  t0 := Try.underlying0
  a0 := Try.isAgg0
  z0 := Try.sizeOf0
  v0 := Try.zeroValue0
  t4 := Try.underlying4
  a4 := Try.isAgg4
  z4 := Try.sizeOf4
  v4 := Try.zeroValue4
  t23 := Try.underlying69
  a23 := Try.isAgg69
  z23 := Try.sizeOf69
  v23 := Try.zeroValue69
  t26 := Try.underlying9
  a26 := Try.isAgg9
  z26 := Try.sizeOf9
  v26 := Try.zeroValue9
  t27 := Try.underlying71
  a27 := Try.isAgg71
  z27 := Try.sizeOf71
  v27 := Try.zeroValue71
  t28 := Try.underlying72
  a28 := Try.isAgg72
  z28 := Try.sizeOf72
  v28 := Try.zeroValue72
  t33 := Try.underlying81
  a33 := Try.isAgg81
  z33 := Try.sizeOf81
  v33 := Try.zeroValue81 }
def Try.lsI_ren : Go.Shelf.Ren := ⟨fun | 6 => 16 | 8 => 30 | 9 => 31 | 11 => 41 | 13 => 35 | 12 => 42 | 23 => 51 | 24 => 52 | 14 => 56 | 15 => 57 | 16 => 58 | 17 => 59 | 18 => 60 | 19 => 61 | 20 => 62 | 21 => 63 | 22 => 64 | 25 => 79 | 26 => 66 | 27 => 67 | 28 => 80 | 29 => 81 | 30 => 82 | 31 => 88 | n => n, fun | 26 => 3 | 28 => 54 | 24 => 51 | 0 => 0 | 3 => 3 | 37 => 79 | 48 => 93 | 50 => 95 | 4 => 4 | 40 => 86 | 39 => 85 | 45 => 90 | 5 => 5 | 9 => 9 | 51 => 104 | 55 => 108 | 57 => 118 | 58 => 119 | 33 => 75 | n => n, fun | n => n⟩
theorem Try.lsI : Go.Proofs.SlLaysZI.n6 Try.prog Try.lsI_ren := {
  mixed := by kernel_rfl
  f6 := ⟨Try.f16.name, by decide, Try.func16.trans (congrArg some (by kernel_rfl))⟩
  f8 := ⟨Try.f30.name, by decide, Try.func30.trans (congrArg some (by kernel_rfl))⟩
  f11 := ⟨Try.f41.name, by decide, Try.func41.trans (congrArg some (by kernel_rfl))⟩
  t0 := Try.underlying0
  a0 := Try.isAgg0
  z0 := Try.sizeOf0
  v0 := Try.zeroValue0
  t24 := Try.underlying51
  a24 := Try.isAgg51
  z24 := Try.sizeOf51
  v24 := Try.zeroValue51
  t26 := Try.underlying3
  a26 := Try.isAgg3
  z26 := Try.sizeOf3
  v26 := Try.zeroValue3
  t28 := Try.underlying54
  a28 := Try.isAgg54
  z28 := Try.sizeOf54
  v28 := Try.zeroValue54
  i26 := by kernel_rfl }
def Try.lsS_ren : Go.Shelf.Ren := ⟨fun | 6 => 28 | 8 => 38 | 9 => 39 | 11 => 54 | 13 => 35 | 12 => 55 | 23 => 51 | 24 => 52 | 14 => 70 | 15 => 71 | 16 => 72 | 17 => 73 | 18 => 74 | 19 => 75 | 20 => 76 | 21 => 77 | 22 => 78 | 25 => 84 | 26 => 66 | 27 => 67 | 28 => 85 | 29 => 86 | 30 => 87 | 31 => 89 | n => n, fun | 26 => 9 | 28 => 72 | 24 => 47 | 0 => 0 | 3 => 3 | 37 => 79 | 48 => 93 | 50 => 95 | 4 => 4 | 40 => 86 | 39 => 85 | 45 => 90 | 5 => 5 | 9 => 9 | 51 => 104 | 55 => 108 | 57 => 118 | 58 => 119 | 33 => 81 | n => n, fun | n => n⟩
theorem Try.lsS : Go.Proofs.SlLaysZ.n6 Try.prog Try.lsS_ren := {
  mixed := by kernel_rfl
  f6 := ⟨Try.f28.name, by decide, Try.func28.trans (congrArg some (by kernel_rfl))⟩
  f8 := ⟨Try.f38.name, by decide, Try.func38.trans (congrArg some (by kernel_rfl))⟩
  f11 := ⟨Try.f54.name, by decide, Try.func54.trans (congrArg some (by kernel_rfl))⟩
  t0 := Try.underlying0
  a0 := Try.isAgg0
  z0 := Try.sizeOf0
  v0 := Try.zeroValue0
  t24 := Try.underlying47
  a24 := Try.isAgg47
  z24 := Try.sizeOf47
  v24 := Try.zeroValue47
  t26 := Try.underlying9
  a26 := Try.isAgg9
  z26 := Try.sizeOf9
  v26 := Try.zeroValue9
  t28 := Try.underlying72
  a28 := Try.isAgg72
  z28 := Try.sizeOf72
  v28 := Try.zeroValue72
  i26 := by kernel_rfl }
def Try.loI_ren : Go.Shelf.Ren := ⟨fun | 5 => 31 | 8 => 35 | 7 => 42 | 19 => 51 | 20 => 52 | 10 => 56 | 11 => 57 | 12 => 58 | 13 => 59 | 14 => 60 | 15 => 61 | 16 => 62 | 17 => 63 | 18 => 64 | 30 => 79 | 31 => 66 | 32 => 67 | 33 => 80 | 34 => 81 | 35 => 82 | 40 => 88 | n => n, fun | 23 => 51 | 25 => 3 | 3 => 3 | 32 => 79 | 22 => 51 | 0 => 0 | 44 => 93 | 46 => 95 | 4 => 4 | 36 => 86 | 35 => 85 | 41 => 90 | 5 => 5 | 9 => 9 | 53 => 104 | 57 => 108 | 63 => 118 | 64 => 119 | n => n, fun | n => n⟩
theorem Try.loI : Go.Proofs.SlLaysM.n5 Try.prog Try.loI_ren := {
  mixed := by kernel_rfl
  f5 := ⟨Try.f31.name, by decide, Try.func31.trans (congrArg some (by kernel_rfl))⟩
  f7 := ⟨Try.f42.name, by decide, Try.func42.trans (congrArg some (by kernel_rfl))⟩
  f8 := Try.func35.trans (congrArg some (by kernel_rfl))
  f10 := ⟨Try.f56.name, by decide, Try.func56.trans (congrArg some (by kernel_rfl))⟩
  f11 := ⟨Try.f57.name, by decide, Try.func57.trans (congrArg some (by kernel_rfl))⟩
  f12 := ⟨Try.f58.name, by decide, Try.func58.trans (congrArg some (by kernel_rfl))⟩
  f13 := ⟨Try.f59.name, by decide, Try.func59.trans (congrArg some (by kernel_rfl))⟩
  f14 := ⟨Try.f60.name, by decide, Try.func60.trans (congrArg some (by kernel_rfl))⟩
  f15 := ⟨Try.f61.name, by decide, Try.func61.trans (congrArg some (by kernel_rfl))⟩
  f16 := ⟨Try.f62.name, by decide, Try.func62.trans (congrArg some (by kernel_rfl))⟩
  f17 := ⟨Try.f63.name, by decide, Try.func63.trans (congrArg some (by kernel_rfl))⟩
  f18 := ⟨Try.f64.name, by decide, Try.func64.trans (congrArg some (by kernel_rfl))⟩
  f19 := Try.func51.trans (congrArg some (by kernel_rfl))
  f20 := Try.func52.trans (congrArg some (by kernel_rfl))
  f30 := ⟨Try.f79.name, by decide, Try.func79.trans (congrArg some (by kernel_rfl))⟩
  f31 := Try.func66.trans (congrArg some (by kernel_rfl))
  f32 := Try.func67.trans (congrArg some (by kernel_rfl))
  f33 := ⟨Try.f80.name, by decide, Try.func80.trans (congrArg some (by kernel_rfl))⟩
  f34 := ⟨Try.f81.name, by decide, Try.func81.trans (congrArg some (by kernel_rfl))⟩
  f35 := ⟨Try.f82.name, by decide, Try.func82.trans (congrArg some (by kernel_rfl))⟩
  f40 := ⟨Try.f88.name, by decide, Try.func88.trans (congrArg some (by kernel_rfl))⟩
  t0 := Try.underlying0
  a0 := Try.isAgg0
  z0 := Try.sizeOf0
  v0 := Try.zeroValue0
  t3 := Try.underlying3
  a3 := Try.isAgg3
  z3 := Try.sizeOf3
  v3 := Try.zeroValue3
  t4 := Try.underlying4
  a4 := Try.isAgg4
  z4 := Try.sizeOf4
  v4 := Try.zeroValue4
  t5 := Try.underlying5
  a5 := Try.isAgg5
  z5 := Try.sizeOf5
  v5 := Try.zeroValue5
  t9 := Try.underlying9
  a9 := Try.isAgg9
  z9 := Try.sizeOf9
  v9 := Try.zeroValue9
  t22 := Try.underlying51
  a22 := Try.isAgg51
  z22 := Try.sizeOf51
  v22 := Try.zeroValue51
  t23 := Try.underlying51
  a23 := Try.isAgg51
  z23 := Try.sizeOf51
  v23 := Try.zeroValue51
  t25 := Try.underlying3
  a25 := Try.isAgg3
  z25 := Try.sizeOf3
  v25 := Try.zeroValue3
  t32 := Try.underlying79
  a32 := Try.isAgg79
  z32 := Try.sizeOf79
  v32 := Try.zeroValue79
  t35 := Try.underlying85
  a35 := Try.isAgg85
  z35 := Try.sizeOf85
  v35 := Try.zeroValue85
  t36 := Try.underlying86
  a36 := Try.isAgg86
  z36 := Try.sizeOf86
  v36 := Try.zeroValue86
  t41 := Try.underlying90
  a41 := Try.isAgg90
  z41 := Try.sizeOf90
  v41 := Try.zeroValue90
  t44 := Try.underlying93
  a44 := Try.isAgg93
  z44 := Try.sizeOf93
  v44 := Try.zeroValue93
  t46 := Try.underlying95
  a46 := Try.isAgg95
  z46 := Try.sizeOf95
  v46 := Try.zeroValue95
  t53 := Try.underlying104
  a53 := Try.isAgg104
  z53 := Try.sizeOf104
  v53 := Try.zeroValue104
  t57 := Try.underlying108
  a57 := Try.isAgg108
  z57 := Try.sizeOf108
  v57 := Try.zeroValue108
  t63 := Try.underlying118
  a63 := Try.isAgg118
  z63 := Try.sizeOf118
  v63 := Try.zeroValue118
  t64 := Try.underlying119
  a64 := Try.isAgg119
  z64 := Try.sizeOf119
  v64 := Try.zeroValue119 }
def Try.loS_ren : Go.Shelf.Ren := ⟨fun | 6 => 39 | 8 => 35 | 9 => 55 | 19 => 51 | 20 => 52 | 21 => 70 | 22 => 71 | 23 => 72 | 24 => 73 | 25 => 74 | 26 => 75 | 27 => 76 | 28 => 77 | 29 => 78 | 36 => 84 | 31 => 66 | 32 => 67 | 37 => 85 | 38 => 86 | 39 => 87 | 41 => 89 | n => n, fun | 27 => 47 | 29 => 9 | 3 => 3 | 32 => 79 | 26 => 47 | 0 => 0 | 44 => 93 | 46 => 95 | 4 => 4 | 36 => 86 | 35 => 85 | 41 => 90 | 5 => 5 | 9 => 9 | 53 => 104 | 57 => 108 | 63 => 118 | 64 => 119 | n => n, fun | n => n⟩
theorem Try.loS : Go.Proofs.SlLaysM.n6 Try.prog Try.loS_ren := {
  mixed := by kernel_rfl
  f6 := ⟨Try.f39.name, by decide, Try.func39.trans (congrArg some (by kernel_rfl))⟩
  f8 := Try.func35.trans (congrArg some (by kernel_rfl))
  f9 := ⟨Try.f55.name, by decide, Try.func55.trans (congrArg some (by kernel_rfl))⟩
  f19 := Try.func51.trans (congrArg some (by kernel_rfl))
  f20 := Try.func52.trans (congrArg some (by kernel_rfl))
  f21 := ⟨Try.f70.name, by decide, Try.func70.trans (congrArg some (by kernel_rfl))⟩
  f22 := ⟨Try.f71.name, by decide, Try.func71.trans (congrArg some (by kernel_rfl))⟩
  f23 := ⟨Try.f72.name, by decide, Try.func72.trans (congrArg some (by kernel_rfl))⟩
  f24 := ⟨Try.f73.name, by decide, Try.func73.trans (congrArg some (by kernel_rfl))⟩
  f25 := ⟨Try.f74.name, by decide, Try.func74.trans (congrArg some (by kernel_rfl))⟩
  f26 := ⟨Try.f75.name, by decide, Try.func75.trans (congrArg some (by kernel_rfl))⟩
  f27 := ⟨Try.f76.name, by decide, Try.func76.trans (congrArg some (by kernel_rfl))⟩
  f28 := ⟨Try.f77.name, by decide, Try.func77.trans (congrArg some (by kernel_rfl))⟩
  f29 := ⟨Try.f78.name, by decide, Try.func78.trans (congrArg some (by kernel_rfl))⟩
  f31 := Try.func66.trans (congrArg some (by kernel_rfl))
  f32 := Try.func67.trans (congrArg some (by kernel_rfl))
  f36 := ⟨Try.f84.name, by decide, Try.func84.trans (congrArg some (by kernel_rfl))⟩
  f37 := ⟨Try.f85.name, by decide, Try.func85.trans (congrArg some (by kernel_rfl))⟩
  f38 := ⟨Try.f86.name, by decide, Try.func86.trans (congrArg some (by kernel_rfl))⟩
  f39 := ⟨Try.f87.name, by decide, Try.func87.trans (congrArg some (by kernel_rfl))⟩
  f41 := ⟨Try.f89.name, by decide, Try.func89.trans (congrArg some (by kernel_rfl))⟩
  t0 := Try.underlying0
  a0 := Try.isAgg0
  z0 := Try.sizeOf0
  v0 := Try.zeroValue0
  t3 := Try.underlying3
  a3 := Try.isAgg3
  z3 := Try.sizeOf3
  v3 := Try.zeroValue3
  t4 := Try.underlying4
  a4 := Try.isAgg4
  z4 := Try.sizeOf4
  v4 := Try.zeroValue4
  t5 := Try.underlying5
  a5 := Try.isAgg5
  z5 := Try.sizeOf5
  v5 := Try.zeroValue5
  t9 := Try.underlying9
  a9 := Try.isAgg9
  z9 := Try.sizeOf9
  v9 := Try.zeroValue9
  t26 := Try.underlying47
  a26 := Try.isAgg47
  z26 := Try.sizeOf47
  v26 := Try.zeroValue47
  t27 := Try.underlying47
  a27 := Try.isAgg47
  z27 := Try.sizeOf47
  v27 := Try.zeroValue47
  t29 := Try.underlying9
  a29 := Try.isAgg9
  z29 := Try.sizeOf9
  v29 := Try.zeroValue9
  t32 := Try.underlying79
  a32 := Try.isAgg79
  z32 := Try.sizeOf79
  v32 := Try.zeroValue79
  t35 := Try.underlying85
  a35 := Try.isAgg85
  z35 := Try.sizeOf85
  v35 := Try.zeroValue85
  t36 := Try.underlying86
  a36 := Try.isAgg86
  z36 := Try.sizeOf86
  v36 := Try.zeroValue86
  t41 := Try.underlying90
  a41 := Try.isAgg90
  z41 := Try.sizeOf90
  v41 := Try.zeroValue90
  t44 := Try.underlying93
  a44 := Try.isAgg93
  z44 := Try.sizeOf93
  v44 := Try.zeroValue93
  t46 := Try.underlying95
  a46 := Try.isAgg95
  z46 := Try.sizeOf95
  v46 := Try.zeroValue95
  t53 := Try.underlying104
  a53 := Try.isAgg104
  z53 := Try.sizeOf104
  v53 := Try.zeroValue104
  t57 := Try.underlying108
  a57 := Try.isAgg108
  z57 := Try.sizeOf108
  v57 := Try.zeroValue108
  t63 := Try.underlying118
  a63 := Try.isAgg118
  z63 := Try.sizeOf118
  v63 := Try.zeroValue118
  t64 := Try.underlying119
  a64 := Try.isAgg119
  z64 := Try.sizeOf119
  v64 := Try.zeroValue119 }
end Go.Proofs
namespace Go.Sp
open Go Go.Proofs Go.RowKit Go.Maps Go.Sort Go.Shelf
theorem EOk.z {κ ε : Enc} [DecidableEq κ.α] {es : Ents κ ε} {c : Nat} (h : EOk es c) : EOk0 es c := h
theorem sortsI (m : Nat) : AnyZI.SortsIn Try.prog Try.lsI_ren Fence.wide m :=
  ⟨fun blk off cap ss W hH hblk hsz => callsIn_wide.2 (AnyM.slices_Sort_int Try.loI blk off cap ss W hH hblk hsz),
   fun p cap W => callsIn_wide.2 (AnyM.slices_Sort_int_none Try.loI p cap W)⟩
theorem sortsS (m : Nat) : AnyZ.SortsIn Try.prog Try.lsS_ren Fence.wide m :=
  ⟨fun blk off cap ss W hH hblk hsz => callsIn_wide.2 (AnyM.slices_Sort_string Try.loS blk off cap ss W hH hblk hsz),
   fun p cap W => callsIn_wide.2 (AnyM.slices_Sort_string_none Try.loS p cap W)⟩
theorem kB (mb : Option Nat) : Fn eV Try.prog 17 #[.map mb] [] (fun y X => ∃ c, y = .func (.func 32) #[] #[.pointer (some ⟨c, 0, none⟩)] ∧ X = [ar c 42 [.map mb]]) :=
  fn_keys (fun mb W => (callsIn_wide (n := 5)).1 (AnyZI.keys_in Try.lkB Fence.wide 5 trivial rfl mb W)) mb
theorem kS (mb : Option Nat) : Fn eV Try.prog 29 #[.map mb] [] (fun y X => ∃ c, y = .func (.func 40) #[] #[.pointer (some ⟨c, 0, none⟩)] ∧ X = [ar c 69 [.map mb]]) :=
  fn_keys (fun mb W => (callsIn_wide (n := 5)).1 (AnyZ.keys_in Try.lkS Fence.wide 5 trivial rfl mb W)) mb
theorem cellc {w : World} {c : Nat} {v : Value} {T : TypeId} (h : w.heap[c]? = some (.cells #[v] T (0, 0))) : w.cell? ⟨c, 0, none⟩ = some v ∧ c < w.heap.size :=
  ⟨by simp [World.cell?, h], (Array.getElem?_eq_some_iff.1 h).1⟩
theorem sB (c b clk : Nat) (es : Ents eI eM) (ho : EOk es clk) (hwf : ∀ x ∈ es, wf64 x.1) (hl : es.length ≤ 1000000) :
    Fn eSl Try.prog 16 #[.func (.func 32) #[] #[.pointer (some ⟨c, 0, none⟩)]] [ar c 42 [.map (some b)], mp eI eM b es clk] (fun s X => X = [ow 3 1 s ((srt (es.map (·.1))).map fun n => .int .i64 n), ar c 42 [.map (some b)], mp eI eM b es clk]) :=
  fn_sorted_i Try.underlying3 (fun D w hc hown h1 h2 => by
    have hseq : SeqGives Fence.wide 2 Try.prog 32 #[.pointer (some ⟨c, 0, none⟩)] encZ (fun ss => ss.Perm (intKeys D)) (Maps.size D) w :=
      AnyZI.keys_gives (ρ := Try.lkB_ren) { Try.lkB with } Fence.wide _ trivial rfl (by omega) c b es.length D w (cellc hc).2 (cellc hc).1 hown
    have cS := AnyZI.sorted_in Try.lsI Fence.wide 5 trivial trivial trivial trivial rfl (by omega) (sortsI _) (enters_of Try.func31 (by kernel_rfl) rfl) 32 #[.pointer (some ⟨c, 0, none⟩)] trivial (enters_of Try.func32 (by kernel_rfl) rfl) _ _ h1 h2 _ hseq
    exact (callsIn_wide (n := 5)).1 cS) ho.z hwf hl
theorem sS (c b clk : Nat) (es : Ents eS eB) (ho : EOk es clk) (hwf : ∀ x ∈ es, x.1.length ≤ maxLen) (hl : es.length ≤ 1000000) :
    Fn eSl Try.prog 28 #[.func (.func 40) #[] #[.pointer (some ⟨c, 0, none⟩)]] [ar c 69 [.map (some b)], mp eS eB b es clk] (fun s X => X = [ow 9 1 s ((srs (es.map (·.1))).map fun n => str n), ar c 69 [.map (some b)], mp eS eB b es clk]) :=
  fn_sorted_s Try.underlying9 (fun D w hc hown h1 h2 => by
    have hseq : SeqGives Fence.wide 2 Try.prog 40 #[.pointer (some ⟨c, 0, none⟩)] encStr (fun ss => ss.Perm (strKeys D)) (Maps.size D) w :=
      AnyZ.keys_gives (ρ := Try.lkS_ren) { Try.lkS with } Fence.wide _ trivial rfl (by omega) c b es.length D w (cellc hc).2 (cellc hc).1 hown
    have cS := AnyZ.sorted_in Try.lsS Fence.wide 5 trivial trivial trivial trivial rfl (by omega) (sortsS _) (enters_of Try.func39 (by kernel_rfl) rfl) 40 #[.pointer (some ⟨c, 0, none⟩)] trivial (enters_of Try.func40 (by kernel_rfl) rfl) _ _ h1 h2 _ hseq
    exact (callsIn_wide (n := 5)).1 cS) ho.z hwf hl
end Go.Sp
namespace Go.Sp
open Go Go.Proofs
set_option linter.unusedSimpArgs false
set_option linter.unusedVariables false
set_option maxRecDepth 10000
variable {L : List HP}
def lkp (M : List Gn) (k : List UInt8) : List Int → Option past_Was
  | [] => none
  | i :: r => match (fg M i).bind fun g => gk g.ks k with
    | some w => some w
    | none => lkp M k r
def getp (M : List Gn) (k : List UInt8) : Option past_Was := lkp M k (srt (M.map (·.id)))
theorem Ps.ok.wfo {s : Ps} {n : Nat} (h : s.ok n) : ∀ x ∈ oe s.M, wf64 x.1 := fun x hx => by
  obtain ⟨g, hg, rfl⟩ := oe_mem hx
  exact h.wo g hg
theorem oe_len (M : List Gn) : (oe M).length = M.length := by simp [oe]
set_option maxHeartbeats 1000000 in
theorem f6' (p : Nat) (s : Ps) (k : List UInt8) {n : Nat} (h : s.ok n) (hn : n ≤ 1000000) (r : Option past_Was) (hr : getp s.M k = r) : Fp (eT2 eWs eB) Try.prog 6 #[.pointer (some ⟨p, 0, none⟩), str k] (ppt 45 p s) (r.getD ⟨[], false⟩, r.isSome) := fun L => by
  refine c6_fn rfl rfl ?_
  repeat' (first | (with_reducible first | refine d_seq fun K hK => ?_ | (refine hK _ _ ?_; clear hK K) | (refine SG.p ?_; try intro b)) | refine i_c ?_ ?_ <;> intro hc <;> try simp only [push_cast, seval] at hc | refine i_x ?_ | clear hK K)
  refine i_clp (f15 p s.mb s.ml) ?_
  repeat' (first | (with_reducible first | refine d_seq fun K hK => ?_ | (refine hK _ _ ?_; clear hK K) | (refine SG.p ?_; try intro b)) | refine i_c ?_ ?_ <;> intro hc <;> try simp only [push_cast, seval] at hc | refine i_x ?_ | clear hK K)
  all_goals (try (exfalso; simp at hc; done))
  refine i_cal (kB (some s.mb)) ?_
  rintro y _ ⟨c, rfl, rfl⟩
  have hlen : (oe s.M).length ≤ 1000000 := by rw [oe_len]; exact Nat.le_trans h.no hn
  refine i_cal (sB c s.mb s.cb (oe s.M) h.o h.wfo hlen) ?_
  rintro ⟨sp, sn, sc⟩ _ rfl
  rw [oe_ids]
  simp only [List.cons_append, List.nil_append]
  have hil : (srt (s.M.map (·.id))).length ≤ 1000000 := by have := h.no; simp [srt]; omega
  generalize hg : srt (s.M.map (·.id)) = ids at *
  refine i_ow (t := 3) (sz := 1) (sp, sn, sc) fun hR => ?_
  have hlen2 : sn = ids.length := by have := hR.1; simpa using this.symm
  subst hlen2
  have hgp : lkp s.M k ids = r := by rw [← hr]; unfold getp; rw [hg]
  have hids : ∀ i ∈ ids, ∃ g, fg s.M i = some g ∧ g ∈ s.M := fun i hi => by
    have : i ∈ s.M.map (·.id) := by rw [← hg] at hi; exact (List.mergeSort_perm _ _).mem_iff.1 hi
    obtain ⟨g, hgm, rfl⟩ := List.mem_map.1 this
    have hid : (s.M.map (·.id)).Nodup := by have := h.o.1; rwa [oe_ids] at this
    exact ⟨g, fg_of hid hgm, hgm⟩
  repeat' (first | (with_reducible first | refine d_seq fun K hK => ?_ | (refine hK _ _ ?_; clear hK K) | (refine SG.p ?_; try intro b) | refine SP.p ?_) | refine i_c ?_ ?_ <;> intro hc <;> try simp only [push_cast, seval] at hc | refine i_x ?_ | clear hK K)
  refine d_lp [0, 1, 4, 18, 19, 20] (fun i : Nat => [(0, .pointer (some ⟨p, 0, none⟩)), (1, str k), (4, .pointer (some ⟨b, 0, none⟩)), (18, .slice sp ids.length sc), (19, .int .i64 (ids.length : Int)), (20, .int .i64 (i : Int))])
    (fun _ => ow 3 1 (sp, ids.length, sc) (ids.map fun n => .int .i64 n) :: ar b 31 [str [], .bool false] :: (ppt 45 p s ++ L)) (fun i => i ≤ ids.length ∧ lkp s.M k (ids.drop i) = r) (fun i => ids.length - i) 0 rfl SX.p ⟨Nat.zero_le _, hgp⟩ ?_
  rintro i ⟨hi, ho⟩
  try dsimp only at hi ho ⊢
  by_cases hlt : i < ids.length
  · have hx : (ids.map fun n => Value.int .i64 n)[i]? = some (eI.enc ids[i]) := by simp [hlt]
    obtain ⟨ad, rfl⟩ := hR.ptr (by omega)
    have ei : IntKind.wrap .i64 ((i : Int) + 1) = ((i + 1 : Nat) : Int) := by rw [w64 (by omega) (by omega)]; omega
    rw [List.drop_eq_getElem_cons hlt] at ho
    obtain ⟨g, hfg, hgm⟩ := hids ids[i] (List.getElem_mem hlt)
    generalize ids[i] = id at *
    repeat' (first | (with_reducible first | refine d_seq fun K hK => ?_ | (refine hK _ _ ?_; clear hK K) | (refine SG.p ?_; try intro b)) | refine i_c ?_ ?_ <;> intro hc <;> try simp only [push_cast, seval] at hc | refine i_x ?_ | clear hK K)
    all_goals try (exfalso; omega)
    refine i_o1 hx ?_
    repeat' (first | (with_reducible first | refine d_seq fun K hK => ?_ | (refine hK _ _ ?_; clear hK K) | (refine SG.p ?_; try intro b)) | refine i_c ?_ ?_ <;> intro hc <;> try simp only [push_cast, seval] at hc | refine i_x ?_ | clear hK K)
    refine i_lk1i (ε := eM) none rfl ?_
    rw [gk_oe, hfg]
    simp only [Option.map_some, Option.getD_some]
    obtain ⟨M', hp⟩ := mem_perm hgm
    refine pul g M' hp ?_
    refine i_lk2s (ε := eWs) ⟨[], false⟩ rfl ?_
    unfold lkp at ho
    rw [hfg] at ho
    simp only [Option.bind_some] at ho
    cases hk : gk g.ks k with
    | none =>
      rw [hk] at ho
      simp only [Option.getD_none, Option.isSome_none]
      repeat' (first | (with_reducible first | refine d_seq fun K hK => ?_ | (refine hK _ _ ?_; clear hK K) | (refine SG.p ?_; try intro b)) | refine i_c ?_ ?_ <;> intro hc <;> try simp only [push_cast, seval] at hc | refine i_x ?_ | clear hK K)
      all_goals (try (exfalso; simp at hc; done))
      rw [ei]
      refine psh g M' _ hp ?_
      exact i_bk (i + 1) rfl ⟨by omega, ho⟩ (by omega)
    | some w =>
      rw [hk] at ho
      obtain rfl : some w = r := ho
      simp only [Option.getD_some, Option.isSome_some]
      repeat' (first | (with_reducible first | refine d_seq fun K hK => ?_ | (refine hK _ _ ?_; clear hK K) | (refine SG.p ?_; try intro b)) | refine i_c ?_ ?_ <;> intro hc <;> try simp only [push_cast, seval] at hc | refine i_x ?_ | clear hK K)
      all_goals (try (exfalso; simp at hc; done))
      refine psh g M' _ hp ?_
      exact i_ret2 rfl rfl
  · rw [List.drop_eq_nil_of_le (by omega)] at ho
    obtain rfl : none = r := ho
    repeat' (first | (with_reducible first | refine d_seq fun K hK => ?_ | (refine hK _ _ ?_; clear hK K) | (refine SG.p ?_; try intro b)) | refine i_c ?_ ?_ <;> intro hc <;> try simp only [push_cast, seval] at hc | refine i_x ?_ | clear hK K)
    all_goals try (exfalso; omega)
    refine i_ldn (x := (⟨[], false⟩ : past_Was)) rfl rfl rfl ?_
    exact i_ret2 rfl rfl
theorem f6 (p : Nat) (s : Ps) (k : List UInt8) {n : Nat} (h : s.ok n) (hn : n ≤ 1000000) : Fp (eT2 eWs eB) Try.prog 6 #[.pointer (some ⟨p, 0, none⟩), str k] (ppt 45 p s) ((getp s.M k).getD ⟨[], false⟩, (getp s.M k).isSome) := f6' p s k h hn _ rfl
end Go.Sp
namespace Go.Sp
open Go Go.Proofs
set_option linter.unusedSimpArgs false
set_option linter.unusedVariables false
set_option maxRecDepth 10000
variable {L : List HP}
set_option maxHeartbeats 1000000 in
theorem f9 : Fp eB Try.prog 9 #[] [] true := fun L => by
  refine c9_fn rfl rfl ?_
  repeat' (first | (with_reducible first | refine d_seq fun K hK => ?_ | (refine hK _ _ ?_; clear hK K) | (refine SG.p ?_; try intro b)) | refine i_c ?_ ?_ <;> intro hc <;> try simp only [push_cast, seval] at hc | refine i_x ?_ | clear hK K)
  refine i_cal f5 ?_
  rintro _ _ ⟨p, mb, ml, rfl, rfl⟩
  repeat' (first | (with_reducible first | refine d_seq fun K hK => ?_ | (refine hK _ _ ?_; clear hK K) | (refine SG.p ?_; try intro b)) | refine i_c ?_ ?_ <;> intro hc <;> try simp only [push_cast, seval] at hc | refine i_x ?_ | clear hK K)
  refine i_cal (f7 p ⟨mb, ml, [], 0, [], 0⟩ _ 3) ?_
  rintro _ _ ⟨nb1, rfl⟩
  have h1 := nt_ok (ok0 mb ml) (r := ⟨3, 5, 0, 0, 0, [97], [], [49], 0, (none, 0, 0), (none, 0, 0), 0, 0⟩) ⟨by decide, by decide⟩ (by decide) 3 nb1
  have e1 : nt ⟨mb, ml, [], 0, [], 0⟩ ⟨3, 5, 0, 0, 0, [97], [], [49], 0, (none, 0, 0), (none, 0, 0), 0, 0⟩ 3 nb1 = ⟨mb, ml, [⟨5, 0, nb1, [([97], ⟨[], false⟩, 0)], 1⟩], 1, [(5, 3, 0)], 1⟩ := rfl
  rw [e1] at h1 ⊢
  have g1 : getp [⟨5, 0, nb1, [([97], ⟨[], false⟩, 0)], 1⟩] [97] = some ⟨[], false⟩ := by simp [getp, srt, lkp, fg, gk]
  repeat' (first | (with_reducible first | refine d_seq fun K hK => ?_ | (refine hK _ _ ?_; clear hK K) | (refine SG.p ?_; try intro b)) | refine i_c ?_ ?_ <;> intro hc <;> try simp only [push_cast, seval] at hc | refine i_x ?_ | clear hK K)
  refine i_clp (f6' p _ [97] h1 (by decide) _ g1) ?_
  simp only [Option.getD_some, Option.isSome_some]
  repeat' (first | (with_reducible first | refine d_seq fun K hK => ?_ | (refine hK _ _ ?_; clear hK K) | (refine SG.p ?_; try intro b)) | refine i_c ?_ ?_ <;> intro hc <;> try simp only [push_cast, seval] at hc | refine i_x ?_ | clear hK K)
  all_goals (try (exfalso; simp at *; done))
  refine i_clp (f14 p _ h1 (by decide)) ?_
  repeat' (first | (with_reducible first | refine d_seq fun K hK => ?_ | (refine hK _ _ ?_; clear hK K) | (refine SG.p ?_; try intro b)) | refine i_c ?_ ?_ <;> intro hc <;> try simp only [push_cast, seval] at hc | refine i_x ?_ | clear hK K)
  all_goals (try (exfalso; simp [acts] at *; done))
  refine i_cal (f7 p ⟨mb, ml, [⟨5, 0, nb1, [([97], ⟨[], false⟩, 0)], 1⟩], 1, [(5, 3, 0)], 1⟩ _ 9) ?_
  rintro _ _ ⟨nb2, rfl⟩
  have h2 := nt_ok h1 (r := ⟨7, 5, 0, 0, 0, [], [], [], 0, (none, 0, 0), (none, 0, 0), 0, 0⟩) ⟨by decide, by decide⟩ (by decide) 9 nb2
  have e2 : nt ⟨mb, ml, [⟨5, 0, nb1, [([97], ⟨[], false⟩, 0)], 1⟩], 1, [(5, 3, 0)], 1⟩ ⟨7, 5, 0, 0, 0, [], [], [], 0, (none, 0, 0), (none, 0, 0), 0, 0⟩ 9 nb2 = ⟨mb, ml, [], 1, [], 1⟩ := rfl
  rw [e2] at h2 ⊢
  have g2 : getp [] [97] = none := by simp [getp, srt, lkp]
  repeat' (first | (with_reducible first | refine d_seq fun K hK => ?_ | (refine hK _ _ ?_; clear hK K) | (refine SG.p ?_; try intro b)) | refine i_c ?_ ?_ <;> intro hc <;> try simp only [push_cast, seval] at hc | refine i_x ?_ | clear hK K)
  refine i_clp (f6' p _ [97] h2 (by decide) _ g2) ?_
  simp only [Option.getD_none, Option.isSome_none]
  repeat' (first | (with_reducible first | refine d_seq fun K hK => ?_ | (refine hK _ _ ?_; clear hK K) | (refine SG.p ?_; try intro b)) | refine i_c ?_ ?_ <;> intro hc <;> try simp only [push_cast, seval] at hc | refine i_x ?_ | clear hK K)
  all_goals (try (exfalso; simp at *; done))
  exact i_ret (e := eB) rfl rfl
end Go.Sp
namespace Go.Sp
open Go Go.Proofs
set_option linter.unusedSimpArgs false
set_option linter.unusedVariables false
set_option maxRecDepth 10000
variable {L : List HP}
abbrev cC (x : api_Cell) : List Value := [str x.Key, str x.Val]
theorem cC_len (x : api_Cell) : (cC x).length = 2 := rfl
theorem all_one (cs : List api_Cell) : (cs.flatMap cC).all one = true := by
  rw [List.all_eq_true]
  intro v hv
  obtain ⟨x, _, hx⟩ := List.mem_flatMap.1 hv
  simp at hx
  rcases hx with rfl | rfl <;> rfl
theorem i_ent {P : Program} {f : FuncId} {k : W} (h : entered P f = true) (hk : E L k) : E L (ent P f k) := by
  unfold ent; rw [h]; exact hk
theorem f20 {A : HP} {s : SlV} {cs : List api_Cell} (hR : Rs A s 2 (cs.flatMap cC)) (hl : cs.length ≤ 1000000) : Fn eSl Try.prog 20 #[.slice s.1 s.2.1 s.2.2] [A] (fun s' X => X = [ow 39 2 s' (cs.flatMap cC), A] ∧ s'.2.1 = cs.length) := fun L => by
  obtain ⟨sp, sn, sc⟩ := s
  obtain rfl : sn = cs.length := hR.len cC_len (by decide)
  refine c20_fn rfl rfl ?_
  repeat' (first | (with_reducible first | refine d_seq fun K hK => ?_ | (refine hK _ _ ?_; clear hK K) | (refine SG.p ?_; try intro b)) | refine i_c ?_ ?_ <;> intro hc <;> try simp only [push_cast, seval] at hc | refine i_x ?_ | clear hK K)
  refine r_eqnil (e := 39) (by kernel_rfl) ?_
  repeat' (first | (with_reducible first | refine d_seq fun K hK => ?_ | (refine hK _ _ ?_; clear hK K) | (refine SG.p ?_; try intro b)) | refine i_c ?_ ?_ <;> intro hc <;> try simp only [push_cast, seval] at hc | refine i_x ?_ | clear hK K)
  · have hz : cs = [] := by
      obtain rfl : sp = none := by simpa using hc
      rcases Nat.eq_zero_or_pos cs.length with h | h
      · exact List.eq_nil_of_length_eq_zero h
      · obtain ⟨a, e⟩ := hR.ptr (by omega); cases e
    subst hz
    refine r_nilow 39 2 ?_
    exact i_done (e := eSl) (none, 0, 0) [ow 39 2 (none, 0, 0) [], A] rfl ⟨rfl, rfl⟩
  · obtain ⟨ad, rfl⟩ : ∃ ad, sp = some ad := by cases sp with
      | none => simp at hc
      | some a => exact ⟨a, rfl⟩
    refine i_arow (g := b) (t := 39) (sz := 2) (n := 0) (c := 0) (xs := []) (tl := []) rfl rfl (Nat.le_refl _) (Nat.zero_le _) rfl ?_
    refine r_app (s := (some ⟨b, 0, none⟩, 0, 0)) 32 (by kernel_rfl) At.here (At.there At.here) hR (all_one cs) (by simp only [maxLen]; omega) (by simp only [maxLen]; omega) fun s' h1 h2 => ?_
    rw [List.nil_append]
    repeat' (first | (with_reducible first | refine d_seq fun K hK => ?_ | (refine hK _ _ ?_; clear hK K) | (refine SG.p ?_; try intro b)) | refine i_c ?_ ?_ <;> intro hc <;> try simp only [push_cast, seval] at hc | refine i_x ?_ | clear hK K)
    exact i_done (e := eSl) s' [ow 39 2 s' (cs.flatMap cC), A] rfl ⟨rfl, by simpa using h1⟩
section
variable {pp : Option Addr} {PP : HP} {r : List UInt8 → past_Was × Bool} (hg : ∀ k, Fp (eT2 eWs eB) Try.prog 6 #[.pointer pp, str k] [PP] (r k))
include hg
theorem f21 (x : api_Cell) (bx : Nat) : Fp eB Try.prog 21 #[v_api_Cell x, .pointer (some ⟨bx, 0, none⟩)] [ar bx 24 [.pointer pp], PP] (r x.Key).2 := fun L => by
  refine c21_fn rfl rfl ?_
  repeat' (first | (with_reducible first | refine d_seq fun K hK => ?_ | (refine hK _ _ ?_; clear hK K) | (refine SG.p ?_; try intro b)) | refine i_c ?_ ?_ <;> intro hc <;> try simp only [push_cast, seval] at hc | refine i_x ?_ | clear hK K)
  refine i_clp (hg x.Key) ?_
  repeat' (first | (with_reducible first | refine d_seq fun K hK => ?_ | (refine hK _ _ ?_; clear hK K) | (refine SG.p ?_; try intro b)) | refine i_c ?_ ?_ <;> intro hc <;> try simp only [push_cast, seval] at hc | refine i_x ?_ | clear hK K)
  exact i_ret (e := eB) rfl rfl
def ixf (f : api_Cell → Bool) : List api_Cell → Nat → Int
  | [], _ => -1
  | x :: r, i => if f x then (i : Int) else ixf f r (i + 1)
set_option maxHeartbeats 1000000 in
theorem f33' {A : HP} {s : SlV} {cs : List api_Cell} (hR : Rs A s 2 (cs.flatMap cC)) (hl : cs.length ≤ 1000000) (bx : Nat) {I : Int} (hI : ixf (fun x => (r x.Key).2) cs 0 = I) : Fp eI Try.prog 33 #[.slice s.1 s.2.1 s.2.2, .func (.func 21) #[] #[.pointer (some ⟨bx, 0, none⟩)]] [A, ar bx 24 [.pointer pp], PP] I := fun L => by
  obtain ⟨sp, sn, sc⟩ := s
  obtain rfl : sn = cs.length := hR.len cC_len (by decide)
  refine c33_fn rfl rfl ?_
  repeat' (first | (with_reducible first | refine d_seq fun K hK => ?_ | (refine hK _ _ ?_; clear hK K) | (refine SG.p ?_; try intro b)) | refine i_c ?_ ?_ <;> intro hc <;> try simp only [push_cast, seval] at hc | refine i_x ?_ | clear hK K)
  refine d_lp [0, 1, 7, 8] (fun i : Nat => [(0, .slice sp cs.length sc), (1, .func (.func 21) #[] #[.pointer (some ⟨bx, 0, none⟩)]), (7, .int .i64 (cs.length : Int)), (8, .int .i64 (i : Int))])
    (fun _ => A :: ar bx 24 [.pointer pp] :: PP :: L) (fun i => i ≤ cs.length ∧ ixf (fun x => (r x.Key).2) (cs.drop i) i = I) (fun i => cs.length - i) 0 rfl SX.p ⟨Nat.zero_le _, hI⟩ ?_
  rintro i ⟨hi, ho⟩
  by_cases hlt : i < cs.length
  · have hx : cs[i]? = some cs[i] := List.getElem?_eq_getElem hlt
    obtain ⟨ad, rfl⟩ := hR.ptr (by omega)
    have ei : IntKind.wrap .i64 ((i : Int) + 1) = ((i + 1 : Nat) : Int) := by rw [w64 (by omega) (by omega)]; omega
    rw [List.drop_eq_getElem_cons hlt] at ho
    generalize cs[i] = x at *
    unfold ixf at ho
    repeat' (first | (with_reducible first | refine d_seq fun K hK => ?_ | (refine hK _ _ ?_; clear hK K) | (refine SG.p ?_; try intro b)) | refine i_c ?_ ?_ <;> intro hc <;> try simp only [push_cast, seval] at hc | refine i_x ?_ | clear hK K)
    all_goals try (exfalso; omega)
    refine i_sn (y := x) hR cC_len hx rfl ?_
    refine i_ent (by kernel_rfl) ?_
    refine i_clp (args := #[v_api_Cell x, .pointer (some ⟨bx, 0, none⟩)]) (f21 hg x bx) ?_
    repeat' (first | (with_reducible first | refine d_seq fun K hK => ?_ | (refine hK _ _ ?_; clear hK K) | (refine SG.p ?_; try intro b)) | refine i_c ?_ ?_ <;> intro hc <;> try simp only [push_cast, seval] at hc | refine i_x ?_ | clear hK K)
    · rw [if_pos (by assumption)] at ho
      exact i_ret (e := eI) rfl ho
    · rw [if_neg (by simp_all)] at ho
      rw [ei]
      exact i_bk (i + 1) rfl ⟨by omega, ho⟩ (by omega)
  · rw [List.drop_eq_nil_of_le (by omega)] at ho
    repeat' (first | (with_reducible first | refine d_seq fun K hK => ?_ | (refine hK _ _ ?_; clear hK K) | (refine SG.p ?_; try intro b)) | refine i_c ?_ ?_ <;> intro hc <;> try simp only [push_cast, seval] at hc | refine i_x ?_ | clear hK K)
    all_goals try (exfalso; omega)
    exact i_ret (e := eI) rfl ho
theorem f33 {A : HP} {s : SlV} {cs : List api_Cell} (hR : Rs A s 2 (cs.flatMap cC)) (hl : cs.length ≤ 1000000) (bx : Nat) : Fp eI Try.prog 33 #[.slice s.1 s.2.1 s.2.2, .func (.func 21) #[] #[.pointer (some ⟨bx, 0, none⟩)]] [A, ar bx 24 [.pointer pp], PP] (ixf (fun x => (r x.Key).2) cs 0) := f33' hg hR hl bx rfl
omit hg in
theorem ixf_neg {f : api_Cell → Bool} : ∀ {cs : List api_Cell} {i : Nat}, ixf f cs i = -1 → cs.filter (fun x => !f x) = cs
  | [], _, _ => rfl
  | x :: r, i, h => by
    unfold ixf at h
    split at h
    · omega
    · rename_i hx
      have hx' : f x = false := by simpa using hx
      rw [List.filter_cons_of_pos (by simp [hx']), ixf_neg h]
omit hg in
theorem ixf_pos {f : api_Cell → Bool} : ∀ {cs : List api_Cell} {i : Nat}, ixf f cs i ≠ -1 → ∃ j, ixf f cs i = ((i + j : Nat) : Int) ∧ j < cs.length ∧ cs.take j ++ (cs.drop (j + 1)).filter (fun x => !f x) = cs.filter (fun x => !f x)
  | [], _, h => absurd rfl h
  | x :: r, i, h => by
    unfold ixf at h ⊢
    split at h
    · rename_i hx
      exact ⟨0, by simp [hx], by simp, by simp [hx]⟩
    · rename_i hx
      obtain ⟨j, h1, h2, h3⟩ := ixf_pos h
      refine ⟨j + 1, ?_, by simpa using h2, ?_⟩
      · rw [if_neg hx, h1]; congr 1; omega
      · have hx' : f x = false := by simpa using hx
        simp [hx', h3]
set_option maxHeartbeats 2000000 in
theorem f19' {s : SlV} {cs : List api_Cell} (hl : cs.length ≤ 1000000) (bx : Nat) {f : api_Cell → Bool} (hf : (fun x => (r x.Key).2) = f) : Fn eSl Try.prog 19 #[.slice s.1 s.2.1 s.2.2, .func (.func 21) #[] #[.pointer (some ⟨bx, 0, none⟩)]] [ow 39 2 s (cs.flatMap cC), ar bx 24 [.pointer pp], PP]
    (fun s' X => X = [ow 39 2 s' ((cs.filter fun x => !f x).flatMap cC), ar bx 24 [.pointer pp], PP]) := fun L => by
  obtain ⟨sp, sn, sc⟩ := s
  simp only [List.cons_append, List.nil_append]
  refine i_ow (t := 39) (sz := 2) (sp, sn, sc) fun hR => ?_
  obtain rfl : sn = cs.length := hR.len cC_len (by decide)
  refine c19_fn rfl rfl ?_
  repeat' (first | (with_reducible first | refine d_seq fun K hK => ?_ | (refine hK _ _ ?_; clear hK K) | (refine SG.p ?_; try intro b)) | refine i_c ?_ ?_ <;> intro hc <;> try simp only [push_cast, seval] at hc | refine i_x ?_ | clear hK K)
  have hfx : ∀ x, (r x.Key).2 = f x := fun x => by rw [← hf]
  refine i_clp (f33' hg hR hl bx (by rw [hf])) ?_
  try simp only [hfx]
  repeat' (first | (with_reducible first | refine d_seq fun K hK => ?_ | (refine hK _ _ ?_; clear hK K) | (refine SG.p ?_; try intro b)) | refine i_c ?_ ?_ <;> intro hc <;> try simp only [push_cast, seval] at hc | refine i_x ?_ | clear hK K)
  · have e := ixf_neg hc
    exact i_done (e := eSl) (sp, cs.length, sc) [ow 39 2 (sp, cs.length, sc) (cs.flatMap cC), ar bx 24 [.pointer pp], PP] rfl (by rw [e])
  · obtain ⟨j0, h1, h2, h3⟩ := ixf_pos (f := f) (cs := cs) (i := 0) hc
    simp only [Nat.zero_add] at h1
    rw [h1] at *
    obtain ⟨ad, rfl⟩ := hR.ptr (by omega)
    rw [show IntKind.wrap .i64 ((j0 : Int) + 1) = ((j0 + 1 : Nat) : Int) by rw [w64 (by omega) (by omega)]; omega]
    refine d_lp [0, 1, 5, 6] (fun t : List api_Cell × Nat × Nat => [(0, .slice (some ad) cs.length sc), (1, .func (.func 21) #[] #[.pointer (some ⟨bx, 0, none⟩)]), (5, .int .i64 (t.2.1 : Int)), (6, .int .i64 (t.2.2 : Int))])
      (fun t => ow 39 2 (some ad, cs.length, sc) (t.1.flatMap cC) :: ar bx 24 [.pointer pp] :: PP :: L)
      (fun t => t.1.length = cs.length ∧ t.2.1 < t.2.2 ∧ t.2.2 ≤ cs.length ∧ t.1.drop t.2.2 = cs.drop t.2.2 ∧ t.1.take t.2.1 ++ (cs.drop t.2.2).filter (fun x => !f x) = cs.filter fun x => !f x)
      (fun t => cs.length - t.2.2) (cs, j0, j0 + 1) rfl SX.p ⟨rfl, by simp, h2, rfl, h3⟩ ?_
    rintro ⟨V, i, j⟩ ⟨hV, hij, hj, hd, ht⟩
    dsimp only at hV hij hj hd ht ⊢
    generalize hFl : cs.filter (fun x => !f x) = Fl at *
    by_cases hlt : j < cs.length
    · have hx : V[j]? = some cs[j] := by
        have e : (V.drop j)[0]? = (cs.drop j)[0]? := by rw [hd]
        rw [List.getElem?_drop, List.getElem?_drop] at e
        simpa [List.getElem?_eq_getElem hlt] using e
      rw [List.drop_eq_getElem_cons hlt] at ht hd
      have hd1 : V.drop (j + 1) = cs.drop (j + 1) := by
        have := congrArg (List.drop 1) hd
        simpa [List.drop_drop] using this
      generalize cs[j] = x at *
      have ej : IntKind.wrap .i64 ((j : Int) + 1) = ((j + 1 : Nat) : Int) := by rw [w64 (by omega) (by omega)]; omega
      have ei : IntKind.wrap .i64 ((i : Int) + 1) = ((i + 1 : Nat) : Int) := by rw [w64 (by omega) (by omega)]; omega
      refine i_ow (t := 39) (sz := 2) (some ad, cs.length, sc) fun hRV => ?_
      repeat' (first | (with_reducible first | refine d_seq fun K hK => ?_ | (refine hK _ _ ?_; clear hK K) | (refine SG.p ?_; try intro b)) | refine i_c ?_ ?_ <;> intro hc <;> try simp only [push_cast, seval] at hc | refine i_x ?_ | clear hK K)
      all_goals try (exfalso; omega)
      refine i_sn (y := x) hRV cC_len hx rfl ?_
      repeat' (first | (with_reducible first | refine d_seq fun K hK => ?_ | (refine hK _ _ ?_; clear hK K) | (refine SG.p ?_; try intro b)) | refine i_c ?_ ?_ <;> intro hc <;> try simp only [push_cast, seval] at hc | refine i_x ?_ | clear hK K)
      refine i_ent (by kernel_rfl) ?_
      refine i_clp (args := #[v_api_Cell x, .pointer (some ⟨bx, 0, none⟩)]) (f21 hg x bx) ?_
      simp only [hfx]
      repeat' (first | (with_reducible first | refine d_seq fun K hK => ?_ | (refine hK _ _ ?_; clear hK K) | (refine SG.p ?_; try intro b)) | refine i_c ?_ ?_ <;> intro hc <;> try simp only [push_cast, seval] at hc | refine i_x ?_ | clear hK K)
      · have hfx' : f x = false := by assumption
        rw [List.filter_cons_of_pos (by simp [hfx'])] at ht
        have hiV : i < V.length := by omega
        refine i_ows (x' := x) cC_len (by decide) (List.getElem?_eq_getElem hiV) rfl rfl ?_
        repeat' (first | (with_reducible first | refine d_seq fun K hK => ?_ | (refine hK _ _ ?_; clear hK K) | (refine SG.p ?_; try intro b)) | refine i_c ?_ ?_ <;> intro hc <;> try simp only [push_cast, seval] at hc | refine i_x ?_ | clear hK K)
        rw [ei, ej]
        refine i_bk (V.set i x, i + 1, j + 1) rfl ⟨by simpa using hV, by dsimp only; omega, by dsimp only; omega, ?_, ?_⟩ (by dsimp only; omega)
        · dsimp only
          rw [List.drop_set_of_lt (by omega)]; exact hd1
        · dsimp only
          have : (V.set i x).take (i + 1) = V.take i ++ [x] := by
            rw [List.take_add_one, List.take_set_of_le (Nat.le_refl _)]
            simp [hiV]
          rw [this, List.append_assoc]
          exact ht
      · have hfx' : f x = true := by assumption
        rw [List.filter_cons_of_neg (by simp [hfx'])] at ht
        rw [ej]
        exact i_bk (V, i, j + 1) rfl ⟨hV, by dsimp only; omega, by dsimp only; omega, hd1, ht⟩ (by dsimp only; omega)
    · have hjn : j = cs.length := by omega
      subst hjn
      rw [List.drop_eq_nil_of_le (Nat.le_refl _)] at ht
      simp only [List.filter_nil, List.append_nil] at ht
      refine i_owar (t := 39) (sz := 2) (p := some ad) (n := cs.length) (c := sc) (xs := V.flatMap cC) (by omega) fun g tl hp q1 q2 q3 q4 => ?_
      obtain rfl : ad = ⟨g, 0, none⟩ := by simpa using hp
      repeat' (first | (with_reducible first | refine d_seq fun K hK => ?_ | (refine hK _ _ ?_; clear hK K) | (refine SG.p ?_; try intro b)) | refine i_c ?_ ?_ <;> intro hc <;> try simp only [push_cast, seval] at hc | refine i_x ?_ | clear hK K)
      all_goals try (exfalso; omega)
      have es : slp (some ⟨g, 0, none⟩) (i : Int) (sc : Int) 2 = some ⟨g, i * 2, none⟩ := by
        unfold slp
        rw [if_neg (by omega)]
        simp only [Option.map_some, add_of, Nat.zero_add, Int.toNat_natCast]
      rw [es]
      refine r_clrs (e := 39) (sz := 2) (by kernel_rfl) (by omega) fun zl hz1 hz2 => ?_
      refine i_stl (by rw [q4, hz1]; omega) hz2 ?_
      repeat' (first | (with_reducible first | refine d_seq fun K hK => ?_ | (refine hK _ _ ?_; clear hK K) | (refine SG.p ?_; try intro b)) | refine i_c ?_ ?_ <;> intro hc <;> try simp only [push_cast, seval] at hc | refine i_x ?_ | clear hK K)
      all_goals try (exfalso; omega)
      have et : ((V.take i).flatMap cC) = (spl (V.flatMap cC ++ tl) (i * 2) zl).take (i * 2) := by
        rw [spl_take _ _ _ _ (Nat.le_refl _)]
        have e : V.flatMap cC = (V.take i).flatMap cC ++ (V.drop i).flatMap cC := by rw [← List.flatMap_append, List.take_append_drop]
        have el : ((V.take i).flatMap cC).length = i * 2 := by rw [flat_len cC_len, List.length_take]; omega
        generalize (V.take i).flatMap cC = a at *
        rw [e, List.append_assoc]
        exact (List.take_left' el).symm
      rw [ht] at et
      refine i_arow (g := g) (t := 39) (sz := 2) (n := i) (c := sc) (xs := Fl.flatMap cC) (tl := (spl (V.flatMap cC ++ tl) (i * 2) zl).drop (i * 2)) (by rw [et, List.take_append_drop]) (by rw [flat_len cC_len, ← ht, List.length_take]; omega) (by omega) q3 (by rw [et, List.take_append_drop, spl_len]; exact q4) ?_
      have e0 : slp (some ⟨g, 0, none⟩) 0 (sc : Int) 2 = some ⟨g, 0, none⟩ := by
        unfold slp
        split
        · rfl
        · simp [add_of]
      rw [e0]
      exact i_done (e := eSl) (some ⟨g, 0, none⟩, i, sc) [ow 39 2 (some ⟨g, 0, none⟩, i, sc) (Fl.flatMap cC), ar bx 24 [.pointer pp], PP] rfl rfl
theorem f19 {s : SlV} {cs : List api_Cell} (hl : cs.length ≤ 1000000) (bx : Nat) : Fn eSl Try.prog 19 #[.slice s.1 s.2.1 s.2.2, .func (.func 21) #[] #[.pointer (some ⟨bx, 0, none⟩)]] [ow 39 2 s (cs.flatMap cC), ar bx 24 [.pointer pp], PP]
    (fun s' X => X = [ow 39 2 s' ((cs.filter fun x => !(r x.Key).2).flatMap cC), ar bx 24 [.pointer pp], PP]) := f19' hg hl bx rfl
end
end Go.Sp
namespace Go.Proofs
open Go.Shelf
def Try.lcmp_ren : Go.Shelf.Ren := ⟨fun | 106 => 25 | 213 => 36 | 265 => 53 | n => n, fun | 9 => 9 | 3 => 3 | n => n, fun | n => n⟩
theorem Try.lcmp : Go.Proofs.Lays.n106 Try.prog Try.lcmp_ren := {
  mixed := by kernel_rfl
  f106 := Try.func25.trans (congrArg some (by kernel_rfl))
  f213 := Try.func36.trans (congrArg some (by kernel_rfl))
  f265 := Try.func53.trans (congrArg some (by kernel_rfl))
  t3 := Try.underlying3
  a3 := Try.isAgg3
  z3 := Try.sizeOf3
  v3 := Try.zeroValue3
  t9 := Try.underlying9
  a9 := Try.isAgg9
  z9 := Try.sizeOf9
  v9 := Try.zeroValue9 }
def Try.lsF_ren : Go.Shelf.Ren := ⟨fun | 6 => 23 | 15 => 35 | 14 => 34 | 28 => 51 | 29 => 52 | 20 => 43 | 21 => 44 | 22 => 45 | 23 => 46 | 24 => 47 | 25 => 48 | 26 => 49 | 27 => 50 | 46 => 65 | 47 => 66 | 48 => 67 | 49 => 68 | 50 => 69 | 57 => 83 | n => n, fun | 22 => 23 | 24 => 39 | 25 => 64 | 3 => 3 | 39 => 79 | 0 => 0 | 53 => 93 | 55 => 95 | 4 => 4 | 46 => 86 | 45 => 85 | 50 => 90 | 5 => 5 | 9 => 9 | 66 => 104 | 70 => 108 | 76 => 118 | 77 => 119 | n => n, fun | n => n⟩
theorem Try.lsF : Go.Proofs.SlLaysF0.n6 Try.prog Try.lsF_ren := {
  mixed := by kernel_rfl
  f6 := ⟨Try.f23.name, by decide, Try.func23.trans (congrArg some (by kernel_rfl))⟩
  f14 := ⟨Try.f34.name, by decide, Try.func34.trans (congrArg some (by kernel_rfl))⟩
  f15 := Try.func35.trans (congrArg some (by kernel_rfl))
  f20 := ⟨Try.f43.name, by decide, Try.func43.trans (congrArg some (by kernel_rfl))⟩
  f21 := ⟨Try.f44.name, by decide, Try.func44.trans (congrArg some (by kernel_rfl))⟩
  f22 := ⟨Try.f45.name, by decide, Try.func45.trans (congrArg some (by kernel_rfl))⟩
  f23 := ⟨Try.f46.name, by decide, Try.func46.trans (congrArg some (by kernel_rfl))⟩
  f24 := ⟨Try.f47.name, by decide, Try.func47.trans (congrArg some (by kernel_rfl))⟩
  f25 := ⟨Try.f48.name, by decide, Try.func48.trans (congrArg some (by kernel_rfl))⟩
  f26 := ⟨Try.f49.name, by decide, Try.func49.trans (congrArg some (by kernel_rfl))⟩
  f27 := ⟨Try.f50.name, by decide, Try.func50.trans (congrArg some (by kernel_rfl))⟩
  f28 := Try.func51.trans (congrArg some (by kernel_rfl))
  f29 := Try.func52.trans (congrArg some (by kernel_rfl))
  f46 := ⟨Try.f65.name, by decide, Try.func65.trans (congrArg some (by kernel_rfl))⟩
  f47 := Try.func66.trans (congrArg some (by kernel_rfl))
  f48 := Try.func67.trans (congrArg some (by kernel_rfl))
  f49 := ⟨Try.f68.name, by decide, Try.func68.trans (congrArg some (by kernel_rfl))⟩
  f50 := ⟨Try.f69.name, by decide, Try.func69.trans (congrArg some (by kernel_rfl))⟩
  f57 := ⟨Try.f83.name, by decide, Try.func83.trans (congrArg some (by kernel_rfl))⟩
  t0 := Try.underlying0
  a0 := Try.isAgg0
  z0 := Try.sizeOf0
  v0 := Try.zeroValue0
  t3 := Try.underlying3
  a3 := Try.isAgg3
  z3 := Try.sizeOf3
  v3 := Try.zeroValue3
  t4 := Try.underlying4
  a4 := Try.isAgg4
  z4 := Try.sizeOf4
  v4 := Try.zeroValue4
  t5 := Try.underlying5
  a5 := Try.isAgg5
  z5 := Try.sizeOf5
  v5 := Try.zeroValue5
  t9 := Try.underlying9
  a9 := Try.isAgg9
  z9 := Try.sizeOf9
  v9 := Try.zeroValue9
  t22 := Try.underlying23
  a22 := Try.isAgg23
  z22 := Try.sizeOf23
  v22 := Try.zeroValue23
  t25 := Try.underlying64
  a25 := Try.isAgg64
  z25 := Try.sizeOf64
  v25 := Try.zeroValue64
  t39 := Try.underlying79
  a39 := Try.isAgg79
  z39 := Try.sizeOf79
  v39 := Try.zeroValue79
  t45 := Try.underlying85
  a45 := Try.isAgg85
  z45 := Try.sizeOf85
  v45 := Try.zeroValue85
  t46 := Try.underlying86
  a46 := Try.isAgg86
  z46 := Try.sizeOf86
  v46 := Try.zeroValue86
  t50 := Try.underlying90
  a50 := Try.isAgg90
  z50 := Try.sizeOf90
  v50 := Try.zeroValue90
  t53 := Try.underlying93
  a53 := Try.isAgg93
  z53 := Try.sizeOf93
  v53 := Try.zeroValue93
  t55 := Try.underlying95
  a55 := Try.isAgg95
  z55 := Try.sizeOf95
  v55 := Try.zeroValue95
  t66 := Try.underlying104
  a66 := Try.isAgg104
  z66 := Try.sizeOf104
  v66 := Try.zeroValue104
  t70 := Try.underlying108
  a70 := Try.isAgg108
  z70 := Try.sizeOf108
  v70 := Try.zeroValue108
  t76 := Try.underlying118
  a76 := Try.isAgg118
  z76 := Try.sizeOf118
  v76 := Try.zeroValue118
  t77 := Try.underlying119
  a77 := Try.isAgg119
  z77 := Try.sizeOf119
  v77 := Try.zeroValue119 }
open Go.RowKit Go.Sort
set_option maxHeartbeats 1000000 in
theorem closure24 (a b c d : ByteArray) (W : World) : Calls Try.prog 24 #[.agg #[.string a, .string b], .agg #[.string c, .string d]] W fun e w' => e = .returned (.int .i64 (Lib.compareBytes a.data.toList c.data.toList)) ∧ ∃ q os', w' = grow (W.drewN q) os' := by
  have hcon := fun W' => Any.strings_Compare Try.lcmp a c W'
  change ∀ W', Calls Try.prog 25 _ _ _ at hcon
  generalize Lib.compareBytes a.data.toList c.data.toList = r at hcon ⊢
  go_enter Try.func24, Try.ntmps24
  go_wp2_with (go_at_call 25; refine (hcon _).mono ?_; rintro e w' ⟨rfl, rfl⟩)
  go_ret
  exact ⟨rfl, 0, _, by rw [alloc_eq_grow, alloc_eq_grow, grow_grow]; rfl⟩
end Go.Proofs
namespace Go.Sp
open Go Go.Proofs Go.Shelf Go.RowKit Go.Lib Go.Sort
set_option linter.unusedSimpArgs false
set_option linter.unusedVariables false
instance : Inhabited api_Cell := ⟨⟨[], []⟩⟩
def cfC (x y : api_Cell) : Int := Lib.compareBytes x.Key y.Key
theorem cmp_lt : ∀ a b : List UInt8, decide (Lib.compareBytes a b < 0) = Op.bytesLess a b
  | [], [] => rfl
  | [], _ :: _ => rfl
  | _ :: _, [] => rfl
  | x :: a, y :: b => by
    unfold Lib.compareBytes Op.bytesLess
    rw [← cmp_lt a b]
    by_cases h : x < y
    · simp [h]
    · by_cases h2 : y < x
      · have h3 : ¬ x = y := fun e => by subst e; exact h h2
        simp [h, h2, h3]
      · have h3 : x = y := by
          rcases Classical.em (x = y) with e | e
          · exact e
          · rcases UInt8.lt_or_lt_of_ne e with h4 | h4
            · exact absurd h4 h
            · exact absurd h4 h2
        simp [h, h2, h3]
theorem lt_cf (x y : api_Cell) : ltOf cfC x y = Op.bytesLess x.Key y.Key := by
  unfold ltOf cfC
  exact cmp_lt _ _
theorem swoC : SWO (ltOf cfC) where
  irrefl x := by rw [lt_cf]; exact less_irrefl _
  trans x y z h1 h2 := by rw [lt_cf] at *; exact less_trans h1 h2
  ntrans x y z h1 h2 := by
    rw [lt_cf, less_le] at *
    simp only [Bool.not_eq_false'] at *
    exact le_trans' h2 h1
theorem cmpL (blk off size : Nat) (w : World) : CmpLays Try.prog 24 #[] cC 2 cfC blk off size w :=
  fun _ _ _ _ x y => closure24 ⟨x.Key.toArray⟩ ⟨x.Val.toArray⟩ ⟨y.Key.toArray⟩ ⟨y.Val.toArray⟩ _
def psrt (l : List api_Cell) : List api_Cell := (pdq (ltOf cfC) l.toArray 0 l.length (Lib.bitLen l.length) true true).toList
theorem psrt_ok (l : List api_Cell) : (psrt l).Perm l ∧ (psrt l).Pairwise fun a b => Op.bytesLess b.Key a.Key = false := by
  have h := pdq_sorts (ltOf cfC) swoC l.toArray 0 l.length (Lib.bitLen l.length) true true (Nat.zero_le _) (by simp) (Or.inl rfl)
  obtain ⟨⟨h1, h2, h3⟩, h4⟩ := h
  have hsz : (pdq (ltOf cfC) l.toArray 0 l.length (Lib.bitLen l.length) true true).size = l.length := by simpa using h1
  generalize hd : pdq (ltOf cfC) l.toArray 0 l.length (Lib.bitLen l.length) true true = d at *
  have he : psrt l = d.toList := by unfold psrt; rw [hd]
  rw [he]
  refine ⟨?_, ?_⟩
  · have e1 : d.extract 0 l.length = d := by rw [← hsz]; simp
    have e2 : l.toArray.extract 0 l.length = l.toArray := by simp
    rw [e1, e2] at h3
    simpa using h3
  · rw [List.pairwise_iff_getElem]
    intro i j hi hj hij
    have := h4 i j (Nat.zero_le _) hij (by simpa [hsz] using hj)
    rw [lt_cf] at this
    rw [getElem!_pos d i (by simpa using hi), getElem!_pos d j (by simpa using hj)] at this
    simpa using this
theorem psrt_len (l : List api_Cell) : (psrt l).length = l.length := (psrt_ok l).1.length_eq
theorem f23 (s : SlV) (l : List api_Cell) (hl : l.length ≤ 4000000) : Fq eN Try.prog 23 #[.slice s.1 s.2.1 s.2.2, .func (.func 24) #[] #[]] [ow 39 2 s (l.flatMap cC)] [ow 39 2 s ((psrt l).flatMap cC)] () :=
  fq_sortk (enc := cC) (k := 2) cC_len (by decide) psrt psrt_len (fun blk cap zs w hH hb hz => by
    have eg : ∀ args w, (callFunc 24 args).run Try.prog w = .ok (.enter 24 args) w := enters_of Try.func24 (by kernel_rfl) rfl
    have h := AnyQ.slices_SortFunc_eq Try.lsF 2 Try.isAgg39 Try.sizeOf39 cC cC_len (fun x v hv => by simp at hv; rcases hv with rfl | rfl <;> rfl) cfC swoC 24 #[] blk 0 cap zs.toArray w eg (cmpL _ _ _ _) hH hb (by simpa using hz)
    refine h.mono ?_
    rintro _ _ ⟨rfl, n, os, rfl⟩
    exact ⟨rfl, n, os, by simp [psrt]⟩)
    (fun p cap w => AnyF.slices_SortFunc_none Try.lsF p cap _ w) 39 s l (by omega)
end Go.Sp
namespace Go.Sp
open Go Go.Proofs
set_option linter.unusedSimpArgs false
set_option linter.unusedVariables false
set_option maxRecDepth 10000
variable {L : List HP}
theorem less_lt : ∀ a b : List UInt8, Op.bytesLess a b = decide (a < b)
  | [], [] => by simp [Op.bytesLess]
  | [], _ :: _ => by simp [Op.bytesLess]
  | _ :: _, [] => by simp [Op.bytesLess]
  | x :: a, y :: b => by
    rw [Op.bytesLess, less_lt a b]
    have e : (x == y) = decide (x = y) := by by_cases h : x = y <;> simp [h]
    rw [e]
    simp [List.cons_lt_cons_iff]
theorem leB_le (a b : List UInt8) : leB a b = le a b := by
  have h := less_le b a
  rw [less_lt] at h
  have : leB a b = !decide (b < a) := by
    show decide (a ≤ b) = _
    rw [← decide_not]
    exact decide_eq_decide.2 List.not_lt.symm
  rw [this, h, Bool.not_not]
def Kset (M : List Gn) (ks : List (List UInt8)) : Prop := ks.Pairwise (fun a b => Op.bytesLess a b = true) ∧ ∀ k, k ∈ ks ↔ ∃ g ∈ M, k ∈ g.ks.map (·.1)
theorem srs_ok {l : List (List UInt8)} (h : l.Nodup) : (srs l).Pairwise (fun a b => Op.bytesLess a b = true) ∧ (∀ k, k ∈ srs l ↔ k ∈ l) ∧ (srs l).length = l.length := by
  have hp : (srs l).Perm l := List.mergeSort_perm _ _
  refine ⟨?_, fun k => hp.mem_iff, hp.length_eq⟩
  have h1 : (srs l).Pairwise fun a b => leB a b = true := List.pairwise_mergeSort (fun a b c h1 h2 => by rw [leB_le] at *; exact le_trans' h1 h2) (fun a b => by rw [leB_le, leB_le, Bool.or_eq_true]; exact le_total' a b) l
  have h2 : (srs l).Nodup := hp.nodup_iff.2 h
  refine (h1.and h2).imp fun {a b} ⟨h3, h4⟩ => ?_
  rw [leB_le] at h3
  simp only [le, Bool.or_eq_true, beq_iff_eq] at h3
  rcases h3 with h3 | h3
  · exact h3
  · exact absurd h3 h4
def Kin (M : List Gn) (S : Ents eI eM) (k : List UInt8) : Prop := ∃ x ∈ S, ∃ g ∈ M, g.id = x.1 ∧ k ∈ g.ks.map (·.1)
theorem pk_keys_mem {ε : Enc} {es : Ents eS ε} {i : List UInt8} {v : ε.α} {c : Nat} (k : List UInt8) : k ∈ (pk es i v c).map (·.1) ↔ k ∈ es.map (·.1) ∨ k = i := by
  rw [pk_keys (κ := eS)]
  split
  · simp
  · rename_i h
    constructor
    · exact .inl
    · rintro (h1 | rfl)
      · exact h1
      · obtain ⟨v', hv⟩ := Option.ne_none_iff_exists'.1 h
        obtain ⟨b, hb⟩ := gk_some hv
        exact List.mem_map_of_mem (f := (·.1)) hb
set_option maxHeartbeats 2000000 in
theorem f13 (p : Nat) (s : Ps) {n : Nat} (h : s.ok n) (hn : n ≤ 1000000) : Fn eSl Try.prog 13 #[.pointer (some ⟨p, 0, none⟩)] (ppt 45 p s) (fun t X => ∃ ks, Kset s.M ks ∧ ks.length ≤ n ∧ X = ow 9 1 t (ks.map fun k => str k) :: ppt 45 p s) := fun L => by
  have hid : (s.M.map (·.id)).Nodup := by have := h.o.1; rwa [oe_ids] at this
  have hk : acts s.M ≤ n := h.nk
  refine c13_fn rfl rfl ?_
  repeat' (first | (with_reducible first | refine d_seq fun K hK => ?_ | (refine hK _ _ ?_; clear hK K) | (refine SG.p ?_; try intro b)) | refine i_c ?_ ?_ <;> intro hc <;> try simp only [push_cast, seval] at hc | refine i_x ?_ | clear hK K)
  refine i_clp (f15 p s.mb s.ml) ?_
  repeat' (first | (with_reducible first | refine d_seq fun K hK => ?_ | (refine hK _ _ ?_; clear hK K) | (refine SG.p ?_; try intro b)) | refine i_c ?_ ?_ <;> intro hc <;> try simp only [push_cast, seval] at hc | refine i_x ?_ | clear hK K)
  all_goals (try (exfalso; simp at hc; done))
  refine r_nwm eS eB fun ab => ?_
  repeat' (first | (with_reducible first | refine d_seq fun K hK => ?_ | (refine hK _ _ ?_; clear hK K) | (refine SG.p ?_; try intro b) | refine SP.p ?_) | refine i_c ?_ ?_ <;> intro hc <;> try simp only [push_cast, seval] at hc | refine i_x ?_ | clear hK K)
  refine i_mrng (κ := eI) (ε := eM) (a := 3) (b := 56) (by kernel_rfl) fun it => ?_
  repeat' (first | (with_reducible first | refine d_seq fun K hK => ?_ | (refine hK _ _ ?_; clear hK K) | (refine SG.p ?_; try intro b) | refine SP.p ?_) | refine i_c ?_ ?_ <;> intro hc <;> try simp only [push_cast, seval] at hc | refine i_x ?_ | clear hK K)
  refine d_lp [3, 14] (fun t : (Ents eI eM × Ents eI eM) × (Ents eS eB × Nat) => [(3, .map (some ab)), (14, .pointer (some ⟨it, 0, none⟩))])
    (fun t => blk it (.mapIter (some s.mb) s.cb (sn t.1.1) s.cb) :: mp eS eB ab t.2.1 t.2.2 :: (ppt 45 p s ++ L))
    (fun t => Rg (oe s.M) t.1.1 t.1.2 ∧ EOk t.2.1 t.2.2 ∧ (∀ k, k ∈ t.2.1.map (·.1) ↔ Kin s.M t.1.1 k) ∧ t.2.1.length ≤ (t.1.1.map (kl s.M)).sum ∧ ∀ x ∈ t.2.1, x.1.length ≤ maxLen)
    (fun t => t.1.2.length) (([], oe s.M), ([], 0)) rfl ?_ ⟨Rg.start _, EOk.nil _, fun k => by simp [Kin], Nat.le_refl _, fun _ h => by cases h⟩ ?_
  · show Sub (blk it (.mapIter (some s.mb) s.cb #[] s.cb) :: mp eS eB ab [] 0 :: (ppt 45 p s ++ L)) _
    exact SX.p
  rintro ⟨⟨S, R⟩, es, c⟩ ⟨hR, he, hm, hlen, hkl⟩
  dsimp only at hR he hm hlen hkl ⊢
  have hle := kl_le hid hR
  repeat' (first | (with_reducible first | refine d_seq fun K hK => ?_ | (refine hK _ _ ?_; clear hK K) | (refine SG.p ?_; try intro b) | refine SP.p ?_) | refine i_c ?_ ?_ <;> intro hc <;> try simp only [push_cast, seval] at hc | refine i_x ?_ | clear hK K)
  refine i_mnx (κ := eI) (ε := eM) h.o.2.2 (Nat.le_refl _) (fun ha => ?_) fun x hx hns => ?_
  · repeat' (first | (with_reducible first | refine d_seq fun K hK => ?_ | (refine hK _ _ ?_; clear hK K) | (refine SG.p ?_; try intro b) | refine SP.p ?_) | refine i_c ?_ ?_ <;> intro hc <;> try simp only [push_cast, seval] at hc | refine i_x ?_ | clear hK K)
    obtain rfl := hR.done h.o.2.1 ha
    have hS : S.Perm (oe s.M) := by have := hR; unfold Rg at this; simpa using this
    have hsum := (hS.map (kl s.M)).sum_nat
    rw [kl_sum hid] at hsum
    refine i_cal (kS (some ab)) ?_
    rintro _ _ ⟨cc, rfl, rfl⟩
    refine i_cal (sS cc ab c es he hkl (by omega)) ?_
    rintro ⟨sp, sl, sc⟩ _ rfl
    repeat' (first | (with_reducible first | refine d_seq fun K hK => ?_ | (refine hK _ _ ?_; clear hK K) | (refine SG.p ?_; try intro b)) | refine i_c ?_ ?_ <;> intro hc <;> try simp only [push_cast, seval] at hc | refine i_x ?_ | clear hK K)
    obtain ⟨q1, q2, q3⟩ := srs_ok he.1
    refine i_done (e := eSl) (sp, sl, sc) (ow 9 1 (sp, sl, sc) ((srs (es.map (·.1))).map fun k => str k) :: ppt 45 p s) rfl ⟨_, ⟨q1, fun k => ?_⟩, ?_, rfl⟩
    · rw [q2, hm]
      constructor
      · rintro ⟨x, _, g, hg, _, hk⟩
        exact ⟨g, hg, hk⟩
      · rintro ⟨g, hg, hk⟩
        exact ⟨(g.id, some g.b, g.born), hS.mem_iff.2 (List.mem_map_of_mem (f := fun g : Gn => (g.id, some g.b, g.born)) hg), g, hg, rfl, hk⟩
    · rw [q3, List.length_map]; omega
  · repeat' (first | (with_reducible first | refine d_seq fun K hK => ?_ | (refine hK _ _ ?_; clear hK K) | (refine SG.p ?_; try intro b) | refine SP.p ?_) | refine i_c ?_ ?_ <;> intro hc <;> try simp only [push_cast, seval] at hc | refine i_x ?_ | clear hK K)
    rw [sn_push]
    refine i_ment hx h.o.2.1 ?_
    obtain ⟨R', hlt, hst⟩ := hR.step hx hns
    have hle' := kl_le hid hst
    obtain ⟨g, hg, rfl⟩ := oe_mem hx
    have hkg : kl s.M (g.id, some g.b, g.born) = g.ks.length := by simp [kl, fg_of hid hg]
    rw [List.map_append, List.sum_append] at hle'
    simp only [List.map_cons, List.map_nil, List.sum_cons, List.sum_nil, hkg] at hle'
    obtain ⟨M', hp⟩ := mem_perm hg
    repeat' (first | (with_reducible first | refine d_seq fun K hK => ?_ | (refine hK _ _ ?_; clear hK K) | (refine SG.p ?_; try intro b) | refine SP.p ?_) | refine i_c ?_ ?_ <;> intro hc <;> try simp only [push_cast, seval] at hc | refine i_x ?_ | clear hK K)
    refine pul g M' hp ?_
    refine i_mrng (κ := eS) (ε := eWs) (a := 9) (b := 31) (by kernel_rfl) fun it2 => ?_
    repeat' (first | (with_reducible first | refine d_seq fun K hK => ?_ | (refine hK _ _ ?_; clear hK K) | (refine SG.p ?_; try intro b) | refine SP.p ?_) | refine i_c ?_ ?_ <;> intro hc <;> try simp only [push_cast, seval] at hc | refine i_x ?_ | clear hK K)
    refine d_lp [3, 14, 20] (fun t : (Ents eS eWs × Ents eS eWs) × (Ents eS eB × Nat) => [(3, .map (some ab)), (14, .pointer (some ⟨it, 0, none⟩)), (20, .pointer (some ⟨it2, 0, none⟩))])
      (fun t => blk it2 (.mapIter (some g.b) g.c (sn t.1.1) g.c) :: mp eS eWs g.b g.ks g.c :: HS (M'.map gm) :: blk it (.mapIter (some s.mb) s.cb (sn (S ++ [(g.id, some g.b, g.born)])) s.cb) :: mp eS eB ab t.2.1 t.2.2 :: ar p 45 [.map (some s.mb), .map (some s.ml)] :: mp eI eM s.mb (oe s.M) s.cb :: mp eI eI s.ml s.es s.cl :: L)
      (fun t => Rg g.ks t.1.1 t.1.2 ∧ EOk t.2.1 t.2.2 ∧ (∀ k, k ∈ t.2.1.map (·.1) ↔ Kin s.M S k ∨ k ∈ t.1.1.map (·.1)) ∧ t.2.1.length ≤ (S.map (kl s.M)).sum + t.1.1.length ∧ ∀ x ∈ t.2.1, x.1.length ≤ maxLen)
      (fun t => t.1.2.length) (([], g.ks), (es, c)) rfl ?_ ⟨Rg.start _, he, fun k => by rw [hm]; simp, by simpa using hlen, hkl⟩ ?_
    · show Sub (blk it2 (.mapIter (some g.b) g.c #[] g.c) :: mp eS eWs g.b g.ks g.c :: HS (M'.map gm) :: blk it (.mapIter (some s.mb) s.cb (sn (S ++ [(g.id, some g.b, g.born)])) s.cb) :: mp eS eB ab es c :: ar p 45 [.map (some s.mb), .map (some s.ml)] :: mp eI eM s.mb (oe s.M) s.cb :: mp eI eI s.ml s.es s.cl :: L) _
      exact SX.p
    clear he hm hlen hkl
    rintro ⟨⟨S2, R2⟩, es, c⟩ ⟨hR2, he, hm, hlen, hkl⟩
    dsimp only at hR2 he hm hlen hkl ⊢
    have hgk := h.g g hg
    repeat' (first | (with_reducible first | refine d_seq fun K hK => ?_ | (refine hK _ _ ?_; clear hK K) | (refine SG.p ?_; try intro b) | refine SP.p ?_) | refine i_c ?_ ?_ <;> intro hc <;> try simp only [push_cast, seval] at hc | refine i_x ?_ | clear hK K)
    refine i_mnx (κ := eS) (ε := eWs) hgk.2.2 (Nat.le_refl _) (fun ha => ?_) fun x hx2 hns2 => ?_
    · repeat' (first | (with_reducible first | refine d_seq fun K hK => ?_ | (refine hK _ _ ?_; clear hK K) | (refine SG.p ?_; try intro b) | refine SP.p ?_) | refine i_c ?_ ?_ <;> intro hc <;> try simp only [push_cast, seval] at hc | refine i_x ?_ | clear hK K)
      obtain rfl := hR2.done hgk.2.1 ha
      have hS2 : S2.Perm g.ks := by have := hR2; unfold Rg at this; simpa using this
      refine psh g M' _ hp ?_
      refine i_bk ((S ++ [(g.id, some g.b, g.born)], R'), (es, c)) rfl ⟨hst, he, fun k => ?_, ?_, hkl⟩ hlt
      · rw [hm, (hS2.map (·.1)).mem_iff]
        constructor
        · rintro (⟨x, hx, q⟩ | hk)
          · exact ⟨x, List.mem_append_left _ hx, q⟩
          · exact ⟨_, List.mem_append_right _ List.mem_cons_self, g, hg, rfl, hk⟩
        · rintro ⟨x, hx, g', hg', q1, q2⟩
          rcases List.mem_append.1 hx with hx | hx
          · exact .inl ⟨x, hx, g', hg', q1, q2⟩
          · simp at hx
            subst hx
            have e1 := fg_of hid hg
            have e2 := fg_of hid hg'
            rw [q1] at e2
            rw [show (g.id, some g.b, g.born).1 = g.id from rfl] at e2
            rw [e1] at e2
            cases e2
            exact .inr q2
      · have := hS2.length_eq
        dsimp only
        rw [List.map_append, List.sum_append]
        simp only [List.map_cons, List.map_nil, List.sum_cons, List.sum_nil, hkg]
        omega
    · repeat' (first | (with_reducible first | refine d_seq fun K hK => ?_ | (refine hK _ _ ?_; clear hK K) | (refine SG.p ?_; try intro b) | refine SP.p ?_) | refine i_c ?_ ?_ <;> intro hc <;> try simp only [push_cast, seval] at hc | refine i_x ?_ | clear hK K)
      rw [sn_push]
      refine i_ment (κ := eS) (ε := eWs) hx2 hgk.2.1 ?_
      obtain ⟨R2', hlt2, hst2⟩ := hR2.step hx2 hns2
      repeat' (first | (with_reducible first | refine d_seq fun K hK => ?_ | (refine hK _ _ ?_; clear hK K) | (refine SG.p ?_; try intro b) | refine SP.p ?_) | refine i_c ?_ ?_ <;> intro hc <;> try simp only [push_cast, seval] at hc | refine i_x ?_ | clear hK K)
      refine i_mus (ε := eB) false true rfl rfl ?_
      repeat' (first | (with_reducible first | refine d_seq fun K hK => ?_ | (refine hK _ _ ?_; clear hK K) | (refine SG.p ?_; try intro b) | refine SP.p ?_) | refine i_c ?_ ?_ <;> intro hc <;> try simp only [push_cast, seval] at hc | refine i_x ?_ | clear hK K)
      refine i_bk ((S2 ++ [x], R2'), (pk es x.1 true c, ck es x.1 c)) rfl ⟨hst2, he.pk _ _, fun k => ?_, ?_, fun y hy => ?_⟩ hlt2
      · dsimp only
        refine (pk_keys_mem (ε := eB) k).trans ?_
        rw [hm]
        simp [or_assoc]
      · have := pk_len (κ := eS) (ε := eB) es x.1 true c
        dsimp only
        simp only [List.length_append, List.length_cons, List.length_nil]
        omega
      · rcases pk_mem (κ := eS) (ε := eB) hy with e | ⟨z, hz, e⟩
        · rw [e]; exact h.wk g hg x hx2
        · rw [← e]; exact hkl z hz
end Go.Sp
namespace Go.Sp
open Go Go.Proofs
set_option linter.unusedSimpArgs false
set_option linter.unusedVariables false
set_option maxRecDepth 10000
variable {L : List HP}
theorem slp0 (p : Option Addr) (c : Int) (sz : Nat) : slp p 0 c sz = p := by
  unfold slp
  split
  · rfl
  · cases p with
    | none => rfl
    | some a => simp [add_zero']
theorem i_owcut {G : World → Prop} {R : List HP} {t : TypeId} {sz n c : Nat} {p : Option Addr} {xs : List Value} (m : Nat) [ho : O1 L t sz (p, n, c) xs R] (hm : m ≤ n) (h : E (ow t sz (p, m, c) (xs.take (m * sz)) :: R) G) : E L G := fun w hw => by
  refine h w (HS.hd (fun hh q => ?_) (ho.p.hs hw))
  obtain ⟨h1, h2⟩ := q
  have hle : m * sz ≤ n * sz := Nat.mul_le_mul_right sz hm
  refine ⟨by rw [List.length_take]; simp only at h1 ⊢; omega, ?_⟩
  rcases h2 with h2 | ⟨g, cap, cur, hs, hg, hn, hmm, hcs, ht⟩
  · cases h2
    obtain rfl : m = 0 := by omega
    exact .inl rfl
  · simp only [Prod.mk.injEq, true_and] at hs
    obtain ⟨rfl, rfl⟩ := hs
    refine .inr ⟨g, _, cur, rfl, hg, by simp only at hn ⊢; omega, hmm, hcs, ?_⟩
    simp only at ht ⊢
    rw [← ht, List.take_take, Nat.min_eq_left hle]
section
variable (r : List UInt8 → past_Was × Bool) (lo hi : List UInt8)
def kc (ks : List (List UInt8)) : List api_Cell := (ks.filter fun k => (r k).1.Is && ins k lo hi).map fun k => ⟨k, (r k).1.Val⟩
def vall (cs : List api_Cell) (ks : List (List UInt8)) : List api_Cell := psrt ((cs.filter fun x => !(r x.Key).2) ++ kc r lo hi ks)
end
set_option maxHeartbeats 2000000 in
theorem f10 {pp : Option Addr} {PP : HP} {r : List UInt8 → past_Was × Bool} (hg : ∀ k, Fp (eT2 eWs eB) Try.prog 6 #[.pointer pp, str k] [PP] (r k))
    {KS : List (List UInt8) → Prop} (hKn : ∀ ks, KS ks → ks.length ≤ 1000000) (hKs : Fn eSl Try.prog 13 #[.pointer pp] [PP] (fun t X => ∃ ks, KS ks ∧ X = [ow 9 1 t (ks.map fun k => str k), PP]))
    {A : HP} {s : SlV} {cs : List api_Cell} (hR : Rs A s 2 (cs.flatMap cC)) (hl : cs.length ≤ 1000000) (lo hi : List UInt8) (most : Int) :
    Fn eSl Try.prog 10 #[.pointer pp, .slice s.1 s.2.1 s.2.2, str lo, str hi, .int .i64 most] [A, PP] (fun t X => ∃ ks, KS ks ∧ X = [ow 39 2 t (((vall r lo hi cs ks).take most.toNat).flatMap cC), A, PP]) := fun L => by
  refine c10_fn rfl rfl ?_
  repeat' (first | (with_reducible first | refine d_seq fun K hK => ?_ | (refine hK _ _ ?_; clear hK K) | (refine SG.p ?_; try intro b)) | refine i_c ?_ ?_ <;> intro hc <;> try simp only [push_cast, seval] at hc | refine i_x ?_ | clear hK K)
  refine i_cal (f20 hR hl) ?_
  rintro ⟨dp, dn, dc⟩ _ ⟨rfl, _⟩
  refine i_cal (f19 hg hl _) ?_
  rintro ⟨dp2, dn2, dc2⟩ _ rfl
  repeat' (first | (with_reducible first | refine d_seq fun K hK => ?_ | (refine hK _ _ ?_; clear hK K) | (refine SG.p ?_; try intro b)) | refine i_c ?_ ?_ <;> intro hc <;> try simp only [push_cast, seval] at hc | refine i_x ?_ | clear hK K)
  refine i_cal hKs ?_
  rintro ⟨kp, kn, kc0⟩ _ ⟨ks, hks, rfl⟩
  have hkl := hKn ks hks
  simp only [List.cons_append, List.nil_append]
  refine i_ow (t := 9) (sz := 1) (kp, kn, kc0) fun hRk => ?_
  have hlen2 : kn = ks.length := by have := hRk.1; simpa using this.symm
  subst hlen2
  repeat' (first | (with_reducible first | refine d_seq fun K hK => ?_ | (refine hK _ _ ?_; clear hK K) | (refine SG.p ?_; try intro b)) | refine i_c ?_ ?_ <;> intro hc <;> try simp only [push_cast, seval] at hc | refine i_x ?_ | clear hK K)
  have hcl : ∀ i, i ≤ ks.length → (kc r lo hi (ks.take i)).length ≤ i := fun i hi' => by
    unfold kc
    rw [List.length_map]
    exact Nat.le_trans (List.length_filter_le _ _) (by rw [List.length_take]; omega)
  have hdl : (cs.filter fun x => !(r x.Key).2).length ≤ 1000000 := Nat.le_trans (List.length_filter_le _ _) hl
  generalize hD : (cs.filter fun x => !(r x.Key).2) = D at *
  refine d_lp [2, 3, 4, 5, 11, 21, 22, 23] (fun t : Nat × SlV => [(2, str lo), (3, str hi), (4, .int .i64 most), (5, .pointer (some ⟨b, 0, none⟩)), (11, .slice t.2.1 t.2.2.1 t.2.2.2), (21, .slice kp ks.length kc0), (22, .int .i64 (ks.length : Int)), (23, .int .i64 (t.1 : Int))])
    (fun t => ow 39 2 t.2 ((D ++ kc r lo hi (ks.take t.1)).flatMap cC) :: ow 9 1 (kp, ks.length, kc0) (ks.map fun k => str k) :: ar b 24 [.pointer pp] :: A :: PP :: L)
    (fun t => t.1 ≤ ks.length) (fun t => ks.length - t.1) (0, (dp2, dn2, dc2)) rfl ?_ (Nat.zero_le _) ?_
  · show Sub (ow 39 2 (dp2, dn2, dc2) ((D ++ kc r lo hi (ks.take 0)).flatMap cC) :: ow 9 1 (kp, ks.length, kc0) (ks.map fun k => str k) :: ar b 24 [.pointer pp] :: A :: PP :: L) _
    rw [List.take_zero, show kc r lo hi [] = [] from rfl, List.append_nil]
    exact SX.p
  rintro ⟨i, op, on, oc⟩ hi'
  dsimp only at hi' ⊢
  have hci := hcl i hi'
  by_cases hlt : i < ks.length
  · have hx : (ks.map fun k => str k)[i]? = some (eS.enc ks[i]) := by simp [hlt]
    have htk : ks.take (i + 1) = ks.take i ++ [ks[i]] := by rw [List.take_add_one]; simp [hlt]
    obtain ⟨ad, rfl⟩ := hRk.ptr (by omega)
    have ei : IntKind.wrap .i64 ((i : Int) + 1) = ((i + 1 : Nat) : Int) := by rw [w64 (by omega) (by omega)]; omega
    generalize ks[i] = k at *
    have hkc : kc r lo hi (ks.take (i + 1)) = kc r lo hi (ks.take i) ++ if (r k).1.Is && ins k lo hi then [⟨k, (r k).1.Val⟩] else [] := by
      rw [htk]
      unfold kc
      rw [List.filter_append, List.map_append]
      congr 1
      by_cases h : ((r k).1.Is && ins k lo hi) = true
      · simp [h]
      · simp only [Bool.not_eq_true] at h
        simp [h]
    repeat' (first | (with_reducible first | refine d_seq fun K hK => ?_ | (refine hK _ _ ?_; clear hK K) | (refine SG.p ?_; try intro b)) | refine i_c ?_ ?_ <;> intro hc <;> try simp only [push_cast, seval] at hc | refine i_x ?_ | clear hK K)
    all_goals try (exfalso; omega)
    refine i_o1 hx ?_
    repeat' (first | (with_reducible first | refine d_seq fun K hK => ?_ | (refine hK _ _ ?_; clear hK K) | (refine SG.p ?_; try intro b)) | refine i_c ?_ ?_ <;> intro hc <;> try simp only [push_cast, seval] at hc | refine i_x ?_ | clear hK K)
    refine i_clp (hg k) ?_
    repeat' (first | (with_reducible first | refine d_seq fun K hK => ?_ | (refine hK _ _ ?_; clear hK K) | (refine SG.p ?_; try intro b)) | refine i_c ?_ ?_ <;> intro hc <;> try simp only [push_cast, seval] at hc | refine i_x ?_ | clear hK K)
    · refine i_clp (f22 k lo hi) ?_
      repeat' (first | (with_reducible first | refine d_seq fun K hK => ?_ | (refine hK _ _ ?_; clear hK K) | (refine SG.p ?_; try intro b)) | refine i_c ?_ ?_ <;> intro hc <;> try simp only [push_cast, seval] at hc | refine i_x ?_ | clear hK K)
      · refine i_ow (t := 39) (sz := 2) (op, on, oc) fun hRo => ?_
        have hon : on = (D ++ kc r lo hi (ks.take i)).length := hRo.len cC_len (by decide)
        rw [List.length_append] at hon
        refine i_app (t := 39) (sz := 2) (m := 1) (op, on, oc) 32 (by kernel_rfl) rfl rfl rfl (by dsimp only; omega) fun s' h1 h2 => ?_
        rw [if_pos (by simp [*])] at hkc
        have e : (D ++ kc r lo hi (ks.take i)).flatMap cC ++ [str k, str (r k).1.Val] = (D ++ kc r lo hi (ks.take (i + 1))).flatMap cC := by
          rw [hkc, ← List.append_assoc, List.flatMap_append (xs := D ++ kc r lo hi (ks.take i))]
          rfl
        rw [e]
        repeat' (first | (with_reducible first | refine d_seq fun K hK => ?_ | (refine hK _ _ ?_; clear hK K) | (refine SG.p ?_; try intro b)) | refine i_c ?_ ?_ <;> intro hc <;> try simp only [push_cast, seval] at hc | refine i_x ?_ | clear hK K)
        rw [ei]
        exact i_bk (i + 1, s') rfl (by dsimp only; omega) (by dsimp only; omega)
      · rw [if_neg (by simp [*]), List.append_nil] at hkc
        rw [ei, ← hkc]
        exact i_bk (i + 1, (op, on, oc)) rfl (by dsimp only; omega) (by dsimp only; omega)
    · rw [if_neg (by simp [*]), List.append_nil] at hkc
      rw [ei, ← hkc]
      exact i_bk (i + 1, (op, on, oc)) rfl (by dsimp only; omega) (by dsimp only; omega)
  · obtain rfl : i = ks.length := by omega
    rw [List.take_length] at hci ⊢
    repeat' (first | (with_reducible first | refine d_seq fun K hK => ?_ | (refine hK _ _ ?_; clear hK K) | (refine SG.p ?_; try intro b)) | refine i_c ?_ ?_ <;> intro hc <;> try simp only [push_cast, seval] at hc | refine i_x ?_ | clear hK K)
    all_goals try (exfalso; omega)
    have hol : (D ++ kc r lo hi ks).length ≤ 1000000 + 1000000 := by rw [List.length_append]; omega
    have hvl : vall r lo hi cs ks = psrt (D ++ kc r lo hi ks) := by unfold vall; rw [hD]
    generalize hW : D ++ kc r lo hi ks = Wl at *
    refine i_ow (t := 39) (sz := 2) (op, on, oc) fun hRo => ?_
    obtain rfl : on = Wl.length := hRo.len cC_len (by decide)
    refine i_clq (f23 (op, Wl.length, oc) Wl (by omega)) ?_
    have hpl := psrt_len Wl
    rw [← hvl] at *
    generalize hV : vall r lo hi cs ks = V at *
    rw [← hpl] at *
    refine r_fact At.here (fun _ hq => ow_cap hq) fun hcap => ?_
    dsimp only at hcap
    repeat' (first | (with_reducible first | refine d_seq fun K hK => ?_ | (refine hK _ _ ?_; clear hK K) | (refine SG.p ?_; try intro b)) | refine i_c ?_ ?_ <;> intro hc <;> try simp only [push_cast, seval] at hc | refine i_x ?_ | clear hK K)
    have hm : ((if (V.length : Int) < if most < 0 then 0 else most then (V.length : Int) else if most < 0 then 0 else most).toNat - 0) = min V.length most.toNat := by
      split <;> split <;> omega
    rw [hm, slp0, Nat.sub_zero]
    refine i_owcut (t := 39) (sz := 2) (p := op) (n := V.length) (c := oc) (min V.length most.toNat) (Nat.min_le_left _ _) ?_
    have ht : (V.flatMap cC).take (min V.length most.toNat * 2) = (V.take most.toNat).flatMap cC := by
      have e : V.flatMap cC = (V.take (min V.length most.toNat)).flatMap cC ++ (V.drop (min V.length most.toNat)).flatMap cC := by rw [← List.flatMap_append, List.take_append_drop]
      have el : ((V.take (min V.length most.toNat)).flatMap cC).length = min V.length most.toNat * 2 := by rw [flat_len cC_len, List.length_take, Nat.min_eq_left (Nat.min_le_left _ _)]
      have e2 : V.take most.toNat = V.take (min V.length most.toNat) := by
        rcases Nat.le_total V.length most.toNat with h | h
        · rw [Nat.min_eq_left h, List.take_of_length_le h, List.take_length]
        · rw [Nat.min_eq_right h]
      rw [e2]
      generalize (V.take (min V.length most.toNat)).flatMap cC = a at *
      rw [e]
      exact List.take_left' el
    rw [ht]
    exact i_done (e := eSl) (op, min V.length most.toNat, oc) [ow 39 2 (op, min V.length most.toNat, oc) ((V.take most.toNat).flatMap cC), A, PP] rfl ⟨ks, hks, by rw [hV]⟩
end Go.Sp
namespace Go.Sp
open Go
set_option maxRecDepth 100000
set_option linter.unusedVariables false
open Go.Proofs
variable (K : Env → W) (k : Value → W) {e : Enc} {args : Array Value} {G : e.α → W} {L : List HP} {ρ : Env}
attribute [local instance] cI cB cP cA
noncomputable def c3 := cf Try.f3 110 [(0, [0, 1, 2, 3, 4]), (1, [0, 1, 2, 3, 4]), (2, [0, 1, 2, 3, 4, 11]), (3, [0, 1, 2, 3, 4, 11, 12]), (4, [0, 1, 2, 3, 4, 11, 12]), (5, [0, 1, 2, 3, 4, 11, 12]), (6, [0, 1, 2, 3, 4, 11, 12, 13]), (7, [0, 1, 2, 3, 4, 11, 12, 13, 15]), (8, [0, 1, 2, 3, 4, 11, 12, 13]), (9, [1, 2, 3, 4, 11]), (10, [1, 2, 3, 4, 11]), (11, [1, 2, 3, 4, 11]), (12, []), (13, [1, 2, 3, 4, 11]), (14, [1, 2, 3, 4, 11, 16]), (15, [1, 2, 3, 4, 11, 16, 17]), (16, [1, 2, 3, 4, 11, 16, 17, 18]), (17, [1, 2, 3, 4, 11, 16, 17]), (18, [1, 2, 3, 11, 16, 17, 18]), (19, [1, 2, 3, 11, 16, 17]), (20, [1, 2, 3, 11, 16, 17, 18]), (21, []), (22, [1, 2, 3, 11, 16, 17]), (23, [1, 2, 3, 11, 16, 17, 19]), (24, [1, 2, 3, 11, 16, 17, 19]), (25, [1, 2, 3, 11, 16, 17, 19]), (26, []), (27, [1, 2, 3, 11, 17])] [(0, [0, 1, 2, 3, 4]), (1, [0, 1, 2, 3, 4, 11]), (2, [0, 1, 2, 3, 4, 11, 12]), (3, [0, 1, 2, 3, 4, 11, 12, 28]), (4, [0, 1, 2, 3, 4, 11, 12]), (5, [0, 1, 2, 3, 4, 11, 12, 13]), (6, [0, 1, 2, 3, 4, 11, 12, 13, 15]), (7, [0, 1, 2, 3, 4, 11, 12, 13, 43]), (8, [0, 1, 2, 3, 4, 11, 12]), (9, [1, 2, 3, 4, 11, 51]), (10, [1, 2, 3, 4, 11]), (11, [1, 2, 3, 4, 11, 56]), (12, [10]), (13, [1, 2, 3, 4, 11, 16]), (14, [1, 2, 3, 4, 11, 16, 17]), (15, [1, 2, 3, 4, 11, 16, 17, 18]), (16, [1, 2, 3, 4, 11, 16, 17, 18, 73]), (17, [1, 2, 3, 11, 16, 17, 18]), (18, [1, 2, 3, 11, 16, 17, 18, 76]), (19, [1, 2, 3, 11, 16, 17, 18]), (20, [1, 2, 3, 11, 16, 17, 85]), (21, [10]), (22, [1, 2, 3, 11, 16, 17, 19]), (23, [1, 2, 3, 11, 16, 17, 19, 89]), (24, [1, 2, 3, 11, 16, 17, 19]), (25, [1, 2, 3, 11, 16, 17, 19, 100]), (26, [10]), (27, [10]), (1000000, [10])] [(25, (true, [(0, 1), (1, 1), (2, 1), (3, 0), (4, 1), (5, 1), (6, 1), (7, 0), (8, 0)]))] []
@[go_sem] theorem c3_i : c3.li 0 = [0, 1, 2, 3, 4] ∧ c3.li 1 = [0, 1, 2, 3, 4] ∧ c3.li 2 = [0, 1, 2, 3, 4, 11] ∧ c3.li 3 = [0, 1, 2, 3, 4, 11, 12] ∧ c3.li 4 = [0, 1, 2, 3, 4, 11, 12] ∧ c3.li 5 = [0, 1, 2, 3, 4, 11, 12] ∧ c3.li 6 = [0, 1, 2, 3, 4, 11, 12, 13] ∧ c3.li 7 = [0, 1, 2, 3, 4, 11, 12, 13, 15] ∧ c3.li 8 = [0, 1, 2, 3, 4, 11, 12, 13] ∧ c3.li 9 = [1, 2, 3, 4, 11] ∧ c3.li 10 = [1, 2, 3, 4, 11] ∧ c3.li 11 = [1, 2, 3, 4, 11] ∧ c3.li 12 = [] ∧ c3.li 13 = [1, 2, 3, 4, 11] ∧ c3.li 14 = [1, 2, 3, 4, 11, 16] ∧ c3.li 15 = [1, 2, 3, 4, 11, 16, 17] ∧ c3.li 16 = [1, 2, 3, 4, 11, 16, 17, 18] ∧ c3.li 17 = [1, 2, 3, 4, 11, 16, 17] ∧ c3.li 18 = [1, 2, 3, 11, 16, 17, 18] ∧ c3.li 19 = [1, 2, 3, 11, 16, 17] ∧ c3.li 20 = [1, 2, 3, 11, 16, 17, 18] ∧ c3.li 21 = [] ∧ c3.li 22 = [1, 2, 3, 11, 16, 17] ∧ c3.li 23 = [1, 2, 3, 11, 16, 17, 19] ∧ c3.li 24 = [1, 2, 3, 11, 16, 17, 19] ∧ c3.li 25 = [1, 2, 3, 11, 16, 17, 19] ∧ c3.li 26 = [] ∧ c3.li 27 = [1, 2, 3, 11, 17] := ⟨rfl, rfl, rfl, rfl, rfl, rfl, rfl, rfl, rfl, rfl, rfl, rfl, rfl, rfl, rfl, rfl, rfl, rfl, rfl, rfl, rfl, rfl, rfl, rfl, rfl, rfl, rfl, rfl⟩
@[go_sem] theorem c3_r0 (v0p : Option Addr) (v0n v0c : Nat) (v1p : Option Addr) (v1n v1c : Nat) (v2 v3 : List UInt8) (v4 : Int) : RP c3 0 [(0, .slice v0p v0n v0c), (1, .slice v1p v1n v1c), (2, str v2), (3, str v3), (4, v4)] K =
 (K [(0, .slice v0p v0n v0c), (1, .slice v1p v1n v1c), (2, str v2), (3, str v3), (4, v4)]) := by kernel_rfl
@[go_sem] theorem c3_r1 (v0p : Option Addr) (v0n v0c : Nat) (v1p : Option Addr) (v1n v1c : Nat) (v2 v3 : List UInt8) (v4 : Int) : RP c3 1 [(0, .slice v0p v0n v0c), (1, .slice v1p v1n v1c), (2, str v2), (3, str v3), (4, v4)] K =
 (cal eP Try.prog 5 #[] fun (y1_ : Option Addr) => (K [(0, .slice v0p v0n v0c), (1, .slice v1p v1n v1c), (2, str v2), (3, str v3), (4, v4), (11, y1_)])) := by kernel_rfl
@[go_sem] theorem c3_r2 (v0p : Option Addr) (v0n v0c : Nat) (v1p : Option Addr) (v1n v1c : Nat) (v2 v3 : List UInt8) (v4 : Int) (v11 : Option Addr) : RP c3 2 [(0, .slice v0p v0n v0c), (1, .slice v1p v1n v1c), (2, str v2), (3, str v3), (4, v4), (11, v11)] K =
 (K [(0, .slice v0p v0n v0c), (1, .slice v1p v1n v1c), (2, str v2), (3, str v3), (4, v4), (11, v11), (12, .int .i64 0)]) := by kernel_rfl
@[go_sem] theorem c3_r3 (v0p : Option Addr) (v0n v0c : Nat) (v1p : Option Addr) (v1n v1c : Nat) (v2 v3 : List UInt8) (v4 : Int) (v11 : Option Addr) (v12 : Int) : RP c3 3 [(0, .slice v0p v0n v0c), (1, .slice v1p v1n v1c), (2, str v2), (3, str v3), (4, v4), (11, v11), (12, v12)] K =
 (cnd (decide (v12 < v0n)) (K [(0, .slice v0p v0n v0c), (1, .slice v1p v1n v1c), (2, str v2), (3, str v3), (4, v4), (11, v11), (12, v12), (28, decide (v12 < 40))]) (K [(0, .slice v0p v0n v0c), (1, .slice v1p v1n v1c), (2, str v2), (3, str v3), (4, v4), (11, v11), (12, v12), (28, false)])) := by kernel_rfl
@[go_sem] theorem c3_r4 (v0p : Option Addr) (v0n v0c : Nat) (v1p : Option Addr) (v1n v1c : Nat) (v2 v3 : List UInt8) (v4 : Int) (v11 : Option Addr) (v12 : Int) : RP c3 4 [(0, .slice v0p v0n v0c), (1, .slice v1p v1n v1c), (2, str v2), (3, str v3), (4, v4), (11, v11), (12, v12)] K =
 (K [(0, .slice v0p v0n v0c), (1, .slice v1p v1n v1c), (2, str v2), (3, str v3), (4, v4), (11, v11), (12, IntKind.wrap .i64 (v12 + 1))]) := by kernel_rfl
@[go_sem] theorem c3_r5 (v0p : Option Addr) (v0n v0c : Nat) (v1p : Option Addr) (v1n v1c : Nat) (v2 v3 : List UInt8) (v4 : Int) (v11 : Option Addr) (v12 : Int) : RP c3 5 [(0, .slice v0p v0n v0c), (1, .slice v1p v1n v1c), (2, str v2), (3, str v3), (4, v4), (11, v11), (12, v12)] K =
 (rq (0 ≤ v12 ∧ v12 < v0n) (nn v0p fun y1_ => (ldn e_api_Rec 13 (Addr.add y1_ (v12.toNat * 13)) fun (y2_ : api_Rec) => (nwc #[.int .i64 0, .int .i64 0, .int .i64 0, .int .i64 0, .int .i64 0, str ([] : List UInt8), str ([] : List UInt8), str ([] : List UInt8), .int .i64 0, .slice none 0 0, .slice none 0 0, .int .i64 0, .int .i64 0] 29 fun y3_ => (stl [y2_.Kind, y2_.Txn, y2_.Prev, y2_.Page, y2_.Act, str y2_.Key, str y2_.Old, str y2_.New, y2_.Next, .slice y2_.Images.1 y2_.Images.2.1 y2_.Images.2.2, .slice y2_.Table.1 y2_.Table.2.1 y2_.Table.2.2, y2_.Epoch, y2_.Node] y3_ 0 (K [(0, .slice v0p v0n v0c), (1, .slice v1p v1n v1c), (2, str v2), (3, str v3), (4, v4), (11, v11), (12, v12), (13, y3_)])))))) := by kernel_rfl
@[go_sem] theorem c3_r6 (v0p : Option Addr) (v0n v0c : Nat) (v1p : Option Addr) (v1n v1c : Nat) (v2 v3 : List UInt8) (v4 : Int) (v11 : Option Addr) (v12 : Int) (v13 : Addr) : RP c3 6 [(0, .slice v0p v0n v0c), (1, .slice v1p v1n v1c), (2, str v2), (3, str v3), (4, v4), (11, v11), (12, v12), (13, v13)] K =
 (ld eS (v13.add 5) fun (y1_ : List UInt8) => (cal (eT2 e_past_Was eB) Try.prog 6 #[v11, str y1_] fun (y2_ : (past_Was × Bool)) => (nwc #[str ([] : List UInt8), false] 31 fun y3_ => (stl [str y2_.1.Val, .bool y2_.1.Is] y3_ 0 (K [(0, .slice v0p v0n v0c), (1, .slice v1p v1n v1c), (2, str v2), (3, str v3), (4, v4), (11, v11), (12, v12), (13, v13), (15, y2_.2)]))))) := by kernel_rfl
@[go_sem] theorem c3_r7 (v0p : Option Addr) (v0n v0c : Nat) (v1p : Option Addr) (v1n v1c : Nat) (v2 v3 : List UInt8) (v4 : Int) (v11 : Option Addr) (v12 : Int) (v13 : Addr) (v15 : Bool) : RP c3 7 [(0, .slice v0p v0n v0c), (1, .slice v1p v1n v1c), (2, str v2), (3, str v3), (4, v4), (11, v11), (12, v12), (13, v13), (15, v15)] K =
 (K [(0, .slice v0p v0n v0c), (1, .slice v1p v1n v1c), (2, str v2), (3, str v3), (4, v4), (11, v11), (12, v12), (13, v13), (43, .bool (!v15))]) := by kernel_rfl
@[go_sem] theorem c3_r8 (v0p : Option Addr) (v0n v0c : Nat) (v1p : Option Addr) (v1n v1c : Nat) (v2 v3 : List UInt8) (v4 : Int) (v11 : Option Addr) (v12 : Int) (v13 : Addr) : RP c3 8 [(0, .slice v0p v0n v0c), (1, .slice v1p v1n v1c), (2, str v2), (3, str v3), (4, v4), (11, v11), (12, v12), (13, v13)] K =
 (ldn e_api_Rec 13 v13 fun (y1_ : api_Rec) => (cal eN Try.prog 7 #[v11, v_api_Rec y1_, IntKind.wrap .i64 (v12 + 1)] fun (y2_ : Unit) => (K [(0, .slice v0p v0n v0c), (1, .slice v1p v1n v1c), (2, str v2), (3, str v3), (4, v4), (11, v11), (12, v12)]))) := by kernel_rfl
@[go_sem] theorem c3_r9 (v1p : Option Addr) (v1n v1c : Nat) (v2 v3 : List UInt8) (v4 : Int) (v11 : Option Addr) : RP c3 9 [(1, .slice v1p v1n v1c), (2, str v2), (3, str v3), (4, v4), (11, v11)] K =
 (K [(1, .slice v1p v1n v1c), (2, str v2), (3, str v3), (4, v4), (11, v11), (51, decide ((60 : Int) < (v1n : Int)))]) := by kernel_rfl
@[go_sem] theorem c3_r10 (v1p : Option Addr) (v1n v1c : Nat) (v2 v3 : List UInt8) (v4 : Int) (v11 : Option Addr) : RP c3 10 [(1, .slice v1p v1n v1c), (2, str v2), (3, str v3), (4, v4), (11, v11)] K =
 (rq (0 ≤ (0 : Int) ∧ 0 ≤ (60 : Int) ∧ (60 : Int) ≤ (v1c : Int)) (K [(1, .slice (slp v1p 0 (v1c : Int) 2) ((60 : Int).toNat - (0 : Int).toNat) ((v1c : Int).toNat - (0 : Int).toNat)), (2, str v2), (3, str v3), (4, v4), (11, v11)])) := by kernel_rfl
@[go_sem] theorem c3_r11 (v1p : Option Addr) (v1n v1c : Nat) (v2 v3 : List UInt8) (v4 : Int) (v11 : Option Addr) : RP c3 11 [(1, .slice v1p v1n v1c), (2, str v2), (3, str v3), (4, v4), (11, v11)] K =
 (cal eB Try.prog 8 #[.slice v1p v1n v1c] fun (y1_ : Bool) => (K [(1, .slice v1p v1n v1c), (2, str v2), (3, str v3), (4, v4), (11, v11), (56, .bool (!y1_))])) := by kernel_rfl
@[go_sem] theorem c3_r12 : RP c3 12 [] K =
 (cal eB Try.prog 9 #[] fun (y1_ : Bool) => (K [(10, y1_)])) := by kernel_rfl
@[go_sem] theorem c3_r13 (v1p : Option Addr) (v1n v1c : Nat) (v2 v3 : List UInt8) (v4 : Int) (v11 : Option Addr) : RP c3 13 [(1, .slice v1p v1n v1c), (2, str v2), (3, str v3), (4, v4), (11, v11)] K =
 (cal eSl Try.prog 10 #[v11, .slice v1p v1n v1c, str v2, str v3, v4] fun (y1_ : (Option Addr × Nat × Nat)) => (K [(1, .slice v1p v1n v1c), (2, str v2), (3, str v3), (4, v4), (11, v11), (16, .slice y1_.1 y1_.2.1 y1_.2.2)])) := by kernel_rfl
@[go_sem] theorem c3_r14 (v1p : Option Addr) (v1n v1c : Nat) (v2 v3 : List UInt8) (v4 : Int) (v11 v16p : Option Addr) (v16n v16c : Nat) : RP c3 14 [(1, .slice v1p v1n v1c), (2, str v2), (3, str v3), (4, v4), (11, v11), (16, .slice v16p v16n v16c)] K =
 (cal eSl Try.prog 10 #[v11, .slice v1p v1n v1c, str v2, str v3, .int .i64 1000] fun (y1_ : (Option Addr × Nat × Nat)) => (K [(1, .slice v1p v1n v1c), (2, str v2), (3, str v3), (4, v4), (11, v11), (16, .slice v16p v16n v16c), (17, .slice y1_.1 y1_.2.1 y1_.2.2)])) := by kernel_rfl
@[go_sem] theorem c3_r15 (v1p : Option Addr) (v1n v1c : Nat) (v2 v3 : List UInt8) (v4 : Int) (v11 v16p : Option Addr) (v16n v16c : Nat) (v17p : Option Addr) (v17n v17c : Nat) : RP c3 15 [(1, .slice v1p v1n v1c), (2, str v2), (3, str v3), (4, v4), (11, v11), (16, .slice v16p v16n v16c), (17, .slice v17p v17n v17c)] K =
 (K [(1, .slice v1p v1n v1c), (2, str v2), (3, str v3), (4, v4), (11, v11), (16, .slice v16p v16n v16c), (17, .slice v17p v17n v17c), (18, .int .i64 (v17n : Int))]) := by kernel_rfl
@[go_sem] theorem c3_r16 (v1p : Option Addr) (v1n v1c : Nat) (v2 v3 : List UInt8) (v4 : Int) (v11 v16p : Option Addr) (v16n v16c : Nat) (v17p : Option Addr) (v17n v17c : Nat) (v18 : Int) : RP c3 16 [(1, .slice v1p v1n v1c), (2, str v2), (3, str v3), (4, v4), (11, v11), (16, .slice v16p v16n v16c), (17, .slice v17p v17n v17c), (18, v18)] K =
 (K [(1, .slice v1p v1n v1c), (2, str v2), (3, str v3), (4, v4), (11, v11), (16, .slice v16p v16n v16c), (17, .slice v17p v17n v17c), (18, v18), (73, decide (v4 < v18))]) := by kernel_rfl
@[go_sem] theorem c3_r17 (v1p : Option Addr) (v1n v1c : Nat) (v2 v3 : List UInt8) (v4 : Int) (v11 v16p : Option Addr) (v16n v16c : Nat) (v17p : Option Addr) (v17n v17c : Nat) : RP c3 17 [(1, .slice v1p v1n v1c), (2, str v2), (3, str v3), (4, v4), (11, v11), (16, .slice v16p v16n v16c), (17, .slice v17p v17n v17c)] K =
 (K [(1, .slice v1p v1n v1c), (2, str v2), (3, str v3), (11, v11), (16, .slice v16p v16n v16c), (17, .slice v17p v17n v17c), (18, v4)]) := by kernel_rfl
@[go_sem] theorem c3_r18 (v1p : Option Addr) (v1n v1c : Nat) (v2 v3 : List UInt8) (v11 v16p : Option Addr) (v16n v16c : Nat) (v17p : Option Addr) (v17n v17c : Nat) (v18 : Int) : RP c3 18 [(1, .slice v1p v1n v1c), (2, str v2), (3, str v3), (11, v11), (16, .slice v16p v16n v16c), (17, .slice v17p v17n v17c), (18, v18)] K =
 (K [(1, .slice v1p v1n v1c), (2, str v2), (3, str v3), (11, v11), (16, .slice v16p v16n v16c), (17, .slice v17p v17n v17c), (18, v18), (76, decide (v18 < 0))]) := by kernel_rfl
@[go_sem] theorem c3_r19 (v1p : Option Addr) (v1n v1c : Nat) (v2 v3 : List UInt8) (v11 v16p : Option Addr) (v16n v16c : Nat) (v17p : Option Addr) (v17n v17c : Nat) : RP c3 19 [(1, .slice v1p v1n v1c), (2, str v2), (3, str v3), (11, v11), (16, .slice v16p v16n v16c), (17, .slice v17p v17n v17c)] K =
 (K [(1, .slice v1p v1n v1c), (2, str v2), (3, str v3), (11, v11), (16, .slice v16p v16n v16c), (17, .slice v17p v17n v17c), (18, .int .i64 0)]) := by kernel_rfl
@[go_sem] theorem c3_r20 (v1p : Option Addr) (v1n v1c : Nat) (v2 v3 : List UInt8) (v11 v16p : Option Addr) (v16n v16c : Nat) (v17p : Option Addr) (v17n v17c : Nat) (v18 : Int) : RP c3 20 [(1, .slice v1p v1n v1c), (2, str v2), (3, str v3), (11, v11), (16, .slice v16p v16n v16c), (17, .slice v17p v17n v17c), (18, v18)] K =
 (cnd ((v16n : Int) != v18) (K [(1, .slice v1p v1n v1c), (2, str v2), (3, str v3), (11, v11), (16, .slice v16p v16n v16c), (17, .slice v17p v17n v17c), (85, true)]) (cal eB Try.prog 8 #[.slice v17p v17n v17c] fun (y1_ : Bool) => (K [(1, .slice v1p v1n v1c), (2, str v2), (3, str v3), (11, v11), (16, .slice v16p v16n v16c), (17, .slice v17p v17n v17c), (85, .bool (!y1_))]))) := by kernel_rfl
@[go_sem] theorem c3_r21 : RP c3 21 [] K =
 (K [(10, false)]) := by kernel_rfl
@[go_sem] theorem c3_r22 (v1p : Option Addr) (v1n v1c : Nat) (v2 v3 : List UInt8) (v11 v16p : Option Addr) (v16n v16c : Nat) (v17p : Option Addr) (v17n v17c : Nat) : RP c3 22 [(1, .slice v1p v1n v1c), (2, str v2), (3, str v3), (11, v11), (16, .slice v16p v16n v16c), (17, .slice v17p v17n v17c)] K =
 (K [(1, .slice v1p v1n v1c), (2, str v2), (3, str v3), (11, v11), (16, .slice v16p v16n v16c), (17, .slice v17p v17n v17c), (19, .int .i64 0)]) := by kernel_rfl
@[go_sem] theorem c3_r23 (v1p : Option Addr) (v1n v1c : Nat) (v2 v3 : List UInt8) (v11 v16p : Option Addr) (v16n v16c : Nat) (v17p : Option Addr) (v17n v17c : Nat) (v19 : Int) : RP c3 23 [(1, .slice v1p v1n v1c), (2, str v2), (3, str v3), (11, v11), (16, .slice v16p v16n v16c), (17, .slice v17p v17n v17c), (19, v19)] K =
 (K [(1, .slice v1p v1n v1c), (2, str v2), (3, str v3), (11, v11), (16, .slice v16p v16n v16c), (17, .slice v17p v17n v17c), (19, v19), (89, decide (v19 < v16n))]) := by kernel_rfl
@[go_sem] theorem c3_r24 (v1p : Option Addr) (v1n v1c : Nat) (v2 v3 : List UInt8) (v11 v16p : Option Addr) (v16n v16c : Nat) (v17p : Option Addr) (v17n v17c : Nat) (v19 : Int) : RP c3 24 [(1, .slice v1p v1n v1c), (2, str v2), (3, str v3), (11, v11), (16, .slice v16p v16n v16c), (17, .slice v17p v17n v17c), (19, v19)] K =
 (K [(1, .slice v1p v1n v1c), (2, str v2), (3, str v3), (11, v11), (16, .slice v16p v16n v16c), (17, .slice v17p v17n v17c), (19, IntKind.wrap .i64 (v19 + 1))]) := by kernel_rfl
@[go_sem] theorem c3_r25 (v1p : Option Addr) (v1n v1c : Nat) (v2 v3 : List UInt8) (v11 v16p : Option Addr) (v16n v16c : Nat) (v17p : Option Addr) (v17n v17c : Nat) (v19 : Int) : RP c3 25 [(1, .slice v1p v1n v1c), (2, str v2), (3, str v3), (11, v11), (16, .slice v16p v16n v16c), (17, .slice v17p v17n v17c), (19, v19)] K =
 (ph fun S0 => (rq (0 ≤ v19 ∧ v19 < v16n) (nn v16p fun y1_ => (ldnq S0 e_api_Cell 2 (Addr.add y1_ (v19.toNat * 2)) fun (y2_ : api_Cell) => (rq (0 ≤ v19 ∧ v19 < v17n) (nn v17p fun y3_ => (ldnq S0 e_api_Cell 2 (Addr.add y3_ (v19.toNat * 2)) fun (y4_ : api_Cell) => (valq S0 eB Try.prog (oEq .neq 39 (.tmp 95) (.tmp 99) (v_api_Cell y2_) (v_api_Cell y4_)) fun (y5_ : Bool) => (K [(1, .slice v1p v1n v1c), (2, str v2), (3, str v3), (11, v11), (16, .slice v16p v16n v16c), (17, .slice v17p v17n v17c), (19, v19), (100, y5_)]))))))))) := by kernel_rfl
@[go_sem] theorem c3_r26 : RP c3 26 [] K =
 (K [(10, false)]) := by kernel_rfl
@[go_sem] theorem c3_r27 (v1p : Option Addr) (v1n v1c : Nat) (v2 v3 : List UInt8) (v11 v17p : Option Addr) (v17n v17c : Nat) : RP c3 27 [(1, .slice v1p v1n v1c), (2, str v2), (3, str v3), (11, v11), (17, .slice v17p v17n v17c)] K =
 (cal eB Try.prog 11 #[v11, .slice v1p v1n v1c, .slice v17p v17n v17c, str v2, str v3] fun (y1_ : Bool) => (cnd y1_ (cal eB Try.prog 9 #[] fun (y2_ : Bool) => (K [(10, y2_)])) (K [(10, false)]))) := by kernel_rfl
@[go_sem] theorem c3_o : c3.lo 1000000 = [10] := rfl
@[go_sem] theorem c3_e (v10 : Bool) : RTp c3 [(10, v10)] k = (k (v10)) := by kernel_rfl
theorem c3_ok : (c3.P.follows .mixedOrders && okc c3 c3.body) = true := by kernel_rfl
theorem c3_fn (hρ : envA 0 args.toList = ρ) (hs : Nat.ble args.size 110 = true) (h : E L (D c3 (.seq (.reg 0) (.seq (.reg 1) (.seq (.seq (.reg 2) (.block 0 (.loop (.seq (.seq (.reg 3) (.cond (.tmp 28) (.skip) (.exit 0))) (.seq (.block 1 (.seq (.reg 5) (.seq (.reg 6) (.seq (.reg 7) (.cond (.tmp 43) (.reg 8) (.skip)))))) (.reg 4)))))) (.seq (.seq (.reg 9) (.cond (.tmp 51) (.reg 10) (.skip))) (.seq (.seq (.reg 11) (.cond (.tmp 56) (.seq (.reg 12) (.ret)) (.skip))) (.seq (.reg 13) (.seq (.reg 14) (.seq (.reg 15) (.seq (.seq (.reg 16) (.cond (.tmp 73) (.reg 17) (.skip))) (.seq (.seq (.reg 18) (.cond (.tmp 76) (.reg 19) (.skip))) (.seq (.seq (.reg 20) (.cond (.tmp 85) (.seq (.reg 21) (.ret)) (.skip))) (.seq (.seq (.reg 22) (.block 2 (.loop (.seq (.seq (.reg 23) (.cond (.tmp 89) (.skip) (.exit 2))) (.seq (.block 3 (.seq (.reg 25) (.cond (.tmp 100) (.seq (.reg 26) (.ret)) (.skip)))) (.reg 24)))))) (.seq (.reg 27) (.ret)))))))))))))) (fnQ c3 e G) ρ)) : E L (cal e Try.prog 3 args G) :=
  d_fn (c := c3) Try.func3 (by kernel_rfl) (by kernel_rfl) (by kernel_rfl) c3_ok (by kernel_rfl) (by kernel_rfl) hρ hs h
end Go.Sp
namespace Go.Sp
open Go Go.Proofs
set_option linter.unusedSimpArgs false
set_option linter.unusedVariables false
set_option maxRecDepth 10000
variable {L : List HP}
abbrev recKs : List Ln := [.f (.i .i64), .f (.i .i64), .f (.i .i64), .f (.i .i64), .f (.i .i64), .f .s, .f .s, .f .s, .f (.i .i64), .sl 2 [.i .i64, .s], .sl 2 [.i .i64, .i .i64], .f (.i .i64), .f (.i .i64)]
abbrev rcl (r : api_Rec) : List Value := [.int .i64 r.Kind, .int .i64 r.Txn, .int .i64 r.Prev, .int .i64 r.Page, .int .i64 r.Act, str r.Key, str r.Old, str r.New, .int .i64 r.Next, .slice r.Images.1 r.Images.2.1 r.Images.2.2, .slice r.Table.1 r.Table.2.1 r.Table.2.2, .int .i64 r.Epoch, .int .i64 r.Node]
theorem rcl_len (r : api_Rec) : (rcl r).length = 13 := rfl
def RecA (r : api_Rec) : Prop := wf64 r.Txn ∧ r.Key.length ≤ maxLen
theorem wf_of {n : Int} (h : (Lit.int .i64 n).wf = true) : wf64 n := by simpa [Lit.wf, IntKind.min, IntKind.max, IntKind.signed, IntKind.bits, wf64] using h
theorem rec_of {w : World} : ∀ cs, lns w recKs cs → ∃ r : api_Rec, cs = rcl r ∧ RecA r := fun cs h => by
  rcases cs with _ | ⟨v1, _ | ⟨v2, _ | ⟨v3, _ | ⟨v4, _ | ⟨v5, _ | ⟨v6, _ | ⟨v7, _ | ⟨v8, _ | ⟨v9, _ | ⟨v10, _ | ⟨v11, _ | ⟨v12, _ | ⟨v13, _ | ⟨v14, cs⟩⟩⟩⟩⟩⟩⟩⟩⟩⟩⟩⟩⟩⟩ <;> simp only [lns, and_false, false_and, and_true] at h
  obtain ⟨⟨n1, rfl, _⟩, ⟨n2, rfl, q2⟩, ⟨n3, rfl, _⟩, ⟨n4, rfl, _⟩, ⟨n5, rfl, _⟩, ⟨n6, rfl, q6⟩, ⟨n7, rfl, _⟩, ⟨n8, rfl, _⟩, ⟨n9, rfl, _⟩, ⟨s1, c1, rfl, a1, a2, a3⟩, ⟨s2, c2, rfl, b1, b2, b3⟩, ⟨n12, rfl, _⟩, ⟨n13, rfl, _⟩⟩ := h
  exact ⟨⟨n1, n2, n3, n4, n5, n6, n7, n8, n9, s1, s2, n12, n13⟩, rfl, wf_of q2, q6⟩
end Go.Sp
namespace Go.Sp
open Go Go.Proofs
set_option linter.unusedSimpArgs false
set_option linter.unusedVariables false
set_option maxRecDepth 10000
variable {L : List HP}
theorem eqCn (x y : api_Cell) (a b : Operand) (w : World) : (oEq .neq 39 a b (v_api_Cell x) (v_api_Cell y)).run Try.prog w = .ok (.bool (!(decide (x = y)))) w := by
  have h1 : Try.prog.eqGuardType Try.prog.depth 39 = false := by kernel_rfl
  have h2 : Try.prog.underlying 39 = some (.struct (Try.prog.fieldsOf 39)) := by kernel_rfl
  have h3 : Try.prog.stoodInHeld 39 = false := by kernel_rfl
  unfold oEq v_api_Cell
  rw [Sem.run_bind, run_eqGuard_agg _ _ _ _ _ _ _ h1, Result.andThen_ok, run_neq_struct, run_equalIn_agg _ 9999 39 _ _ h2 h3]
  simp only [Program.fieldsOf, Try.underlying39]
  simp [Op.eqFields, go_sem, str]
  obtain ⟨x1, x2⟩ := x
  obtain ⟨y1, y2⟩ := y
  simp only [api_Cell.mk.injEq]
  repeat' split
  all_goals simp [*]
theorem eqC (x y : api_Cell) (a b : Operand) (w : World) : (oEq .eql 39 a b (v_api_Cell x) (v_api_Cell y)).run Try.prog w = .ok (.bool (decide (x = y))) w := by
  have h1 : Try.prog.eqGuardType Try.prog.depth 39 = false := by kernel_rfl
  have h2 : Try.prog.underlying 39 = some (.struct (Try.prog.fieldsOf 39)) := by kernel_rfl
  have h3 : Try.prog.stoodInHeld 39 = false := by kernel_rfl
  unfold oEq v_api_Cell
  rw [Sem.run_bind, run_eqGuard_agg _ _ _ _ _ _ _ h1, Result.andThen_ok, run_eql_struct, run_equalIn_agg _ 9999 39 _ _ h2 h3]
  simp only [Program.fieldsOf, Try.underlying39]
  simp [Op.eqFields, go_sem, str]
  obtain ⟨x1, x2⟩ := x
  obtain ⟨y1, y2⟩ := y
  simp only [api_Cell.mk.injEq]
  repeat' split
  all_goals simp [*]
def rsb : List api_Cell → Bool
  | [] => true
  | [_] => true
  | a :: b :: r => Op.bytesLess a.Key b.Key && rsb (b :: r)
set_option maxHeartbeats 1000000 in
theorem f8' {A : HP} {s : SlV} {cs : List api_Cell} (hR : Rs A s 2 (cs.flatMap cC)) (hl : cs.length ≤ 4000000) {B : Bool} (hB : rsb cs = B) : Fp eB Try.prog 8 #[.slice s.1 s.2.1 s.2.2] [A] B := fun L => by
  obtain ⟨sp, sn, sc⟩ := s
  obtain rfl : sn = cs.length := hR.len cC_len (by decide)
  refine c8_fn rfl rfl ?_
  repeat' (first | (with_reducible first | refine d_seq fun K hK => ?_ | (refine hK _ _ ?_; clear hK K) | (refine SG.p ?_; try intro b)) | refine i_c ?_ ?_ <;> intro hc <;> try simp only [push_cast, seval] at hc | refine i_x ?_ | clear hK K)
  refine d_lp [0, 3] (fun i : Nat => [(0, .slice sp cs.length sc), (3, .int .i64 ((i + 1 : Nat) : Int))])
    (fun _ => A :: L) (fun i => i ≤ cs.length ∧ rsb (cs.drop i) = B) (fun i => cs.length - i) 0 rfl SX.p ⟨Nat.zero_le _, hB⟩ ?_
  rintro i ⟨hi, ho⟩
  by_cases hlt : i + 1 < cs.length
  · have hx : cs[i]? = some cs[i] := List.getElem?_eq_getElem (by omega)
    have hy : cs[i + 1]? = some cs[i + 1] := List.getElem?_eq_getElem hlt
    obtain ⟨ad, rfl⟩ := hR.ptr (by omega)
    have ei : IntKind.wrap .i64 (((i + 1 : Nat) : Int) + 1) = ((i + 1 + 1 : Nat) : Int) := by rw [w64 (by omega) (by omega)]; omega
    have ed : IntKind.wrap .i64 (((i + 1 : Nat) : Int) - 1) = ((i : Nat) : Int) := by rw [w64 (by omega) (by omega)]; omega
    rw [List.drop_eq_getElem_cons (by omega), List.drop_eq_getElem_cons hlt] at ho
    have hd1 := List.drop_eq_getElem_cons hlt
    generalize cs[i] = x at *
    generalize cs[i + 1] = y at *
    rw [rsb, ← hd1] at ho
    repeat' (first | (with_reducible first | refine d_seq fun K hK => ?_ | (refine hK _ _ ?_; clear hK K) | (refine SG.p ?_; try intro b)) | refine i_c ?_ ?_ <;> intro hc <;> try simp only [push_cast, seval] at hc | refine i_x ?_ | clear hK K)
    all_goals try (exfalso; omega)
    rw [ed]
    repeat' (first | (with_reducible first | refine d_seq fun K hK => ?_ | (refine hK _ _ ?_; clear hK K) | (refine SG.p ?_; try intro b) | refine SP.p ?_) | refine i_c ?_ ?_ <;> intro hc <;> try simp only [push_cast, seval] at hc | refine i_x ?_ | clear hK K)
    refine r_s0q (e := eS) (y := x.Key) hR cC_len hx At.here rfl ?_
    repeat' (first | (with_reducible first | refine d_seq fun K hK => ?_ | (refine hK _ _ ?_; clear hK K) | (refine SG.p ?_; try intro b) | refine SP.p ?_) | refine i_c ?_ ?_ <;> intro hc <;> try simp only [push_cast, seval] at hc | refine i_x ?_ | clear hK K)
    all_goals try (exfalso; omega)
    refine r_s0q (e := eS) (y := y.Key) hR cC_len hy At.here rfl ?_
    repeat' (first | (with_reducible first | refine d_seq fun K hK => ?_ | (refine hK _ _ ?_; clear hK K) | (refine SG.p ?_; try intro b)) | refine i_c ?_ ?_ <;> intro hc <;> try simp only [push_cast, seval] at hc | refine i_x ?_ | clear hK K)
    · have e : Op.bytesLess x.Key y.Key = false := by simpa using hc
      rw [e, Bool.false_and] at ho
      exact i_ret (e := eB) rfl ho
    · have e : Op.bytesLess x.Key y.Key = true := by simpa using hc
      rw [e, Bool.true_and] at ho
      rw [ei]
      exact i_bk (i + 1) rfl ⟨by omega, ho⟩ (by omega)
  · have hB' : true = B := by
      rw [← ho]
      rcases Nat.lt_or_ge i cs.length with h | h
      · rw [List.drop_eq_getElem_cons h, List.drop_eq_nil_of_le (by omega)]; rfl
      · rw [List.drop_eq_nil_of_le h]; rfl
    repeat' (first | (with_reducible first | refine d_seq fun K hK => ?_ | (refine hK _ _ ?_; clear hK K) | (refine SG.p ?_; try intro b)) | refine i_c ?_ ?_ <;> intro hc <;> try simp only [push_cast, seval] at hc | refine i_x ?_ | clear hK K)
    all_goals try (exfalso; omega)
    exact i_ret (e := eB) rfl hB'
theorem f8 {A : HP} {s : SlV} {cs : List api_Cell} (hR : Rs A s 2 (cs.flatMap cC)) (hl : cs.length ≤ 4000000) : Fp eB Try.prog 8 #[.slice s.1 s.2.1 s.2.2] [A] (rsb cs) := f8' hR hl rfl
def hdb (c : api_Cell) : List api_Cell → Bool
  | [] => false
  | x :: r => decide (x = c) || hdb c r
theorem hdb_iff (c : api_Cell) : ∀ l, hdb c l = true ↔ c ∈ l
  | [] => by simp [hdb]
  | x :: r => by
    rw [hdb, Bool.or_eq_true, decide_eq_true_eq, hdb_iff c r, List.mem_cons]
    exact ⟨fun h => h.imp Eq.symm id, fun h => h.imp Eq.symm id⟩
set_option maxHeartbeats 1000000 in
theorem f26' {A : HP} {s : SlV} {cs : List api_Cell} (hR : Rs A s 2 (cs.flatMap cC)) (hl : cs.length ≤ 4000000) (c : api_Cell) {B : Bool} (hB : hdb c cs = B) : Fp eB Try.prog 26 #[.slice s.1 s.2.1 s.2.2, v_api_Cell c] [A] B := fun L => by
  obtain ⟨sp, sn, sc⟩ := s
  obtain rfl : sn = cs.length := hR.len cC_len (by decide)
  refine c26_fn rfl rfl ?_
  repeat' (first | (with_reducible first | refine d_seq fun K hK => ?_ | (refine hK _ _ ?_; clear hK K) | (refine SG.p ?_; try intro b)) | refine i_c ?_ ?_ <;> intro hc <;> try simp only [push_cast, seval] at hc | refine i_x ?_ | clear hK K)
  refine d_lp [0, 3, 5] (fun i : Nat => [(0, .slice sp cs.length sc), (3, .pointer (some ⟨b, 0, none⟩)), (5, .int .i64 (i : Int))])
    (fun _ => ar b 39 [str c.Key, str c.Val] :: A :: L) (fun i => i ≤ cs.length ∧ hdb c (cs.drop i) = B) (fun i => cs.length - i) 0 rfl SX.p ⟨Nat.zero_le _, hB⟩ ?_
  rintro i ⟨hi, ho⟩
  by_cases hlt : i < cs.length
  · have hx : cs[i]? = some cs[i] := List.getElem?_eq_getElem (by omega)
    obtain ⟨ad, rfl⟩ := hR.ptr (by omega)
    have ei : IntKind.wrap .i64 ((i : Int) + 1) = ((i + 1 : Nat) : Int) := by rw [w64 (by omega) (by omega)]; omega
    rw [List.drop_eq_getElem_cons hlt] at ho
    generalize cs[i] = x at *
    rw [hdb] at ho
    repeat' (first | (with_reducible first | refine d_seq fun K hK => ?_ | (refine hK _ _ ?_; clear hK K) | (refine SG.p ?_; try intro b)) | refine i_c ?_ ?_ <;> intro hc <;> try simp only [push_cast, seval] at hc | refine i_x ?_ | clear hK K)
    all_goals try (exfalso; omega)
    repeat' (first | (with_reducible first | refine d_seq fun K hK => ?_ | (refine hK _ _ ?_; clear hK K) | (refine SG.p ?_; try intro b) | refine SP.p ?_) | refine i_c ?_ ?_ <;> intro hc <;> try simp only [push_cast, seval] at hc | refine i_x ?_ | clear hK K)
    refine r_snq (e := e_api_Cell) (y := x) hR cC_len hx (At.there At.here) rfl ?_
    repeat' (first | (with_reducible first | refine d_seq fun K hK => ?_ | (refine hK _ _ ?_; clear hK K) | (refine SG.p ?_; try intro b) | refine SP.p ?_) | refine i_c ?_ ?_ <;> intro hc <;> try simp only [push_cast, seval] at hc | refine i_x ?_ | clear hK K)
    refine r_valq (e := eB) (eqC x c _ _) ?_
    repeat' (first | (with_reducible first | refine d_seq fun K hK => ?_ | (refine hK _ _ ?_; clear hK K) | (refine SG.p ?_; try intro b)) | refine i_c ?_ ?_ <;> intro hc <;> try simp only [push_cast, seval] at hc | refine i_x ?_ | clear hK K)
    · have e : x = c := by simpa using hc
      rw [decide_eq_true e, Bool.true_or] at ho
      exact i_ret (e := eB) rfl ho
    · have e : ¬ x = c := by simpa using hc
      rw [decide_eq_false e, Bool.false_or] at ho
      rw [ei]
      exact i_bk (i + 1) rfl ⟨by omega, ho⟩ (by omega)
  · rw [List.drop_eq_nil_of_le (by omega)] at ho
    repeat' (first | (with_reducible first | refine d_seq fun K hK => ?_ | (refine hK _ _ ?_; clear hK K) | (refine SG.p ?_; try intro b)) | refine i_c ?_ ?_ <;> intro hc <;> try simp only [push_cast, seval] at hc | refine i_x ?_ | clear hK K)
    all_goals try (exfalso; omega)
    exact i_ret (e := eB) rfl ho
theorem f26 {A : HP} {s : SlV} {cs : List api_Cell} (hR : Rs A s 2 (cs.flatMap cC)) (hl : cs.length ≤ 4000000) (c : api_Cell) : Fp eB Try.prog 26 #[.slice s.1 s.2.1 s.2.2, v_api_Cell c] [A] (hdb c cs) := f26' hR hl c rfl
end Go.Sp
namespace Go.Sp
open Go Go.Proofs
set_option linter.unusedSimpArgs false
set_option linter.unusedVariables false
set_option maxRecDepth 10000
variable {L : List HP}
theorem take_snoc {α : Type} {l : List α} {i : Nat} {x : α} (hx : l[i]? = some x) : l.take (i + 1) = l.take i ++ [x] := by
  rw [List.take_add_one, hx]; rfl
set_option maxHeartbeats 2000000 in
theorem f11 {pp : Option Addr} {PP : HP} {r : List UInt8 → past_Was × Bool} (hg : ∀ k, Fp (eT2 eWs eB) Try.prog 6 #[.pointer pp, str k] [PP] (r k))
    {KS : List (List UInt8) → Prop} (hKn : ∀ ks, KS ks → ks.length ≤ 1000000) (hKs : Fn eSl Try.prog 13 #[.pointer pp] [PP] (fun t X => ∃ ks, KS ks ∧ X = [ow 9 1 t (ks.map fun k => str k), PP]))
    {A B : HP} {s s2 : SlV} {cs al : List api_Cell} (hR : Rs A s 2 (cs.flatMap cC)) (hl : cs.length ≤ 1000000) (hR2 : Rs B s2 2 (al.flatMap cC)) (hl2 : al.length ≤ 4000000) (lo hi : List UInt8)
    (H1 : ∀ x ∈ cs, (r x.Key).2 = false → hdb x al = true) (H2 : ∀ ks, KS ks → (∀ k ∈ ks, ((r k).1.Is && ins k lo hi) = true → hdb ⟨k, (r k).1.Val⟩ al = true) ∧ (cs.filter fun x => !(r x.Key).2).length + (ks.filter fun k => (r k).1.Is && ins k lo hi).length = al.length) :
    Fp eB Try.prog 11 #[.pointer pp, .slice s.1 s.2.1 s.2.2, .slice s2.1 s2.2.1 s2.2.2, str lo, str hi] [A, B, PP] true := fun L => by
  obtain ⟨sp, sn, sc⟩ := s
  obtain rfl : sn = cs.length := hR.len cC_len (by decide)
  obtain ⟨tp, tn, tc⟩ := s2
  obtain rfl : tn = al.length := hR2.len cC_len (by decide)
  refine c11_fn rfl rfl ?_
  repeat' (first | (with_reducible first | refine d_seq fun K hK => ?_ | (refine hK _ _ ?_; clear hK K) | (refine SG.p ?_; try intro b)) | refine i_c ?_ ?_ <;> intro hc <;> try simp only [push_cast, seval] at hc | refine i_x ?_ | clear hK K)
  refine d_lp [0, 1, 2, 3, 4, 11, 12] (fun i : Nat => [(0, .pointer pp), (1, .slice sp cs.length sc), (2, .slice tp al.length tc), (3, str lo), (4, str hi), (11, .int .i64 (((cs.take i).filter fun x => !(r x.Key).2).length : Int)), (12, .int .i64 (i : Int))])
    (fun _ => A :: B :: PP :: L) (fun i => i ≤ cs.length) (fun i => cs.length - i) 0 rfl SX.p (Nat.zero_le _) ?_
  intro i hi'
  try dsimp only at hi' ⊢
  have hfl : ((cs.take i).filter fun x => !(r x.Key).2).length ≤ i := Nat.le_trans (List.length_filter_le _ _) (by rw [List.length_take]; omega)
  by_cases hlt : i < cs.length
  · have hx : cs[i]? = some cs[i] := List.getElem?_eq_getElem hlt
    have hm : cs[i] ∈ cs := List.getElem_mem hlt
    have htk := take_snoc hx
    obtain ⟨ad, rfl⟩ := hR.ptr (by omega)
    have ei : IntKind.wrap .i64 ((i : Int) + 1) = ((i + 1 : Nat) : Int) := by rw [w64 (by omega) (by omega)]; omega
    generalize cs[i] = x at *
    have hfs : ((cs.take (i + 1)).filter fun x => !(r x.Key).2).length = ((cs.take i).filter fun x => !(r x.Key).2).length + if (r x.Key).2 = false then 1 else 0 := by
      rw [htk, List.filter_append, List.length_append]
      congr 1
      by_cases h : (r x.Key).2 = true
      · simp [h]
      · simp only [Bool.not_eq_true] at h
        simp [h]
    generalize ((cs.take i).filter fun x => !(r x.Key).2).length = n at *
    repeat' (first | (with_reducible first | refine d_seq fun K hK => ?_ | (refine hK _ _ ?_; clear hK K) | (refine SG.p ?_; try intro b)) | refine i_c ?_ ?_ <;> intro hc <;> try simp only [push_cast, seval] at hc | refine i_x ?_ | clear hK K)
    all_goals try (exfalso; omega)
    refine i_s0 (e := eS) (y := x.Key) hR cC_len hx rfl ?_
    refine i_clp (hg x.Key) ?_
    repeat' (first | (with_reducible first | refine d_seq fun K hK => ?_ | (refine hK _ _ ?_; clear hK K) | (refine SG.p ?_; try intro b)) | refine i_c ?_ ?_ <;> intro hc <;> try simp only [push_cast, seval] at hc | refine i_x ?_ | clear hK K)
    all_goals (try (exfalso; simp_all; done))
    · have h0 : (r x.Key).2 = false := by assumption
      rw [if_pos h0] at hfs
      refine i_sn (y := x) hR cC_len hx rfl ?_
      refine i_clp (f26 hR2 hl2 x) ?_
      rw [H1 x hm h0]
      repeat' (first | (with_reducible first | refine d_seq fun K hK => ?_ | (refine hK _ _ ?_; clear hK K) | (refine SG.p ?_; try intro b)) | refine i_c ?_ ?_ <;> intro hc <;> try simp only [push_cast, seval] at hc | refine i_x ?_ | clear hK K)
      all_goals (try (exfalso; simp at hc; done))
      rw [ei, w64 (by omega) (by omega)]
      refine i_bk (i + 1) ?_ (by omega) (by omega)
      rw [hfs]
      rfl
    · have h0 : (r x.Key).2 = true := by assumption
      rw [if_neg (by simp [h0])] at hfs
      rw [ei]
      refine i_bk (i + 1) ?_ (by omega) (by omega)
      rw [hfs]
      rfl
  · obtain rfl : i = cs.length := by omega
    rw [List.take_length] at hfl ⊢
    generalize hN : (cs.filter fun x => !(r x.Key).2).length = n at *
    repeat' (first | (with_reducible first | refine d_seq fun K hK => ?_ | (refine hK _ _ ?_; clear hK K) | (refine SG.p ?_; try intro b)) | refine i_c ?_ ?_ <;> intro hc <;> try simp only [push_cast, seval] at hc | refine i_x ?_ | clear hK K)
    all_goals try (exfalso; omega)
    refine i_cal hKs ?_
    rintro ⟨kp, kn, kc0⟩ _ ⟨ks, hks, rfl⟩
    have hkl := hKn ks hks
    obtain ⟨h2, h3⟩ := H2 ks hks
    simp only [List.cons_append, List.nil_append]
    refine i_ow (t := 9) (sz := 1) (kp, kn, kc0) fun hRk => ?_
    have hlen2 : kn = ks.length := by have := hRk.1; simpa using this.symm
    subst hlen2
    repeat' (first | (with_reducible first | refine d_seq fun K hK => ?_ | (refine hK _ _ ?_; clear hK K) | (refine SG.p ?_; try intro b)) | refine i_c ?_ ?_ <;> intro hc <;> try simp only [push_cast, seval] at hc | refine i_x ?_ | clear hK K)
    refine d_lp [0, 2, 3, 4, 11, 15, 16] (fun i : Nat => [(0, .pointer pp), (2, .slice tp al.length tc), (3, str lo), (4, str hi), (11, .int .i64 ((n + ((ks.take i).filter fun k => (r k).1.Is && ins k lo hi).length : Nat) : Int)), (15, .slice kp ks.length kc0), (16, .int .i64 (i : Int))])
      (fun _ => ow 9 1 (kp, ks.length, kc0) (ks.map fun k => str k) :: PP :: A :: B :: L) (fun i => i ≤ ks.length) (fun i => ks.length - i) 0 rfl SX.p (Nat.zero_le _) ?_
    intro i hi'
    try dsimp only at hi' ⊢
    have hfl : ((ks.take i).filter fun k => (r k).1.Is && ins k lo hi).length ≤ i := Nat.le_trans (List.length_filter_le _ _) (by rw [List.length_take]; omega)
    by_cases hlt : i < ks.length
    · have hx0 : ks[i]? = some ks[i] := List.getElem?_eq_getElem hlt
      have hx : (ks.map fun k => str k)[i]? = some (eS.enc ks[i]) := by simp [hlt]
      have hm : ks[i] ∈ ks := List.getElem_mem hlt
      have htk := take_snoc hx0
      obtain ⟨ad, rfl⟩ := hRk.ptr (by omega)
      have ei : IntKind.wrap .i64 ((i : Int) + 1) = ((i + 1 : Nat) : Int) := by rw [w64 (by omega) (by omega)]; omega
      generalize ks[i] = k at *
      have hfs : ((ks.take (i + 1)).filter fun k => (r k).1.Is && ins k lo hi).length = ((ks.take i).filter fun k => (r k).1.Is && ins k lo hi).length + if ((r k).1.Is && ins k lo hi) = true then 1 else 0 := by
        rw [htk, List.filter_append, List.length_append]
        congr 1
        by_cases h : ((r k).1.Is && ins k lo hi) = true
        · simp [h]
        · simp only [Bool.not_eq_true] at h
          simp [h]
      have hA := h2 k hm
      generalize ((ks.take i).filter fun k => (r k).1.Is && ins k lo hi).length = m at *
      repeat' (first | (with_reducible first | refine d_seq fun K hK => ?_ | (refine hK _ _ ?_; clear hK K) | (refine SG.p ?_; try intro b)) | refine i_c ?_ ?_ <;> intro hc <;> try simp only [push_cast, seval] at hc | refine i_x ?_ | clear hK K)
      all_goals try (exfalso; omega)
      refine i_o1 hx ?_
      refine i_clp (hg k) ?_
      repeat' (first | (with_reducible first | refine d_seq fun K hK => ?_ | (refine hK _ _ ?_; clear hK K) | (refine SG.p ?_; try intro b)) | refine i_c ?_ ?_ <;> intro hc <;> try simp only [push_cast, seval] at hc | refine i_x ?_ | clear hK K)
      · refine i_o1 hx ?_
        repeat' (first | (with_reducible first | refine d_seq fun K hK => ?_ | (refine hK _ _ ?_; clear hK K) | (refine SG.p ?_; try intro b)) | refine i_c ?_ ?_ <;> intro hc <;> try simp only [push_cast, seval] at hc | refine i_x ?_ | clear hK K)
        · have hi1 : ((r k).1.Is && ins k lo hi) = true := by simp_all [ins]
          rw [if_pos hi1] at hfs
          repeat' (first | (with_reducible first | refine d_seq fun K hK => ?_ | (refine hK _ _ ?_; clear hK K) | (refine SG.p ?_; try intro b) | refine SP.p ?_) | refine i_c ?_ ?_ <;> intro hc <;> try simp only [push_cast, seval] at hc | refine i_x ?_ | clear hK K)
          refine r_ldqA (e := eS) (x := k) (At.there At.here) (fun h' hq => (ow_fact hq).2.2 ad rfl h' hq i _ hx) ?_
          repeat' (first | (with_reducible first | refine d_seq fun K hK => ?_ | (refine hK _ _ ?_; clear hK K) | (refine SG.p ?_; try intro b) | refine SP.p ?_) | refine i_c ?_ ?_ <;> intro hc <;> try simp only [push_cast, seval] at hc | refine i_x ?_ | clear hK K)
          refine i_clp (f26 hR2 hl2 ⟨k, (r k).1.Val⟩) ?_
          rw [hA hi1]
          repeat' (first | (with_reducible first | refine d_seq fun K hK => ?_ | (refine hK _ _ ?_; clear hK K) | (refine SG.p ?_; try intro b)) | refine i_c ?_ ?_ <;> intro hc <;> try simp only [push_cast, seval] at hc | refine i_x ?_ | clear hK K)
          all_goals (try (exfalso; simp at hc; done))
          rw [ei, w64 (by omega) (by omega)]
          refine i_bk (i + 1) ?_ (by omega) (by omega)
          rw [hfs]
          rfl
        · refine i_o1 hx ?_
          repeat' (first | (with_reducible first | refine d_seq fun K hK => ?_ | (refine hK _ _ ?_; clear hK K) | (refine SG.p ?_; try intro b)) | refine i_c ?_ ?_ <;> intro hc <;> try simp only [push_cast, seval] at hc | refine i_x ?_ | clear hK K)
          · have hi1 : ((r k).1.Is && ins k lo hi) = true := by simp_all [ins]
            rw [if_pos hi1] at hfs
            repeat' (first | (with_reducible first | refine d_seq fun K hK => ?_ | (refine hK _ _ ?_; clear hK K) | (refine SG.p ?_; try intro b) | refine SP.p ?_) | refine i_c ?_ ?_ <;> intro hc <;> try simp only [push_cast, seval] at hc | refine i_x ?_ | clear hK K)
            refine r_ldqA (e := eS) (x := k) (At.there At.here) (fun h' hq => (ow_fact hq).2.2 ad rfl h' hq i _ hx) ?_
            repeat' (first | (with_reducible first | refine d_seq fun K hK => ?_ | (refine hK _ _ ?_; clear hK K) | (refine SG.p ?_; try intro b) | refine SP.p ?_) | refine i_c ?_ ?_ <;> intro hc <;> try simp only [push_cast, seval] at hc | refine i_x ?_ | clear hK K)
            refine i_clp (f26 hR2 hl2 ⟨k, (r k).1.Val⟩) ?_
            rw [hA hi1]
            repeat' (first | (with_reducible first | refine d_seq fun K hK => ?_ | (refine hK _ _ ?_; clear hK K) | (refine SG.p ?_; try intro b)) | refine i_c ?_ ?_ <;> intro hc <;> try simp only [push_cast, seval] at hc | refine i_x ?_ | clear hK K)
            all_goals (try (exfalso; simp at hc; done))
            rw [ei, w64 (by omega) (by omega)]
            refine i_bk (i + 1) ?_ (by omega) (by omega)
            rw [hfs]
            rfl
          · have hi1 : ¬ ((r k).1.Is && ins k lo hi) = true := by simp_all [ins]
            rw [if_neg hi1] at hfs
            rw [ei]
            refine i_bk (i + 1) ?_ (by omega) (by omega)
            rw [hfs]
            rfl
        · have hi1 : ¬ ((r k).1.Is && ins k lo hi) = true := by simp_all [ins]
          rw [if_neg hi1] at hfs
          rw [ei]
          refine i_bk (i + 1) ?_ (by omega) (by omega)
          rw [hfs]
          rfl
      · have hi1 : ¬ ((r k).1.Is && ins k lo hi) = true := by simp_all [ins]
        rw [if_neg hi1] at hfs
        rw [ei]
        refine i_bk (i + 1) ?_ (by omega) (by omega)
        rw [hfs]
        rfl
    · obtain rfl : i = ks.length := by omega
      rw [List.take_length, h3]
      repeat' (first | (with_reducible first | refine d_seq fun K hK => ?_ | (refine hK _ _ ?_; clear hK K) | (refine SG.p ?_; try intro b)) | refine i_c ?_ ?_ <;> intro hc <;> try simp only [push_cast, seval] at hc | refine i_x ?_ | clear hK K)
      all_goals try (exfalso; omega)
      refine i_ret (e := eB) rfl ?_
      simp
end Go.Sp
