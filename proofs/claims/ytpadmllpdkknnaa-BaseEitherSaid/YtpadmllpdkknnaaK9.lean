/- The rules of the walk: functions, memory. -/
import Derived.Test.YtpadmllpdkknnaaK8
namespace Go.Sp
open Go

/-! ### Functions -/
def tup : List Value → Value
  | [v] => v
  | vs => .tuple vs.toArray
def ldv (c : Cfg) (t : TypeId) (ad : Addr) (k : Value → W) : W := match aggB c.P t with
  | true => sz c.P t fun n => ldn (c.T t) n ad fun x => k ((c.T t).enc x)
  | false => match c.P.underlying t with
    | some _ => ld (c.T t) ad fun x => k ((c.T t).enc x)
    | none => ff
def rres (c : Cfg) (ρ : Env) : List ResultVar → (List Value → W) → W
  | [], k => k []
  | .tmp t :: r, k => rd ρ (.tmp t) fun v => rres c ρ r fun vs => k (v :: vs)
  | .cell a t :: r, k => rd ρ (.tmp a) fun v => dr v fun ad => ldv c t ad fun u => rres c ρ r fun vs => k (u :: vs)
def fin (e : Enc) (G : e.α → W) (v : Value) : W := fun w => ∃ x, v = e.enc x ∧ G x w
def RT (c : Cfg) (ρ : Env) (k : Value → W) : W := rres c (prn (c.lo 1000000) ρ) c.res fun vs => k (tup vs)
def fnQ (c : Cfg) (e : Enc) (G : e.α → W) : KQ
  | .normal, ρ => RT c ρ (fin e G)
  | .ret, ρ => RT c ρ (fin e G)
  | _, _ => ff
@[go_sem] theorem fnQ_n (c : Cfg) (e : Enc) (G : e.α → W) (ρ : Env) : fnQ c e G .normal ρ = RT c ρ (fin e G) := rfl
@[go_sem] theorem fnQ_r (c : Cfg) (e : Enc) (G : e.α → W) (ρ : Env) : fnQ c e G .ret ρ = RT c ρ (fin e G) := rfl
def envA (i : Nat) : List Value → Env
  | [] => []
  | v :: vs => (i, v) :: envA (i + 1) vs
def encOf (rs : List ResultVar) (vs : List Value) : Prop := rs.length = vs.length

theorem ldv_spec {c : Cfg} {t : TypeId} {ad : Addr} {k : Value → W} {w : World} (h : ldv c t ad k w) : ∃ u, (loadVar t ad).run c.P w = .ok u w ∧ k u w := by
  unfold ldv at h
  cases hb : aggB c.P t with
  | true =>
    simp only [hb] at h
    obtain ⟨m, hm, _, h⟩ := sz_spec h
    obtain ⟨y, cs, hy, hn, hc, h⟩ := h
    exact ⟨_, by simp only [loadVar, Sem.run_bind, agg_true hb, Result.andThen_ok, if_true, hm, loads_ok hn hc, Sem.run_pure, hy], h⟩
  | false =>
    simp only [hb] at h
    cases hu : c.P.underlying t with
    | none => simp only [hu] at h; exact h.elim
    | some d =>
      simp only [hu] at h
      obtain ⟨y, hy, h⟩ := h
      exact ⟨_, by simp only [loadVar, Sem.run_bind, agg_false hb hu, Result.andThen_ok, Bool.false_eq_true, if_false, run_load, hy], h⟩
theorem rres_spec {c : Cfg} {ρ : Env} {a : Act} {n : Nat} (hr : Rl n a ρ) {w : World} : ∀ (rs : List ResultVar) (k : List Value → W), rres c ρ rs k w →
    ∃ vs, (rs.mapM (fun (r : ResultVar) => (match r with
      | .tmp t => pure (a.tmps.getD t undef)
      | .cell x t => do loadVar t (← asAddr (a.tmps.getD x undef)) : Sem Value))).run c.P w = .ok vs w ∧ k vs w
  | [], k, h => ⟨[], by simp, h⟩
  | .tmp t :: rs, k, h => by
    simp only [rres, rd, evO] at h
    cases hg : gt ρ t with
    | none => simp only [hg] at h; exact h.elim
    | some v =>
      simp only [hg] at h
      obtain ⟨vs, h1, h2⟩ := rres_spec hr rs _ h
      have := hr.2.2 t v hg
      exact ⟨v :: vs, by simp only [List.mapM_cons, this, pure_bind, Sem.run_bind, h1, Result.andThen_ok, Sem.run_pure], h2⟩
  | .cell x t :: rs, k, h => by
    simp only [rres, rd, evO] at h
    cases hg : gt ρ x with
    | none => simp only [hg] at h; exact h.elim
    | some v =>
      simp only [hg] at h
      have hv := hr.2.2 x v hg
      have hd := dr_spec h
      clear h
      obtain ⟨ad, rfl, h⟩ := hd
      obtain ⟨u, hu, h⟩ := ldv_spec h
      obtain ⟨vs, h1, h2⟩ := rres_spec hr rs _ h
      refine ⟨u :: vs, ?_, h2⟩
      have ha : asAddr (a.tmps.getD x undef) = pure ad := by rw [hv]; rfl
      simp only [List.mapM_cons, Sem.run_bind, ha, Sem.run_pure, Result.andThen_ok, hu, h1]
theorem tup_eq (vs : List Value) : (if h : vs.toArray.size = 1 then vs.toArray[0] else .tuple vs.toArray) = tup vs := by
  match vs with
  | [] => rfl
  | [v] => rfl
  | _ :: _ :: _ => simp [tup]
theorem RT_spec {c : Cfg} {fn : Func} (hres : fn.results.toList = c.res) {ρ : Env} {a : Act} (hr : Rl c.n a ρ) {w : World} {k : Value → W} (h : RT c ρ k w) :
    ∃ v, (results fn a.tmps).run c.P w = .ok v w ∧ k v w := by
  obtain ⟨vs, h1, h2⟩ := rres_spec (hr.prn (c.lo 1000000)) c.res _ h
  refine ⟨tup vs, ?_, h2⟩
  rw [← hres] at h1
  unfold results
  rw [Array.mapM_eq_mapM_toList]
  simp only [Sem.run_bind, Sem.run_map, Sem.run_pure]
  refine Eq.trans (congrArg (fun r => Result.andThen (Result.andThen r _) _) h1) ?_
  rw [← tup_eq]
  rfl

theorem envA_get (vs : List Value) : ∀ (i t : Nat) (v : Value), gt (envA i vs) t = some v → ∃ j, t = i + j ∧ vs[j]? = some v := by
  induction vs with
  | nil => intro i t v h; cases h
  | cons x vs ih =>
    intro i t v h
    simp only [envA, gt] at h
    cases hb : Nat.beq i t with
    | true => simp [hb] at h; subst h; exact ⟨0, by simpa using (Nat.eq_of_beq_eq_true hb).symm, rfl⟩
    | false =>
      simp [hb] at h
      obtain ⟨j, h1, h2⟩ := ih (i + 1) t v h
      exact ⟨j + 1, by omega, by simpa using h2⟩

theorem r_fn {c : Cfg} {f : FuncId} {fn : Func} {e : Enc} {args : Array Value} {G : e.α → W} {L : List HP} (hf : c.P.funcs[f]? = some fn) (hb : fn.body = some c.body) (hres : fn.results.toList = c.res)
    (hn : fn.ntmps = c.n) (ok : (c.P.follows .mixedOrders && okc c c.body) = true) {ρ : Env} (hρ : envA 0 args.toList = ρ) (hs : Nat.ble args.size c.n = true)
    (h : E L (WP c c.body (fnQ c e G) ρ)) : E L (cal e c.P f args G) := by
  subst hρ
  intro w hw
  refine calls_of_wp hf hb (wp_mono (h w hw ok _ ?_) fun en a' w' q => ?_)
  · refine ⟨rfl, ?_, fun t v ht => ?_⟩
    · have := Nat.le_of_ble_eq_true hs
      simp [hn]; omega
    · obtain ⟨j, h1, h2⟩ := envA_get _ _ _ _ ht
      have h3 : t = j := by omega
      subst h3
      have hlt : t < args.size := by
        rcases Nat.lt_or_ge t args.size with h | h
        · exact h
        · rw [List.getElem?_eq_none (by simpa using h)] at h2; cases h2
      have h4 : args[t] = v := by simpa [hlt] using h2
      simp [Array.getElem?_append, hlt, h4]
  · cases en with
    | normal =>
      obtain ⟨ρ', hr, hq⟩ := q
      obtain ⟨v, h1, x, rfl, h2⟩ := RT_spec hres hr hq
      exact ⟨hr.1, _, h1, x, rfl, h2⟩
    | ret =>
      obtain ⟨ρ', hr, hq⟩ := q
      obtain ⟨v, h1, x, rfl, h2⟩ := RT_spec hres hr hq
      exact ⟨hr.1, _, h1, x, rfl, h2⟩
    | exit id => obtain ⟨_, _, hq⟩ := q; exact hq.elim
    | goto l => exact q.elim
    | panic ch => exact q.elim
    | outgrown => exact q.elim

/-- What a function does: it takes some parts, and gives some. -/
def Fn (e : Enc) (P : Program) (f : FuncId) (args : Array Value) (A : List HP) (B : e.α → List HP → Prop) : Prop :=
  ∀ L, E (A ++ L) (cal e P f args fun x w => ∃ X, B x X ∧ Holds w (X ++ L))

section
variable {e : Enc} {P : Program} {L L' : List HP} {w : World}
theorem r_cal {f : FuncId} {args : Array Value} {A : List HP} {B : e.α → List HP → Prop} {k : e.α → W} (h : Fn e P f args A B) (ht : Takes L A L')
    (hk : ∀ x X, B x X → E (X ++ L') (k x)) : E L (cal e P f args k) := fun w hw =>
  Calls.mono (h L' w (ht.hs hw)) fun _ w' ⟨x, he, X, hB, hX⟩ => ⟨x, he, hk x X hB w' hX⟩
theorem r_done {v : Value} {B : e.α → List HP → Prop} (x : e.α) (X : List HP) (hv : v = e.enc x) (hB : B x X) (hs : Sub (X ++ L') L) :
    E L (fin e (fun x w => ∃ X, B x X ∧ Holds w (X ++ L')) v) := fun _ hw => ⟨x, hv, X, hB, hw.sub hs⟩
theorem r_fin {v : Value} {G : e.α → W} (x : e.α) (hv : v = e.enc x) (h : E L (G x)) : E L (fin e G v) := fun w hw => ⟨x, hv, h w hw⟩
theorem r_back {σ : Type} {sl : List Nat} {env : σ → Env} {ρ : Env} {J : σ → List HP → Prop} {ν : σ → Nat} {s : σ} (s' : σ) (L' : List HP) (h0 : prn sl ρ = env s') (hJ : J s' L') (hν : ν s' < ν s) (hs : Sub L' L) :
    E L (fun w => ∃ s' L', prn sl ρ = env s' ∧ J s' L' ∧ ν s' < ν s ∧ Holds w L') := fun _ hw => ⟨s', L', h0, hJ, hν, hw.sub hs⟩

/-! ### Conditions -/
theorem r_rq {p : Prop} {k : W} (hp : p) (h : E L k) : E L (rq p k) := fun w hw => ⟨hp, h w hw⟩
theorem r_cnd {b : Bool} {k1 k2 : W} (h1 : b = true → E L k1) (h2 : b = false → E L k2) : E L (cnd b k1 k2) := by
  cases b
  · exact h2 rfl
  · exact h1 rfl
theorem r_nn {p : Option Addr} {k : Addr → W} {a : Addr} (hp : p = some a) (h : E L (k a)) : E L (nn p k) := by subst hp; exact h
def HW (R : List HP) : W := fun w => Holds w R
theorem r_ph {F : W → W} (R : List HP) (s : Sub R L) (h : E L (F (HW R))) : E L (ph F) := fun w hw => ⟨HW R, hw.sub s, h w hw⟩
theorem r_ph0 {F : W → W} (h : E L (F (HW L))) : E L (ph F) := r_ph L .refl h
theorem r_kpn {R : List HP} {F : W → W} (R' : List HP) (s : Sub R R') (s' : Sub R' L) (h : E L (F (HW R'))) : E L (kpn (HW R) F) := fun w hw => ⟨HW R', fun _ hu => hu.sub s, hw.sub s', h w hw⟩
theorem r_kp0 {R : List HP} {F : W → W} (s : Sub R L) (h : E L (F (HW R))) : E L (kpn (HW R) F) := r_kpn R .refl s h

/-! ### Memory -/
theorem cell_of {w : World} {b o : Nat} {t : TypeId} {l : List Value} (h : w.heap[b]? = some (.cells ⟨l⟩ t (0, 0))) : w.cell? ⟨b, o, none⟩ = l[o]? := by
  simp [World.cell?, h]
theorem add_of (b o i : Nat) : (⟨b, o, none⟩ : Addr).add i = ⟨b, o + i, none⟩ := by
  unfold Addr.add; split <;> simp_all
theorem r_ld {k : e.α → W} {b o : Nat} {t : TypeId} {l : List Value} {x : e.α} (ha : At L (ar b t l) L') (hl : l[o]? = some (e.enc x)) (h : E L (k x)) : E L (ld e ⟨b, o, none⟩ k) :=
  fun w hw => ⟨x, by rw [cell_of (Holds.get (ha.hs hw)), hl], h w hw⟩
theorem r_ldq {k : e.α → W} {R : List HP} {b o : Nat} {t : TypeId} {l : List Value} {x : e.α} (ha : At R (ar b t l) L') (hl : l[o]? = some (e.enc x)) (h : E L (k x)) : E L (ldq (HW R) e ⟨b, o, none⟩ k) :=
  fun w hw => ⟨x, fun _ hs => by rw [cell_of (Holds.get (ha.hs hs)), hl], h w hw⟩
theorem cells_of {w : World} {b o n : Nat} {t : TypeId} {l cs : List Value} (h : w.heap[b]? = some (.cells ⟨l⟩ t (0, 0))) (hl : (l.drop o).take n = cs) (i : Nat) (hi : i < n) :
    w.cell? ((⟨b, o, none⟩ : Addr).add i) = cs.toArray[i]? := by
  subst hl
  rw [add_of, cell_of h]
  simp [hi]
theorem r_ldn {k : e.α → W} {b o n : Nat} {t : TypeId} {l cs : List Value} {x : e.α} (ha : At L (ar b t l) L') (hx : e.enc x = .agg cs.toArray) (hn : cs.length = n) (hl : (l.drop o).take n = cs) (h : E L (k x)) :
    E L (ldn e n ⟨b, o, none⟩ k) :=
  fun w hw => ⟨x, cs.toArray, hx, by simpa using hn, fun i hi => cells_of (Holds.get (ha.hs hw)) hl i hi, h w hw⟩
theorem r_ldnq {k : e.α → W} {R : List HP} {b o n : Nat} {t : TypeId} {l cs : List Value} {x : e.α} (ha : At R (ar b t l) L') (hx : e.enc x = .agg cs.toArray) (hn : cs.length = n) (hl : (l.drop o).take n = cs) (h : E L (k x)) :
    E L (ldnq (HW R) e n ⟨b, o, none⟩ k) :=
  fun w hw => ⟨x, cs.toArray, hx, by simpa using hn, fun _ hs i hi => cells_of (Holds.get (ha.hs hs)) hl i hi, h w hw⟩
theorem setCell_heap {w : World} {b o : Nat} {t : TypeId} {l : List Value} {v : Value} (h : w.heap[b]? = some (.cells ⟨l⟩ t (0, 0))) :
    (w.setCell ⟨b, o, none⟩ v).heap = w.heap.setIfInBounds b (.cells ⟨l.set o v⟩ t (0, 0)) := by
  have hlt : b < w.heap.size := by
    rcases Nat.lt_or_ge b w.heap.size with h' | h'
    · exact h'
    · simp [Array.getElem?_eq_none h'] at h
  apply Array.ext_getElem?
  intro i
  simp only [World.setCell, Array.getElem?_modify, Array.getElem?_setIfInBounds]
  by_cases hi : b = i
  · subst hi
    simp [hlt]
    have h2 : w.heap[b] = .cells ⟨l⟩ t (0, 0) := by simpa [hlt] using h
    rw [h2]
    simp
  · simp [hi]
theorem r_st {k : W} {b o : Nat} {t : TypeId} {l : List Value} {v : Value} (ha : At L (ar b t l) L') (ho : o < l.length) (hv : one v = true) (h : E (ar b t (l.set o v) :: L') k) : E L (st ⟨b, o, none⟩ v k) := by
  intro w hw
  have h1 := ha.hs hw
  have hg := Holds.get h1
  refine ⟨hv, ?_, ?_, h _ (Holds.set h1 _ (setCell_heap hg))⟩
  · rw [cell_of hg]; simp [ho]
  · simp [World.frozen?, hg]
/-- Several cells, one behind the other. -/
def spl (l : List Value) (o : Nat) : List Value → List Value
  | [] => l
  | v :: vs => spl (l.set o v) (o + 1) vs
theorem r_stl' {k : W} {b t : Nat} : ∀ (vs : List Value) (o i : Nat) (l : List Value) {L L' : List HP} (_ : At L (ar b t l) L') (_ : o + i + vs.length ≤ l.length) (_ : vs.all one = true) (_ : E (ar b t (spl l (o + i) vs) :: L') k), E L (stl vs ⟨b, o, none⟩ i k)
  | [], _, _, _, _, _, ha, _, _, h => E.at ha h
  | v :: vs, o, i, l, L, L', ha, hn, hv, h => by
    simp only [List.all_cons, Bool.and_eq_true] at hv
    simp only [List.length_cons] at hn
    unfold stl
    rw [add_of]
    exact r_st ha (by omega) hv.1 (r_stl' vs o (i + 1) _ .here (by simp; omega) hv.2 h)
theorem r_stl {k : W} {b t o : Nat} {vs l : List Value} (ha : At L (ar b t l) L') (hn : o + vs.length ≤ l.length) (hv : vs.all one = true) (h : E (ar b t (spl l o vs) :: L') k) : E L (stl vs ⟨b, o, none⟩ 0 k) :=
  r_stl' vs o 0 l ha (by simpa using hn) hv h
theorem r_nwc {k : Addr → W} {l : List Value} {t : TypeId} (h : ∀ b, E (ar b t l :: L) (k ⟨b, 0, none⟩)) : E L (nwc l.toArray t k) :=
  fun _ hw => h _ _ (Holds.push hw (.cells ⟨l⟩ t (0, 0)) rfl)
theorem r_nwb {k : Nat → W} {o : Obj} (h : ∀ b, E (blk b o :: L) (k b)) : E L (nwb o k) :=
  fun _ hw => h _ _ (Holds.push hw o rfl)
end

/-! ### How a region is read -/
def RP (c : Cfg) (id : Nat) (ρ : Env) (K : Env → W) : W := RR c id ρ fun ρ' => K (prn (c.lo id) ρ')
theorem r_region {c : Cfg} {L : List HP} {Q : KQ} {ρ : Env} {id : Nat} {ops : Array Oper} {d : Bool} (hf : findR c.body id = some (ops, d)) (h : E L (RP c id (prn (c.li id) ρ) (Q .normal))) : E L (WP c (.region id ops d) Q ρ) := r_reg hf h
def RTp (c : Cfg) (ρ : Env) (k : Value → W) : W := rres c ρ c.res fun vs => k (tup vs)
theorem RT_eq (c : Cfg) (ρ : Env) (k : Value → W) : RT c ρ k = RTp c (prn (c.lo 1000000) ρ) k := rfl
theorem gt_hit (d : Nat) (v : Value) (ρ : Env) : gt ((d, v) :: ρ) d = some v := by simp [gt]
theorem gt_miss (d t : Nat) (v : Value) (ρ : Env) (h : d ≠ t) : gt ((d, v) :: ρ) t = gt ρ t := by
  have : Nat.beq d t = false := by
    cases hb : Nat.beq d t with
    | false => rfl
    | true => exact absurd (Nat.eq_of_beq_eq_true hb) h
  simp [gt, this]
theorem gt_nil (t : Nat) : gt [] t = none := rfl
theorem prn_nil (ρ : Env) : prn [] ρ = [] := rfl
def prc (t : Nat) (ts : List Nat) (ρ : Env) : Option Value → Env
  | some v => (t, v) :: prn ts ρ
  | none => prn ts ρ
theorem prn_cons (t : Nat) (ts : List Nat) (ρ : Env) : prn (t :: ts) ρ = prc t ts ρ (gt ρ t) := by
  unfold prn prc; cases gt ρ t <;> rfl
theorem prc_some (t : Nat) (ts : List Nat) (ρ : Env) (v : Value) : prc t ts ρ (some v) = (t, v) :: prn ts ρ := rfl
theorem prc_none (t : Nat) (ts : List Nat) (ρ : Env) : prc t ts ρ none = prn ts ρ := rfl
attribute [go_sem] gt_hit gt_miss gt_nil prn_nil prn_cons prc_some prc_none RT_eq
/-! The model's operations under names that no simp set opens. -/
def oIndex (t : TypeId) (x i : Value) : Sem Value := Instr.index t x i
def oConv (s d : TypeId) (x : Value) : Sem Value := convert s d x
def oMake (t : TypeId) (l c : Value) : Sem Value := Instr.makeSlice t l c
def oLookup (t : TypeId) (x i : Value) (b : Bool) : Sem Value := Instr.lookup t x i b
def oMapUpdate (t : TypeId) (m i x : Value) : Sem Unit := Instr.mapUpdate t m i x
def oRange (t : TypeId) (x : Value) : Sem Value := Instr.range t x
def oNext (x : Value) (b : Bool) (ty : TypeId) : Sem Value := Instr.next x b ty
/-- The byte in a place. -/
def bt (m : List UInt8) (i : Nat) : Nat := (m.getD i 0).toNat
def oCmp (a : Array Value) : Sem Value := Extern.BytealgCompare.compare a
def oEntry (x : Value) : Sem Value := Instr.entry x
def oB_append (ts : Array TypeId) (ty : TypeId) (a : Array Value) : Sem Value := Builtin.append_ ts ty a
def oB_copy (ts : Array TypeId) (ty : TypeId) (a : Array Value) : Sem Value := Builtin.copy_ ts ty a
def oB_clear (ts : Array TypeId) (ty : TypeId) (a : Array Value) : Sem Value := Builtin.clear_ ts ty a
def oB_delete (ts : Array TypeId) (ty : TypeId) (a : Array Value) : Sem Value := Builtin.delete_ ts ty a
def oB_len (ts : Array TypeId) (ty : TypeId) (a : Array Value) : Sem Value := Builtin.len_ ts ty a
def oB_cap (ts : Array TypeId) (ty : TypeId) (a : Array Value) : Sem Value := Builtin.cap_ ts ty a
def oEq (op : BinOp) (t : TypeId) (ox oy : Operand) (x y : Value) : Sem Value := do eqGuard op t ox oy x y; binOp op t x y
/-- The values that Go's types have here. -/
abbrev eI : Enc := ⟨Int, fun n => .int .i64 n⟩
abbrev eU8 : Enc := ⟨Int, fun n => .int .u8 n⟩
abbrev eU32 : Enc := ⟨Int, fun n => .int .u32 n⟩
abbrev eU64 : Enc := ⟨Int, fun n => .int .u64 n⟩
abbrev eB : Enc := ⟨Bool, fun b => .bool b⟩
abbrev eS : Enc := ⟨List UInt8, fun s => str s⟩
abbrev eP : Enc := ⟨Option Addr, fun p => .pointer p⟩
abbrev eSl : Enc := ⟨Option Addr × Nat × Nat, fun x => .slice x.1 x.2.1 x.2.2⟩
abbrev eM : Enc := ⟨Option Nat, fun r => .map r⟩
abbrev eV : Enc := ⟨Value, fun v => v⟩
abbrev eN : Enc := ⟨Unit, fun _ => .tuple #[]⟩
abbrev eT2 (a b : Enc) : Enc := ⟨a.α × b.α, fun x => .tuple #[a.enc x.1, b.enc x.2]⟩
abbrev eT3 (a b c : Enc) : Enc := ⟨a.α × b.α × c.α, fun x => .tuple #[a.enc x.1, b.enc x.2.1, c.enc x.2.2]⟩
abbrev eT4 (a b c d : Enc) : Enc := ⟨a.α × b.α × c.α × d.α, fun x => .tuple #[a.enc x.1, b.enc x.2.1, c.enc x.2.2.1, d.enc x.2.2.2]⟩
/-- An array of values of one cell each. -/
abbrev eA (a : Enc) : Enc := ⟨List a.α, fun l => .agg (l.map a.enc).toArray⟩
def lk.{u} {α : Type u} (d : α) : List (Nat × α) → Nat → α
  | [], _ => d
  | (i, x) :: r, t => bif Nat.beq i t then x else lk d r t
end Go.Sp
