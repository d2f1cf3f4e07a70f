/- Regions: one walk of one order. -/
import Derived.Test.YtpadmllpdkknnaaK6
namespace Go.Sp
open Go

def gd (ops : Array Oper) (o : Oper) (ρ : Env) (f : Bool → Env → W) : W :=
  match o.guard with
  | none => f true ρ
  | some (j, want) => match (ops[j]?).bind (·.dst) with
    | some d => match gt ρ d with
      | some (.bool b) => cnd b (f want ((d, .bool true) :: ρ)) (f (!want) ((d, .bool false) :: ρ))
      | some (.tuple _) => f false ρ
      | _ => ff
    | none => ff
def stepO (c : Cfg) (S : Option W) (ops : Array Oper) (o : Oper) (ρ : Env) (K : Env → W) : W :=
  gd ops o ρ fun run ρ => match run with
    | true => dec c.P o.op o.type ρ fun r => exe c.P (dEnc (c.T o.type) o.dst c.de) S r fun v => K (upd ρ o.dst v)
    | false => K (upd ρ o.dst undef)
def RG (c : Cfg) (ops : Array Oper) : List Oper → Env → (Env → W) → W
  | [], ρ, K => K ρ
  | o :: os, ρ, K => stepO c none ops o ρ fun ρ' => RG c ops os ρ' K
def RD (c : Cfg) (ops : Array Oper) : List (Nat × Nat) → W → Env → (Env → W) → W
  | [], _, ρ, K => K ρ
  | (i, t) :: r, S, ρ, K => match ops[i]? with
    | none => ff
    | some o => match t with
      | 0 => stepO c (some S) ops o ρ fun ρ' => RD c ops r S ρ' K
      | 1 => stepO c (some fun _ => True) ops o ρ fun ρ' => RD c ops r S ρ' K
      | 2 => stepO c none ops o ρ fun ρ' => kpn S fun S' => RD c ops r S' ρ' K
      | 3 => stepO c none ops o ρ fun ρ' => ph fun S' => RD c ops r S' ρ' K
      | _ => stepO c none ops o ρ fun ρ' => RD c ops r (fun _ => True) ρ' K

/-- Every temporary that is written lies in the frame. -/
def wfo (n : Nat) (ops : Array Oper) : Bool := ops.all fun o => match o.dst with
  | none => true
  | some d => Nat.blt d n

section
variable {P : Program} {ops : Array Oper} {Q : Exit → Act → World → Prop} {md : Region.Mode}

theorem wanted_of {o : Oper} {a : Act} {j d : Nat} {want b : Bool} (hg : o.guard = some (j, want)) (hd : (ops[j]?).bind (·.dst) = some d) (hb : a.tmps.getD d undef = .bool b) (hs : d < a.tmps.size) :
    Region.wanted o (yielded ops a.tmps) = (b == want) := by
  have h1 : a.tmps[d]? = some (.bool b) := by
    have : a.tmps[d]? = some a.tmps[d] := by simp [hs]
    rw [this]
    simp [hs] at hb
    rw [hb]
  simp [Region.wanted, hg, yielded, hd, h1]

theorem wanted_tuple {o : Oper} {a : Act} {j d : Nat} {want : Bool} {vs : Array Value} (hg : o.guard = some (j, want)) (hd : (ops[j]?).bind (·.dst) = some d) (hb : a.tmps.getD d undef = .tuple vs) (hs : d < a.tmps.size) :
    Region.wanted o (yielded ops a.tmps) = false := by
  have h1 : a.tmps[d]? = some (.tuple vs) := by
    have : a.tmps[d]? = some a.tmps[d] := by simp [hs]
    rw [this]
    simp [hs] at hb
    rw [hb]
  simp [Region.wanted, hg, yielded, hd, h1]

/-- What a step of the walk is, in a frame that has what the list says: it runs, or it is passed over. -/
theorem gd_spec {n : Nat} {a : Act} {ρ : Env} {o : Oper} {f : Bool → Env → W} {w : World} (hr : Rl n a ρ) (hw : wfo n ops = true) (h : gd ops o ρ f w) :
    ∃ ρ', Rl n a ρ' ∧ f (Region.wanted o (yielded ops a.tmps)) ρ' w := by
  unfold gd at h
  cases hg : o.guard with
  | none => simp only [hg] at h; exact ⟨ρ, hr, by simpa [Region.wanted, hg] using h⟩
  | some jw =>
    obtain ⟨j, want⟩ := jw
    simp only [hg] at h
    cases hd : (ops[j]?).bind (·.dst) with
    | none => simp only [hd] at h; exact h.elim
    | some d =>
      simp only [hd] at h
      cases hb : gt ρ d with
      | none => simp only [hb] at h; exact h.elim
      | some v =>
        have hv := hr.2.2 d _ hb
        have hlt : d < a.tmps.size := by
          rw [hr.2.1]
          obtain ⟨oj, hoj, hdj⟩ := Option.bind_eq_some_iff.1 hd
          have := Array.all_eq_true_iff_forall_mem.1 hw oj (Array.mem_of_getElem? hoj)
          simpa [hdj] using this
        cases v <;> simp only [hb] at h <;> try exact h.elim
        case tuple vs => exact ⟨ρ, hr, by rw [wanted_tuple hg hd hv hlt]; exact h⟩
        rename_i b
        have hwt := wanted_of hg hd hv hlt
        have ext : ∀ b', b = b' → Rl n a ((d, .bool b') :: ρ) := fun b' e => by
          subst e
          refine ⟨hr.1, hr.2.1, fun t v h => ?_⟩
          simp only [gt] at h
          cases hbt : Nat.beq d t with
          | true => simp [hbt] at h; subst h; rw [← Nat.eq_of_beq_eq_true hbt]; exact hv
          | false => simp [hbt] at h; exact hr.2.2 t v h
        cases b with
        | true => exact ⟨_, ext true rfl, by rw [hwt]; cases want <;> exact h⟩
        | false => exact ⟨_, ext false rfl, by rw [hwt]; cases want <;> exact h⟩

theorem dst_lt {n i : Nat} {o : Oper} (hw : wfo n ops = true) (ho : ops[i]? = some o) (t : Nat) (ht : o.dst = some t) : t < n := by
  have := Array.all_eq_true_iff_forall_mem.1 hw o (Array.mem_of_getElem? ho)
  simpa [ht] using this

/-- A step that runs, or is passed over, at its turn. -/
theorem step_op {c : Cfg} {i : Nat} {o : Oper} {a : Act} {ρ : Env} {K : Env → W} {K' : Act → World → Prop} {w : World} (ho : ops[i]? = some o) (hr : Rl c.n a ρ) (hw : wfo c.n ops = true)
    (hk : ∀ a' ρ' w', Rl c.n a' ρ' → K ρ' w' → K' a' w') (h : stepO c none ops o ρ K w) : wpOp c.P ops Q i K' a w := by
  obtain ⟨ρ', hr', h⟩ := gd_spec hr hw h
  unfold wpOp
  simp only [ho]
  cases hwt : Region.wanted o (yielded ops a.tmps) with
  | false =>
    simp only [hwt] at h
    simp only [Bool.false_eq_true, if_false]
    exact hk _ _ _ (hr'.put undef (dst_lt hw ho)) h
  | true =>
    simp only [hwt] at h
    simp only [if_true]
    obtain ⟨r, h1, h2⟩ := dec_sound (dst := o.dst) (pos := o.pos) (after := o.after) (g := o.guard) (fun x v hx => evO_eval hr' hx) h
    refine .inl (exe_plain h2 h1 fun v w' hv => hk _ _ _ (hr'.put v (dst_lt hw ho)) hv)

theorem step_quiet {c : Cfg} {i : Nat} {o : Oper} {a : Act} {ρ : Env} {K : Env → W} {S : W} {w : World} (ho : ops[i]? = some o) (hr : Rl c.n a ρ) (hw : wfo c.n ops = true)
    (h : stepO c (some S) ops o ρ K w) : ∃ v ρ', YieldsIf c.P ops S o v a ∧ Rl c.n (a.put o.dst v) ρ' ∧ K ρ' w := by
  obtain ⟨ρ', hr', h⟩ := gd_spec hr hw h
  cases hwt : Region.wanted o (yielded ops a.tmps) with
  | false =>
    simp only [hwt] at h
    exact ⟨undef, _, .inr ⟨hwt, rfl⟩, hr'.put undef (dst_lt hw ho), h⟩
  | true =>
    simp only [hwt] at h
    obtain ⟨r, h1, h2⟩ := dec_sound (dst := o.dst) (pos := o.pos) (after := o.after) (g := o.guard) (fun x v hx => evO_eval hr' hx) h
    obtain ⟨v, hv, hk⟩ := exe_quiet h2 h1
    exact ⟨v, _, .inl ⟨hwt, hv⟩, hr'.put v (dst_lt hw ho), hk⟩

/-! ### In their order -/
theorem RG_sound {c : Cfg} {K : Env → W} (hw : wfo c.n ops = true) (hK : ∀ a ρ w, Rl c.n a ρ → K ρ w → Q .normal a w) : ∀ (os : List Oper) (k : Nat), (∀ j, os[j]? = ops[k + j]?) →
    ∀ (a : Act) (ρ : Env) (w : World), Rl c.n a ρ → RG c ops os ρ K w → wpOps c.P ops Q (List.range' k os.length) a w
  | [], _, _, a, ρ, w, hr, h => by simpa [wpOps] using hK a ρ w hr h
  | o :: os, k, hos, a, ρ, w, hr, h => by
    have h0 : ops[k]? = some o := by simpa using (hos 0).symm
    rw [List.length_cons, List.range'_succ, wpOps_cons]
    exact step_op h0 hr hw (fun a' ρ' w' hr' h' => RG_sound hw hK os (k + 1) (fun j => by have := hos (j + 1); simpa [Nat.add_assoc, Nat.add_comm 1 j] using this) a' ρ' w' hr' h') h

/-! ### In whatever order -/
/-- Whatever order is picked from here on; behind an operation whose tag is at most 2 the condition S still holds. -/
def AnyK (P : Program) (ops : Array Oper) (Q : Exit → Act → World → Prop) (tg : Nat → Nat) : Nat → W → Array Bool → Act → World → Prop
  | 0, _, listed, a, w => Region.ready .any ops listed = [] ∧ Q .normal a w
  | fuel + 1, S, listed, a, w =>
    (Region.ready .any ops listed = [] → Q .normal a w) ∧
    ∀ i ∈ Region.ready .any ops listed, wpOp P ops Q i (fun a' w' => ∃ S' : W, S' w' ∧ (tg i ≤ 2 → ∀ u, S' u → S u) ∧ AnyK P ops Q tg fuel S' (listed.setIfInBounds i true) a' w') a w
theorem wpAny_of_AnyK {tg : Nat → Nat} : ∀ (fuel : Nat) (S : W) (listed : Array Bool) (a : Act) (w : World), AnyK P ops Q tg fuel S listed a w → wpAny P .any ops Q fuel listed a w
  | 0, _, _, _, _, h => h
  | fuel + 1, _, _, _, _, h => ⟨h.1, fun i hi => wpOp_mono (fun a' w' ⟨_, _, _, h'⟩ => wpAny_of_AnyK fuel _ _ a' w' h') (h.2 i hi)⟩

/-- 'i' must come ahead of 'j'. -/
inductive Tr (ops : Array Oper) (i : Nat) : Nat → Prop
  | one {j : Nat} {o : Oper} {e : Edge} (ho : ops[j]? = some o) (he : e ∈ o.after) (hb : Region.binds .any e = true) (hi : e.on = i) : Tr ops i j
  | far {j : Nat} {o : Oper} {e : Edge} (ho : ops[j]? = some o) (he : e ∈ o.after) (hb : Region.binds .any e = true) (t : Tr ops i e.on) : Tr ops i j
/-- Whatever was listed, what must come ahead of it was. -/
def DC (ops : Array Oper) (listed : Array Bool) : Prop := ∀ j o, ops[j]? = some o → listed.getD j false = true → ∀ e ∈ o.after, Region.binds .any e = true → listed.getD e.on false = true
theorem Tr.listed {i j : Nat} {listed : Array Bool} (hd : DC ops listed) (t : Tr ops i j) : (∀ o, ops[j]? = some o → ∀ e ∈ o.after, Region.binds .any e = true → listed.getD e.on false = true) → listed.getD i false = true := by
  induction t with
  | one ho he hb hi => intro h; rw [← hi]; exact h _ ho _ he hb
  | far ho he hb t ih => intro h; exact ih fun o hoo e' he' hb' => hd _ o hoo (h _ ho _ he hb) e' he' hb'
theorem DC.set {i : Nat} {listed : Array Bool} (hd : DC ops listed) (hi : i ∈ Region.ready .any ops listed) : DC ops (listed.setIfInBounds i true) := by
  intro j o ho hj e he hb
  by_cases hij : i = j
  · subst hij
    obtain ⟨_, o', ho', hall⟩ := mem_ready.1 hi
    rw [ho] at ho'; cases ho'
    exact getD_set_true (hall e he hb)
  · rw [getD_set_ne false hij] at hj
    exact getD_set_true (hd j o ho hj e he hb)
theorem DC.start (n : Nat) : DC ops (Array.replicate n false) := by
  intro j o _ hj
  simp [Array.getD_eq_getD_getElem?, Array.getElem?_replicate] at hj
  split at hj <;> simp at hj
theorem notTr {i j : Nat} {oj : Oper} {listed : Array Bool} (hd : DC ops listed) (hi : i ∈ Region.ready .any ops listed) (hoj : ops[j]? = some oj) (hall : ∀ e ∈ oj.after, Region.binds .any e = true → listed.getD e.on false = true) : ¬ Tr ops i j := fun t => by
  have h1 := t.listed hd fun o ho e he hb => by rw [hoj] at ho; cases ho; exact hall e he hb
  have h0 := (mem_ready.1 hi).1
  rcases Nat.lt_or_ge i listed.size with h' | h'
  · simp [h'] at h0 h1; rw [h0] at h1; cases h1
  · simp [Array.getElem?_eq_none h'] at h1

theorem AnyK_first {tg : Nat → Nat} {i : Nat} {oi : Oper} {v : Value} (hi : ops[i]? = some oi) (hsel : ∀ (j : Nat) (o : Oper) cs b, ops[j]? = some o → o.op ≠ .select cs b)
    (hQ : ∀ c a w, Q (.panic c) (a.put oi.dst v) w → Q (.panic c) a w) :
    ∀ (fuel : Nat) (S : W) (listed : Array Bool) (a : Act) (w : World),
      (∀ j oj, ops[j]? = some oj → j ≠ i → listed.getD j true = false → ¬ Tr ops i j → oi.apart ops oj = true ∧ tg j ≤ 2) →
      DC ops listed → i ∈ Region.ready .any ops listed → YieldsIf P ops S oi v a → S w →
      AnyK P ops Q tg fuel S (listed.setIfInBounds i true) (a.put oi.dst v) w → AnyK P ops Q tg (fuel + 1) S listed a w := by
  intro fuel
  induction fuel with
  | zero =>
    intro S listed a w _ _ hr hy hS H
    refine ⟨fun h => (by rw [h] at hr; cases hr), fun j hj => ?_⟩
    by_cases hji : j = i
    · subst hji; exact hy.wpOp hi hS ⟨S, hS, fun _ _ h => h, H⟩
    · have := ready_mono hj hji
      rw [H.1] at this
      cases this
  | succ fuel ih =>
    intro S listed a w hfree hd hr hy hS H
    refine ⟨fun h => (by rw [h] at hr; cases hr), fun j hj => ?_⟩
    by_cases hji : j = i
    · subst hji; exact hy.wpOp hi hS ⟨S, hS, fun _ _ h => h, H⟩
    · have h1 := H.2 j (ready_mono hj hji)
      have hj' := hj
      obtain ⟨hjun, oj, hoj, hall⟩ := mem_ready.1 hj
      have hnot := notTr hd hr hoj hall
      have hfj := hfree j oj hoj hji hjun hnot
      have h2 := wpOp_putIf hoj hfj.1 (fun cs b => hsel i oi cs b hi) (fun cs b => hsel j oj cs b hoj) hQ hy h1
      have hfree' : ∀ k ok, ops[k]? = some ok → k ≠ i → (listed.setIfInBounds j true).getD k true = false →
          ¬ Tr ops i k → oi.apart ops ok = true ∧ tg k ≤ 2 := fun k ok hk hki hun hno => by
        refine hfree k ok hk hki ?_ hno
        by_cases hjk : j = k
        · subst hjk; exact hjun
        · rw [getD_set_ne true hjk] at hun; exact hun
      refine wpOp_mono (fun a' w' ⟨hy', S', hS', hSe, h3⟩ => ?_) h2
      refine ⟨S', hS', hSe, ih S' (listed.setIfInBounds j true) a' w' hfree' (hd.set hj') (ready_mono hr (Ne.symm hji)) (hy'.imp id (fun h => h) |> fun q => q.elim (fun x => .inl ⟨x.1, fun u hu => x.2 u (hSe hfj.2 u hu)⟩) .inr) hS' ?_⟩
      rw [Array.setIfInBounds_comm _ _ hji]
      exact h3

theorem AnyK_pure {tg : Nat → Nat} {i : Nat} {oi : Oper} {v : Value} (hi : ops[i]? = some oi) (hsel : ∀ (j : Nat) (o : Oper) cs b, ops[j]? = some o → o.op ≠ .select cs b)
    (hQ : ∀ c a w, Q (.panic c) (a.put oi.dst v) w → Q (.panic c) a w) :
    ∀ (fuel : Nat) (S : W) (listed : Array Bool) (a : Act) (w : World),
      (∀ j oj, ops[j]? = some oj → j ≠ i → listed.getD j true = false → ¬ Tr ops i j → oi.apart ops oj = true) →
      DC ops listed → i ∈ Region.ready .any ops listed → YieldsIf P ops (fun _ => True) oi v a → S w →
      AnyK P ops Q tg fuel S (listed.setIfInBounds i true) (a.put oi.dst v) w → AnyK P ops Q tg (fuel + 1) S listed a w := by
  intro fuel
  induction fuel with
  | zero =>
    intro S listed a w _ _ hr hy hS H
    refine ⟨fun h => (by rw [h] at hr; cases hr), fun j hj => ?_⟩
    by_cases hji : j = i
    · subst hji; exact hy.wpOp hi trivial ⟨S, hS, fun _ _ h => h, H⟩
    · have := ready_mono hj hji
      rw [H.1] at this
      cases this
  | succ fuel ih =>
    intro S listed a w hfree hd hr hy hS H
    refine ⟨fun h => (by rw [h] at hr; cases hr), fun j hj => ?_⟩
    by_cases hji : j = i
    · subst hji; exact hy.wpOp hi trivial ⟨S, hS, fun _ _ h => h, H⟩
    · have h1 := H.2 j (ready_mono hj hji)
      have hj' := hj
      obtain ⟨hjun, oj, hoj, hall⟩ := mem_ready.1 hj
      have hnot := notTr hd hr hoj hall
      have hfj := hfree j oj hoj hji hjun hnot
      have h2 := wpOp_putIf hoj hfj (fun cs b => hsel i oi cs b hi) (fun cs b => hsel j oj cs b hoj) hQ hy h1
      have hfree' : ∀ k ok, ops[k]? = some ok → k ≠ i → (listed.setIfInBounds j true).getD k true = false →
          ¬ Tr ops i k → oi.apart ops ok = true := fun k ok hk hki hun hno => by
        refine hfree k ok hk hki ?_ hno
        by_cases hjk : j = k
        · subst hjk; exact hjun
        · rw [getD_set_ne true hjk] at hun; exact hun
      refine wpOp_mono (fun a' w' ⟨hy', S', hS', hSe, h3⟩ => ?_) h2
      refine ⟨S', hS', hSe, ih S' (listed.setIfInBounds j true) a' w' hfree' (hd.set hj') (ready_mono hr (Ne.symm hji)) hy' hS' ?_⟩
      rw [Array.setIfInBounds_comm _ _ hji]
      exact h3

/-- What must come ahead of each, as bits. -/
def clsGo : List Oper → List Nat → List Nat
  | [], acc => acc
  | o :: os, acc => clsGo os (acc ++ [o.after.toList.foldl (fun s e => if Region.binds .any e then s ||| 2 ^ e.on ||| acc.getD e.on 0 else s) 0])
def cls (ops : Array Oper) : List Nat := clsGo ops.toList []
theorem cls_fold {acc : List Nat} {i : Nat} : ∀ (l : List Edge) (s : Nat), (l.foldl (fun s e => if Region.binds .any e then s ||| 2 ^ e.on ||| acc.getD e.on 0 else s) s).testBit i = true →
    s.testBit i = true ∨ ∃ e ∈ l, Region.binds .any e = true ∧ (e.on = i ∨ (acc.getD e.on 0).testBit i = true)
  | [], s, h => .inl h
  | e :: l, s, h => by
    rw [List.foldl_cons] at h
    rcases cls_fold l _ h with h | ⟨e', he', hb, h⟩
    · by_cases hb : Region.binds .any e = true
      · simp only [hb, if_true, Nat.testBit_or, Bool.or_eq_true] at h
        rcases h with (h | h) | h
        · exact .inl h
        · rw [Nat.testBit_two_pow] at h
          exact .inr ⟨e, by simp, hb, .inl (by simpa using h)⟩
        · exact .inr ⟨e, by simp, hb, .inr h⟩
      · simp only [hb, Bool.false_eq_true, if_false] at h; exact .inl h
    · exact .inr ⟨e', by simp [he'], hb, h⟩
theorem clsGo_spec : ∀ (os : List Oper) (acc : List Nat), (∀ j, os[j]? = ops[acc.length + j]?) → (∀ j i, (acc.getD j 0).testBit i = true → Tr ops i j) → ∀ j i, ((clsGo os acc).getD j 0).testBit i = true → Tr ops i j
  | [], _, _, h => h
  | o :: os, acc, ho, h => by
    have h0 : ops[acc.length]? = some o := by simpa using (ho 0).symm
    refine clsGo_spec os _ (fun j => ?_) (fun j i hj => ?_)
    · have := ho (j + 1)
      simpa [Nat.add_assoc, Nat.add_comm 1 j] using this
    · by_cases hlt : j < acc.length
      · refine h j i ?_
        simpa [List.getD_eq_getElem?_getD, List.getElem?_append, hlt] using hj
      · by_cases hje : j = acc.length
        · subst hje
          simp only [List.getD_eq_getElem?_getD, List.getElem?_append, Nat.lt_irrefl, if_false, Nat.sub_self, List.getElem?_cons_zero, Option.getD_some] at hj
          rcases cls_fold _ 0 hj with h1 | ⟨e, he, hb, h1⟩
          · simp at h1
          · rcases h1 with h1 | h1
            · exact .one h0 (by simpa using he) hb h1
            · exact .far h0 (by simpa using he) hb (h _ _ h1)
        · have h2 : ¬ j < acc.length + 1 := by omega
          have : (acc ++ [o.after.toList.foldl (fun s e => if Region.binds .any e then s ||| 2 ^ e.on ||| acc.getD e.on 0 else s) 0]).getD j 0 = 0 := by
            rw [List.getD_eq_getElem?_getD, List.getElem?_eq_none (by simp; omega)]; rfl
          rw [this] at hj
          simp at hj
theorem cls_spec {j i : Nat} (h : ((cls ops).getD j 0).testBit i = true) : Tr ops i j :=
  clsGo_spec ops.toList [] (by simp) (fun j i hj => by simp at hj) j i h

/-- Is the order one that serves? -/
def ordOk (ops : Array Oper) (cl : List Nat) (tg : Nat → Nat) : Array Bool → List (Nat × Nat) → Bool
  | listed, [] => (Region.ready .any ops listed).isEmpty
  | listed, (i, t) :: r =>
    (tg i == t) && ordOk ops cl tg (listed.setIfInBounds i true) r &&
    (match t with
      | 1 => (Region.ready .any ops listed).contains i &&
          match ops[i]? with
          | none => false
          | some oi => (List.range ops.size).all fun j => j == i || listed.getD j true || Nat.testBit (cl.getD j 0) i || match ops[j]? with
            | some oj => oi.apart ops oj
            | none => true
      | 0 => (Region.ready .any ops listed).contains i &&
          match ops[i]? with
          | none => false
          | some oi => (List.range ops.size).all fun j => j == i || listed.getD j true || Nat.testBit (cl.getD j 0) i || match ops[j]? with
            | some oj => (oi.apart ops oj && Nat.ble (tg j) 2)
            | none => true
      | _ => Region.ready .any ops listed == [i])
def tagOf (l : List (Nat × Nat)) (i : Nat) : Nat := match l with
  | [] => 5
  | (j, t) :: r => bif Nat.beq i j then t else tagOf r i
theorem free_spec1 {i : Nat} {oi : Oper} {listed : Array Bool}
    (h : ((List.range ops.size).all fun j => j == i || listed.getD j true || Nat.testBit ((cls ops).getD j 0) i || match ops[j]? with
            | some oj => oi.apart ops oj
            | none => true) = true) (j : Nat) (oj : Oper)
    (hj : ops[j]? = some oj) (hne : j ≠ i) (hun : listed.getD j true = false) (hno : ¬ Tr ops i j) : oi.apart ops oj = true := by
  simp only [List.all_eq_true, List.mem_range] at h
  have h1 := h j (Array.getElem?_eq_some_iff.1 hj).1
  simp only [hj, Bool.or_eq_true, beq_iff_eq, hne, false_or, hun, Bool.false_eq_true] at h1
  exact h1.resolve_left fun h => hno (cls_spec h)
theorem free_spec' {tg : Nat → Nat} {i : Nat} {oi : Oper} {listed : Array Bool}
    (h : ((List.range ops.size).all fun j => j == i || listed.getD j true || Nat.testBit ((cls ops).getD j 0) i || match ops[j]? with
            | some oj => (oi.apart ops oj && Nat.ble (tg j) 2)
            | none => true) = true) (j : Nat) (oj : Oper)
    (hj : ops[j]? = some oj) (hne : j ≠ i) (hun : listed.getD j true = false) (hno : ¬ Tr ops i j) : oi.apart ops oj = true ∧ tg j ≤ 2 := by
  simp only [List.all_eq_true, List.mem_range] at h
  have h1 := h j (Array.getElem?_eq_some_iff.1 hj).1
  simp only [hj, Bool.or_eq_true, beq_iff_eq, hne, false_or, hun, Bool.false_eq_true, Bool.and_eq_true] at h1
  have h2 := h1.resolve_left fun h => hno (cls_spec h)
  exact ⟨h2.1, Nat.le_of_ble_eq_true h2.2⟩

theorem RD_sound {c : Cfg} {K : Env → W} {tg : Nat → Nat} (hw : wfo c.n ops = true) (hsel : Region.noSelect ops = true) (hK : ∀ a ρ w, Rl c.n a ρ → K ρ w → Q .normal a w)
    (hQ : ∀ ch a w, ¬ Q (.panic ch) a w) : ∀ (l : List (Nat × Nat)) (listed : Array Bool), DC ops listed → ordOk ops (cls ops) tg listed l = true →
    ∀ (S : W) (a : Act) (ρ : Env) (w : World), Rl c.n a ρ → S w → RD c ops l S ρ K w → AnyK c.P ops Q tg l.length S listed a w
  | [], listed, _, ho, S, a, ρ, w, hr, _, h => ⟨by simpa [ordOk] using ho, hK a ρ w hr h⟩
  | (i, t) :: r, listed, hd, ho, S, a, ρ, w, hr, hS, h => by
    simp only [ordOk, Bool.and_eq_true, beq_iff_eq] at ho
    obtain ⟨⟨htg, ho'⟩, hi⟩ := ho
    have hmem : i ∈ Region.ready .any ops listed := by
      match t, hi with
      | 0, hi => simp only [Bool.and_eq_true] at hi; simpa using hi.1
      | 1, hi => simp only [Bool.and_eq_true] at hi; simpa using hi.1
      | t + 2, hi => have : Region.ready .any ops listed = [i] := by simpa using hi
                     rw [this]; simp
    have hrec := RD_sound hw hsel hK hQ r _ (hd.set hmem) ho'
    simp only [RD] at h
    cases hop : ops[i]? with
    | none => simp only [hop] at h; exact h.elim
    | some o =>
      simp only [hop] at h
      have barrier : ∀ {F : Env → W}, (∀ a' ρ' w', Rl c.n a' ρ' → F ρ' w' → ∃ S' : W, S' w' ∧ (tg i ≤ 2 → ∀ u, S' u → S u) ∧ AnyK c.P ops Q tg r.length S' (listed.setIfInBounds i true) a' w') →
          Region.ready .any ops listed = [i] → stepO c none ops o ρ F w → AnyK c.P ops Q tg (r.length + 1) S listed a w := fun hF hre hst => by
        refine ⟨fun h0 => by rw [hre] at h0; simp at h0, fun j hj => ?_⟩
        rw [hre] at hj
        have : j = i := by simpa using hj
        subst this
        exact step_op hop hr hw hF hst
      match t, htg, hi, h with
      | 0, htg, hi, h =>
        simp only [Bool.and_eq_true, hop] at hi
        obtain ⟨v, ρ', hy, hr', hk⟩ := step_quiet hop hr hw h
        exact AnyK_first hop (Region.noSelect_spec hsel) (fun ch a w hq => absurd hq (hQ ch _ w)) r.length S listed a w (free_spec' hi.2) hd (by simpa using hi.1) hy hS (hrec S _ ρ' w hr' hS hk)
      | 1, htg, hi, h =>
        simp only [Bool.and_eq_true, hop] at hi
        obtain ⟨v, ρ', hy, hr', hk⟩ := step_quiet hop hr hw h
        exact AnyK_pure hop (Region.noSelect_spec hsel) (fun ch a w hq => absurd hq (hQ ch _ w)) r.length S listed a w (free_spec1 hi.2) hd (by simpa using hi.1) hy hS (hrec S _ ρ' w hr' hS hk)
      | 2, htg, hi, h =>
        exact barrier (fun a' ρ' w' hr' ⟨S', hsu, hs, hk⟩ => ⟨S', hs, fun _ => hsu, hrec S' a' ρ' w' hr' hs hk⟩) (by simpa using hi) h
      | 3, htg, hi, h =>
        exact barrier (fun a' ρ' w' hr' ⟨S', hs, hk⟩ => ⟨S', hs, fun hl => by omega, hrec S' a' ρ' w' hr' hs hk⟩) (by simpa using hi) h
      | t + 4, htg, hi, h =>
        exact barrier (fun a' ρ' w' hr' hk => ⟨_, trivial, fun hl => by omega, hrec _ a' ρ' w' hr' trivial hk⟩) (by simpa using hi) h
end
end Go.Sp
