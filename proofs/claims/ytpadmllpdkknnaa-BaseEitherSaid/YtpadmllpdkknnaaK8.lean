/- The rules of the walk. -/
import Derived.Test.YtpadmllpdkknnaaK7
import Derived.Scope
import Derived.Deep.LoopGhost
namespace Go.Sp
open Go

abbrev KQ := Exit → Env → W
def lift (c : Cfg) (Q : KQ) : Exit → Act → World → Prop
  | .normal, a, w => ∃ ρ, Rl c.n a ρ ∧ Q .normal ρ w
  | .exit id, a, w => ∃ ρ, Rl c.n a ρ ∧ Q (.exit id) ρ w
  | .ret, a, w => ∃ ρ, Rl c.n a ρ ∧ Q .ret ρ w
  | _, _, _ => False

def okr (c : Cfg) (id : Nat) (ops : Array Oper) (d : Bool) : Bool :=
  wfo c.n ops && (match d with
    | false => true
    | true => Region.noSelect ops && ordOk ops (cls ops) (tagOf (c.ord id).2) (Array.replicate ops.size false) (c.ord id).2 && ((c.ord id).2.length == ops.size))
def okc (c : Cfg) : Code → Bool
  | .skip | .exit _ | .ret => true
  | .region id ops d => okr c id ops d
  | .seq a b => okc c a && okc c b
  | .cond _ a b => okc c a && okc c b
  | .block _ b => okc c b
  | .loop b => okc c b
  | .scope b => okc c b
  | .label _ => true
  | _ => false
def findR : Code → Nat → Option (Array Oper × Bool)
  | .region id ops d, k => bif Nat.beq id k then some (ops, d) else none
  | .seq a b, k => match findR a k with
    | some r => some r
    | none => findR b k
  | .cond _ a b, k => match findR a k with
    | some r => some r
    | none => findR b k
  | .block _ b, k => findR b k
  | .loop b, k => findR b k
  | .scope b, k => findR b k
  | _, _ => none
def RR (c : Cfg) (id : Nat) (ρ : Env) (K : Env → W) : W :=
  match findR c.body id with
  | some (ops, false) => RG c ops ops.toList ρ K
  | some (ops, true) => match c.ord id with
    | (true, l) => ph fun S => RD c ops l S ρ K
    | (false, l) => RD c ops l (fun _ => True) ρ K
  | none => ff

def WP (c : Cfg) (x : Code) (Q : KQ) (ρ : Env) : W := fun w =>
  (c.P.follows .mixedOrders && okc c x) = true → ∀ a, Rl c.n a ρ → Code.wp c.P x (lift c Q) a w

def thn (K : Env → W) (Q : KQ) : KQ
  | .normal, ρ => K ρ
  | e, ρ => Q e ρ
def inb (id : Nat) (Q : KQ) : KQ
  | .exit id', ρ => bif Nat.beq id' id then Q .normal ρ else Q (.exit id') ρ
  | e, ρ => Q e ρ
@[go_sem] theorem thn_n (K : Env → W) (Q : KQ) (ρ : Env) : thn K Q .normal ρ = K ρ := rfl
@[go_sem] theorem thn_e (K : Env → W) (Q : KQ) (i : Nat) (ρ : Env) : thn K Q (.exit i) ρ = Q (.exit i) ρ := rfl
@[go_sem] theorem thn_r (K : Env → W) (Q : KQ) (ρ : Env) : thn K Q .ret ρ = Q .ret ρ := rfl
@[go_sem] theorem inb_n (id : Nat) (Q : KQ) (ρ : Env) : inb id Q .normal ρ = Q .normal ρ := rfl
@[go_sem] theorem inb_e (id : Nat) (Q : KQ) (ρ : Env) : inb id Q (.exit id) ρ = Q .normal ρ := by simp [inb]
@[go_sem] theorem inb_o (id i : Nat) (Q : KQ) (ρ : Env) (h : Nat.beq i id = false) : inb id Q (.exit i) ρ = Q (.exit i) ρ := by simp [inb, h]
@[go_sem] theorem inb_r (id : Nat) (Q : KQ) (ρ : Env) : inb id Q .ret ρ = Q .ret ρ := rfl

theorem lift_mono {c : Cfg} {Q Q' : KQ} (f : ∀ e ρ w, Q e ρ w → Q' e ρ w) (e : Exit) (a : Act) (w : World) (h : lift c Q e a w) : lift c Q' e a w := by
  cases e <;> first
    | exact h.elim
    | (obtain ⟨ρ, h1, h2⟩ := h; exact ⟨ρ, h1, f _ _ _ h2⟩)

section
variable {c : Cfg} {L : List HP} {Q : KQ} {ρ : Env} {w : World}
theorem wp_seq' {x y : Code} (h : WP c x (thn (WP c y Q) Q) ρ w) : WP c (.seq x y) Q ρ w := by
  intro ok a hr
  simp only [okc, Bool.and_eq_true] at ok
  have h1 := h (by simp [ok]) a hr
  refine wp_seq (wp_mono h1 fun e a w q => ?_)
  cases e with
  | normal => obtain ⟨ρ', hr', hq⟩ := q; exact hq (by simp [ok]) a hr'
  | exit id => exact q
  | ret => exact q
  | goto l => exact q.elim
  | panic ch => exact q.elim
  | outgrown => exact q.elim
theorem r_seq {x y : Code} (h : ∀ K : Env → W, (∀ L ρ, E L (WP c y Q ρ) → E L (K ρ)) → E L (WP c x (thn K Q) ρ)) : E L (WP c (.seq x y) Q ρ) :=
  fun w hw => wp_seq' (h _ (fun _ _ h => h) w hw)
theorem r_skip (h : E L (Q .normal ρ)) : E L (WP c .skip Q ρ) := fun w hw _ _ hr => wp_skip ⟨ρ, hr, h w hw⟩
theorem r_label {l : Nat} (h : E L (Q .normal ρ)) : E L (WP c (.label l) Q ρ) := fun w hw _ _ hr => wp_label ⟨ρ, hr, h w hw⟩
theorem r_exit {id : Nat} (h : E L (Q (.exit id) ρ)) : E L (WP c (.exit id) Q ρ) := fun w hw _ _ hr => wp_exit ⟨ρ, hr, h w hw⟩
theorem r_retc (h : E L (Q .ret ρ)) : E L (WP c .ret Q ρ) := fun w hw _ _ hr => wp_ret ⟨ρ, hr, h w hw⟩
theorem wp_cond' {x : Operand} {t e : Code} {b : Bool} (hx : evO ρ x = some (.bool b)) (h1 : b = true → WP c t Q ρ w) (h2 : b = false → WP c e Q ρ w) : WP c (.cond x t e) Q ρ w := by
  intro ok a hr
  simp only [okc, Bool.and_eq_true] at ok
  have hv := evO_eval hr hx
  cases b with
  | true => exact wp_cond_true hv (h1 rfl (by simp [ok]) a hr)
  | false => exact wp_cond_false hv (h2 rfl (by simp [ok]) a hr)
theorem r_cond {x : Operand} {t e : Code} {b : Bool} (hx : evO ρ x = some (.bool b)) (h1 : b = true → E L (WP c t Q ρ)) (h2 : b = false → E L (WP c e Q ρ)) : E L (WP c (.cond x t e) Q ρ) :=
  fun w hw => wp_cond' hx (fun h => h1 h w hw) (fun h => h2 h w hw)
theorem wp_block' {id : Nat} {b : Code} (h : WP c b (inb id Q) ρ w) : WP c (.block id b) Q ρ w := by
  intro ok a hr
  refine wp_block (wp_mono (h ok a hr) fun e a w q => ?_)
  cases e with
  | normal => exact q
  | exit id' =>
    obtain ⟨ρ', hr', hq⟩ := q
    simp only [Exit.inBlock]
    by_cases hid : id' = id
    · subst hid; simp only [if_true]; exact ⟨ρ', hr', by simpa [inb] using hq⟩
    · simp only [hid, if_false]
      have : Nat.beq id' id = false := by
        cases hb : Nat.beq id' id with
        | false => rfl
        | true => exact absurd (Nat.eq_of_beq_eq_true hb) hid
      exact ⟨ρ', hr', by simpa [inb, this] using hq⟩
  | ret => exact q
  | goto l => exact q.elim
  | panic ch => exact q.elim
  | outgrown => exact q.elim
theorem r_block {id : Nat} {b : Code} (h : E L (WP c b (inb id Q) ρ)) : E L (WP c (.block id b) Q ρ) := fun w hw => wp_block' (h w hw)
theorem wp_scope' {b : Code} (h : WP c b Q ρ w) : WP c (.scope b) Q ρ w := by
  intro ok a hr
  refine wp_scope_straight (wp_mono (h ok a hr) fun e a w q => ?_)
  cases e <;> first | exact q.elim | exact q
theorem wp_reg' {id : Nat} {ops : Array Oper} {d : Bool} (hf : findR c.body id = some (ops, d)) (h : ∀ w', hp w' = hp w → RR c id (prn (c.li id) ρ) (fun ρ' => Q .normal (prn (c.lo id) ρ')) w') : WP c (.region id ops d) Q ρ w := by
  intro ok a hr
  simp only [okc, okr, Bool.and_eq_true] at ok
  obtain ⟨hm, hwf, hd⟩ := ok
  have hr' := hr.prn (c.li id)
  cases d with
  | false =>
    have h1 := h w rfl
    simp only [RR, hf] at h1
    refine wp_region ?_
    have h2 := RG_sound (Q := lift c Q) (K := fun ρ' => Q .normal (prn (c.lo id) ρ')) hwf (fun a ρ w hr h => ⟨_, hr.prn _, h⟩) ops.toList 0 (by simp) a _ w hr' h1
    simpa [List.range_eq_range'] using h2
  | true =>
    have h1 := h w.drew (by funext n; cases n <;> rfl)
    simp only [RR, hf] at h1
    simp only [Bool.and_eq_true, beq_iff_eq] at hd
    obtain ⟨⟨hns, hord⟩, hlen⟩ := hd
    have key : ∀ (l : List (Nat × Nat)) (S : W), l = (c.ord id).2 → S w.drew → RD c ops l S (prn (c.li id) ρ) (fun ρ' => Q .normal (prn (c.lo id) ρ')) w.drew → (Code.region id ops true).wp c.P (lift c Q) a w := fun l S hl hS hR => by
      subst hl
      have h3 := RD_sound (Q := lift c Q) (K := fun ρ' => Q .normal (prn (c.lo id) ρ')) hwf hns (fun a ρ w hr h => ⟨_, hr.prn _, h⟩) (fun _ _ _ hq => hq.elim) (c.ord id).2 (Array.replicate ops.size false) (DC.start _) hord S a _ w.drew hr' hS hR
      rw [hlen] at h3
      exact wp_region_any hm (wpAny_of_AnyK _ _ _ _ _ h3)
    generalize hco : c.ord id = co at h1
    obtain ⟨b, l⟩ := co
    cases b with
    | true => obtain ⟨S, hS, hR⟩ := h1; exact key l S (by rw [hco]) hS hR
    | false => exact key l _ (by rw [hco]) trivial h1
theorem r_reg {id : Nat} {ops : Array Oper} {d : Bool} (hf : findR c.body id = some (ops, d)) (h : E L (RR c id (prn (c.li id) ρ) fun ρ' => Q .normal (prn (c.lo id) ρ'))) : E L (WP c (.region id ops d) Q ρ) :=
  fun w hw => wp_reg' hf fun w' e => h w' (by unfold Holds at *; rw [e]; exact hw)
theorem r_loop {σ : Type} (sl : List Nat) (env : σ → Env) (J : σ → List HP → Prop) (ν : σ → Nat) (s0 : σ) {b : Code} (h0 : prn sl ρ = env s0) (hJ : J s0 L)
    (round : ∀ s L, J s L → E L (WP c b (thn (fun ρ' w => ∃ s' L', prn sl ρ' = env s' ∧ J s' L' ∧ ν s' < ν s ∧ Holds w L') Q) (env s))) : E L (WP c (.loop b) Q ρ) := by
  intro w hw ok a hr
  have hr0 : Rl c.n a (env s0) := h0 ▸ hr.prn sl
  refine wp_loop_ghost (fun n a w => ∃ s L, Rl c.n a (env s) ∧ J s L ∧ Holds w L ∧ ν s = n) (ν s0) ⟨s0, L, hr0, hJ, hw, rfl⟩ ?_
  rintro n a w ⟨s, L', hr, hJ, hw, rfl⟩
  refine wp_mono (round s L' hJ w hw ok a hr) fun e a w q => ?_
  cases e with
  | normal =>
    obtain ⟨ρ', hr', s', L'', h1, h2, h3, h4⟩ := q
    exact ⟨ν s', h3, s', L'', h1 ▸ hr'.prn sl, h2, h4, rfl⟩
  | exit id => exact q
  | ret => exact q
  | goto l => exact q.elim
  | panic ch => exact q.elim
  | outgrown => exact q.elim
end
end Go.Sp
