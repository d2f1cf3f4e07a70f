/- The walk over a skeleton of the code: regions by their numbers. -/
import Derived.Test.YtpadmllpdkknnaaK9
namespace Go.Sp
open Go

inductive Sk
  | skip | ret | bad
  | exit (id : Nat)
  | reg (id : Nat)
  | seq (a b : Sk)
  | cond (x : Operand) (a b : Sk)
  | block (id : Nat) (b : Sk)
  | loop (b : Sk)
def sk : Code → Sk
  | .skip => .skip
  | .label _ => .skip
  | .ret => .ret
  | .exit id => .exit id
  | .region id _ _ => .reg id
  | .seq a b => .seq (sk a) (sk b)
  | .cond x a b => .cond x (sk a) (sk b)
  | .block id b => .block id (sk b)
  | .loop b => .loop (sk b)
  | .scope b => sk b
  | _ => .bad
def regs : Code → List (Nat × Array Oper × Bool)
  | .region id ops d => [(id, ops, d)]
  | .seq a b => regs a ++ regs b
  | .cond _ a b => regs a ++ regs b
  | .block _ b => regs b
  | .loop b => regs b
  | .scope b => regs b
  | _ => []
def nodupB : List Nat → Bool
  | [] => true
  | x :: r => !r.contains x && nodupB r
def fnd : List (Nat × Array Oper × Bool) → Nat → Option (Array Oper × Bool)
  | [], _ => none
  | (i, o, d) :: r, k => bif Nat.beq i k then some (o, d) else fnd r k
theorem fnd_append (l r : List (Nat × Array Oper × Bool)) (k : Nat) : fnd (l ++ r) k = match fnd l k with
    | some x => some x
    | none => fnd r k := by
  induction l with
  | nil => rfl
  | cons x l ih =>
    obtain ⟨i, o, d⟩ := x
    simp only [List.cons_append, fnd]
    cases Nat.beq i k <;> simp [ih]
theorem findR_fnd : ∀ (c : Code) (k : Nat), findR c k = fnd (regs c) k
  | .region id ops d, k => by simp only [findR, regs, fnd]
  | .seq a b, k => by simp only [findR, regs, fnd_append, findR_fnd a k, findR_fnd b k]; cases fnd (regs a) k <;> rfl
  | .cond x a b, k => by simp only [findR, regs, fnd_append, findR_fnd a k, findR_fnd b k]; cases fnd (regs a) k <;> rfl
  | .block _ b, k => by simp only [findR, regs, findR_fnd b k]
  | .loop b, k => by simp only [findR, regs, findR_fnd b k]
  | .scope b, k => by simp only [findR, regs, findR_fnd b k]
  | .skip, _ | .label _, _ | .ret, _ | .exit _, _ => rfl
  | .rangeFunc _ _ _ _, _ => rfl
  | .goto _, _ => rfl
  | .refuse _, _ => rfl
theorem fnd_mem : ∀ (l : List (Nat × Array Oper × Bool)), nodupB (l.map (·.1)) = true → ∀ x, x ∈ l → fnd l x.1 = some x.2
  | (i, o, d) :: r, h, x, hx => by
    simp only [List.map_cons, nodupB, Bool.and_eq_true, Bool.not_eq_true', List.contains_eq_mem, decide_eq_false_iff_not] at h
    simp only [fnd]
    rcases List.mem_cons.1 hx with rfl | hx
    · simp
    · have hne : Nat.beq i x.1 = false := by
        cases hb : Nat.beq i x.1 with
        | false => rfl
        | true => exact absurd (List.mem_map.2 ⟨x, hx, (Nat.eq_of_beq_eq_true hb).symm⟩) h.1
      simp only [hne, cond_false]
      exact fnd_mem r h.2 x hx

def dw (F : W) : W := fun w => ∀ w', hp w' = hp w → F w'
def D (c : Cfg) : Sk → KQ → Env → W
  | .skip, Q, ρ => Q .normal ρ
  | .ret, Q, ρ => Q .ret ρ
  | .bad, _, _ => ff
  | .exit id, Q, ρ => Q (.exit id) ρ
  | .reg id, Q, ρ => dw (RP c id (prn (c.li id) ρ) (Q .normal))
  | .seq a b, Q, ρ => D c a (thn (D c b Q) Q) ρ
  | .cond x a b, Q, ρ => match evO ρ x with
    | some (.bool true) => D c a Q ρ
    | some (.bool false) => D c b Q ρ
    | _ => ff
  | .block id b, Q, ρ => D c b (inb id Q) ρ
  | .loop b, Q, ρ => fun w => ∃ (sl : List Nat) (J : Nat → Env → W) (n0 : Nat), J n0 (prn sl ρ) w ∧ ∀ n ρ w, J n ρ w → ∃ Q' : KQ, (∀ e ρ w, Q' e ρ w → thn (fun ρ' w' => ∃ m, m < n ∧ J m (prn sl ρ') w') Q e ρ w) ∧ D c b Q' ρ w
theorem WP_mono {c : Cfg} {x : Code} {Q Q' : KQ} {ρ : Env} {w : World} (h : WP c x Q ρ w) (f : ∀ e ρ w, Q e ρ w → Q' e ρ w) : WP c x Q' ρ w := fun ok a hr =>
  wp_mono (h ok a hr) fun e a w q => lift_mono f e a w q
theorem hp_E {w w' : World} {L : List HP} (e : hp w' = hp w) (h : Holds w L) : Holds w' L := by unfold Holds at *; rw [e]; exact h
theorem D_sound {c : Cfg} : ∀ (x : Code), (∀ r, r ∈ regs x → findR c.body r.1 = some r.2) → ∀ (Q : KQ) (ρ : Env) (w : World), D c (sk x) Q ρ w → WP c x Q ρ w
  | .skip, _, Q, ρ, w, h => fun _ _ hr => wp_skip ⟨ρ, hr, h⟩
  | .label _, _, Q, ρ, w, h => fun _ _ hr => wp_label ⟨ρ, hr, h⟩
  | .ret, _, Q, ρ, w, h => fun _ _ hr => wp_ret ⟨ρ, hr, h⟩
  | .exit _, _, Q, ρ, w, h => fun _ _ hr => wp_exit ⟨ρ, hr, h⟩
  | .region id ops d, hg, Q, ρ, w, h => by
    have hf := hg (id, ops, d) (by simp [regs])
    exact wp_reg' hf h
  | .seq a b, hg, Q, ρ, w, h => by
    have h1 := D_sound a (fun r hr => hg r (by simp [regs, hr])) _ ρ w h
    refine wp_seq' (WP_mono h1 fun e ρ w q => ?_)
    cases e with
    | normal => exact D_sound b (fun r hr => hg r (by simp [regs, hr])) _ _ _ q
    | exit id => exact q
    | goto l => exact q
    | ret => exact q
    | panic ch => exact q
    | outgrown => exact q
  | .cond x a b, hg, Q, ρ, w, h => by
    simp only [sk, D] at h
    cases hx : evO ρ x with
    | none => simp only [hx] at h; exact h.elim
    | some v =>
      simp only [hx] at h
      cases v with
      | bool t =>
        refine wp_cond' hx (fun ht => ?_) fun ht => ?_
        · subst ht; exact D_sound a (fun r hr => hg r (by simp [regs, hr])) _ ρ w h
        · subst ht; exact D_sound b (fun r hr => hg r (by simp [regs, hr])) _ ρ w h
      | _ => exact h.elim
  | .block id b, hg, Q, ρ, w, h => wp_block' (D_sound b (fun r hr => hg r (by simpa [regs] using hr)) _ ρ w h)
  | .loop b, hg, Q, ρ, w, h => by
    intro ok a hr
    obtain ⟨sl, J, n0, hJ, h⟩ := h
    refine wp_loop_ghost (fun n a w => ∃ ρ, Rl c.n a ρ ∧ J n ρ w) n0 ⟨_, hr.prn sl, hJ⟩ ?_
    rintro n a w ⟨ρ, hr, hJ⟩
    obtain ⟨Q', hq, hD⟩ := h n ρ w hJ
    refine wp_mono (WP_mono (D_sound b (fun r hr => hg r (by simpa [regs] using hr)) _ ρ w hD) hq ok a hr) fun e a w q => ?_
    cases e with
    | normal => obtain ⟨ρ', hr', m, hm, h3⟩ := q; exact ⟨m, hm, _, hr'.prn sl, h3⟩
    | exit id => exact q
    | ret => exact q
    | goto l => exact q.elim
    | panic ch => exact q.elim
    | outgrown => exact q.elim
  | .scope b, hg, Q, ρ, w, h => wp_scope' (D_sound b (fun r hr => hg r (by simpa [regs] using hr)) Q ρ w h)
  | .rangeFunc _ _ _ _, _, _, _, _, h => h.elim
  | .goto _, _, _, _, _, h => h.elim
  | .refuse _, _, _, _, _, h => h.elim

section
variable {c : Cfg} {L : List HP} {Q : KQ} {ρ : Env} {w : World}
theorem d_seq {x y : Sk} (h : ∀ K : Env → W, (∀ L ρ, E L (D c y Q ρ) → E L (K ρ)) → E L (D c x (thn K Q) ρ)) : E L (D c (.seq x y) Q ρ) :=
  h _ (fun _ _ h => h)
theorem d_reg {id : Nat} (h : E L (RP c id (prn (c.li id) ρ) (Q .normal))) : E L (D c (.reg id) Q ρ) := fun _ hw w' e => h w' (hp_E e hw)
theorem d_cond {x : Operand} {t e : Sk} {b : Bool} (hx : evO ρ x = some (.bool b)) (h1 : b = true → E L (D c t Q ρ)) (h2 : b = false → E L (D c e Q ρ)) : E L (D c (.cond x t e) Q ρ) := by
  unfold D; rw [hx]
  cases b with
  | true => exact h1 rfl
  | false => exact h2 rfl
@[go_sem] theorem d_skip : D c .skip Q ρ = Q .normal ρ := rfl
@[go_sem] theorem d_ret : D c .ret Q ρ = Q .ret ρ := rfl
@[go_sem] theorem d_exit (id : Nat) : D c (.exit id) Q ρ = Q (.exit id) ρ := rfl
@[go_sem] theorem d_block (id : Nat) (b : Sk) : D c (.block id b) Q ρ = D c b (inb id Q) ρ := rfl
/-- The end of a round: the loop's state is s' now. -/
def bk {σ : Type} (sl : List Nat) (env : σ → Env) (J : σ → List HP → Prop) (ν : σ → Nat) (s : σ) : Env → W := fun ρ' w => ∃ s' L', prn sl ρ' = env s' ∧ J s' L' ∧ ν s' < ν s ∧ Holds w L'
/-- A loop: what its slots hold in state s, what lies in memory then, a measure. -/
theorem d_loop {σ : Type} (sl : List Nat) (env : σ → Env) (J : σ → List HP → Prop) (ν : σ → Nat) (s0 : σ) {b : Sk} (h0 : prn sl ρ = env s0) (hJ : J s0 L)
    (round : ∀ s L, J s L → E L (D c b (thn (bk sl env J ν s) Q) (env s))) : E L (D c (.loop b) Q ρ) := by
  intro w hw
  refine ⟨sl, fun n ρ w => ∃ s L, ρ = env s ∧ J s L ∧ Holds w L ∧ ν s = n, ν s0, ⟨s0, L, h0, hJ, hw, rfl⟩, ?_⟩
  rintro n ρ w ⟨s, L', rfl, hJ, hw, rfl⟩
  refine ⟨_, fun e ρ w q => ?_, round s L' hJ w hw⟩
  cases e with
  | normal => obtain ⟨s', L', h1, h2, h3, h4⟩ := q; exact ⟨_, h3, s', L', h1, h2, h4, rfl⟩
  | _ => exact q
theorem d_back {σ : Type} {sl : List Nat} {env : σ → Env} {J : σ → List HP → Prop} {ν : σ → Nat} {s : σ} (s' : σ) (L' : List HP) (h0 : prn sl ρ = env s') (hJ : J s' L') (hν : ν s' < ν s) (hs : Sub L' L) :
    E L (bk sl env J ν s ρ) := fun _ hw => ⟨s', L', h0, hJ, hν, hw.sub hs⟩
end
theorem d_fn {c : Cfg} {f : FuncId} {fn : Func} {e : Enc} {args : Array Value} {G : e.α → W} {L : List HP} {s : Sk} (hf : c.P.funcs[f]? = some fn) (hb : fn.body = some c.body) (hres : fn.results.toList = c.res)
    (hn : fn.ntmps = c.n) (ok : (c.P.follows .mixedOrders && okc c c.body) = true) (nd : nodupB ((regs c.body).map (·.1)) = true) (hk : sk c.body = s) {ρ : Env} (hρ : envA 0 args.toList = ρ) (hs : Nat.ble args.size c.n = true)
    (h : E L (D c s (fnQ c e G) ρ)) : E L (cal e c.P f args G) := by
  subst hk
  exact r_fn hf hb hres hn ok hρ hs fun w hw => D_sound c.body (fun r hr => by rw [findR_fnd]; exact fnd_mem _ nd r hr) _ _ w (h w hw)
end Go.Sp
