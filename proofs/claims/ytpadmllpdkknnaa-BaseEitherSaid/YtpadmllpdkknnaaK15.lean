/- Loops whose memory is told by the state alone. -/
import Derived.Test.YtpadmllpdkknnaaK14
namespace Go.Sp
open Go
attribute [push_cast] Bool.false_eq_true Bool.true_eq_false
@[go_sem] theorem inb_ne (id i : Nat) (Q : KQ) (ρ : Env) (h : i ≠ id) : inb id Q (.exit i) ρ = Q (.exit i) ρ := inb_o id i Q ρ (by
  cases hb : Nat.beq i id with
  | false => rfl
  | true => exact absurd (Nat.eq_of_beq_eq_true hb) h)
section
variable {c : Cfg} {L : List HP} {Q : KQ} {ρ : Env} {w : World} {σ : Type}
theorem d_lp (sl : List Nat) (env : σ → Env) (F : σ → List HP) (I : σ → Prop) (ν : σ → Nat) (s0 : σ) {b : Sk} (h0 : prn sl ρ = env s0) (hs : Sub (F s0) L) (hI : I s0)
    (round : ∀ s, I s → E (F s) (D c b (thn (bk sl env (fun s M => M = F s ∧ I s) ν s) Q) (env s))) : E L (D c (.loop b) Q ρ) :=
  E.sub hs (d_loop sl env (fun s M => M = F s ∧ I s) ν s0 h0 ⟨rfl, hI⟩ fun s _ ⟨hL, hi⟩ => by subst hL; exact round s hi)
theorem r_clp {e : Enc} {P : Program} {L L' : List HP} {f : FuncId} {args : Array Value} {A : List HP} {x : e.α} {k : e.α → W} (h : Fp e P f args A x) (ht : Takes L A L') (hb : Sub L (A ++ L'))
    (hk : E L (k x)) : E L (cal e P f args k) := r_calp h ht hk hb
theorem d_bk {sl : List Nat} {env : σ → Env} {F : σ → List HP} {I : σ → Prop} {ν : σ → Nat} {s : σ} (s' : σ) (h0 : prn sl ρ = env s') (hI : I s') (hν : ν s' < ν s) (hs : Sub (F s') L) :
    E L (bk sl env (fun s M => M = F s ∧ I s) ν s ρ) := d_back s' (F s') h0 ⟨rfl, hI⟩ hν hs
end
end Go.Sp
