/- Parts that Lean's instance search finds: the walk's steps in few words; functions that turn their parts. -/
import Derived.Test.YtpadmllpdkknnaaK17
namespace Go.Sp
open Go

attribute [push_cast] Option.isNone_some Option.isNone_none
/-! ### What is searched -/
class AX (L : List HP) (x : HP) (R : outParam (List HP)) : Prop where p : At L x R
class A1 (L : List HP) (b : Nat) (t : outParam TypeId) (l : outParam (List Value)) (R : outParam (List HP)) : Prop where p : At L (ar b t l) R
class TX (L A : List HP) (R : outParam (List HP)) : Prop where p : Takes L A R
class SX (R L : List HP) : Prop where p : Sub R L
class NX (A L : List HP) (R : outParam (List HP)) : Prop where e : A ++ L = R
theorem At.eq {L L' R : List HP} {x : HP} (e : L = L') (h : At L x R) : At L' x R := e ▸ h
theorem At.pre (X : List HP) {L R : List HP} {x : HP} (h : At L x R) : At (X ++ L) x (X ++ R) := by
  induction X with
  | nil => exact h
  | cons y X ih => exact .there ih
instance AX.ap {X L R : List HP} {x : HP} [h : AX L x R] : AX (X ++ L) x (X ++ R) := ⟨h.p.pre X⟩
instance AX.apn {L R : List HP} {x : HP} [h : AX L x R] : AX ([] ++ L) x R := ⟨h.p⟩
instance AX.apc {a x : HP} {A L R : List HP} [h : AX (a :: (A ++ L)) x R] : AX ((a :: A) ++ L) x R := ⟨h.p⟩
instance AX.there {x y : HP} {L R : List HP} [h : AX L x R] : AX (y :: L) x (y :: R) := ⟨.there h.p⟩
instance AX.here {x : HP} {L : List HP} : AX (x :: L) x L := ⟨.here⟩
section
variable {b : Nat} {t : TypeId} {l : List Value} {L R A X : List HP} {x y a : HP}
instance A1.ap [h : A1 L b t l R] : A1 (X ++ L) b t l (X ++ R) := ⟨h.p.pre X⟩
instance A1.apn [h : A1 L b t l R] : A1 ([] ++ L) b t l R := ⟨h.p⟩
instance A1.apc [h : A1 (a :: (A ++ L)) b t l R] : A1 ((a :: A) ++ L) b t l R := ⟨h.p⟩
instance A1.there [h : A1 L b t l R] : A1 (y :: L) b t l (y :: R) := ⟨.there h.p⟩
instance A1.here : A1 (ar b t l :: L) b t l L := ⟨.here⟩
end
instance NX.nil {L : List HP} : NX [] L L := ⟨rfl⟩
instance NX.cons {a : HP} {A L R : List HP} [h : NX A L R] : NX (a :: A) L (a :: R) := ⟨congrArg (a :: ·) h.e⟩
theorem Takes.app {L A B R R' : List HP} (h : Takes L A R) (h' : Takes R B R') : Takes L (A ++ B) R' := by
  induction h with
  | nil => exact h'
  | cons ha _ ih => exact .cons ha (ih h')
instance TX.nil {L : List HP} : TX L [] L := ⟨.nil⟩
instance TX.app {L A B R R' : List HP} [h : TX L A R] [h' : TX R B R'] : TX L (A ++ B) R' := ⟨h.p.app h'.p⟩
instance TX.cons {L L' A R : List HP} {x : HP} [h : AX L x L'] [h' : TX L' A R] : TX L (x :: A) R := ⟨.cons h.p h'.p⟩
theorem Takes.all (A : List HP) {L : List HP} : Takes (A ++ L) A L := by
  induction A with
  | nil => exact .nil
  | cons a A ih => exact .cons .here ih
instance TX.self {A L : List HP} : TX (A ++ L) A L := ⟨.all A⟩
theorem Takes.sub {L A R R' : List HP} (h : Takes L A R) (hs : Sub R' R) : Sub (A ++ R') L := by
  induction h with
  | nil => exact hs
  | cons ha _ ih => exact .cons ha (ih hs)
theorem Takes.back {L A R : List HP} (t : Takes L A R) : ∀ {h : PH}, HS (A ++ R) h → HS L h := by
  induction t with
  | nil => exact id
  | cons h _ ih => exact fun z => h.back (HS.cong (fun _ => ih) z)
instance (priority := 100) SX.drop {R L : List HP} {y : HP} [h : SX R L] : SX R (y :: L) := ⟨.drop h.p⟩
instance SX.app {A R L L' : List HP} [h : TX L A L'] [h' : SX R L'] : SX (A ++ R) L := ⟨h.p.sub h'.p⟩
instance SX.cons {R L L' : List HP} {x : HP} [h : AX L x L'] [h' : SX R L'] : SX (x :: R) L := ⟨.cons h.p h'.p⟩
instance SX.nil {L : List HP} : SX [] L := ⟨.nil⟩
instance (priority := 2000) SX.refl {L : List HP} : SX L L := ⟨.refl⟩

/-! ### The steps -/
section
variable {e : Enc} {P : Program} {L L' M R R' A B : List HP} {w : World} {b o n : Nat} {t : TypeId} {l cs vs : List Value}
theorem i_ld {k : e.α → W} {x : e.α} [h : A1 L b t l R] (hl : l[o]? = some (e.enc x)) (hk : E L (k x)) : E L (ld e ⟨b, o, none⟩ k) := r_ld h.p hl hk
theorem i_ldq {k : e.α → W} {x : e.α} [h : A1 R b t l R'] (hl : l[o]? = some (e.enc x)) (hk : E L (k x)) : E L (ldq (HW R) e ⟨b, o, none⟩ k) := r_ldq h.p hl hk
theorem i_lds {k : Option Addr × Nat × Nat → W} {p : Option Addr} {m c : Nat} [h : A1 L b t l R] (hl : l[o]? = some (.slice p m c)) (hk : E L (k (p, m, c))) : E L (ld eSl ⟨b, o, none⟩ k) := r_ld (x := (p, m, c)) h.p hl hk
theorem i_ldsq {k : Option Addr × Nat × Nat → W} {p : Option Addr} {m c : Nat} [h : A1 R b t l R'] (hl : l[o]? = some (.slice p m c)) (hk : E L (k (p, m, c))) : E L (ldq (HW R) eSl ⟨b, o, none⟩ k) := r_ldq (x := (p, m, c)) h.p hl hk
theorem i_ldn {k : e.α → W} {x : e.α} [h : A1 L b t l R] (hl : (l.drop o).take n = cs) (hx : e.enc x = .agg cs.toArray) (hn : cs.length = n) (hk : E L (k x)) : E L (ldn e n ⟨b, o, none⟩ k) := r_ldn h.p hx hn hl hk
theorem i_ldnq {k : e.α → W} {x : e.α} [h : A1 R b t l R'] (hl : (l.drop o).take n = cs) (hx : e.enc x = .agg cs.toArray) (hn : cs.length = n) (hk : E L (k x)) : E L (ldnq (HW R) e n ⟨b, o, none⟩ k) := r_ldnq h.p hx hn hl hk
theorem i_st {k : W} {v : Value} [h : A1 L b t l R] (ho : o < l.length) (hv : one v = true) (hk : E (ar b t (l.set o v) :: R) k) : E L (st ⟨b, o, none⟩ v k) := r_st h.p ho hv hk
theorem i_stl {k : W} [h : A1 L b t l R] (ho : o + vs.length ≤ l.length) (hv : vs.all one = true) (hk : E (ar b t (spl l o vs) :: R) k) : E L (stl vs ⟨b, o, none⟩ 0 k) := r_stl h.p ho hv hk
theorem i_kp0 {F : W → W} [s : SX R L] (h : E L (F (HW R))) : E L (kpn (HW R) F) := r_kp0 s.p h

/-- A condition: what is asked of either branch. ('apply d_cond' looks behind a closed condition, and runs long.) -/
def cndO (o : Option Value) (A B : Prop) : Prop := match o with
  | some (.bool b) => (b = true → A) ∧ (b = false → B)
  | _ => False
theorem d_cnd {c : Cfg} {Q : KQ} {ρ : Env} {x : Operand} {y z : Sk} (h : cndO (evO ρ x) (E L (D c y Q ρ)) (E L (D c z Q ρ))) : E L (D c (.cond x y z) Q ρ) := by
  unfold cndO at h
  split at h
  · rename_i b hx
    exact d_cond hx h.1 h.2
  · exact h.elim
theorem d_blk {c : Cfg} {Q : KQ} {ρ : Env} {id : Nat} {b : Sk} (h : E L (D c b (inb id Q) ρ)) : E L (D c (.block id b) Q ρ) := h
theorem d_sk0 {c : Cfg} {Q : KQ} {ρ : Env} (h : E L (Q .normal ρ)) : E L (D c .skip Q ρ) := h
theorem d_rt0 {c : Cfg} {Q : KQ} {ρ : Env} (h : E L (Q .ret ρ)) : E L (D c .ret Q ρ) := h
theorem d_ex0 {c : Cfg} {Q : KQ} {ρ : Env} {id : Nat} (h : E L (Q (.exit id) ρ)) : E L (D c (.exit id) Q ρ) := h
/-! ### Functions that turn their parts -/
def Fq (e : Enc) (P : Program) (f : FuncId) (args : Array Value) (A B : List HP) (x : e.α) : Prop := Fn e P f args A fun y X => X = B ∧ y = x
theorem Fp.q {f : FuncId} {args : Array Value} {x : e.α} (h : Fp e P f args A x) : Fq e P f args A A x := h
theorem r_clq {f : FuncId} {args : Array Value} {x : e.α} {k : e.α → W} (h : Fq e P f args A B x) (ht : Takes L A L') (hk : E (B ++ L') (k x)) : E L (cal e P f args k) :=
  r_cal h ht fun y X hB => by
    obtain ⟨rfl, rfl⟩ := hB
    exact hk
theorem i_clq {f : FuncId} {args : Array Value} {x : e.α} {k : e.α → W} (h : Fq e P f args A B x) [ht : TX L A L'] [hn : NX B L' M] (hk : E M (k x)) : E L (cal e P f args k) :=
  r_clq h ht.p (hn.e.symm ▸ hk)
theorem i_clp {f : FuncId} {args : Array Value} {x : e.α} {k : e.α → W} (h : Fp e P f args A x) [ht : TX L A L'] (hk : E L (k x)) : E L (cal e P f args k) :=
  r_clq (Fp.q h) ht.p fun w hw => hk w (ht.p.back hw)
theorem i_ret {v : Value} {x x' : e.α} [s : SX (B ++ L') L] (hv : v = e.enc x) (hx : x = x') :
    E L (fin e (fun y w => ∃ X, (X = B ∧ y = x') ∧ Holds w (X ++ L')) v) := r_retb hv hx s.p
theorem i_ret0 {v : Value} [s : SX (B ++ L') L] (hv : v = eN.enc ()) : E L (fin eN (fun _ w => ∃ X, (X = B ∧ True) ∧ Holds w (X ++ L')) v) := fun _ hw => ⟨(), hv, B, ⟨rfl, trivial⟩, hw.sub s.p⟩
theorem i_ret2 {a b : Enc} {v : Value} {x : a.α} {y : b.α} {x' : a.α × b.α} [s : SX (B ++ L') L] (hv : v = .tuple #[a.enc x, b.enc y]) (hx : (x, y) = x') :
    E L (fin (eT2 a b) (fun y w => ∃ X, (X = B ∧ y = x') ∧ Holds w (X ++ L')) v) := r_retb (x := (x, y)) hv hx s.p
theorem i_ret3 {a b c : Enc} {v : Value} {x : a.α} {y : b.α} {z : c.α} {x' : a.α × b.α × c.α} [s : SX (B ++ L') L] (hv : v = .tuple #[a.enc x, b.enc y, c.enc z]) (hx : (x, y, z) = x') :
    E L (fin (eT3 a b c) (fun y w => ∃ X, (X = B ∧ y = x') ∧ Holds w (X ++ L')) v) := r_retb (x := (x, y, z)) hv hx s.p
/-- Parts told as one part. -/
theorem Fq.fold {f : FuncId} {args : Array Value} {x : e.α} {C : List HP} (h : Fq e P f args (A ++ C) (B ++ C) x) : Fq e P f args (HS A :: C) (HS B :: C) x := fun L w hw => by
  have h0 : Holds w ((A ++ C) ++ L) := by simpa using Holds.open (by simpa using hw : Holds w (HS A :: (C ++ L)))
  refine Calls.mono (h L w h0) ?_
  rintro _ w' ⟨y, he, X, ⟨rfl, rfl⟩, hX⟩
  refine ⟨_, he, _, ⟨rfl, rfl⟩, ?_⟩
  have h1 : Holds w' (B ++ (C ++ L)) := by simpa using hX
  simpa using Holds.close h1
theorem Fq.foldp {f : FuncId} {args : Array Value} {x : e.α} {C : List HP} (h : Fp e P f args (A ++ C) x) : Fp e P f args (HS A :: C) x := Fq.fold h
/-- More parts than are asked. -/
theorem Fq.more {f : FuncId} {args : Array Value} {x : e.α} (h : Fq e P f args A B x) (C : List HP) : Fq e P f args (A ++ C) (B ++ C) x := fun L w hw => by
  refine Calls.mono (h (C ++ L) w (by simpa using hw)) ?_
  rintro _ w' ⟨y, he, X, ⟨rfl, rfl⟩, hX⟩
  exact ⟨_, he, _, ⟨rfl, rfl⟩, by simpa using hX⟩
theorem E.open {G : World → Prop} (h : E (A ++ L) G) : E (HS A :: L) G := fun w hw => h w hw.open
theorem E.close {G : World → Prop} (h : E (HS A :: L) G) : E (A ++ L) G := fun w hw => h w hw.close
end
end Go.Sp
