/- Texts of a proof, one behind the other: K1 K2 K3 K4 K5 K6 K7 K8 K9 K10 K11 K12 K13 K14 K15 K16 K17 K18 K19 K20 K21 K22 N1 T. No condition. -/
import Derived.Orders
import Derived.KernelRfl
import Derived.Laws.Entries
import Derived.OrdersHeld
import Derived.Lib.Bytes
import Derived.Lib.Bytealg
import Derived.Laws.Externs
import Derived.Scope
import Derived.Deep.LoopGhost
import Derived.Laws.BitsLemmas
import Derived.Below
import Derived.Laws.AppendOwn
import Derived.Laws.OwnMore
import Derived.Laws.StructEq
import Derived.Deep.Slices
import Derived.Maps.AppendAt
import Derived.ChangeArms
import Derived.WideShapes
import Derived.Carry
import Derived.Laws.IdiomStrings
import Derived.Lib.BufferWrite
import Derived.Laws.MakeOwn
import Derived.Maps.RangeRun
import Derived.Sort.Grow
import Derived.Lib.ConvBytes
import Derived.Test.YtdaochacbbaihaaGreatProg
namespace Go.Sp
open Go
abbrev PH := Nat → Option (Obj ⊕ (Os × Array (Nat × ByteArray) × (Nat → Question → Nat)))
abbrev HP := PH → Prop
def disj (a b : PH) : Prop := ∀ n, a n = none ∨ b n = none
def sub (a b : PH) : Prop := ∀ n o, a n = some o → b n = some o
theorem sub.none (h : PH) : sub (fun _ => none) h := fun _ _ x => by cases x
theorem sub.refl (a : PH) : sub a a := fun _ _ h => h
theorem sub.trans {a b c : PH} (h : sub a b) (h' : sub b c) : sub a c := fun n o x => h' n o (h n o x)
theorem disj.symm {a b : PH} (h : disj a b) : disj b a := fun n => (h n).symm
theorem disj.sub {a b c : PH} (h : disj a b) (hs : sub c b) : disj a c := fun n => by
  rcases h n with h | h
  · exact .inl h
  · cases hc : c n with
    | none => exact .inr rfl
    | some o => rw [hs n o hc] at h; cases h
theorem disj.subl {a b c : PH} (h : disj a b) (hs : Sp.sub c a) : disj c b := (h.symm.sub hs).symm
def HS : List HP → HP
  | [] => fun _ => True
  | A :: L => fun h => ∃ a b, disj a b ∧ sub a h ∧ sub b h ∧ A a ∧ HS L b
def hp (w : World) : PH
  | 0 => some (.inr (w.os, w.output, w.tape))
  | n + 1 => (w.heap[n]?).map .inl
theorem hp_s (w : World) (n : Nat) : hp w (n + 1) = (w.heap[n]?).map .inl := rfl
theorem hp_o {w : World} {n : Nat} {o : Obj} : hp w (n + 1) = some (.inl o) ↔ w.heap[n]? = some o := by
  rw [hp_s]; cases w.heap[n]? <;> simp
def Holds (w : World) (L : List HP) : Prop := HS L (hp w)
theorem HS.mono {L : List HP} {h h' : PH} (x : HS L h) (s : sub h h') : HS L h' := by
  cases L with
  | nil => trivial
  | cons A L => obtain ⟨a, b, d, sa, sb, p, q⟩ := x; exact ⟨a, b, d, sa.trans s, sb.trans s, p, q⟩
def un (a b : PH) : PH := fun n => match a n with | some o => some o | none => b n
theorem un_l (a b : PH) : sub a (un a b) := fun n o h => by simp [un, h]
theorem un_r {a b : PH} (d : disj a b) : sub b (un a b) := fun n o h => by
  rcases d n with h' | h'
  · simp [un, h', h]
  · rw [h] at h'; cases h'
theorem un_sub {a b h : PH} (sa : sub a h) (sb : sub b h) : sub (un a b) h := fun n o x => by
  unfold un at x
  cases ha : a n with
  | some u => simp [ha] at x; exact sa n o (by rw [ha, x])
  | none => simp [ha] at x; exact sb n o x
theorem un_disj {a b c : PH} (h1 : disj a c) (h2 : disj b c) : disj (un a b) c := fun n => by
  rcases h1 n with h | h
  · rcases h2 n with h' | h'
    · exact .inl (by simp [un, h, h'])
    · exact .inr h'
  · exact .inr h
theorem HS.swap {A B : HP} {L : List HP} {h : PH} (x : HS (A :: B :: L) h) : HS (B :: A :: L) h := by
  obtain ⟨a, r, d, sa, sr, p, b, c, d', sb, sc, q, z⟩ := x
  have dab : disj a b := d.sub sb
  have dac : disj a c := d.sub sc
  refine ⟨b, un a c, ?_, sb.trans sr, un_sub sa (sc.trans sr), q, a, c, dac, un_l _ _, un_r dac, p, z⟩
  exact (un_disj dab d'.symm).symm
theorem HS.tl {A : HP} {L : List HP} {h : PH} (x : HS (A :: L) h) : HS L h := by
  obtain ⟨a, r, _, _, sr, _, z⟩ := x; exact z.mono sr
theorem HS.cong {A : HP} {L L' : List HP} (f : ∀ h, HS L h → HS L' h) {h : PH} (x : HS (A :: L) h) : HS (A :: L') h := by
  obtain ⟨a, r, d, sa, sr, p, z⟩ := x; exact ⟨a, r, d, sa, sr, p, f _ z⟩
theorem HS.hd {A A' : HP} {L : List HP} (f : ∀ h, A h → A' h) {h : PH} (x : HS (A :: L) h) : HS (A' :: L) h := by
  obtain ⟨a, r, d, sa, sr, p, z⟩ := x; exact ⟨a, r, d, sa, sr, f _ p, z⟩
inductive At : List HP → HP → List HP → Prop
  | here {x : HP} {L : List HP} : At (x :: L) x L
  | there {x y : HP} {L L' : List HP} (h : At L x L') : At (y :: L) x (y :: L')
theorem At.hs {L L' : List HP} {x : HP} (t : At L x L') : ∀ {h : PH}, HS L h → HS (x :: L') h := by
  induction t with
  | here => exact id
  | there _ ih => exact fun z => HS.swap (HS.cong (fun _ => ih) z)
theorem At.back {L L' : List HP} {x : HP} (t : At L x L') : ∀ {h : PH}, HS (x :: L') h → HS L h := by
  induction t with
  | here => exact id
  | there _ ih => exact fun z => HS.cong (fun _ => ih) (HS.swap z)
inductive Takes : List HP → List HP → List HP → Prop
  | nil {L : List HP} : Takes L [] L
  | cons {L L' L'' : List HP} {x : HP} {A : List HP} (h : At L x L') (t : Takes L' A L'') : Takes L (x :: A) L''
theorem Takes.hs {L A R : List HP} (t : Takes L A R) : ∀ {h : PH}, HS L h → HS (A ++ R) h := by
  induction t with
  | nil => exact id
  | cons h _ ih => exact fun z => HS.cong (fun _ => ih) (h.hs z)
inductive Sub : List HP → List HP → Prop
  | refl {L : List HP} : Sub L L
  | nil {L : List HP} : Sub [] L
  | cons {R L L' : List HP} {x : HP} (h : At L x L') (t : Sub R L') : Sub (x :: R) L
  | drop {R L : List HP} {y : HP} (t : Sub R L) : Sub R (y :: L)
theorem Sub.hs {R L : List HP} (t : Sub R L) : ∀ {h : PH}, HS L h → HS R h := by
  induction t with
  | refl => exact id
  | nil => exact fun _ => trivial
  | cons h _ ih => exact fun z => HS.cong (fun _ => ih) (h.hs z)
  | drop _ ih => exact fun z => ih z.tl
def E (L : List HP) (G : World → Prop) : Prop := ∀ w, Holds w L → G w
theorem E.sub {L L' : List HP} {G : World → Prop} (s : Sub L' L) (h : E L' G) : E L G := fun w x => h w (s.hs x)
theorem E.mono {L : List HP} {G G' : World → Prop} (f : ∀ w, G w → G' w) (h : E L G) : E L G' := fun w x => f w (h w x)
theorem E.at {L L' : List HP} {x : HP} {G : World → Prop} (t : At L x L') (h : E (x :: L') G) : E L G := fun w z => h w (t.hs z)
theorem E.back {L L' : List HP} {x : HP} {G : World → Prop} (t : At L x L') (h : E L G) : E (x :: L') G := fun w z => h w (t.back z)
def blk (b : Nat) (o : Obj) : HP := fun h => h (b + 1) = some (.inl o)
def ar (b : Nat) (e : TypeId) (l : List Value) : HP := blk b (.cells ⟨l⟩ e (0, 0))
def pu (p : Prop) : HP := fun _ => p
def old (w0 : World) : HP := fun h => h 0 = some (.inr (w0.os, w0.output, w0.tape)) ∧ ∀ n, n < w0.heap.size → h (n + 1) = hp w0 (n + 1)
theorem Holds.get {w : World} {b : Nat} {o : Obj} {L : List HP} (h : Holds w (blk b o :: L)) : w.heap[b]? = some o := by
  obtain ⟨a, r, _, sa, _, p, _⟩ := h; exact hp_o.1 (sa _ _ p)
theorem Holds.old {w w0 : World} {L : List HP} (h : Holds w (Sp.old w0 :: L)) : w.os = w0.os ∧ w.output = w0.output ∧ w.tape = w0.tape ∧ ∀ n, n < w0.heap.size → w.heap[n]? = w0.heap[n]? := by
  obtain ⟨a, r, _, sa, _, p, _⟩ := h
  have h0 := sa _ _ p.1
  simp only [hp, Option.some.injEq, Sum.inr.injEq, Prod.mk.injEq] at h0
  refine ⟨h0.1, h0.2.1, h0.2.2, fun n hn => ?_⟩
  have h1 := p.2 n hn
  have : w0.heap[n]? = some w0.heap[n] := by simp [hn]
  rw [hp_o.2 this] at h1
  rw [this]; exact hp_o.1 (sa _ _ h1)
theorem Holds.start (w : World) : Holds w [Sp.old w] :=
  ⟨hp w, fun _ => none, fun _ => .inr rfl, sub.refl _, sub.none _, ⟨rfl, fun _ _ => rfl⟩, trivial⟩
theorem Holds.heap {w w' : World} {L : List HP} (h : Holds w L) (e : w'.heap = w.heap) (eo : w'.os = w.os := by rfl) (ep : w'.output = w.output := by rfl) (et : w'.tape = w.tape := by rfl) : Holds w' L := by
  have : hp w' = hp w := funext fun n => by cases n <;> simp [hp, e, eo, ep, et]
  unfold Holds at *; rw [this]; exact h
theorem Holds.sub {w : World} {L R : List HP} (h : Holds w L) (s : Sub R L) : Holds w R := s.hs h
theorem Holds.pure {w : World} {p : Prop} {L : List HP} (h : Holds w (pu p :: L)) : p ∧ Holds w L := by
  obtain ⟨a, r, _, _, sr, p, z⟩ := h; exact ⟨p, z.mono sr⟩
theorem Holds.set {w : World} {b : Nat} {o : Obj} {L : List HP} (h : Holds w (blk b o :: L)) (o' : Obj) {w' : World}
    (e : w'.heap = w.heap.setIfInBounds b o') (eo : w'.os = w.os := by rfl) (ep : w'.output = w.output := by rfl) (et : w'.tape = w.tape := by rfl) : Holds w' (blk b o' :: L) := by
  have hb := h.get
  obtain ⟨a, r, d, sa, sr, p, z⟩ := h
  have hlt : b < w.heap.size := by
    rcases Nat.lt_or_ge b w.heap.size with h | h
    · exact h
    · simp [Array.getElem?_eq_none h] at hb
  have rb : r (b + 1) = none := by
    rcases d (b + 1) with h | h
    · rw [p] at h; cases h
    · exact h
  have same : ∀ n, n ≠ b + 1 → hp w' n = hp w n := by
    intro n hn
    cases n with
    | zero => simp [hp, eo, ep, et]
    | succ n => rw [hp_s, hp_s, e, Array.getElem?_setIfInBounds_ne (fun h => hn (by omega))]
  refine ⟨fun n => if n = b + 1 then some (.inl o') else a n, r, ?_, ?_, ?_, by simp [blk], z⟩
  · intro n
    by_cases hn : n = b + 1
    · subst hn; exact .inr rb
    · simp only [hn, if_false]; exact d n
  · intro n u hu
    by_cases hn : n = b + 1
    · subst hn; simp at hu; subst hu; exact hp_o.2 (by simp [e, hlt])
    · simp only [hn, if_false] at hu
      rw [same n hn]; exact sa n u hu
  · intro n u hu
    have hn : n ≠ b + 1 := fun h => by subst h; rw [rb] at hu; cases hu
    rw [same n hn]; exact sr n u hu
theorem Holds.push {w : World} {L : List HP} (h : Holds w L) (o : Obj) {w' : World} (e : w'.heap = w.heap.push o) (eo : w'.os = w.os := by rfl) (ep : w'.output = w.output := by rfl) (et : w'.tape = w.tape := by rfl) :
    Holds w' (blk w.heap.size o :: L) := by
  refine ⟨fun n => if n = w.heap.size + 1 then some (.inl o) else none, hp w, ?_, ?_, ?_, by simp [blk], h⟩
  · intro n
    by_cases hn : n = w.heap.size + 1
    · subst hn; exact .inr (by simp [hp])
    · exact .inl (by simp [hn])
  · intro n u hu
    by_cases hn : n = w.heap.size + 1
    · subst hn; simp at hu; subst hu; exact hp_o.2 (by simp [e])
    · simp [hn] at hu
  · intro n u hu
    cases n with
    | zero => simpa [hp, eo, ep, et] using hu
    | succ n =>
      have hlt : n < w.heap.size := by
        rcases Nat.lt_or_ge n w.heap.size with h | h
        · exact h
        · simp [hp, Array.getElem?_eq_none h] at hu
      rw [hp_s, e, Array.getElem?_push_lt hlt]
      simpa [hp, hlt] using hu
theorem Holds.open {w : World} {A L : List HP} (h : Holds w (HS A :: L)) : Holds w (A ++ L) := by
  unfold Holds at *
  generalize hp w = x at *
  induction A generalizing x with
  | nil => exact h.tl
  | cons P A ih =>
    obtain ⟨a, r, d, sa, sr, ⟨p1, p2, d', s1, s2, hp1, hA⟩, z⟩ := h
    refine ⟨p1, un p2 r, ?_, s1.trans sa, un_sub (s2.trans sa) sr, hp1, ih _ ⟨p2, r, d.subl s2, un_l _ _, un_r (d.subl s2), hA, z⟩⟩
    exact (un_disj d'.symm (d.subl s1).symm).symm
theorem Holds.close {w : World} {A L : List HP} (h : Holds w (A ++ L)) : Holds w (HS A :: L) := by
  unfold Holds at *
  generalize hp w = x at *
  induction A generalizing x with
  | nil => exact ⟨fun _ => none, x, fun _ => .inl rfl, sub.none _, sub.refl _, trivial, h⟩
  | cons P A ih =>
    obtain ⟨p1, r, d, s1, sr, hp1, z⟩ := h
    obtain ⟨a, b, d', sa, sb, hA, hL⟩ := ih _ z
    have dpa : disj p1 a := d.sub sa
    refine ⟨un p1 a, b, un_disj (d.sub sb) d', un_sub s1 (sa.trans sr), sb.trans sr, ⟨p1, a, dpa, un_l _ _, un_r dpa, hp1, hA⟩, hL⟩
theorem Holds.ex {α : Type} {w : World} {A : α → HP} {L : List HP} (h : Holds w ((fun x => ∃ y, A y x) :: L)) : ∃ y, Holds w (A y :: L) := by
  obtain ⟨a, r, d, sa, sr, ⟨y, p⟩, z⟩ := h; exact ⟨y, a, r, d, sa, sr, p, z⟩
end Go.Sp
namespace Go.Sp
open Go
abbrev W := World → Prop
abbrev Env := List (Nat × Value)
def gt : Env → Nat → Option Value
  | [], _ => none
  | (d, v) :: ρ, t => bif Nat.beq d t then some v else gt ρ t
def upd (ρ : Env) : Option Nat → Value → Env
  | none, _ => ρ
  | some d, v => (d, v) :: ρ
def prn : List Nat → Env → Env
  | [], _ => []
  | t :: ts, ρ => match gt ρ t with
    | some v => (t, v) :: prn ts ρ
    | none => prn ts ρ
def Rl (n : Nat) (a : Act) (ρ : Env) : Prop := a.defers = [] ∧ a.tmps.size = n ∧ ∀ t v, gt ρ t = some v → a.tmps.getD t undef = v
def evO (ρ : Env) : Operand → Option Value
  | .tmp t => gt ρ t
  | .const v => some v
  | .global g => some (.pointer (some ⟨g, 0, none⟩))
  | .func f => some (.func (.func f) #[] #[])
theorem evO_eval {n : Nat} {a : Act} {ρ : Env} (r : Rl n a ρ) {x : Operand} {v : Value} (h : evO ρ x = some v) : a.eval x = v := by
  cases x with
  | tmp t => exact r.2.2 t v h
  | const u => simp [evO] at h; simp [Act.eval, h]
  | global g => simp [evO] at h; simp [Act.eval, h]
  | func f => simp [evO] at h; simp [Act.eval, h]
theorem Rl.prn {n : Nat} {a : Act} {ρ : Env} (r : Rl n a ρ) (ts : List Nat) : Rl n a (prn ts ρ) := by
  refine ⟨r.1, r.2.1, fun t v h => r.2.2 t v ?_⟩
  induction ts with
  | nil => cases h
  | cons u ts ih =>
    unfold Sp.prn at h
    cases hg : gt ρ u with
    | none => simp [hg] at h; exact ih h
    | some x =>
      simp only [hg, gt] at h
      cases hb : Nat.beq u t with
      | true => simp [hb] at h; subst h; rw [← Nat.eq_of_beq_eq_true hb]; exact hg
      | false => simp [hb] at h; exact ih h
theorem Rl.put {n : Nat} {a : Act} {ρ : Env} (r : Rl n a ρ) {d : Option Nat} (v : Value) (hd : ∀ t, d = some t → t < n) : Rl n (a.put d v) (upd ρ d v) := by
  cases d with
  | none => exact r
  | some d =>
    have hd' := hd d rfl
    refine ⟨r.1, by simp [Act.put, r.2.1], fun t u h => ?_⟩
    simp only [upd, gt] at h
    cases hb : Nat.beq d t with
    | true =>
      simp [hb] at h; subst h
      have : d = t := Nat.eq_of_beq_eq_true hb
      subst this
      have : d < a.tmps.size := by rw [r.2.1]; exact hd'
      simp [Act.put, this]
    | false =>
      simp [hb] at h
      have hne : d ≠ t := Nat.ne_of_beq_eq_false hb
      have := r.2.2 t u h
      simp [Act.put, Array.getElem?_setIfInBounds_ne hne] at this ⊢
      exact this
structure Enc where
  α : Type
  enc : α → Value
structure Cfg where
  P : Program
  n : Nat
  T : Nat → Enc
  body : Code
  res : List ResultVar
  li : Nat → List Nat
  lo : Nat → List Nat
  ord : Nat → Bool × List (Nat × Nat)
  de : List (Nat × Enc) := []
def dEnc (T : Enc) (d : Option Nat) : List (Nat × Enc) → Enc
  | [] => T
  | (i, e) :: r => match d with
    | some j => bif Nat.beq i j then e else dEnc T d r
    | none => T
inductive Rq
  | val (v : Value)
  | ld1 (a : Addr)
  | ldn (n : Nat) (a : Addr)
  | st (vs : List Value) (a : Addr)
  | nw (cells : Array Value) (e : TypeId) (f : Addr → Value)
  | nwo (o : Obj) (f : Nat → Value)
  | cl (f : FuncId) (args : Array Value)
  | sm (s : Sem Value)
  | nx (s : Sem Value)
  | um (s : Sem Unit)
def Rq.sem : Rq → Sem Next
  | .val v => pure (.value v)
  | .ld1 a => do pure (.value (← load a))
  | .ldn n a => do pure (.value (.agg (← loadCells a n)))
  | .st vs a => do storeCells a vs; pure .skip
  | .nw cells e f => do pure (.value (f (← newRow e cells)))
  | .nwo o f => do pure (.value (f (← newObj o)))
  | .cl f args => pure (.enter f args)
  | .sm s => do pure (.value (← s))
  | .nx s => do pure (.value (← s))
  | .um s => do s; pure .skip
abbrev Kr := Rq → W
def ff : W := fun _ => False
def rq (p : Prop) (k : W) : W := fun w => p ∧ k w
def cnd (b : Bool) (k1 k2 : W) : W := match b with
  | true => k1
  | false => k2
def nn (p : Option Addr) (k : Addr → W) : W := match p with
  | some a => k a
  | none => ff
def rd (ρ : Env) (x : Operand) (k : Value → W) : W := match evO ρ x with
  | some v => k v
  | none => ff
def rds (ρ : Env) : List Operand → (List Value → W) → W
  | [], k => k []
  | x :: xs, k => rd ρ x fun v => rds ρ xs fun vs => k (v :: vs)
def rdp (ρ : Env) : List (Nat × Operand) → (List (Nat × Value) → W) → W
  | [], k => k []
  | (i, x) :: xs, k => rd ρ x fun v => rdp ρ xs fun vs => k ((i, v) :: vs)
def dr (v : Value) (k : Addr → W) : W := match v with
  | .pointer p => nn p k
  | _ => ff
def str (l : List UInt8) : Value := .string ⟨l.toArray⟩
def unstr (b : ByteArray) : List UInt8 := b.data.toList
def ss (s : List UInt8) (l h : Int) : List UInt8 := (s.take h.toNat).drop l.toNat
section tables
variable (P : Program)
def aggB (t : TypeId) : Bool := match P.underlying t with
  | some (.struct _) | some (.array ..) => true
  | _ => false
def szOf (t : TypeId) : Nat := match P.info? t with
  | some i => i.size
  | none => 0
def fieldOf (t : TypeId) (f : Nat) : Option Field := match P.underlying t with
  | some (.struct fs) => fs[f]?
  | _ => none
def sz (t : TypeId) (k : Nat → W) : W := match P.info? t with
  | some i => k i.size
  | none => ff
def zro (t : TypeId) (k : Array Value → W) : W := match P.info? t with
  | some i => match i.zero with
    | some z => k z.cells
    | none => ff
  | none => ff
end tables
def slp (p : Option Addr) (l c : Int) (sz : Nat) : Option Addr := if c.toNat = l.toNat then p else p.map (·.add (l.toNat * sz))
def slv (p : Option Addr) (l h c : Int) (sz : Nat) : Value := .slice (slp p l c sz) (h.toNat - l.toNat) (c.toNat - l.toNat)
def one (v : Value) : Bool := v.oneCell'
def binR (P : Program) (op : BinOp) (t : TypeId) (ox oy : Operand) (x y : Value) (k : Kr) : W :=
  match x, y with
  | .int a m, .int b n =>
    match op with
    | .shl => rq (0 ≤ n) (k (.val (.int a (a.wrap (m * 2 ^ (min n.toNat a.bits))))))
    | .shr => rq (0 ≤ n) (k (.val (.int a (m.fdiv (2 ^ (min n.toNat a.bits))))))
    | .add => if a = b then k (.val (.int a (a.wrap (m + n)))) else ff
    | .sub => if a = b then k (.val (.int a (a.wrap (m - n)))) else ff
    | .mul => if a = b then k (.val (.int a (a.wrap (m * n)))) else ff
    | .quo => if a = b then rq (n ≠ 0) (k (.val (.int a (a.wrap (m.tdiv n))))) else ff
    | .rem => if a = b then rq (n ≠ 0) (k (.val (.int a (m.tmod n)))) else ff
    | .and => if a = b then k (.val (.int a (bits .and a m n))) else ff
    | .or => if a = b then k (.val (.int a (bits .or a m n))) else ff
    | .xor => if a = b then k (.val (.int a (bits .xor a m n))) else ff
    | .andNot => if a = b then k (.val (.int a (bits .andNot a m n))) else ff
    | .eql => if a = b then k (.val (.bool (m == n))) else ff
    | .neq => if a = b then k (.val (.bool (m != n))) else ff
    | .lss => if a = b then k (.val (.bool (decide (m < n)))) else ff
    | .leq => if a = b then k (.val (.bool (decide (m ≤ n)))) else ff
    | .gtr => if a = b then k (.val (.bool (decide (n < m)))) else ff
    | .geq => if a = b then k (.val (.bool (decide (n ≤ m)))) else ff
  | .string a, .string b =>
    match op with
    | .add => rq (((unstr a).length : Int) + ((unstr b).length : Int) ≤ 9223372036854775807) (k (.val (str (unstr a ++ unstr b))))
    | .eql => k (.val (.bool (unstr a == unstr b)))
    | .neq => k (.val (.bool (!(unstr a == unstr b))))
    | .lss => k (.val (.bool (Op.bytesLess (unstr a) (unstr b))))
    | .leq => k (.val (.bool (Op.bytesLess (unstr a) (unstr b) || unstr a == unstr b)))
    | .gtr => k (.val (.bool (!(Op.bytesLess (unstr a) (unstr b) || unstr a == unstr b))))
    | .geq => k (.val (.bool (!(Op.bytesLess (unstr a) (unstr b)))))
    | _ => ff
  | .pointer p, .pointer none =>
    match P.underlying t, op with
    | some (.pointer _), .eql => k (.val (.bool p.isNone))
    | some (.pointer _), .neq => k (.val (.bool (!p.isNone)))
    | _, _ => ff
  | .map p, .map none =>
    match P.underlying t, op with
    | some (.map _ _), .eql => k (.val (.bool p.isNone))
    | some (.map _ _), .neq => k (.val (.bool (!p.isNone)))
    | _, _ => ff
  | .bool a, .bool b =>
    match P.underlying t, op with
    | some .bool, .eql => k (.val (.bool (a == b)))
    | some .bool, .neq => k (.val (.bool (!(a == b))))
    | _, _ => ff
  | x, y => k (.sm (do eqGuard op t ox oy x y; binOp op t x y))
def convR (P : Program) (s d : TypeId) (x : Value) (k : Kr) : W :=
  match x with
  | .int _ n => match P.underlying s, P.underlying d with
    | some _, some (.int b) => k (.val (.int b (b.wrap n)))
    | _, _ => ff
  | .string b => match P.underlying s, P.underlying d with
    | some .string, some .string => k (.val (.string b))
    | _, _ => k (.sm (convert s d x))
  | x => k (.sm (convert s d x))
def bnd (o : Option Value) (d : Int) (k : Int → W) : W := match o with
  | none => k d
  | some (.int _ n) => k n
  | some _ => ff
def rdo (ρ : Env) (x : Option Operand) (k : Option Value → W) : W := match x with
  | none => k none
  | some x => rd ρ x fun v => k (some v)
def sliceR (P : Program) (t : TypeId) (x : Value) (lo hi : Option Value) (k : Kr) : W :=
  match P.underlying t, x with
  | some .string, .string b => bnd lo 0 fun l => bnd hi ((unstr b).length : Int) fun h =>
      rq (0 ≤ l ∧ l ≤ h ∧ h ≤ ((unstr b).length : Int)) (k (.val (str (ss (unstr b) l h))))
  | some (.slice e), .slice p n c => bnd lo 0 fun l => bnd hi (n : Int) fun h =>
      sz P e fun z => rq (0 ≤ l ∧ l ≤ h ∧ h ≤ (c : Int)) (k (.val (slv p l h c z)))
  | some (.array m e), .pointer p => nn p fun a => bnd lo 0 fun l => bnd hi (m : Int) fun h =>
      sz P e fun z => rq (0 ≤ l ∧ l ≤ h ∧ h ≤ (m : Int)) (k (.val (slv (some a) l h m z)))
  | _, _ => ff
def idxAddrR (P : Program) (t : TypeId) (x i : Value) (k : Kr) : W :=
  match P.underlying t, x, i with
  | some (.slice e), .slice p n _, .int _ j => sz P e fun z => rq (0 ≤ j ∧ j < (n : Int)) (nn p fun a => k (.val (.pointer (some (a.add (j.toNat * z))))))
  | some (.array m e), .pointer p, .int _ j => sz P e fun z => nn p fun a => rq (0 ≤ j ∧ j < (m : Int)) (k (.val (.pointer (some (a.add (j.toNat * z))))))
  | _, _, _ => ff
def idxR (P : Program) (t : TypeId) (x i : Value) (k : Kr) : W :=
  match P.underlying t, x, i with
  | some .string, .string b, .int _ j => rq (0 ≤ j ∧ j < ((unstr b).length : Int)) (k (.val (.int .u8 (((unstr b).getD j.toNat 0).toNat : Int))))
  | _, x, i => k (.sm (Instr.index t x i))
def entered (P : Program) (f : FuncId) : Bool := match P.funcs[f]? with
  | some fn => fn.body.isSome && !(fn.name == "runtime.NumGoroutine")
  | none => false
def ent (P : Program) (f : FuncId) (k : W) : W := match entered P f with
  | true => k
  | false => ff
def callR (P : Program) (fv : Value) (args : List Value) (k : Kr) : W :=
  match fv with
  | .func (.func f) first cap => ent P f (k (.cl f (first ++ args.toArray ++ cap)))
  | _ => ff
def extR (P : Program) (f : FuncId) (args : Array Value) (k : Kr) : W := match P.funcs[f]? with
  | some fn => match fn.name == "runtime.NumGoroutine", fn.body.isNone, Extern.findNext fn, Extern.find fn with
    | false, true, none, some e => k (.sm (e args))
    | _, _, _, _ => ff
  | none => ff
def callS (P : Program) (f : FuncId) (args : List Value) (k : Kr) : W :=
  match entered P f with
  | true => k (.cl f args.toArray)
  | false => extR P f args.toArray k
def builtR (P : Program) (b : Builtin) (ts : Array TypeId) (ty : TypeId) (args : List Value) (k : Kr) : W :=
  match b, args with
  | .len, [.string s] => match (ts[0]?).bind P.underlying with
    | some .string => k (.val (.int .i64 ((unstr s).length : Int)))
    | _ => ff
  | .len, [.slice _ n _] => match (ts[0]?).bind P.underlying with
    | some (.slice _) => k (.val (.int .i64 (n : Int)))
    | _ => ff
  | .len, args => k (.sm (Builtin.len_ ts ty args.toArray))
  | .cap, args => k (.sm (Builtin.cap_ ts ty args.toArray))
  | .min, [.int a x, .int _ y] => k (.val (.int a (if y < x then y else x)))
  | .max, [.int a x, .int _ y] => k (.val (.int a (if x < y then y else x)))
  | .append, args => k (.sm (Builtin.append_ ts ty args.toArray))
  | .copy, args => k (.sm (Builtin.copy_ ts ty args.toArray))
  | .clear, args => k (.sm (Builtin.clear_ ts ty args.toArray))
  | .delete, args => k (.sm (Builtin.delete_ ts ty args.toArray))
  | _, _ => ff
def dec (P : Program) (op : Op) (ty : TypeId) (ρ : Env) (k : Kr) : W :=
  match op with
  | .move x | .assign x => rd ρ x fun v => k (.val v)
  | .pick c x y => rd ρ c fun vc => match vc with
    | .bool b => cnd b (rd ρ x fun v => k (.val v)) (rd ρ y fun v => k (.val v))
    | _ => ff
  | .alloc e => zro P e fun z => k (.nw z e fun a => .pointer (some a))
  | .box e x => rd ρ x fun v => k (.nw v.cells e fun a => .pointer (some a))
  | .build t ps => rdp ρ ps.toList fun vs => zro P t fun z => match P.underlying t with
    | some (.struct fs) => if fs.all (fun f => (P.info? f.type).isSome) then match Instr.fill (fun i => (fs[i]?).map fun f => (f.offset, szOf P f.type)) z vs with
      | some cs => k (.val (.agg cs))
      | none => ff
      else ff
    | some (.array _ e) => sz P e fun n => match Instr.fill (fun i => some (i * n, n)) z vs with
      | some cs => k (.val (.agg cs))
      | none => ff
    | _ => ff
  | .buildSlice t n ps => rdp ρ ps.toList fun vs => match P.underlying t with
    | some (.slice e) => sz P e fun m => zro P e fun z => match Instr.fill (fun i => some (i * m, m)) ((Array.range (n * m)).map (z[· % z.size]!)) vs with
        | some cs => if n * m ≤ 16777216 then k (.nw cs e fun a => .slice (some a) n n) else ff
        | none => ff
    | _ => ff
  | .load t x => rd ρ x fun v => dr v fun a => match aggB P t with
    | true => sz P t fun n => k (.ldn n a)
    | false => match P.underlying t with | some _ => k (.ld1 a) | none => ff
  | .store t x y => rd ρ x fun v => dr v fun a => rd ρ y fun u => sz P t fun n => if u.cells.size = n then k (.st u.cells.toList a) else ff
  | .nilCheck x => rd ρ x fun v => match v with
    | .pointer p => nn p fun a => k (.val (.pointer (some a)))
    | .func (.func f) fi ca => k (.val (.func (.func f) fi ca))
    | _ => ff
  | .binOp op t x y _ => rd ρ x fun vx => rd ρ y fun vy => binR P op t x y vx vy k
  | .unOp op _ x => rd ρ x fun v => match op, v with
    | .not, .bool b => k (.val (.bool (!b)))
    | .neg, .int a n => k (.val (.int a (a.wrap (0 - n))))
    | _, _ => ff
  | .convert s d x => rd ρ x fun v => convR P s d v k
  | .makeFunc fn fi ca => rds ρ fi.toList fun a => rds ρ ca.toList fun b => k (.val (.func fn a.toArray b.toArray))
  | .makeMap _ none => k (.nwo (.map #[] 0) fun r => .map (some r))
  | .makeSlice t l c => rd ρ l fun vl => rd ρ c fun vc => k (.sm (Instr.makeSlice t vl vc))
  | .slice t x lo hi none => rd ρ x fun v => rdo ρ lo fun l => rdo ρ hi fun h => sliceR P t v l h k
  | .fieldAddr s x f => rd ρ x fun v => dr v fun a => match fieldOf P s f with
    | some g => sz P g.type fun n => if n = 0 then ff else k (.val (.pointer (some (a.add g.offset))))
    | none => ff
  | .field t x f => rd ρ x fun v => match v, fieldOf P t f with
    | .agg cs, some g => match aggB P g.type with
      | true => sz P g.type fun n => k (.val (.agg (cs.extract g.offset (g.offset + n))))
      | false => match P.underlying g.type with
        | some _ => match cs[g.offset]? with
          | some u => k (.val u)
          | none => ff
        | none => ff
    | _, _ => ff
  | .indexAddr t x i => rd ρ x fun v => rd ρ i fun j => idxAddrR P t v j k
  | .index t x i => rd ρ x fun v => rd ρ i fun j => idxR P t v j k
  | .lookup t x i b => rd ρ x fun v => rd ρ i fun j => k (.sm (Instr.lookup t v j b))
  | .mapUpdate t m i x => rd ρ m fun v => rd ρ i fun j => rd ρ x fun u => k (.um (Instr.mapUpdate t v j u))
  | .mapEntry t m i => rd ρ m fun v => rd ρ i fun j => k (.sm (Instr.mapEntry t v j))
  | .entryStore t m i x => rd ρ m fun v => rd ρ i fun j => rd ρ x fun u => k (.um (Instr.entryStore t v j u))
  | .range t x => rd ρ x fun v => k (.sm (Instr.range t v))
  | .next it b => rd ρ it fun v => k (.nx (Instr.next v b ty))
  | .entry it => rd ρ it fun v => k (.sm (Instr.entry v))
  | .extract x i => rd ρ x fun v => match v with
    | .tuple vs => match vs[i]? with
      | some u => k (.val u)
      | none => ff
    | _ => ff
  | .call ⟨.value f, args, _⟩ => match f with
    | .func g => rds ρ args.toList fun vs => callS P g vs k
    | f => rd ρ f fun fv => rds ρ args.toList fun vs => callR P fv vs k
  | .call ⟨.builtin b, args, ts⟩ => rds ρ args.toList fun vs => builtR P b ts ty vs k
  | _ => ff
end Go.Sp
namespace Go.Sp
open Go
theorem rd_spec {ρ : Env} {e : Operand → Value} (he : ∀ x v, evO ρ x = some v → e x = v) {x : Operand} {k : Value → W} {w : World} (h : rd ρ x k w) : k (e x) w := by
  unfold rd at h
  cases hx : evO ρ x with
  | none => simp [hx, ff] at h
  | some v => simp [hx] at h; rw [he x v hx]; exact h
theorem rds_spec {ρ : Env} {e : Operand → Value} (he : ∀ x v, evO ρ x = some v → e x = v) : ∀ {xs : List Operand} {k : List Value → W} {w : World}, rds ρ xs k w → k (xs.map e) w
  | [], _, _, h => h
  | _ :: _, k, _, h => rds_spec (k := fun vs => k (e _ :: vs)) he (rd_spec (k := fun v => rds ρ _ fun vs => k (v :: vs)) he h)
theorem rdp_spec {ρ : Env} {e : Operand → Value} (he : ∀ x v, evO ρ x = some v → e x = v) : ∀ {xs : List (Nat × Operand)} {k : List (Nat × Value) → W} {w : World}, rdp ρ xs k w → k (xs.map fun (i, x) => (i, e x)) w
  | [], _, _, h => h
  | (_, _) :: _, k, _, h => rdp_spec (k := fun vs => k ((_, e _) :: vs)) he (rd_spec (k := fun v => rdp ρ _ fun vs => k ((_, v) :: vs)) he h)
theorem rdo_spec {ρ : Env} {e : Operand → Value} (he : ∀ x v, evO ρ x = some v → e x = v) {x : Option Operand} {k : Option Value → W} {w : World} (h : rdo ρ x k w) : k (x.map e) w := by
  cases x with
  | none => exact h
  | some x => exact rd_spec (k := fun v => k (some v)) he h
theorem nn_spec {p : Option Addr} {k : Addr → W} {w : World} (h : nn p k w) : ∃ a, p = some a ∧ k a w := by
  cases p with
  | none => exact h.elim
  | some a => exact ⟨a, rfl, h⟩
theorem dr_spec {v : Value} {k : Addr → W} {w : World} (h : dr v k w) : ∃ a, v = .pointer (some a) ∧ k a w := by
  unfold dr at h
  split at h
  · obtain ⟨a, rfl, h⟩ := nn_spec h; exact ⟨a, rfl, h⟩
  · exact h.elim
theorem bnd_spec {o : Option Value} {d : Int} {k : Int → W} {w : World} (h : bnd o d k w) : ∃ n, (o = none ∧ n = d ∨ ∃ a, o = some (.int a n)) ∧ k n w := by
  unfold bnd at h
  split at h
  · exact ⟨d, .inl ⟨rfl, rfl⟩, h⟩
  · rename_i a n; exact ⟨n, .inr ⟨a, rfl⟩, h⟩
  · exact h.elim
theorem unstr_toList (b : ByteArray) : b.toList = unstr b := Lib.toList_data b
theorem unstr_length (b : ByteArray) : (unstr b).length = b.size := by simp [unstr]
theorem str_append (a b : ByteArray) : str (unstr a ++ unstr b) = .string (a ++ b) := by
  have : (⟨(unstr a ++ unstr b).toArray⟩ : ByteArray) = a ++ b := by
    apply ByteArray.ext
    apply Array.toList_inj.1
    simp [unstr]
  simp only [str, this]
def Is (P : Program) (s : Sem Next) (r : Rq) : Prop := ∀ w, s.run P w = r.sem.run P w
section
variable {P : Program} {k : Kr} {w : World}
theorem is_val {s : Sem Value} {v : Value} (h : ∀ w, s.run P w = .ok v w) : Is P (do pure (.value (← s))) (.val v) := fun w => by
  simp [Rq.sem, h]
theorem is_sm {s : Sem Value} : Is P (do pure (.value (← s))) (.sm s) := fun _ => rfl
theorem is_nx {s : Sem Value} : Is P (do pure (.value (← s))) (.nx s) := fun _ => rfl
theorem is_um {s : Sem Unit} : Is P (do s; pure .skip) (.um s) := fun _ => rfl
theorem und {P : Program} {t : TypeId} {d : TypeDesc} (h : P.underlying t = some d) (w : World) : (underlying t).run P w = .ok d w := run_underlying h w
theorem szOf_run {P : Program} {t : TypeId} {i : TypeInfo} (h : P.info? t = some i) (w : World) : (sizeOf t).run P w = .ok (szOf P t) w := by
  simp [sizeOf, typeInfo, szOf, h]
theorem eqIn_ptr {t e : TypeId} (hu : P.underlying t = some (.pointer e)) (d : Nat) (p : Option Addr) (w : World) :
    (Op.equalIn (d + 1) t (.pointer p) (.pointer none)).run P w = .ok p.isNone w := by
  cases p <;> simp [Op.equalIn, und hu]
theorem eq_ptr {t e : TypeId} (hu : P.underlying t = some (.pointer e)) (p : Option Addr) (w : World) :
    (Op.equal t (.pointer p) (.pointer none)).run P w = .ok p.isNone w := eqIn_ptr hu 9999 p w
theorem eqIn_map {t e f : TypeId} (hu : P.underlying t = some (.map e f)) (d : Nat) (p : Option Nat) (w : World) :
    (Op.equalIn (d + 1) t (.map p) (.map none)).run P w = .ok p.isNone w := by
  cases p <;> simp [Op.equalIn, und hu]
theorem eq_map {t e f : TypeId} (hu : P.underlying t = some (.map e f)) (p : Option Nat) (w : World) :
    (Op.equal t (.map p) (.map none)).run P w = .ok p.isNone w := eqIn_map hu 9999 p w
theorem eqIn_bool {t : TypeId} (hu : P.underlying t = some .bool) (d : Nat) (p q : Bool) (w : World) :
    (Op.equalIn (d + 1) t (.bool p) (.bool q)).run P w = .ok (p == q) w := by
  simp [Op.equalIn, und hu]
theorem eq_bool {t : TypeId} (hu : P.underlying t = some .bool) (p q : Bool) (w : World) :
    (Op.equal t (.bool p) (.bool q)).run P w = .ok (p == q) w := eqIn_bool hu 9999 p q w
theorem binR_sound {op : BinOp} {t : TypeId} {ox oy : Operand} {x y : Value} (h : binR P op t ox oy x y k w) :
    ∃ r, k r w ∧ Is P (do pure (.value (← (do eqGuard op t ox oy x y; binOp op t x y)))) r := by
  unfold binR at h
  split at h
  · rename_i a m b n
    cases op <;> simp only [] at h
    case shl =>
      refine ⟨_, h.2, is_val fun w => ?_⟩
      simp only [eqGuard_at_int, pure_bind, binOp_shl, Op.shift, Int.not_lt.2 h.1, if_false]; rfl
    case shr =>
      refine ⟨_, h.2, is_val fun w => ?_⟩
      simp only [eqGuard_at_int, pure_bind, binOp_shr, Op.shift, Int.not_lt.2 h.1, if_false]; rfl
    case quo =>
      split at h
      case isFalse => exact h.elim
      rename_i e; subst e
      refine ⟨_, h.2, is_val fun w => ?_⟩
      simp only [eqGuard_at_int, pure_bind, binOp_quo, Op.intDiv, h.1, if_false]; rfl
    case rem =>
      split at h
      case isFalse => exact h.elim
      rename_i e; subst e
      refine ⟨_, h.2, is_val fun w => ?_⟩
      simp only [eqGuard_at_int, pure_bind, binOp_rem, Op.intDiv, h.1, if_false]; rfl
    all_goals
      split at h
      case isFalse => exact h.elim
      rename_i e; subst e
      refine ⟨_, h, is_val fun w => ?_⟩
      simp only [eqGuard_at_int, pure_bind, binOp_add, binOp_sub, binOp_mul, binOp_and, binOp_or, binOp_xor, binOp_andNot, binOp_eql, binOp_neq, binOp_lss, binOp_leq, binOp_gtr, binOp_geq, Op.intArith, intBits_and, intBits_or, intBits_xor, intBits_andNot]
      rfl
  · rename_i a b
    cases op <;> simp only [] at h
    case add =>
      refine ⟨_, h.2, is_val fun w => ?_⟩
      have h1 := h.1
      rw [unstr_length, unstr_length] at h1
      have h2 : ¬ ((a.size + b.size : Nat) : Int) > IntKind.i64.max := by rw [IntKind.max_i64]; omega
      simp only [eqGuard_at_string, pure_bind, binOp, Op.stringOp, h2, if_false, str_append]; rfl
    all_goals first
      | exact h.elim
      | (refine ⟨_, h, is_val fun w => ?_⟩
         simp only [eqGuard_at_string, pure_bind, binOp, Op.stringOp, unstr_toList]; rfl)
  · rename_i p
    cases hu : P.underlying t with
    | none => simp only [hu] at h; exact h.elim
    | some d =>
      simp only [hu] at h
      cases d <;> try exact h.elim
      cases op <;> first
        | exact h.elim
        | (refine ⟨_, h, is_val fun w => ?_⟩
           simp [eqGuard_at_pointer, binOp, eq_ptr hu])
  · rename_i p
    cases hu : P.underlying t with
    | none => simp only [hu] at h; exact h.elim
    | some d =>
      simp only [hu] at h
      cases d <;> try exact h.elim
      cases op <;> first
        | exact h.elim
        | (refine ⟨_, h, is_val fun w => ?_⟩
           simp [eqGuard_at_map, binOp, eq_map hu])
  · rename_i p q
    cases hu : P.underlying t with
    | none => simp only [hu] at h; exact h.elim
    | some d =>
      simp only [hu] at h
      cases d <;> try exact h.elim
      cases op <;> first
        | exact h.elim
        | (refine ⟨_, h, is_val fun w => ?_⟩
           simp [eqGuard_at_bool, binOp, eq_bool hu])
  · exact ⟨_, h, is_sm⟩
theorem convR_sound {s d : TypeId} {x : Value} (h : convR P s d x k w) : ∃ r, k r w ∧ Is P (do pure (.value (← convert s d x))) r := by
  unfold convR at h
  split at h
  · rename_i a n
    cases hs : P.underlying s with
    | none => simp only [hs] at h; exact h.elim
    | some u =>
      cases hd : P.underlying d with
      | none => simp only [hs, hd] at h; exact h.elim
      | some v =>
        simp only [hs, hd] at h
        cases v <;> try exact h.elim
        exact ⟨_, h, is_val fun w => by simp [convert, und hs, und hd, Conv.intToInt]⟩
  · rename_i b
    by_cases hb : P.underlying s = some .string ∧ P.underlying d = some .string
    · obtain ⟨hs, hd⟩ := hb
      simp only [hs, hd] at h
      exact ⟨_, h, is_val fun w => by simp [convert, und hs, und hd]⟩
    · refine ⟨.sm (convert s d (.string b)), ?_, is_sm⟩
      revert h hb
      cases P.underlying s with
      | none => exact fun h _ => h
      | some u =>
        cases P.underlying d with
        | none => cases u <;> exact fun h _ => h
        | some v => cases u <;> first | exact fun h _ => h | (cases v <;> first | exact fun h _ => h | exact fun _ hb => absurd ⟨rfl, rfl⟩ hb)
  · exact ⟨_, h, is_sm⟩
theorem sz_spec {t : TypeId} {q : Nat → W} (h : sz P t q w) : ∃ n, (∀ w, (sizeOf t).run P w = .ok n w) ∧ szOf P t = n ∧ q n w := by
  unfold sz at h
  cases hi : P.info? t with
  | none => simp only [hi] at h; exact h.elim
  | some i => simp only [hi] at h; exact ⟨i.size, fun w => by simp [sizeOf, typeInfo, hi], by simp [szOf, hi], h⟩
theorem zro_spec {t : TypeId} {q : Array Value → W} (h : zro P t q w) : ∃ z, (∀ w, (zeroValue t).run P w = .ok z w) ∧ q z.cells w := by
  unfold zro at h
  cases hi : P.info? t with
  | none => simp only [hi] at h; exact h.elim
  | some i =>
    cases hz : i.zero with
    | none => simp only [hi, hz] at h; exact h.elim
    | some z => simp only [hi, hz] at h; exact ⟨z, fun w => by simp [zeroValue, typeInfo, hi, hz], h⟩
theorem agg_true {t : TypeId} (h : aggB P t = true) (w : World) : (isAgg t).run P w = .ok true w := by
  unfold aggB at h
  split at h
  · rename_i fs hu; simp [isAgg, und hu]
  · rename_i n e hu; simp [isAgg, und hu]
  · cases h
theorem agg_false {t : TypeId} {d : TypeDesc} (h : aggB P t = false) (hd : P.underlying t = some d) (w : World) : (isAgg t).run P w = .ok false w := by
  unfold aggB at h
  rw [hd] at h
  simp only [isAgg, Sem.run_bind, und hd, Result.andThen_ok]
  cases d <;> simp at h ⊢
end
end Go.Sp
namespace Go.Sp
open Go
section
variable {P : Program} {k : Kr} {w : World}
theorem bound_ok {a : IntKind} {i : Int} {y : Nat} {c : BoundsCode} (h : 0 ≤ i ∧ i ≤ y) (w : World) : (Instr.sliceBound (.int a i) y c).run P w = .ok i.toNat w := by
  simp [Instr.sliceBound, asIntOf, h]
theorem bounds_ok {b : Bool} {len cap : Nat} {lo hi : Option Value} {l h : Int}
    (hl : lo = none ∧ l = 0 ∨ ∃ a, lo = some (.int a l)) (hh : hi = none ∧ h = (len : Int) ∨ ∃ a, hi = some (.int a h))
    (hb : 0 ≤ l ∧ l ≤ h ∧ h ≤ (cap : Int)) (w : World) :
    (Instr.sliceBounds b len cap lo hi none).run P w = .ok (l.toNat, h.toNat, cap) w := by
  have h1 : l ≤ (h.toNat : Int) := by omega
  rcases hl with ⟨rfl, rfl⟩ | ⟨a, rfl⟩ <;> rcases hh with ⟨rfl, rfl⟩ | ⟨a', rfl⟩
  · simp [Instr.sliceBounds]
  · have hb2 : 0 ≤ h ∧ h ≤ (cap : Int) := ⟨hb.2.1, hb.2.2⟩
    simp [Instr.sliceBounds, bound_ok hb2]
  · have hb2 : 0 ≤ l ∧ l ≤ (len : Int) := ⟨hb.1, hb.2.1⟩
    simp [Instr.sliceBounds, bound_ok hb2]
  · have hb2 : 0 ≤ h ∧ h ≤ (cap : Int) := ⟨by omega, hb.2.2⟩
    have hb3 : 0 ≤ l ∧ l ≤ (h.toNat : Int) := ⟨hb.1, h1⟩
    simp [Instr.sliceBounds, bound_ok hb2, bound_ok hb3]
theorem extract_ss (b : ByteArray) (l h : Nat) : b.extract l h = ⟨(((unstr b).take h).drop l).toArray⟩ := by
  apply ByteArray.ext
  apply Array.toList_inj.1
  simp [unstr, ByteArray.data_extract, List.drop_take, Array.toList_extract, List.extract]
theorem slv_eq (p : Option Addr) (l h : Int) (c sz : Nat) :
    slv p l h (c : Int) sz = .slice (if c = l.toNat then p else p.map (·.add (l.toNat * sz))) (h.toNat - l.toNat) (c - l.toNat) := by
  simp [slv, slp]
theorem sliceR_sound {t : TypeId} {x : Value} {lo hi : Option Value} (h : sliceR P t x lo hi k w) :
    ∃ r, k r w ∧ Is P (do pure (.value (← Instr.sliceAt t x lo hi none))) r := by
  unfold sliceR at h
  cases hu : P.underlying t with
  | none => simp only [hu] at h; exact h.elim
  | some d =>
    simp only [hu] at h
    cases d <;> try exact h.elim
    case string =>
      cases x <;> try exact h.elim
      rename_i b
      obtain ⟨l, hl, h⟩ := bnd_spec h
      obtain ⟨m, hm, h⟩ := bnd_spec h
      obtain ⟨hb, h⟩ := h
      rw [unstr_length] at hm hb
      exact ⟨_, h, is_val fun w => by
        simp [Instr.sliceAt, und hu, Instr.slice, bounds_ok hl hm hb, extract_ss, str, ss]⟩
    case slice e =>
      cases x <;> try exact h.elim
      rename_i p n c
      obtain ⟨l, hl, h⟩ := bnd_spec h
      obtain ⟨m, hm, h⟩ := bnd_spec h
      obtain ⟨z, hz, _, h⟩ := sz_spec h
      obtain ⟨hb, h⟩ := h
      exact ⟨_, h, is_val fun w => by
        simp [Instr.sliceAt, und hu, Instr.slice, bounds_ok hl hm hb, hz, slv_eq]⟩
    case array m e =>
      cases x <;> try exact h.elim
      rename_i p
      have h' : nn p (fun a => bnd lo 0 fun l => bnd hi (m : Int) fun h => sz P e fun z => rq (0 ≤ l ∧ l ≤ h ∧ h ≤ (m : Int)) (k (.val (slv (some a) l h m z)))) w := h
      clear h
      obtain ⟨a, rfl, h⟩ := nn_spec h'
      obtain ⟨l, hl, h⟩ := bnd_spec h
      obtain ⟨u, hm, h⟩ := bnd_spec h
      obtain ⟨z, hz, _, h⟩ := sz_spec h
      obtain ⟨hb, h⟩ := h
      refine ⟨_, h, is_val fun w => ?_⟩
      simp only [Instr.sliceAt, Sem.run_bind, und hu, Result.andThen_ok, Instr.sureAddr, Sem.run_pure, bounds_ok hl hm hb, hz, slv_eq]
      split <;> rfl
theorem idxAddrR_sound {t : TypeId} {x i : Value} (h : idxAddrR P t x i k w) : ∃ r, k r w ∧ Is P (do pure (.value (← Instr.indexAt t x i))) r := by
  unfold idxAddrR at h
  cases hu : P.underlying t with
  | none => simp only [hu] at h; exact h.elim
  | some d =>
    simp only [hu] at h
    cases d <;> try exact h.elim
    case slice e =>
      cases x <;> try exact h.elim
      cases i <;> try exact h.elim
      rename_i p n c a j
      obtain ⟨z, hz, _, h⟩ := sz_spec h
      obtain ⟨hb, h⟩ := h
      obtain ⟨b, rfl, h⟩ := nn_spec h
      exact ⟨_, h, is_val fun w => by simp [Instr.indexAt, asIntOf, und hu, hb, hz]⟩
    case array m e =>
      cases x <;> try exact h.elim
      cases i <;> try exact h.elim
      rename_i p a j
      obtain ⟨z, hz, _, h⟩ := sz_spec h
      obtain ⟨b, rfl, h⟩ := nn_spec h
      obtain ⟨hb, h⟩ := h
      exact ⟨_, h, is_val fun w => by simp [Instr.indexAt, asIntOf, und hu, hb, hz, Instr.sureAddr]⟩
theorem idxR_sound {t : TypeId} {x i : Value} (h : idxR P t x i k w) : ∃ r, k r w ∧ Is P (do pure (.value (← Instr.index t x i))) r := by
  by_cases hc : P.underlying t = some .string ∧ (∃ b, x = .string b) ∧ ∃ a j, i = .int a j
  · obtain ⟨hu, ⟨b, rfl⟩, a, j, rfl⟩ := hc
    unfold idxR at h
    simp only [hu] at h
    obtain ⟨hb, h⟩ := h
    refine ⟨_, h, is_val fun w => ?_⟩
    rw [unstr_length] at hb
    have hlt : j.toNat < b.size := by omega
    have e : b[j.toNat]? = some ((unstr b).getD j.toNat 0) := by
      rw [getElem?_pos b j.toNat hlt]
      simp [unstr, ByteArray.getElem_eq_getElem_data, hlt]
    simp [Instr.index, asIntOf, und hu, hb.1, e]
  · refine ⟨.sm (Instr.index t x i), ?_, is_sm⟩
    unfold idxR at h
    revert h hc
    cases P.underlying t with
    | none => exact fun h _ => h
    | some d => cases d <;> first
      | exact fun h _ => h
      | (cases x <;> first
          | exact fun h _ => h
          | (cases i <;> first
              | exact fun h _ => h
              | exact fun _ hc => absurd ⟨rfl, ⟨_, rfl⟩, _, _, rfl⟩ hc))
theorem builtR_sound {b : Builtin} {ts : Array TypeId} {ty : TypeId} {args : List Value} (h : builtR P b ts ty args k w) :
    ∃ r, k r w ∧ ∀ c, Is P (builtin b ts ty c args.toArray) r := by
  unfold builtR at h
  split at h
  · rename_i s
    cases h0 : (ts[0]?).bind P.underlying with
    | none => simp only [h0] at h; exact h.elim
    | some d =>
      simp only [h0] at h
      cases d <;> try exact h.elim
      obtain ⟨t, h1, h2⟩ := Option.bind_eq_some_iff.1 h0
      exact ⟨_, h, fun _ => is_val fun w => by simp [Builtin.len_, h1, und h2, goInt, unstr]⟩
  · rename_i p n q
    cases h0 : (ts[0]?).bind P.underlying with
    | none => simp only [h0] at h; exact h.elim
    | some d =>
      simp only [h0] at h
      cases d <;> try exact h.elim
      obtain ⟨t, h1, h2⟩ := Option.bind_eq_some_iff.1 h0
      exact ⟨_, h, fun _ => is_val fun w => by simp [Builtin.len_, h1, und h2, goInt]⟩
  · exact ⟨_, h, fun _ => is_sm⟩
  · exact ⟨_, h, fun _ => is_sm⟩
  · exact ⟨_, h, fun _ => is_val fun w => by simp [Builtin.min_, Builtin.min2]⟩
  · exact ⟨_, h, fun _ => is_val fun w => by simp [Builtin.max_, Builtin.max2]⟩
  · exact ⟨_, h, fun _ => is_sm⟩
  · exact ⟨_, h, fun _ => is_sm⟩
  · exact ⟨_, h, fun _ => is_sm⟩
  · exact ⟨_, h, fun _ => is_sm⟩
  · exact h.elim
theorem callFunc_entered {f : FuncId} (h : entered P f = true) (args : Array Value) (w : World) : (callFunc f args).run P w = .ok (.enter f args) w := by
  unfold entered at h
  cases hf : P.funcs[f]? with
  | none => simp [hf] at h
  | some fn =>
    simp only [hf, Bool.and_eq_true, Bool.not_eq_true'] at h
    have h2 : ¬ fn.name = "runtime.NumGoroutine" := by simpa using h.2
    have h3 : ¬ fn.body = none := by intro e; simp [e] at h
    simp [callFunc, hf, h2, h3]
end
end Go.Sp
namespace Go.Sp
open Go
section
variable {P : Program} {k : Kr} {w : World}
theorem rds_eq {e : Operand → Value} (xs : Array Operand) : (xs.toList.map e).toArray = xs.map e := by
  apply Array.toList_inj.1; simp
theorem mapM_ok {α β : Type} {P : Program} (f : α → Sem β) (g : α → β) : ∀ (l : List α) (_ : ∀ x ∈ l, ∀ w, (f x).run P w = .ok (g x) w) (w : World), (l.mapM f).run P w = .ok (l.map g) w
  | [], _, w => by simp
  | x :: l, h, w => by simp [h x (by simp), mapM_ok f g l fun y hy => h y (by simp [hy])]
theorem mapMA_ok {α β : Type} {P : Program} (f : α → Sem β) (g : α → β) (a : Array α) (h : ∀ x ∈ a.toList, ∀ w, (f x).run P w = .ok (g x) w) (w : World) : (a.mapM f).run P w = .ok (a.map g) w := by
  rw [Array.mapM_eq_mapM_toList]
  simp [mapM_ok f g a.toList h w]
  apply Array.toList_inj.1; simp
theorem andThen_assoc {α β γ : Type} (r : Result α) (f : α → World → Result β) (g : β → World → Result γ) : (r.andThen f).andThen g = r.andThen fun a w => (f a w).andThen g := by
  cases r <;> rfl
theorem load_is {t : TypeId} {a : Addr} (h : (match aggB P t with
    | true => sz P t fun n => k (.ldn n a)
    | false => match P.underlying t with | some _ => k (.ld1 a) | none => ff) w) : ∃ r, k r w ∧ Is P (do pure (.value (← Instr.loadAt t (.pointer (some a))))) r := by
  cases hb : aggB P t with
  | true =>
    simp only [hb] at h
    obtain ⟨n, hn, _, h⟩ := sz_spec h
    exact ⟨_, h, fun w => by simp [Instr.loadAt, Instr.sureAddr, loadVar, agg_true hb, hn, Rq.sem, andThen_assoc]⟩
  | false =>
    simp only [hb] at h
    cases hu : P.underlying t with
    | none => simp only [hu] at h; exact h.elim
    | some d =>
      simp only [hu] at h
      exact ⟨_, h, fun w => by simp [Instr.loadAt, Instr.sureAddr, loadVar, agg_false hb hu, Rq.sem]⟩
theorem field_is {t : TypeId} {f : Nat} {v : Value} (h : (match v, fieldOf P t f with
    | .agg cs, some g => match aggB P g.type with
      | true => sz P g.type fun n => k (.val (.agg (cs.extract g.offset (g.offset + n))))
      | false => match P.underlying g.type with
        | some _ => match cs[g.offset]? with
          | some u => k (.val u)
          | none => ff
        | none => ff
    | _, _ => ff) w) : ∃ r, k r w ∧ Is P (do pure (.value (← Instr.field t v f))) r := by
  cases v <;> try exact h.elim
  rename_i cs
  unfold fieldOf at h
  cases hu : P.underlying t with
  | none => simp only [hu] at h; exact h.elim
  | some d =>
    simp only [hu] at h
    cases d <;> try exact h.elim
    rename_i fs
    cases hf : fs[f]? with
    | none => simp only [hf] at h; exact h.elim
    | some g =>
      simp only [hf] at h
      cases hb : aggB P g.type with
      | true =>
        simp only [hb] at h
        obtain ⟨n, hn, _, h⟩ := sz_spec h
        exact ⟨_, h, is_val fun w => by simp [Instr.field, und hu, hf, asAgg, part, agg_true hb, hn]⟩
      | false =>
        simp only [hb] at h
        cases hu' : P.underlying g.type with
        | none => simp only [hu'] at h; exact h.elim
        | some d' =>
          simp only [hu'] at h
          cases hc : cs[g.offset]? with
          | none => simp only [hc] at h; exact h.elim
          | some u =>
            simp only [hc] at h
            exact ⟨_, h, is_val fun w => by simp [Instr.field, und hu, hf, asAgg, part, agg_false hb hu', hc]⟩
theorem places_ok {fs : Array Field} (h : fs.all (fun f => (P.info? f.type).isSome) = true) (w : World) :
    (fs.mapM fun f => do pure (f.offset, ← sizeOf f.type) : Sem (Array (Nat × Nat))).run P w = .ok (fs.map fun f => (f.offset, szOf P f.type)) w := by
  refine mapMA_ok _ (fun f => (f.offset, szOf P f.type)) fs (fun f hf w => ?_) w
  have := Array.all_eq_true_iff_forall_mem.1 h f (by simpa using hf)
  obtain ⟨i, hi⟩ := Option.isSome_iff_exists.1 this
  simp [szOf_run hi]
theorem dec_sound {op : Op} {ty : TypeId} {dst : Option Tmp} {pos : String} {after : Array Edge} {g : Option (Nat × Bool)} {ρ : Env} {e : Operand → Value}
    (he : ∀ x v, evO ρ x = some v → e x = v) (h : dec P op ty ρ k w) : ∃ r, k r w ∧ Is P (execOp e ⟨dst, op, ty, pos, after, g⟩) r := by
  cases op <;> try exact h.elim
  case move x => exact ⟨_, rd_spec (k := fun v => k (.val v)) he h, fun _ => rfl⟩
  case assign x => exact ⟨_, rd_spec (k := fun v => k (.val v)) he h, fun _ => rfl⟩
  case pick c x y =>
    simp only [dec] at h
    have h := rd_spec he h
    cases hb : e c <;> simp only [hb] at h <;> try exact h.elim
    rename_i b
    cases b
    · exact ⟨_, rd_spec (k := fun v => k (.val v)) he h, fun w => by simp [execOp, hb, asBool, Rq.sem]⟩
    · exact ⟨_, rd_spec (k := fun v => k (.val v)) he h, fun w => by simp [execOp, hb, asBool, Rq.sem]⟩
  case alloc el =>
    simp only [dec] at h
    obtain ⟨z, hz, h⟩ := zro_spec h
    exact ⟨_, h, fun w => by simp [execOp, Instr.alloc, hz, newVar, newRow, Rq.sem]⟩
  case box el x =>
    exact ⟨_, rd_spec (k := fun v => k (.nw v.cells el fun a => .pointer (some a))) he h, fun w => by simp [execOp, Instr.box, newVar, newRow, Rq.sem]⟩
  case build t ps =>
    simp only [dec] at h
    have h := rdp_spec he h
    obtain ⟨z, hz, h⟩ := zro_spec h
    have hps : (ps.map fun (i, x) => (i, e x)).toList = List.map (fun (i, x) => (i, e x)) ps.toList := by simp
    cases hu : P.underlying t with
    | none => simp only [hu] at h; exact h.elim
    | some d =>
      simp only [hu] at h
      cases d <;> try exact h.elim
      case struct fs =>
        by_cases hall : fs.all (fun f => (P.info? f.type).isSome) = true
        · simp only [hall, if_true] at h
          cases hfl : Instr.fill (fun i => (fs[i]?).map fun f => (f.offset, szOf P f.type)) z.cells (ps.toList.map fun (i, x) => (i, e x)) with
          | none => simp only [hfl] at h; exact h.elim
          | some cs =>
            simp only [hfl] at h
            refine ⟨_, h, is_val fun w => ?_⟩
            have hp := places_ok hall w
            have hg : (fun (i : Nat) => (fs.map fun (f : Field) => (f.offset, szOf P f.type))[i]?) = fun (i : Nat) => (fs[i]?).map fun (f : Field) => (f.offset, szOf P f.type) := by
              funext i; simp
            simp only [Instr.build, Sem.run_bind, hz, Result.andThen_ok, und hu, hp, hps, hg, hfl, Sem.run_pure]
        · simp only [hall] at h; exact h.elim
      case array n el =>
        obtain ⟨m, hm, _, h⟩ := sz_spec h
        cases hfl : Instr.fill (fun i => some (i * m, m)) z.cells (ps.toList.map fun (i, x) => (i, e x)) with
        | none => simp only [hfl] at h; exact h.elim
        | some cs =>
          simp only [hfl] at h
          refine ⟨_, h, is_val fun w => ?_⟩
          simp only [Instr.build, Sem.run_bind, hz, Result.andThen_ok, und hu, hm, hps, hfl, Sem.run_pure]
  case buildSlice t n ps =>
    simp only [dec] at h
    have h := rdp_spec he h
    have hps : (ps.map fun (i, x) => (i, e x)).toList = List.map (fun (i, x) => (i, e x)) ps.toList := by simp
    cases hu : P.underlying t with
    | none => simp only [hu] at h; exact h.elim
    | some d =>
      simp only [hu] at h
      cases d <;> try exact h.elim
      obtain ⟨m, hm, _, h⟩ := sz_spec h
      obtain ⟨z, hz, h⟩ := zro_spec h
      generalize hq : Instr.fill (fun i => some (i * m, m)) ((Array.range (n * m)).map (z.cells[· % z.cells.size]!)) (ps.toList.map fun (i, x) => (i, e x)) = q at h
      cases q with
      | none => exact h.elim
      | some cs =>
        by_cases hc : n * m ≤ 16777216
        · simp only [hc, if_true] at h
          refine ⟨_, h, fun w => ?_⟩
          have h1 : ¬ n * m > 2 ^ 24 := by omega
          by_cases h0 : n * m = 0
          · simp only [h0, Array.range_zero', List.map_toArray, List.map_nil] at hq
            simp only [execOp, Instr.buildSlice, Sem.run_bind, und hu, Result.andThen_ok, hm, h0, hps, Rq.sem, newRow, run_newObj, pure_bind, Array.range_zero', List.map_toArray, List.map_nil, if_true, Sem.run_pure]
            have h2 : ¬ (0 : Nat) > 2 ^ 24 := by omega
            simp only [h2, if_false, Sem.run_bind, Sem.run_pure, Result.andThen_ok, hq, run_newObj]
          · simp only [execOp, Instr.buildSlice, Sem.run_bind, und hu, Result.andThen_ok, hm, h1, if_false, h0, hz, Sem.run_pure, hps, hq, Rq.sem, newRow, run_newObj, pure_bind]
        · simp only [hc, if_false] at h; exact h.elim
  case load t x =>
    simp only [dec] at h
    have h := rd_spec he h
    obtain ⟨a, ha, h⟩ := dr_spec h
    obtain ⟨r, h1, h2⟩ := load_is h
    exact ⟨r, h1, fun w => by simpa [execOp, ha] using h2 w⟩
  case store t x y =>
    simp only [dec] at h
    have h := rd_spec he h
    obtain ⟨a, ha, h⟩ := dr_spec h
    have h := rd_spec he h
    obtain ⟨n, hn, _, h⟩ := sz_spec h
    by_cases hc : (e y).cells.size = n
    · simp only [hc, if_true] at h
      exact ⟨_, h, fun w => by simp [execOp, ha, Instr.storeAt, Instr.sureAddr, storeVar, hn, hc, Rq.sem]⟩
    · simp only [hc, if_false] at h; exact h.elim
  case nilCheck x =>
    simp only [dec] at h
    have h := rd_spec he h
    cases hv : e x <;> simp only [hv] at h <;> try exact h.elim
    case pointer p =>
      obtain ⟨a, rfl, h⟩ := nn_spec h
      exact ⟨_, h, fun w => by simp [execOp, hv, Rq.sem]⟩
    case func fn fi ca =>
      cases fn <;> try exact h.elim
      exact ⟨_, h, fun w => by simp [execOp, hv, Rq.sem]⟩
  case binOp op t x y yt =>
    simp only [dec] at h
    have h := rd_spec he (rd_spec (k := fun vx => rd ρ y fun vy => binR P op t x y vx vy k) he h)
    exact binR_sound h
  case unOp op t x =>
    simp only [dec] at h
    have h := rd_spec he h
    cases hv : e x <;> cases op <;> simp only [hv] at h <;> first
      | exact h.elim
      | exact ⟨_, h, fun w => by simp [execOp, hv, Op.unary, Op.intArith, Rq.sem]⟩
  case convert s d x =>
    simp only [dec] at h
    exact convR_sound (rd_spec he h)
  case makeFunc fn fi ca =>
    simp only [dec] at h
    have h := rds_spec he (rds_spec (k := fun a => rds ρ ca.toList fun b => k (.val (.func fn a.toArray b.toArray))) he h)
    exact ⟨_, h, fun w => by simp [execOp, Instr.makeFunc, Rq.sem, rds_eq]⟩
  case makeMap t r =>
    cases r with
    | some r => exact h.elim
    | none => exact ⟨_, h, fun w => by simp [execOp, Instr.makeMap, Rq.sem]⟩
  case makeSlice t l c =>
    simp only [dec] at h
    exact ⟨_, rd_spec he (rd_spec (k := fun vl => rd ρ c fun vc => k (.sm (Instr.makeSlice t vl vc))) he h), is_sm⟩
  case slice t x lo hi mx =>
    cases mx with
    | some m => exact h.elim
    | none =>
      simp only [dec] at h
      have h := rd_spec he h
      have h := rdo_spec he h
      have h := rdo_spec he h
      exact sliceR_sound h
  case fieldAddr s x f =>
    simp only [dec] at h
    have h := rd_spec he h
    obtain ⟨a, ha, h⟩ := dr_spec h
    unfold fieldOf at h
    cases hu : P.underlying s with
    | none => simp only [hu] at h; exact h.elim
    | some d =>
      simp only [hu] at h
      cases d <;> try exact h.elim
      rename_i fs
      cases hf : fs[f]? with
      | none => simp only [hf] at h; exact h.elim
      | some g =>
        simp only [hf] at h
        obtain ⟨n, hn, _, h⟩ := sz_spec h
        by_cases h0 : n = 0
        · simp only [h0, if_true] at h; exact h.elim
        · simp only [h0, if_false] at h
          exact ⟨_, h, fun w => by simp [execOp, ha, Instr.fieldAt, und hu, hf, Instr.sureAddr, fieldPlace, hn, h0, Rq.sem]⟩
  case field t x f =>
    simp only [dec] at h
    obtain ⟨r, h1, h2⟩ := field_is (rd_spec he h)
    exact ⟨r, h1, h2⟩
  case indexAddr t x i =>
    simp only [dec] at h
    exact idxAddrR_sound (rd_spec he (rd_spec (k := fun v => rd ρ i fun j => idxAddrR P t v j k) he h))
  case index t x i =>
    simp only [dec] at h
    exact idxR_sound (rd_spec he (rd_spec (k := fun v => rd ρ i fun j => idxR P t v j k) he h))
  case lookup t x i b =>
    simp only [dec] at h
    exact ⟨_, rd_spec he (rd_spec (k := fun v => rd ρ i fun j => k (.sm (Instr.lookup t v j b))) he h), is_sm⟩
  case mapUpdate t m i x =>
    simp only [dec] at h
    exact ⟨_, rd_spec he (rd_spec (k := fun j => rd ρ x fun u => k (.um (Instr.mapUpdate t (e m) j u))) he (rd_spec (k := fun v => rd ρ i fun j => rd ρ x fun u => k (.um (Instr.mapUpdate t v j u))) he h)), is_um⟩
  case mapEntry t m i =>
    simp only [dec] at h
    exact ⟨_, rd_spec he (rd_spec (k := fun v => rd ρ i fun j => k (.sm (Instr.mapEntry t v j))) he h), is_sm⟩
  case entryStore t m i x =>
    simp only [dec] at h
    exact ⟨_, rd_spec he (rd_spec (k := fun j => rd ρ x fun u => k (.um (Instr.entryStore t (e m) j u))) he (rd_spec (k := fun v => rd ρ i fun j => rd ρ x fun u => k (.um (Instr.entryStore t v j u))) he h)), is_um⟩
  case range t x =>
    simp only [dec] at h
    exact ⟨_, rd_spec he h, is_sm⟩
  case next it b =>
    simp only [dec] at h
    exact ⟨_, rd_spec he h, is_nx⟩
  case entry it =>
    simp only [dec] at h
    exact ⟨_, rd_spec he h, is_sm⟩
  case extract x i =>
    simp only [dec] at h
    have h := rd_spec he h
    cases hv : e x <;> simp only [hv] at h <;> try exact h.elim
    rename_i vs
    cases hi : vs[i]? with
    | none => simp only [hi] at h; exact h.elim
    | some u => simp only [hi] at h; exact ⟨_, h, fun w => by simp [execOp, hv, Instr.extract, hi, Rq.sem]⟩
  case call c =>
    obtain ⟨cal, args, ts⟩ := c
    cases cal with
    | value f =>
      have gen : (rd ρ f fun fv => rds ρ args.toList fun vs => callR P fv vs k) w → ∃ r, k r w ∧ Is P (execOp e ⟨dst, .call ⟨.value f, args, ts⟩, ty, pos, after, g⟩) r := by
        intro h
        have h := rds_spec he (rd_spec (k := fun fv => rds ρ args.toList fun vs => callR P fv vs k) he h)
        unfold callR at h
        cases hf : e f <;> simp only [hf] at h <;> try exact h.elim
        rename_i fn fi ca
        cases fn <;> try exact h.elim
        rename_i f
        simp only [ent] at h
        cases hent : entered P f with
        | false => simp only [hent] at h; exact h.elim
        | true =>
          simp only [hent] at h
          refine ⟨_, h, fun w => ?_⟩
          simp only [execOp, resolve, Deferred.ofValue, hf, Sem.run_pure, pure_bind, invoke, callFunc_entered hent, Rq.sem, rds_eq]
      cases f with
      | tmp t => exact gen h
      | const v => exact gen h
      | global g => exact gen h
      | func f =>
        simp only [dec] at h
        have hf : e (.func f) = .func (.func f) #[] #[] := he (.func f) _ rfl
        have h := rds_spec he h
        unfold callS at h
        cases hent : entered P f with
        | true =>
          simp only [hent] at h
          refine ⟨_, h, fun w => ?_⟩
          simp only [execOp, resolve, Deferred.ofValue, hf, Sem.run_pure, pure_bind, invoke, callFunc_entered hent, Rq.sem, rds_eq, Array.empty_append, Array.append_empty]
        | false =>
          simp only [hent, extR] at h
          cases hfn : P.funcs[f]? with
          | none => simp only [hfn] at h; exact h.elim
          | some fn =>
            simp only [hfn] at h
            cases hn : fn.name == "runtime.NumGoroutine" with
            | true => simp only [hn] at h; exact h.elim
            | false =>
              cases hb : fn.body.isNone with
              | false => simp only [hn, hb] at h; exact h.elim
              | true =>
                cases hx : Extern.findNext fn with
                | some x => simp only [hn, hb, hx] at h; exact h.elim
                | none =>
                  cases he' : Extern.find fn with
                  | none => simp only [hn, hb, hx, he'] at h; exact h.elim
                  | some x =>
                    simp only [hn, hb, hx, he'] at h
                    refine ⟨_, h, fun w => ?_⟩
                    have h1 := run_callFunc_extern (P := P) hfn hn hb hx he' (args.map e) w
                    simp only [execOp, resolve, Deferred.ofValue, hf, Sem.run_pure, pure_bind, invoke, Rq.sem, rds_eq, Array.empty_append, Array.append_empty, h1, Sem.run_bind]
    | invoke r m => exact h.elim
    | builtin b =>
      simp only [dec] at h
      have h := rds_spec he h
      obtain ⟨r, h1, h2⟩ := builtR_sound h
      rw [rds_eq] at h2
      exact ⟨r, h1, fun w => h2 _ w⟩
end
end Go.Sp
namespace Go.Sp
open Go
def ld (e : Enc) (a : Addr) (k : e.α → W) : W := fun w => ∃ x, w.cell? a = some (e.enc x) ∧ k x w
def ldn (e : Enc) (n : Nat) (a : Addr) (k : e.α → W) : W := fun w => ∃ x cs, e.enc x = .agg cs ∧ cs.size = n ∧ (∀ i, i < n → w.cell? (a.add i) = cs[i]?) ∧ k x w
def st (a : Addr) (v : Value) (k : W) : W := fun w => one v = true ∧ (w.cell? a).isSome = true ∧ w.frozen? a = false ∧ k (w.setCell a v)
def stl : List Value → Addr → Nat → W → W
  | [], _, _, k => k
  | v :: vs, a, i, k => st (a.add i) v (stl vs a (i + 1) k)
def nwc (cells : Array Value) (t : TypeId) (k : Addr → W) : W := fun w => k ⟨w.heap.size, 0, none⟩ (w.alloc (.cells cells t))
def nwb (o : Obj) (k : Nat → W) : W := fun w => k w.heap.size (w.alloc o)
def cal (e : Enc) (P : Program) (f : FuncId) (args : Array Value) (k : e.α → W) : W := fun w => Calls P f args w fun en w' => ∃ x, en = .returned (e.enc x) ∧ k x w'
def val (e : Enc) (P : Program) (s : Sem Value) (k : e.α → W) : W := fun w => ∃ x w', s.run P w = .ok (e.enc x) w' ∧ k x w'
def unt (P : Program) (s : Sem Unit) (k : W) : W := fun w => ∃ w', s.run P w = .ok () w' ∧ k w'
def nxt (e : Enc) (P : Program) (s : Sem Value) (k1 : W) (k2 : e.α → W) : W := fun w => ∃ w', (s.run P w = .ok (.tuple #[.bool false]) w' ∧ k1 w') ∨ ∃ x, s.run P w = .ok (e.enc x) w' ∧ k2 x w'
def ldq (S : W) (e : Enc) (a : Addr) (k : e.α → W) : W := fun w => ∃ x, (∀ w', S w' → w'.cell? a = some (e.enc x)) ∧ k x w
def ldnq (S : W) (e : Enc) (n : Nat) (a : Addr) (k : e.α → W) : W := fun w => ∃ x cs, e.enc x = .agg cs ∧ cs.size = n ∧ (∀ w', S w' → ∀ i, i < n → w'.cell? (a.add i) = cs[i]?) ∧ k x w
def valq (S : W) (e : Enc) (P : Program) (s : Sem Value) (k : e.α → W) : W := fun w => ∃ x, (∀ w', S w' → s.run P w' = .ok (e.enc x) w') ∧ k x w
def ph (F : W → W) : W := fun w => ∃ S : W, S w ∧ F S w
def kpn (S : W) (F : W → W) : W := fun w => ∃ S' : W, (∀ u, S' u → S u) ∧ S' w ∧ F S' w
def exe (P : Program) (e : Enc) (S : Option W) (r : Rq) (k : Value → W) : W :=
  match S, r with
  | none, .val v => k v
  | none, .ld1 a => ld e a fun x => k (e.enc x)
  | none, .ldn n a => ldn e n a fun x => k (e.enc x)
  | none, .st vs a => stl vs a 0 (k undef)
  | none, .nw cells t f => nwc cells t fun a => k (f a)
  | none, .nwo o f => nwb o fun n => k (f n)
  | none, .cl f args => cal e P f args fun x => k (e.enc x)
  | none, .sm s => val e P s fun x => k (e.enc x)
  | none, .nx s => nxt e P s (k (.tuple #[.bool false])) fun x => k (e.enc x)
  | none, .um s => unt P s (k undef)
  | some _, .val v => k v
  | some S, .ld1 a => ldq S e a fun x => k (e.enc x)
  | some S, .ldn n a => ldnq S e n a fun x => k (e.enc x)
  | some S, .sm s => valq S e P s fun x => k (e.enc x)
  | some _, _ => ff
section
variable {P : Program} {e : Enc} {k : Value → W} {w : World}
theorem loadsFrom_ok {P : Program} {w : World} {a : Addr} (cs : Array Value) : ∀ (n i : Nat) (acc : Array Value), i + n = cs.size → acc = cs.extract 0 i → (∀ j, j < cs.size → w.cell? (a.add j) = cs[j]?) →
    (loadCellsFrom a i n acc).run P w = .ok cs w
  | 0, i, acc, h, ha, _ => by
    subst ha
    have : i = cs.size := by omega
    simp [loadCellsFrom, this]
  | n + 1, i, acc, h, ha, hc => by
    have hi : i < cs.size := by omega
    have h1 := hc i hi
    have h2 : cs[i]? = some cs[i] := by simp [hi]
    rw [h2] at h1
    simp only [loadCellsFrom, Sem.run_bind, run_load, h1, Result.andThen_ok]
    refine loadsFrom_ok cs n (i + 1) _ (by omega) ?_ hc
    subst ha
    apply Array.toList_inj.1
    simp [List.extract, List.take_succ_eq_append_getElem, hi]
theorem loads_ok {P : Program} {w : World} {a : Addr} {cs : Array Value} {n : Nat} (hn : cs.size = n) (h : ∀ i, i < n → w.cell? (a.add i) = cs[i]?) : (loadCells a n).run P w = .ok cs w := by
  subst hn
  exact loadsFrom_ok cs cs.size 0 #[] (by omega) (by simp) h
theorem stl_ok {P : Program} {a : Addr} {k : W} : ∀ (vs : List Value) (i : Nat) (w : World), stl vs a i k w → ∃ w', (storeCells a vs i).run P w = .ok () w' ∧ k w'
  | [], _, w, h => ⟨w, by simp [storeCells], h⟩
  | v :: vs, i, w, h => by
    obtain ⟨h1, h2, h3, h4⟩ := h
    obtain ⟨u, hu⟩ := Option.isSome_iff_exists.1 h2
    obtain ⟨w', hr, hk⟩ := stl_ok (P := P) vs (i + 1) _ h4
    refine ⟨w', ?_, hk⟩
    simp only [storeCells, Sem.run_bind, run_store P w _ v .plain h1, hu, h3, Bool.false_eq_true, if_false, Result.andThen_ok, hr]
theorem exe_plain {o : Oper} {a : Act} {next : Act → World → Prop} {Q : Exit → Act → World → Prop} {r : Rq} (hs : Is P (execOp a.eval o) r) (h : exe P e none r k w)
    (hk : ∀ v w', k v w' → next (a.put o.dst v) w') : o.wp P a w next Q := by
  unfold Oper.wp
  rw [hs w]
  cases r <;> simp only [exe] at h
  case val v => simpa [Rq.sem, Oper.upon] using hk _ _ h
  case ld1 ad =>
    obtain ⟨x, hx, h⟩ := h
    simpa [Rq.sem, hx, Oper.upon] using hk _ _ h
  case ldn n ad =>
    obtain ⟨x, cs, hx, hn, hc, h⟩ := h
    simp only [Rq.sem, Sem.run_bind, loads_ok hn hc, Result.andThen_ok, Sem.run_pure, Oper.upon]
    rw [← hx]; exact hk _ _ h
  case st vs ad =>
    obtain ⟨w', hr, h⟩ := stl_ok (P := P) vs 0 w h
    simp only [Rq.sem, Sem.run_bind, hr, Result.andThen_ok, Sem.run_pure, Oper.upon]
    exact hk _ _ h
  case nw cells t f => simpa [Rq.sem, newRow, Oper.upon] using hk _ _ h
  case nwo ob f => simpa [Rq.sem, Oper.upon] using hk _ _ h
  case cl f args =>
    simp only [Rq.sem, Sem.run_pure, Oper.upon]
    exact Calls.mono h fun en w' ⟨x, hx, h⟩ => by subst hx; exact hk _ _ h
  case sm s =>
    obtain ⟨x, w', hr, h⟩ := h
    simp only [Rq.sem, Sem.run_bind, hr, Result.andThen_ok, Sem.run_pure, Oper.upon]
    exact hk _ _ h
  case nx s =>
    obtain ⟨w', ⟨hr, h⟩ | ⟨x, hr, h⟩⟩ := h
    · simp only [Rq.sem, Sem.run_bind, hr, Result.andThen_ok, Sem.run_pure, Oper.upon]
      exact hk _ _ h
    · simp only [Rq.sem, Sem.run_bind, hr, Result.andThen_ok, Sem.run_pure, Oper.upon]
      exact hk _ _ h
  case um s =>
    obtain ⟨w', hr, h⟩ := h
    simp only [Rq.sem, Sem.run_bind, hr, Result.andThen_ok, Sem.run_pure, Oper.upon]
    exact hk _ _ h
theorem exe_quiet {o : Oper} {a : Act} {S : W} {r : Rq} (hs : Is P (execOp a.eval o) r) (h : exe P e (some S) r k w) :
    ∃ v, (∀ w', S w' → (execOp a.eval o).run P w' = .ok (.value v) w') ∧ k v w := by
  cases r <;> simp only [exe] at h <;> try exact h.elim
  case val v => exact ⟨v, fun w' _ => by rw [hs w']; simp [Rq.sem], h⟩
  case ld1 ad =>
    obtain ⟨x, hx, h⟩ := h
    exact ⟨_, fun w' hw => by rw [hs w']; simp [Rq.sem, hx w' hw], h⟩
  case ldn n ad =>
    obtain ⟨x, cs, hx, hn, hc, h⟩ := h
    exact ⟨_, fun w' hw => by rw [hs w', hx]; simp [Rq.sem, loads_ok hn (hc w' hw)], h⟩
  case sm s =>
    obtain ⟨x, hx, h⟩ := h
    exact ⟨_, fun w' hw => by rw [hs w']; simp [Rq.sem, hx w' hw], h⟩
end
end Go.Sp
namespace Go.Sp
open Go
def gd (ops : Array Oper) (o : Oper) (ρ : Env) (f : Bool → Env → W) : W :=
  match o.guard with
  | none => f true ρ
  | some (j, want) => match (ops[j]?).bind (·.dst) with
    | some d => match gt ρ d with
      | some (.bool b) => cnd b (f want ((d, .bool true) :: ρ)) (f (!want) ((d, .bool false) :: ρ))
      | some (.tuple _) => f false ρ
      | _ => ff
    | none => ff
def stepO (c : Cfg) (S : Option W) (ops : Array Oper) (o : Oper) (ρ : Env) (K : Env → W) : W :=
  gd ops o ρ fun run ρ => match run with
    | true => dec c.P o.op o.type ρ fun r => exe c.P (dEnc (c.T o.type) o.dst c.de) S r fun v => K (upd ρ o.dst v)
    | false => K (upd ρ o.dst undef)
def RG (c : Cfg) (ops : Array Oper) : List Oper → Env → (Env → W) → W
  | [], ρ, K => K ρ
  | o :: os, ρ, K => stepO c none ops o ρ fun ρ' => RG c ops os ρ' K
def RD (c : Cfg) (ops : Array Oper) : List (Nat × Nat) → W → Env → (Env → W) → W
  | [], _, ρ, K => K ρ
  | (i, t) :: r, S, ρ, K => match ops[i]? with
    | none => ff
    | some o => match t with
      | 0 => stepO c (some S) ops o ρ fun ρ' => RD c ops r S ρ' K
      | 1 => stepO c (some fun _ => True) ops o ρ fun ρ' => RD c ops r S ρ' K
      | 2 => stepO c none ops o ρ fun ρ' => kpn S fun S' => RD c ops r S' ρ' K
      | 3 => stepO c none ops o ρ fun ρ' => ph fun S' => RD c ops r S' ρ' K
      | _ => stepO c none ops o ρ fun ρ' => RD c ops r (fun _ => True) ρ' K
def wfo (n : Nat) (ops : Array Oper) : Bool := ops.all fun o => match o.dst with
  | none => true
  | some d => Nat.blt d n
section
variable {P : Program} {ops : Array Oper} {Q : Exit → Act → World → Prop} {md : Region.Mode}
theorem wanted_of {o : Oper} {a : Act} {j d : Nat} {want b : Bool} (hg : o.guard = some (j, want)) (hd : (ops[j]?).bind (·.dst) = some d) (hb : a.tmps.getD d undef = .bool b) (hs : d < a.tmps.size) :
    Region.wanted o (yielded ops a.tmps) = (b == want) := by
  have h1 : a.tmps[d]? = some (.bool b) := by
    have : a.tmps[d]? = some a.tmps[d] := by simp [hs]
    rw [this]
    simp [hs] at hb
    rw [hb]
  simp [Region.wanted, hg, yielded, hd, h1]
theorem wanted_tuple {o : Oper} {a : Act} {j d : Nat} {want : Bool} {vs : Array Value} (hg : o.guard = some (j, want)) (hd : (ops[j]?).bind (·.dst) = some d) (hb : a.tmps.getD d undef = .tuple vs) (hs : d < a.tmps.size) :
    Region.wanted o (yielded ops a.tmps) = false := by
  have h1 : a.tmps[d]? = some (.tuple vs) := by
    have : a.tmps[d]? = some a.tmps[d] := by simp [hs]
    rw [this]
    simp [hs] at hb
    rw [hb]
  simp [Region.wanted, hg, yielded, hd, h1]
theorem gd_spec {n : Nat} {a : Act} {ρ : Env} {o : Oper} {f : Bool → Env → W} {w : World} (hr : Rl n a ρ) (hw : wfo n ops = true) (h : gd ops o ρ f w) :
    ∃ ρ', Rl n a ρ' ∧ f (Region.wanted o (yielded ops a.tmps)) ρ' w := by
  unfold gd at h
  cases hg : o.guard with
  | none => simp only [hg] at h; exact ⟨ρ, hr, by simpa [Region.wanted, hg] using h⟩
  | some jw =>
    obtain ⟨j, want⟩ := jw
    simp only [hg] at h
    cases hd : (ops[j]?).bind (·.dst) with
    | none => simp only [hd] at h; exact h.elim
    | some d =>
      simp only [hd] at h
      cases hb : gt ρ d with
      | none => simp only [hb] at h; exact h.elim
      | some v =>
        have hv := hr.2.2 d _ hb
        have hlt : d < a.tmps.size := by
          rw [hr.2.1]
          obtain ⟨oj, hoj, hdj⟩ := Option.bind_eq_some_iff.1 hd
          have := Array.all_eq_true_iff_forall_mem.1 hw oj (Array.mem_of_getElem? hoj)
          simpa [hdj] using this
        cases v <;> simp only [hb] at h <;> try exact h.elim
        case tuple vs => exact ⟨ρ, hr, by rw [wanted_tuple hg hd hv hlt]; exact h⟩
        rename_i b
        have hwt := wanted_of hg hd hv hlt
        have ext : ∀ b', b = b' → Rl n a ((d, .bool b') :: ρ) := fun b' e => by
          subst e
          refine ⟨hr.1, hr.2.1, fun t v h => ?_⟩
          simp only [gt] at h
          cases hbt : Nat.beq d t with
          | true => simp [hbt] at h; subst h; rw [← Nat.eq_of_beq_eq_true hbt]; exact hv
          | false => simp [hbt] at h; exact hr.2.2 t v h
        cases b with
        | true => exact ⟨_, ext true rfl, by rw [hwt]; cases want <;> exact h⟩
        | false => exact ⟨_, ext false rfl, by rw [hwt]; cases want <;> exact h⟩
theorem dst_lt {n i : Nat} {o : Oper} (hw : wfo n ops = true) (ho : ops[i]? = some o) (t : Nat) (ht : o.dst = some t) : t < n := by
  have := Array.all_eq_true_iff_forall_mem.1 hw o (Array.mem_of_getElem? ho)
  simpa [ht] using this
theorem step_op {c : Cfg} {i : Nat} {o : Oper} {a : Act} {ρ : Env} {K : Env → W} {K' : Act → World → Prop} {w : World} (ho : ops[i]? = some o) (hr : Rl c.n a ρ) (hw : wfo c.n ops = true)
    (hk : ∀ a' ρ' w', Rl c.n a' ρ' → K ρ' w' → K' a' w') (h : stepO c none ops o ρ K w) : wpOp c.P ops Q i K' a w := by
  obtain ⟨ρ', hr', h⟩ := gd_spec hr hw h
  unfold wpOp
  simp only [ho]
  cases hwt : Region.wanted o (yielded ops a.tmps) with
  | false =>
    simp only [hwt] at h
    simp only [Bool.false_eq_true, if_false]
    exact hk _ _ _ (hr'.put undef (dst_lt hw ho)) h
  | true =>
    simp only [hwt] at h
    simp only [if_true]
    obtain ⟨r, h1, h2⟩ := dec_sound (dst := o.dst) (pos := o.pos) (after := o.after) (g := o.guard) (fun x v hx => evO_eval hr' hx) h
    refine .inl (exe_plain h2 h1 fun v w' hv => hk _ _ _ (hr'.put v (dst_lt hw ho)) hv)
theorem step_quiet {c : Cfg} {i : Nat} {o : Oper} {a : Act} {ρ : Env} {K : Env → W} {S : W} {w : World} (ho : ops[i]? = some o) (hr : Rl c.n a ρ) (hw : wfo c.n ops = true)
    (h : stepO c (some S) ops o ρ K w) : ∃ v ρ', YieldsIf c.P ops S o v a ∧ Rl c.n (a.put o.dst v) ρ' ∧ K ρ' w := by
  obtain ⟨ρ', hr', h⟩ := gd_spec hr hw h
  cases hwt : Region.wanted o (yielded ops a.tmps) with
  | false =>
    simp only [hwt] at h
    exact ⟨undef, _, .inr ⟨hwt, rfl⟩, hr'.put undef (dst_lt hw ho), h⟩
  | true =>
    simp only [hwt] at h
    obtain ⟨r, h1, h2⟩ := dec_sound (dst := o.dst) (pos := o.pos) (after := o.after) (g := o.guard) (fun x v hx => evO_eval hr' hx) h
    obtain ⟨v, hv, hk⟩ := exe_quiet h2 h1
    exact ⟨v, _, .inl ⟨hwt, hv⟩, hr'.put v (dst_lt hw ho), hk⟩
theorem RG_sound {c : Cfg} {K : Env → W} (hw : wfo c.n ops = true) (hK : ∀ a ρ w, Rl c.n a ρ → K ρ w → Q .normal a w) : ∀ (os : List Oper) (k : Nat), (∀ j, os[j]? = ops[k + j]?) →
    ∀ (a : Act) (ρ : Env) (w : World), Rl c.n a ρ → RG c ops os ρ K w → wpOps c.P ops Q (List.range' k os.length) a w
  | [], _, _, a, ρ, w, hr, h => by simpa [wpOps] using hK a ρ w hr h
  | o :: os, k, hos, a, ρ, w, hr, h => by
    have h0 : ops[k]? = some o := by simpa using (hos 0).symm
    rw [List.length_cons, List.range'_succ, wpOps_cons]
    exact step_op h0 hr hw (fun a' ρ' w' hr' h' => RG_sound hw hK os (k + 1) (fun j => by have := hos (j + 1); simpa [Nat.add_assoc, Nat.add_comm 1 j] using this) a' ρ' w' hr' h') h
def AnyK (P : Program) (ops : Array Oper) (Q : Exit → Act → World → Prop) (tg : Nat → Nat) : Nat → W → Array Bool → Act → World → Prop
  | 0, _, listed, a, w => Region.ready .any ops listed = [] ∧ Q .normal a w
  | fuel + 1, S, listed, a, w =>
    (Region.ready .any ops listed = [] → Q .normal a w) ∧
    ∀ i ∈ Region.ready .any ops listed, wpOp P ops Q i (fun a' w' => ∃ S' : W, S' w' ∧ (tg i ≤ 2 → ∀ u, S' u → S u) ∧ AnyK P ops Q tg fuel S' (listed.setIfInBounds i true) a' w') a w
theorem wpAny_of_AnyK {tg : Nat → Nat} : ∀ (fuel : Nat) (S : W) (listed : Array Bool) (a : Act) (w : World), AnyK P ops Q tg fuel S listed a w → wpAny P .any ops Q fuel listed a w
  | 0, _, _, _, _, h => h
  | fuel + 1, _, _, _, _, h => ⟨h.1, fun i hi => wpOp_mono (fun a' w' ⟨_, _, _, h'⟩ => wpAny_of_AnyK fuel _ _ a' w' h') (h.2 i hi)⟩
inductive Tr (ops : Array Oper) (i : Nat) : Nat → Prop
  | one {j : Nat} {o : Oper} {e : Edge} (ho : ops[j]? = some o) (he : e ∈ o.after) (hb : Region.binds .any e = true) (hi : e.on = i) : Tr ops i j
  | far {j : Nat} {o : Oper} {e : Edge} (ho : ops[j]? = some o) (he : e ∈ o.after) (hb : Region.binds .any e = true) (t : Tr ops i e.on) : Tr ops i j
def DC (ops : Array Oper) (listed : Array Bool) : Prop := ∀ j o, ops[j]? = some o → listed.getD j false = true → ∀ e ∈ o.after, Region.binds .any e = true → listed.getD e.on false = true
theorem Tr.listed {i j : Nat} {listed : Array Bool} (hd : DC ops listed) (t : Tr ops i j) : (∀ o, ops[j]? = some o → ∀ e ∈ o.after, Region.binds .any e = true → listed.getD e.on false = true) → listed.getD i false = true := by
  induction t with
  | one ho he hb hi => intro h; rw [← hi]; exact h _ ho _ he hb
  | far ho he hb t ih => intro h; exact ih fun o hoo e' he' hb' => hd _ o hoo (h _ ho _ he hb) e' he' hb'
theorem DC.set {i : Nat} {listed : Array Bool} (hd : DC ops listed) (hi : i ∈ Region.ready .any ops listed) : DC ops (listed.setIfInBounds i true) := by
  intro j o ho hj e he hb
  by_cases hij : i = j
  · subst hij
    obtain ⟨_, o', ho', hall⟩ := mem_ready.1 hi
    rw [ho] at ho'; cases ho'
    exact getD_set_true (hall e he hb)
  · rw [getD_set_ne false hij] at hj
    exact getD_set_true (hd j o ho hj e he hb)
theorem DC.start (n : Nat) : DC ops (Array.replicate n false) := by
  intro j o _ hj
  simp [Array.getD_eq_getD_getElem?, Array.getElem?_replicate] at hj
  split at hj <;> simp at hj
theorem notTr {i j : Nat} {oj : Oper} {listed : Array Bool} (hd : DC ops listed) (hi : i ∈ Region.ready .any ops listed) (hoj : ops[j]? = some oj) (hall : ∀ e ∈ oj.after, Region.binds .any e = true → listed.getD e.on false = true) : ¬ Tr ops i j := fun t => by
  have h1 := t.listed hd fun o ho e he hb => by rw [hoj] at ho; cases ho; exact hall e he hb
  have h0 := (mem_ready.1 hi).1
  rcases Nat.lt_or_ge i listed.size with h' | h'
  · simp [h'] at h0 h1; rw [h0] at h1; cases h1
  · simp [Array.getElem?_eq_none h'] at h1
theorem AnyK_first {tg : Nat → Nat} {i : Nat} {oi : Oper} {v : Value} (hi : ops[i]? = some oi) (hsel : ∀ (j : Nat) (o : Oper) cs b, ops[j]? = some o → o.op ≠ .select cs b)
    (hQ : ∀ c a w, Q (.panic c) (a.put oi.dst v) w → Q (.panic c) a w) :
    ∀ (fuel : Nat) (S : W) (listed : Array Bool) (a : Act) (w : World),
      (∀ j oj, ops[j]? = some oj → j ≠ i → listed.getD j true = false → ¬ Tr ops i j → oi.apart ops oj = true ∧ tg j ≤ 2) →
      DC ops listed → i ∈ Region.ready .any ops listed → YieldsIf P ops S oi v a → S w →
      AnyK P ops Q tg fuel S (listed.setIfInBounds i true) (a.put oi.dst v) w → AnyK P ops Q tg (fuel + 1) S listed a w := by
  intro fuel
  induction fuel with
  | zero =>
    intro S listed a w _ _ hr hy hS H
    refine ⟨fun h => (by rw [h] at hr; cases hr), fun j hj => ?_⟩
    by_cases hji : j = i
    · subst hji; exact hy.wpOp hi hS ⟨S, hS, fun _ _ h => h, H⟩
    · have := ready_mono hj hji
      rw [H.1] at this
      cases this
  | succ fuel ih =>
    intro S listed a w hfree hd hr hy hS H
    refine ⟨fun h => (by rw [h] at hr; cases hr), fun j hj => ?_⟩
    by_cases hji : j = i
    · subst hji; exact hy.wpOp hi hS ⟨S, hS, fun _ _ h => h, H⟩
    · have h1 := H.2 j (ready_mono hj hji)
      have hj' := hj
      obtain ⟨hjun, oj, hoj, hall⟩ := mem_ready.1 hj
      have hnot := notTr hd hr hoj hall
      have hfj := hfree j oj hoj hji hjun hnot
      have h2 := wpOp_putIf hoj hfj.1 (fun cs b => hsel i oi cs b hi) (fun cs b => hsel j oj cs b hoj) hQ hy h1
      have hfree' : ∀ k ok, ops[k]? = some ok → k ≠ i → (listed.setIfInBounds j true).getD k true = false →
          ¬ Tr ops i k → oi.apart ops ok = true ∧ tg k ≤ 2 := fun k ok hk hki hun hno => by
        refine hfree k ok hk hki ?_ hno
        by_cases hjk : j = k
        · subst hjk; exact hjun
        · rw [getD_set_ne true hjk] at hun; exact hun
      refine wpOp_mono (fun a' w' ⟨hy', S', hS', hSe, h3⟩ => ?_) h2
      refine ⟨S', hS', hSe, ih S' (listed.setIfInBounds j true) a' w' hfree' (hd.set hj') (ready_mono hr (Ne.symm hji)) (hy'.imp id (fun h => h) |> fun q => q.elim (fun x => .inl ⟨x.1, fun u hu => x.2 u (hSe hfj.2 u hu)⟩) .inr) hS' ?_⟩
      rw [Array.setIfInBounds_comm _ _ hji]
      exact h3
theorem AnyK_pure {tg : Nat → Nat} {i : Nat} {oi : Oper} {v : Value} (hi : ops[i]? = some oi) (hsel : ∀ (j : Nat) (o : Oper) cs b, ops[j]? = some o → o.op ≠ .select cs b)
    (hQ : ∀ c a w, Q (.panic c) (a.put oi.dst v) w → Q (.panic c) a w) :
    ∀ (fuel : Nat) (S : W) (listed : Array Bool) (a : Act) (w : World),
      (∀ j oj, ops[j]? = some oj → j ≠ i → listed.getD j true = false → ¬ Tr ops i j → oi.apart ops oj = true) →
      DC ops listed → i ∈ Region.ready .any ops listed → YieldsIf P ops (fun _ => True) oi v a → S w →
      AnyK P ops Q tg fuel S (listed.setIfInBounds i true) (a.put oi.dst v) w → AnyK P ops Q tg (fuel + 1) S listed a w := by
  intro fuel
  induction fuel with
  | zero =>
    intro S listed a w _ _ hr hy hS H
    refine ⟨fun h => (by rw [h] at hr; cases hr), fun j hj => ?_⟩
    by_cases hji : j = i
    · subst hji; exact hy.wpOp hi trivial ⟨S, hS, fun _ _ h => h, H⟩
    · have := ready_mono hj hji
      rw [H.1] at this
      cases this
  | succ fuel ih =>
    intro S listed a w hfree hd hr hy hS H
    refine ⟨fun h => (by rw [h] at hr; cases hr), fun j hj => ?_⟩
    by_cases hji : j = i
    · subst hji; exact hy.wpOp hi trivial ⟨S, hS, fun _ _ h => h, H⟩
    · have h1 := H.2 j (ready_mono hj hji)
      have hj' := hj
      obtain ⟨hjun, oj, hoj, hall⟩ := mem_ready.1 hj
      have hnot := notTr hd hr hoj hall
      have hfj := hfree j oj hoj hji hjun hnot
      have h2 := wpOp_putIf hoj hfj (fun cs b => hsel i oi cs b hi) (fun cs b => hsel j oj cs b hoj) hQ hy h1
      have hfree' : ∀ k ok, ops[k]? = some ok → k ≠ i → (listed.setIfInBounds j true).getD k true = false →
          ¬ Tr ops i k → oi.apart ops ok = true := fun k ok hk hki hun hno => by
        refine hfree k ok hk hki ?_ hno
        by_cases hjk : j = k
        · subst hjk; exact hjun
        · rw [getD_set_ne true hjk] at hun; exact hun
      refine wpOp_mono (fun a' w' ⟨hy', S', hS', hSe, h3⟩ => ?_) h2
      refine ⟨S', hS', hSe, ih S' (listed.setIfInBounds j true) a' w' hfree' (hd.set hj') (ready_mono hr (Ne.symm hji)) hy' hS' ?_⟩
      rw [Array.setIfInBounds_comm _ _ hji]
      exact h3
def clsGo : List Oper → List Nat → List Nat
  | [], acc => acc
  | o :: os, acc => clsGo os (acc ++ [o.after.toList.foldl (fun s e => if Region.binds .any e then s ||| 2 ^ e.on ||| acc.getD e.on 0 else s) 0])
def cls (ops : Array Oper) : List Nat := clsGo ops.toList []
theorem cls_fold {acc : List Nat} {i : Nat} : ∀ (l : List Edge) (s : Nat), (l.foldl (fun s e => if Region.binds .any e then s ||| 2 ^ e.on ||| acc.getD e.on 0 else s) s).testBit i = true →
    s.testBit i = true ∨ ∃ e ∈ l, Region.binds .any e = true ∧ (e.on = i ∨ (acc.getD e.on 0).testBit i = true)
  | [], s, h => .inl h
  | e :: l, s, h => by
    rw [List.foldl_cons] at h
    rcases cls_fold l _ h with h | ⟨e', he', hb, h⟩
    · by_cases hb : Region.binds .any e = true
      · simp only [hb, if_true, Nat.testBit_or, Bool.or_eq_true] at h
        rcases h with (h | h) | h
        · exact .inl h
        · rw [Nat.testBit_two_pow] at h
          exact .inr ⟨e, by simp, hb, .inl (by simpa using h)⟩
        · exact .inr ⟨e, by simp, hb, .inr h⟩
      · simp only [hb, Bool.false_eq_true, if_false] at h; exact .inl h
    · exact .inr ⟨e', by simp [he'], hb, h⟩
theorem clsGo_spec : ∀ (os : List Oper) (acc : List Nat), (∀ j, os[j]? = ops[acc.length + j]?) → (∀ j i, (acc.getD j 0).testBit i = true → Tr ops i j) → ∀ j i, ((clsGo os acc).getD j 0).testBit i = true → Tr ops i j
  | [], _, _, h => h
  | o :: os, acc, ho, h => by
    have h0 : ops[acc.length]? = some o := by simpa using (ho 0).symm
    refine clsGo_spec os _ (fun j => ?_) (fun j i hj => ?_)
    · have := ho (j + 1)
      simpa [Nat.add_assoc, Nat.add_comm 1 j] using this
    · by_cases hlt : j < acc.length
      · refine h j i ?_
        simpa [List.getD_eq_getElem?_getD, List.getElem?_append, hlt] using hj
      · by_cases hje : j = acc.length
        · subst hje
          simp only [List.getD_eq_getElem?_getD, List.getElem?_append, Nat.lt_irrefl, if_false, Nat.sub_self, List.getElem?_cons_zero, Option.getD_some] at hj
          rcases cls_fold _ 0 hj with h1 | ⟨e, he, hb, h1⟩
          · simp at h1
          · rcases h1 with h1 | h1
            · exact .one h0 (by simpa using he) hb h1
            · exact .far h0 (by simpa using he) hb (h _ _ h1)
        · have h2 : ¬ j < acc.length + 1 := by omega
          have : (acc ++ [o.after.toList.foldl (fun s e => if Region.binds .any e then s ||| 2 ^ e.on ||| acc.getD e.on 0 else s) 0]).getD j 0 = 0 := by
            rw [List.getD_eq_getElem?_getD, List.getElem?_eq_none (by simp; omega)]; rfl
          rw [this] at hj
          simp at hj
theorem cls_spec {j i : Nat} (h : ((cls ops).getD j 0).testBit i = true) : Tr ops i j :=
  clsGo_spec ops.toList [] (by simp) (fun j i hj => by simp at hj) j i h
def ordOk (ops : Array Oper) (cl : List Nat) (tg : Nat → Nat) : Array Bool → List (Nat × Nat) → Bool
  | listed, [] => (Region.ready .any ops listed).isEmpty
  | listed, (i, t) :: r =>
    (tg i == t) && ordOk ops cl tg (listed.setIfInBounds i true) r &&
    (match t with
      | 1 => (Region.ready .any ops listed).contains i &&
          match ops[i]? with
          | none => false
          | some oi => (List.range ops.size).all fun j => j == i || listed.getD j true || Nat.testBit (cl.getD j 0) i || match ops[j]? with
            | some oj => oi.apart ops oj
            | none => true
      | 0 => (Region.ready .any ops listed).contains i &&
          match ops[i]? with
          | none => false
          | some oi => (List.range ops.size).all fun j => j == i || listed.getD j true || Nat.testBit (cl.getD j 0) i || match ops[j]? with
            | some oj => (oi.apart ops oj && Nat.ble (tg j) 2)
            | none => true
      | _ => Region.ready .any ops listed == [i])
def tagOf (l : List (Nat × Nat)) (i : Nat) : Nat := match l with
  | [] => 5
  | (j, t) :: r => bif Nat.beq i j then t else tagOf r i
theorem free_spec1 {i : Nat} {oi : Oper} {listed : Array Bool}
    (h : ((List.range ops.size).all fun j => j == i || listed.getD j true || Nat.testBit ((cls ops).getD j 0) i || match ops[j]? with
            | some oj => oi.apart ops oj
            | none => true) = true) (j : Nat) (oj : Oper)
    (hj : ops[j]? = some oj) (hne : j ≠ i) (hun : listed.getD j true = false) (hno : ¬ Tr ops i j) : oi.apart ops oj = true := by
  simp only [List.all_eq_true, List.mem_range] at h
  have h1 := h j (Array.getElem?_eq_some_iff.1 hj).1
  simp only [hj, Bool.or_eq_true, beq_iff_eq, hne, false_or, hun, Bool.false_eq_true] at h1
  exact h1.resolve_left fun h => hno (cls_spec h)
theorem free_spec' {tg : Nat → Nat} {i : Nat} {oi : Oper} {listed : Array Bool}
    (h : ((List.range ops.size).all fun j => j == i || listed.getD j true || Nat.testBit ((cls ops).getD j 0) i || match ops[j]? with
            | some oj => (oi.apart ops oj && Nat.ble (tg j) 2)
            | none => true) = true) (j : Nat) (oj : Oper)
    (hj : ops[j]? = some oj) (hne : j ≠ i) (hun : listed.getD j true = false) (hno : ¬ Tr ops i j) : oi.apart ops oj = true ∧ tg j ≤ 2 := by
  simp only [List.all_eq_true, List.mem_range] at h
  have h1 := h j (Array.getElem?_eq_some_iff.1 hj).1
  simp only [hj, Bool.or_eq_true, beq_iff_eq, hne, false_or, hun, Bool.false_eq_true, Bool.and_eq_true] at h1
  have h2 := h1.resolve_left fun h => hno (cls_spec h)
  exact ⟨h2.1, Nat.le_of_ble_eq_true h2.2⟩
theorem RD_sound {c : Cfg} {K : Env → W} {tg : Nat → Nat} (hw : wfo c.n ops = true) (hsel : Region.noSelect ops = true) (hK : ∀ a ρ w, Rl c.n a ρ → K ρ w → Q .normal a w)
    (hQ : ∀ ch a w, ¬ Q (.panic ch) a w) : ∀ (l : List (Nat × Nat)) (listed : Array Bool), DC ops listed → ordOk ops (cls ops) tg listed l = true →
    ∀ (S : W) (a : Act) (ρ : Env) (w : World), Rl c.n a ρ → S w → RD c ops l S ρ K w → AnyK c.P ops Q tg l.length S listed a w
  | [], listed, _, ho, S, a, ρ, w, hr, _, h => ⟨by simpa [ordOk] using ho, hK a ρ w hr h⟩
  | (i, t) :: r, listed, hd, ho, S, a, ρ, w, hr, hS, h => by
    simp only [ordOk, Bool.and_eq_true, beq_iff_eq] at ho
    obtain ⟨⟨htg, ho'⟩, hi⟩ := ho
    have hmem : i ∈ Region.ready .any ops listed := by
      match t, hi with
      | 0, hi => simp only [Bool.and_eq_true] at hi; simpa using hi.1
      | 1, hi => simp only [Bool.and_eq_true] at hi; simpa using hi.1
      | t + 2, hi => have : Region.ready .any ops listed = [i] := by simpa using hi
                     rw [this]; simp
    have hrec := RD_sound hw hsel hK hQ r _ (hd.set hmem) ho'
    simp only [RD] at h
    cases hop : ops[i]? with
    | none => simp only [hop] at h; exact h.elim
    | some o =>
      simp only [hop] at h
      have barrier : ∀ {F : Env → W}, (∀ a' ρ' w', Rl c.n a' ρ' → F ρ' w' → ∃ S' : W, S' w' ∧ (tg i ≤ 2 → ∀ u, S' u → S u) ∧ AnyK c.P ops Q tg r.length S' (listed.setIfInBounds i true) a' w') →
          Region.ready .any ops listed = [i] → stepO c none ops o ρ F w → AnyK c.P ops Q tg (r.length + 1) S listed a w := fun hF hre hst => by
        refine ⟨fun h0 => by rw [hre] at h0; simp at h0, fun j hj => ?_⟩
        rw [hre] at hj
        have : j = i := by simpa using hj
        subst this
        exact step_op hop hr hw hF hst
      match t, htg, hi, h with
      | 0, htg, hi, h =>
        simp only [Bool.and_eq_true, hop] at hi
        obtain ⟨v, ρ', hy, hr', hk⟩ := step_quiet hop hr hw h
        exact AnyK_first hop (Region.noSelect_spec hsel) (fun ch a w hq => absurd hq (hQ ch _ w)) r.length S listed a w (free_spec' hi.2) hd (by simpa using hi.1) hy hS (hrec S _ ρ' w hr' hS hk)
      | 1, htg, hi, h =>
        simp only [Bool.and_eq_true, hop] at hi
        obtain ⟨v, ρ', hy, hr', hk⟩ := step_quiet hop hr hw h
        exact AnyK_pure hop (Region.noSelect_spec hsel) (fun ch a w hq => absurd hq (hQ ch _ w)) r.length S listed a w (free_spec1 hi.2) hd (by simpa using hi.1) hy hS (hrec S _ ρ' w hr' hS hk)
      | 2, htg, hi, h =>
        exact barrier (fun a' ρ' w' hr' ⟨S', hsu, hs, hk⟩ => ⟨S', hs, fun _ => hsu, hrec S' a' ρ' w' hr' hs hk⟩) (by simpa using hi) h
      | 3, htg, hi, h =>
        exact barrier (fun a' ρ' w' hr' ⟨S', hs, hk⟩ => ⟨S', hs, fun hl => by omega, hrec S' a' ρ' w' hr' hs hk⟩) (by simpa using hi) h
      | t + 4, htg, hi, h =>
        exact barrier (fun a' ρ' w' hr' hk => ⟨_, trivial, fun hl => by omega, hrec _ a' ρ' w' hr' trivial hk⟩) (by simpa using hi) h
end
end Go.Sp
namespace Go.Sp
open Go
abbrev KQ := Exit → Env → W
def lift (c : Cfg) (Q : KQ) : Exit → Act → World → Prop
  | .normal, a, w => ∃ ρ, Rl c.n a ρ ∧ Q .normal ρ w
  | .exit id, a, w => ∃ ρ, Rl c.n a ρ ∧ Q (.exit id) ρ w
  | .ret, a, w => ∃ ρ, Rl c.n a ρ ∧ Q .ret ρ w
  | _, _, _ => False
def okr (c : Cfg) (id : Nat) (ops : Array Oper) (d : Bool) : Bool :=
  wfo c.n ops && (match d with
    | false => true
    | true => Region.noSelect ops && ordOk ops (cls ops) (tagOf (c.ord id).2) (Array.replicate ops.size false) (c.ord id).2 && ((c.ord id).2.length == ops.size))
def okc (c : Cfg) : Code → Bool
  | .skip | .exit _ | .ret => true
  | .region id ops d => okr c id ops d
  | .seq a b => okc c a && okc c b
  | .cond _ a b => okc c a && okc c b
  | .block _ b => okc c b
  | .loop b => okc c b
  | .scope b => okc c b
  | .label _ => true
  | _ => false
def findR : Code → Nat → Option (Array Oper × Bool)
  | .region id ops d, k => bif Nat.beq id k then some (ops, d) else none
  | .seq a b, k => match findR a k with
    | some r => some r
    | none => findR b k
  | .cond _ a b, k => match findR a k with
    | some r => some r
    | none => findR b k
  | .block _ b, k => findR b k
  | .loop b, k => findR b k
  | .scope b, k => findR b k
  | _, _ => none
def RR (c : Cfg) (id : Nat) (ρ : Env) (K : Env → W) : W :=
  match findR c.body id with
  | some (ops, false) => RG c ops ops.toList ρ K
  | some (ops, true) => match c.ord id with
    | (true, l) => ph fun S => RD c ops l S ρ K
    | (false, l) => RD c ops l (fun _ => True) ρ K
  | none => ff
def WP (c : Cfg) (x : Code) (Q : KQ) (ρ : Env) : W := fun w =>
  (c.P.follows .mixedOrders && okc c x) = true → ∀ a, Rl c.n a ρ → Code.wp c.P x (lift c Q) a w
def thn (K : Env → W) (Q : KQ) : KQ
  | .normal, ρ => K ρ
  | e, ρ => Q e ρ
def inb (id : Nat) (Q : KQ) : KQ
  | .exit id', ρ => bif Nat.beq id' id then Q .normal ρ else Q (.exit id') ρ
  | e, ρ => Q e ρ
@[go_sem] theorem thn_n (K : Env → W) (Q : KQ) (ρ : Env) : thn K Q .normal ρ = K ρ := rfl
@[go_sem] theorem thn_e (K : Env → W) (Q : KQ) (i : Nat) (ρ : Env) : thn K Q (.exit i) ρ = Q (.exit i) ρ := rfl
@[go_sem] theorem thn_r (K : Env → W) (Q : KQ) (ρ : Env) : thn K Q .ret ρ = Q .ret ρ := rfl
@[go_sem] theorem inb_n (id : Nat) (Q : KQ) (ρ : Env) : inb id Q .normal ρ = Q .normal ρ := rfl
@[go_sem] theorem inb_e (id : Nat) (Q : KQ) (ρ : Env) : inb id Q (.exit id) ρ = Q .normal ρ := by simp [inb]
@[go_sem] theorem inb_o (id i : Nat) (Q : KQ) (ρ : Env) (h : Nat.beq i id = false) : inb id Q (.exit i) ρ = Q (.exit i) ρ := by simp [inb, h]
@[go_sem] theorem inb_r (id : Nat) (Q : KQ) (ρ : Env) : inb id Q .ret ρ = Q .ret ρ := rfl
theorem lift_mono {c : Cfg} {Q Q' : KQ} (f : ∀ e ρ w, Q e ρ w → Q' e ρ w) (e : Exit) (a : Act) (w : World) (h : lift c Q e a w) : lift c Q' e a w := by
  cases e <;> first
    | exact h.elim
    | (obtain ⟨ρ, h1, h2⟩ := h; exact ⟨ρ, h1, f _ _ _ h2⟩)
section
variable {c : Cfg} {L : List HP} {Q : KQ} {ρ : Env} {w : World}
theorem wp_seq' {x y : Code} (h : WP c x (thn (WP c y Q) Q) ρ w) : WP c (.seq x y) Q ρ w := by
  intro ok a hr
  simp only [okc, Bool.and_eq_true] at ok
  have h1 := h (by simp [ok]) a hr
  refine wp_seq (wp_mono h1 fun e a w q => ?_)
  cases e with
  | normal => obtain ⟨ρ', hr', hq⟩ := q; exact hq (by simp [ok]) a hr'
  | exit id => exact q
  | ret => exact q
  | goto l => exact q.elim
  | panic ch => exact q.elim
  | outgrown => exact q.elim
theorem wp_cond' {x : Operand} {t e : Code} {b : Bool} (hx : evO ρ x = some (.bool b)) (h1 : b = true → WP c t Q ρ w) (h2 : b = false → WP c e Q ρ w) : WP c (.cond x t e) Q ρ w := by
  intro ok a hr
  simp only [okc, Bool.and_eq_true] at ok
  have hv := evO_eval hr hx
  cases b with
  | true => exact wp_cond_true hv (h1 rfl (by simp [ok]) a hr)
  | false => exact wp_cond_false hv (h2 rfl (by simp [ok]) a hr)
theorem wp_block' {id : Nat} {b : Code} (h : WP c b (inb id Q) ρ w) : WP c (.block id b) Q ρ w := by
  intro ok a hr
  refine wp_block (wp_mono (h ok a hr) fun e a w q => ?_)
  cases e with
  | normal => exact q
  | exit id' =>
    obtain ⟨ρ', hr', hq⟩ := q
    simp only [Exit.inBlock]
    by_cases hid : id' = id
    · subst hid; simp only [if_true]; exact ⟨ρ', hr', by simpa [inb] using hq⟩
    · simp only [hid, if_false]
      have : Nat.beq id' id = false := by
        cases hb : Nat.beq id' id with
        | false => rfl
        | true => exact absurd (Nat.eq_of_beq_eq_true hb) hid
      exact ⟨ρ', hr', by simpa [inb, this] using hq⟩
  | ret => exact q
  | goto l => exact q.elim
  | panic ch => exact q.elim
  | outgrown => exact q.elim
theorem wp_scope' {b : Code} (h : WP c b Q ρ w) : WP c (.scope b) Q ρ w := by
  intro ok a hr
  refine wp_scope_straight (wp_mono (h ok a hr) fun e a w q => ?_)
  cases e <;> first | exact q.elim | exact q
theorem wp_reg' {id : Nat} {ops : Array Oper} {d : Bool} (hf : findR c.body id = some (ops, d)) (h : ∀ w', hp w' = hp w → RR c id (prn (c.li id) ρ) (fun ρ' => Q .normal (prn (c.lo id) ρ')) w') : WP c (.region id ops d) Q ρ w := by
  intro ok a hr
  simp only [okc, okr, Bool.and_eq_true] at ok
  obtain ⟨hm, hwf, hd⟩ := ok
  have hr' := hr.prn (c.li id)
  cases d with
  | false =>
    have h1 := h w rfl
    simp only [RR, hf] at h1
    refine wp_region ?_
    have h2 := RG_sound (Q := lift c Q) (K := fun ρ' => Q .normal (prn (c.lo id) ρ')) hwf (fun a ρ w hr h => ⟨_, hr.prn _, h⟩) ops.toList 0 (by simp) a _ w hr' h1
    simpa [List.range_eq_range'] using h2
  | true =>
    have h1 := h w.drew (by funext n; cases n <;> rfl)
    simp only [RR, hf] at h1
    simp only [Bool.and_eq_true, beq_iff_eq] at hd
    obtain ⟨⟨hns, hord⟩, hlen⟩ := hd
    have key : ∀ (l : List (Nat × Nat)) (S : W), l = (c.ord id).2 → S w.drew → RD c ops l S (prn (c.li id) ρ) (fun ρ' => Q .normal (prn (c.lo id) ρ')) w.drew → (Code.region id ops true).wp c.P (lift c Q) a w := fun l S hl hS hR => by
      subst hl
      have h3 := RD_sound (Q := lift c Q) (K := fun ρ' => Q .normal (prn (c.lo id) ρ')) hwf hns (fun a ρ w hr h => ⟨_, hr.prn _, h⟩) (fun _ _ _ hq => hq.elim) (c.ord id).2 (Array.replicate ops.size false) (DC.start _) hord S a _ w.drew hr' hS hR
      rw [hlen] at h3
      exact wp_region_any hm (wpAny_of_AnyK _ _ _ _ _ h3)
    generalize hco : c.ord id = co at h1
    obtain ⟨b, l⟩ := co
    cases b with
    | true => obtain ⟨S, hS, hR⟩ := h1; exact key l S (by rw [hco]) hS hR
    | false => exact key l _ (by rw [hco]) trivial h1
end
end Go.Sp
namespace Go.Sp
open Go
def tup : List Value → Value
  | [v] => v
  | vs => .tuple vs.toArray
def ldv (c : Cfg) (t : TypeId) (ad : Addr) (k : Value → W) : W := match aggB c.P t with
  | true => sz c.P t fun n => ldn (c.T t) n ad fun x => k ((c.T t).enc x)
  | false => match c.P.underlying t with
    | some _ => ld (c.T t) ad fun x => k ((c.T t).enc x)
    | none => ff
def rres (c : Cfg) (ρ : Env) : List ResultVar → (List Value → W) → W
  | [], k => k []
  | .tmp t :: r, k => rd ρ (.tmp t) fun v => rres c ρ r fun vs => k (v :: vs)
  | .cell a t :: r, k => rd ρ (.tmp a) fun v => dr v fun ad => ldv c t ad fun u => rres c ρ r fun vs => k (u :: vs)
def fin (e : Enc) (G : e.α → W) (v : Value) : W := fun w => ∃ x, v = e.enc x ∧ G x w
def RT (c : Cfg) (ρ : Env) (k : Value → W) : W := rres c (prn (c.lo 1000000) ρ) c.res fun vs => k (tup vs)
def fnQ (c : Cfg) (e : Enc) (G : e.α → W) : KQ
  | .normal, ρ => RT c ρ (fin e G)
  | .ret, ρ => RT c ρ (fin e G)
  | _, _ => ff
@[go_sem] theorem fnQ_n (c : Cfg) (e : Enc) (G : e.α → W) (ρ : Env) : fnQ c e G .normal ρ = RT c ρ (fin e G) := rfl
@[go_sem] theorem fnQ_r (c : Cfg) (e : Enc) (G : e.α → W) (ρ : Env) : fnQ c e G .ret ρ = RT c ρ (fin e G) := rfl
def envA (i : Nat) : List Value → Env
  | [] => []
  | v :: vs => (i, v) :: envA (i + 1) vs
theorem ldv_spec {c : Cfg} {t : TypeId} {ad : Addr} {k : Value → W} {w : World} (h : ldv c t ad k w) : ∃ u, (loadVar t ad).run c.P w = .ok u w ∧ k u w := by
  unfold ldv at h
  cases hb : aggB c.P t with
  | true =>
    simp only [hb] at h
    obtain ⟨m, hm, _, h⟩ := sz_spec h
    obtain ⟨y, cs, hy, hn, hc, h⟩ := h
    exact ⟨_, by simp only [loadVar, Sem.run_bind, agg_true hb, Result.andThen_ok, if_true, hm, loads_ok hn hc, Sem.run_pure, hy], h⟩
  | false =>
    simp only [hb] at h
    cases hu : c.P.underlying t with
    | none => simp only [hu] at h; exact h.elim
    | some d =>
      simp only [hu] at h
      obtain ⟨y, hy, h⟩ := h
      exact ⟨_, by simp only [loadVar, Sem.run_bind, agg_false hb hu, Result.andThen_ok, Bool.false_eq_true, if_false, run_load, hy], h⟩
theorem rres_spec {c : Cfg} {ρ : Env} {a : Act} {n : Nat} (hr : Rl n a ρ) {w : World} : ∀ (rs : List ResultVar) (k : List Value → W), rres c ρ rs k w →
    ∃ vs, (rs.mapM (fun (r : ResultVar) => (match r with
      | .tmp t => pure (a.tmps.getD t undef)
      | .cell x t => do loadVar t (← asAddr (a.tmps.getD x undef)) : Sem Value))).run c.P w = .ok vs w ∧ k vs w
  | [], k, h => ⟨[], by simp, h⟩
  | .tmp t :: rs, k, h => by
    simp only [rres, rd, evO] at h
    cases hg : gt ρ t with
    | none => simp only [hg] at h; exact h.elim
    | some v =>
      simp only [hg] at h
      obtain ⟨vs, h1, h2⟩ := rres_spec hr rs _ h
      have := hr.2.2 t v hg
      exact ⟨v :: vs, by simp only [List.mapM_cons, this, pure_bind, Sem.run_bind, h1, Result.andThen_ok, Sem.run_pure], h2⟩
  | .cell x t :: rs, k, h => by
    simp only [rres, rd, evO] at h
    cases hg : gt ρ x with
    | none => simp only [hg] at h; exact h.elim
    | some v =>
      simp only [hg] at h
      have hv := hr.2.2 x v hg
      have hd := dr_spec h
      clear h
      obtain ⟨ad, rfl, h⟩ := hd
      obtain ⟨u, hu, h⟩ := ldv_spec h
      obtain ⟨vs, h1, h2⟩ := rres_spec hr rs _ h
      refine ⟨u :: vs, ?_, h2⟩
      have ha : asAddr (a.tmps.getD x undef) = pure ad := by rw [hv]; rfl
      simp only [List.mapM_cons, Sem.run_bind, ha, Sem.run_pure, Result.andThen_ok, hu, h1]
theorem tup_eq (vs : List Value) : (if h : vs.toArray.size = 1 then vs.toArray[0] else .tuple vs.toArray) = tup vs := by
  match vs with
  | [] => rfl
  | [v] => rfl
  | _ :: _ :: _ => simp [tup]
theorem RT_spec {c : Cfg} {fn : Func} (hres : fn.results.toList = c.res) {ρ : Env} {a : Act} (hr : Rl c.n a ρ) {w : World} {k : Value → W} (h : RT c ρ k w) :
    ∃ v, (results fn a.tmps).run c.P w = .ok v w ∧ k v w := by
  obtain ⟨vs, h1, h2⟩ := rres_spec (hr.prn (c.lo 1000000)) c.res _ h
  refine ⟨tup vs, ?_, h2⟩
  rw [← hres] at h1
  unfold results
  rw [Array.mapM_eq_mapM_toList]
  simp only [Sem.run_bind, Sem.run_map, Sem.run_pure]
  refine Eq.trans (congrArg (fun r => Result.andThen (Result.andThen r _) _) h1) ?_
  rw [← tup_eq]
  rfl
theorem envA_get (vs : List Value) : ∀ (i t : Nat) (v : Value), gt (envA i vs) t = some v → ∃ j, t = i + j ∧ vs[j]? = some v := by
  induction vs with
  | nil => intro i t v h; cases h
  | cons x vs ih =>
    intro i t v h
    simp only [envA, gt] at h
    cases hb : Nat.beq i t with
    | true => simp [hb] at h; subst h; exact ⟨0, by simpa using (Nat.eq_of_beq_eq_true hb).symm, rfl⟩
    | false =>
      simp [hb] at h
      obtain ⟨j, h1, h2⟩ := ih (i + 1) t v h
      exact ⟨j + 1, by omega, by simpa using h2⟩
theorem r_fn {c : Cfg} {f : FuncId} {fn : Func} {e : Enc} {args : Array Value} {G : e.α → W} {L : List HP} (hf : c.P.funcs[f]? = some fn) (hb : fn.body = some c.body) (hres : fn.results.toList = c.res)
    (hn : fn.ntmps = c.n) (ok : (c.P.follows .mixedOrders && okc c c.body) = true) {ρ : Env} (hρ : envA 0 args.toList = ρ) (hs : Nat.ble args.size c.n = true)
    (h : E L (WP c c.body (fnQ c e G) ρ)) : E L (cal e c.P f args G) := by
  subst hρ
  intro w hw
  refine calls_of_wp hf hb (wp_mono (h w hw ok _ ?_) fun en a' w' q => ?_)
  · refine ⟨rfl, ?_, fun t v ht => ?_⟩
    · have := Nat.le_of_ble_eq_true hs
      simp [hn]; omega
    · obtain ⟨j, h1, h2⟩ := envA_get _ _ _ _ ht
      have h3 : t = j := by omega
      subst h3
      have hlt : t < args.size := by
        rcases Nat.lt_or_ge t args.size with h | h
        · exact h
        · rw [List.getElem?_eq_none (by simpa using h)] at h2; cases h2
      have h4 : args[t] = v := by simpa [hlt] using h2
      simp [Array.getElem?_append, hlt, h4]
  · cases en with
    | normal =>
      obtain ⟨ρ', hr, hq⟩ := q
      obtain ⟨v, h1, x, rfl, h2⟩ := RT_spec hres hr hq
      exact ⟨hr.1, _, h1, x, rfl, h2⟩
    | ret =>
      obtain ⟨ρ', hr, hq⟩ := q
      obtain ⟨v, h1, x, rfl, h2⟩ := RT_spec hres hr hq
      exact ⟨hr.1, _, h1, x, rfl, h2⟩
    | exit id => obtain ⟨_, _, hq⟩ := q; exact hq.elim
    | goto l => exact q.elim
    | panic ch => exact q.elim
    | outgrown => exact q.elim
def Fn (e : Enc) (P : Program) (f : FuncId) (args : Array Value) (A : List HP) (B : e.α → List HP → Prop) : Prop :=
  ∀ L, E (A ++ L) (cal e P f args fun x w => ∃ X, B x X ∧ Holds w (X ++ L))
section
variable {e : Enc} {P : Program} {L L' : List HP} {w : World}
theorem r_cal {f : FuncId} {args : Array Value} {A : List HP} {B : e.α → List HP → Prop} {k : e.α → W} (h : Fn e P f args A B) (ht : Takes L A L')
    (hk : ∀ x X, B x X → E (X ++ L') (k x)) : E L (cal e P f args k) := fun w hw =>
  Calls.mono (h L' w (ht.hs hw)) fun _ w' ⟨x, he, X, hB, hX⟩ => ⟨x, he, hk x X hB w' hX⟩
theorem r_done {v : Value} {B : e.α → List HP → Prop} (x : e.α) (X : List HP) (hv : v = e.enc x) (hB : B x X) (hs : Sub (X ++ L') L) :
    E L (fin e (fun x w => ∃ X, B x X ∧ Holds w (X ++ L')) v) := fun _ hw => ⟨x, hv, X, hB, hw.sub hs⟩
theorem r_rq {p : Prop} {k : W} (hp : p) (h : E L k) : E L (rq p k) := fun w hw => ⟨hp, h w hw⟩
theorem r_cnd {b : Bool} {k1 k2 : W} (h1 : b = true → E L k1) (h2 : b = false → E L k2) : E L (cnd b k1 k2) := by
  cases b
  · exact h2 rfl
  · exact h1 rfl
theorem r_nn {p : Option Addr} {k : Addr → W} {a : Addr} (hp : p = some a) (h : E L (k a)) : E L (nn p k) := by subst hp; exact h
def HW (R : List HP) : W := fun w => Holds w R
theorem r_ph {F : W → W} (R : List HP) (s : Sub R L) (h : E L (F (HW R))) : E L (ph F) := fun w hw => ⟨HW R, hw.sub s, h w hw⟩
theorem r_ph0 {F : W → W} (h : E L (F (HW L))) : E L (ph F) := r_ph L .refl h
theorem r_kpn {R : List HP} {F : W → W} (R' : List HP) (s : Sub R R') (s' : Sub R' L) (h : E L (F (HW R'))) : E L (kpn (HW R) F) := fun w hw => ⟨HW R', fun _ hu => hu.sub s, hw.sub s', h w hw⟩
theorem r_kp0 {R : List HP} {F : W → W} (s : Sub R L) (h : E L (F (HW R))) : E L (kpn (HW R) F) := r_kpn R .refl s h
theorem cell_of {w : World} {b o : Nat} {t : TypeId} {l : List Value} (h : w.heap[b]? = some (.cells ⟨l⟩ t (0, 0))) : w.cell? ⟨b, o, none⟩ = l[o]? := by
  simp [World.cell?, h]
theorem add_of (b o i : Nat) : (⟨b, o, none⟩ : Addr).add i = ⟨b, o + i, none⟩ := by
  unfold Addr.add; split <;> simp_all
theorem r_ld {k : e.α → W} {b o : Nat} {t : TypeId} {l : List Value} {x : e.α} (ha : At L (ar b t l) L') (hl : l[o]? = some (e.enc x)) (h : E L (k x)) : E L (ld e ⟨b, o, none⟩ k) :=
  fun w hw => ⟨x, by rw [cell_of (Holds.get (ha.hs hw)), hl], h w hw⟩
theorem r_ldq {k : e.α → W} {R : List HP} {b o : Nat} {t : TypeId} {l : List Value} {x : e.α} (ha : At R (ar b t l) L') (hl : l[o]? = some (e.enc x)) (h : E L (k x)) : E L (ldq (HW R) e ⟨b, o, none⟩ k) :=
  fun w hw => ⟨x, fun _ hs => by rw [cell_of (Holds.get (ha.hs hs)), hl], h w hw⟩
theorem cells_of {w : World} {b o n : Nat} {t : TypeId} {l cs : List Value} (h : w.heap[b]? = some (.cells ⟨l⟩ t (0, 0))) (hl : (l.drop o).take n = cs) (i : Nat) (hi : i < n) :
    w.cell? ((⟨b, o, none⟩ : Addr).add i) = cs.toArray[i]? := by
  subst hl
  rw [add_of, cell_of h]
  simp [hi]
theorem r_ldn {k : e.α → W} {b o n : Nat} {t : TypeId} {l cs : List Value} {x : e.α} (ha : At L (ar b t l) L') (hx : e.enc x = .agg cs.toArray) (hn : cs.length = n) (hl : (l.drop o).take n = cs) (h : E L (k x)) :
    E L (ldn e n ⟨b, o, none⟩ k) :=
  fun w hw => ⟨x, cs.toArray, hx, by simpa using hn, fun i hi => cells_of (Holds.get (ha.hs hw)) hl i hi, h w hw⟩
theorem r_ldnq {k : e.α → W} {R : List HP} {b o n : Nat} {t : TypeId} {l cs : List Value} {x : e.α} (ha : At R (ar b t l) L') (hx : e.enc x = .agg cs.toArray) (hn : cs.length = n) (hl : (l.drop o).take n = cs) (h : E L (k x)) :
    E L (ldnq (HW R) e n ⟨b, o, none⟩ k) :=
  fun w hw => ⟨x, cs.toArray, hx, by simpa using hn, fun _ hs i hi => cells_of (Holds.get (ha.hs hs)) hl i hi, h w hw⟩
theorem setCell_heap {w : World} {b o : Nat} {t : TypeId} {l : List Value} {v : Value} (h : w.heap[b]? = some (.cells ⟨l⟩ t (0, 0))) :
    (w.setCell ⟨b, o, none⟩ v).heap = w.heap.setIfInBounds b (.cells ⟨l.set o v⟩ t (0, 0)) := by
  have hlt : b < w.heap.size := by
    rcases Nat.lt_or_ge b w.heap.size with h' | h'
    · exact h'
    · simp [Array.getElem?_eq_none h'] at h
  apply Array.ext_getElem?
  intro i
  simp only [World.setCell, Array.getElem?_modify, Array.getElem?_setIfInBounds]
  by_cases hi : b = i
  · subst hi
    simp [hlt]
    have h2 : w.heap[b] = .cells ⟨l⟩ t (0, 0) := by simpa [hlt] using h
    rw [h2]
    simp
  · simp [hi]
theorem r_st {k : W} {b o : Nat} {t : TypeId} {l : List Value} {v : Value} (ha : At L (ar b t l) L') (ho : o < l.length) (hv : one v = true) (h : E (ar b t (l.set o v) :: L') k) : E L (st ⟨b, o, none⟩ v k) := by
  intro w hw
  have h1 := ha.hs hw
  have hg := Holds.get h1
  refine ⟨hv, ?_, ?_, h _ (Holds.set h1 _ (setCell_heap hg))⟩
  · rw [cell_of hg]; simp [ho]
  · simp [World.frozen?, hg]
def spl (l : List Value) (o : Nat) : List Value → List Value
  | [] => l
  | v :: vs => spl (l.set o v) (o + 1) vs
theorem r_stl' {k : W} {b t : Nat} : ∀ (vs : List Value) (o i : Nat) (l : List Value) {L L' : List HP} (_ : At L (ar b t l) L') (_ : o + i + vs.length ≤ l.length) (_ : vs.all one = true) (_ : E (ar b t (spl l (o + i) vs) :: L') k), E L (stl vs ⟨b, o, none⟩ i k)
  | [], _, _, _, _, _, ha, _, _, h => E.at ha h
  | v :: vs, o, i, l, L, L', ha, hn, hv, h => by
    simp only [List.all_cons, Bool.and_eq_true] at hv
    simp only [List.length_cons] at hn
    unfold stl
    rw [add_of]
    exact r_st ha (by omega) hv.1 (r_stl' vs o (i + 1) _ .here (by simp; omega) hv.2 h)
theorem r_stl {k : W} {b t o : Nat} {vs l : List Value} (ha : At L (ar b t l) L') (hn : o + vs.length ≤ l.length) (hv : vs.all one = true) (h : E (ar b t (spl l o vs) :: L') k) : E L (stl vs ⟨b, o, none⟩ 0 k) :=
  r_stl' vs o 0 l ha (by simpa using hn) hv h
theorem r_nwc {k : Addr → W} {l : List Value} {t : TypeId} (h : ∀ b, E (ar b t l :: L) (k ⟨b, 0, none⟩)) : E L (nwc l.toArray t k) :=
  fun _ hw => h _ _ (Holds.push hw (.cells ⟨l⟩ t (0, 0)) rfl)
theorem r_nwb {k : Nat → W} {o : Obj} (h : ∀ b, E (blk b o :: L) (k b)) : E L (nwb o k) :=
  fun _ hw => h _ _ (Holds.push hw o rfl)
end
def RP (c : Cfg) (id : Nat) (ρ : Env) (K : Env → W) : W := RR c id ρ fun ρ' => K (prn (c.lo id) ρ')
def RTp (c : Cfg) (ρ : Env) (k : Value → W) : W := rres c ρ c.res fun vs => k (tup vs)
theorem RT_eq (c : Cfg) (ρ : Env) (k : Value → W) : RT c ρ k = RTp c (prn (c.lo 1000000) ρ) k := rfl
theorem gt_hit (d : Nat) (v : Value) (ρ : Env) : gt ((d, v) :: ρ) d = some v := by simp [gt]
theorem gt_miss (d t : Nat) (v : Value) (ρ : Env) (h : d ≠ t) : gt ((d, v) :: ρ) t = gt ρ t := by
  have : Nat.beq d t = false := by
    cases hb : Nat.beq d t with
    | false => rfl
    | true => exact absurd (Nat.eq_of_beq_eq_true hb) h
  simp [gt, this]
theorem gt_nil (t : Nat) : gt [] t = none := rfl
theorem prn_nil (ρ : Env) : prn [] ρ = [] := rfl
def prc (t : Nat) (ts : List Nat) (ρ : Env) : Option Value → Env
  | some v => (t, v) :: prn ts ρ
  | none => prn ts ρ
theorem prn_cons (t : Nat) (ts : List Nat) (ρ : Env) : prn (t :: ts) ρ = prc t ts ρ (gt ρ t) := by
  unfold prn prc; cases gt ρ t <;> rfl
theorem prc_some (t : Nat) (ts : List Nat) (ρ : Env) (v : Value) : prc t ts ρ (some v) = (t, v) :: prn ts ρ := rfl
theorem prc_none (t : Nat) (ts : List Nat) (ρ : Env) : prc t ts ρ none = prn ts ρ := rfl
attribute [go_sem] gt_hit gt_miss gt_nil prn_nil prn_cons prc_some prc_none RT_eq
def oConv (s d : TypeId) (x : Value) : Sem Value := convert s d x
def oMake (t : TypeId) (l c : Value) : Sem Value := Instr.makeSlice t l c
def oLookup (t : TypeId) (x i : Value) (b : Bool) : Sem Value := Instr.lookup t x i b
def oMapUpdate (t : TypeId) (m i x : Value) : Sem Unit := Instr.mapUpdate t m i x
def oMapEntry (t : TypeId) (m i : Value) : Sem Value := Instr.mapEntry t m i
def oEntryStore (t : TypeId) (m i x : Value) : Sem Unit := Instr.entryStore t m i x
def oRange (t : TypeId) (x : Value) : Sem Value := Instr.range t x
def oNext (x : Value) (b : Bool) (ty : TypeId) : Sem Value := Instr.next x b ty
def bt (m : List UInt8) (i : Nat) : Nat := (m.getD i 0).toNat
def oEntry (x : Value) : Sem Value := Instr.entry x
def oB_append (ts : Array TypeId) (ty : TypeId) (a : Array Value) : Sem Value := Builtin.append_ ts ty a
def oB_clear (ts : Array TypeId) (ty : TypeId) (a : Array Value) : Sem Value := Builtin.clear_ ts ty a
def oB_delete (ts : Array TypeId) (ty : TypeId) (a : Array Value) : Sem Value := Builtin.delete_ ts ty a
def oB_len (ts : Array TypeId) (ty : TypeId) (a : Array Value) : Sem Value := Builtin.len_ ts ty a
def oEq (op : BinOp) (t : TypeId) (ox oy : Operand) (x y : Value) : Sem Value := do eqGuard op t ox oy x y; binOp op t x y
abbrev eI : Enc := ⟨Int, fun n => .int .i64 n⟩
abbrev eU8 : Enc := ⟨Int, fun n => .int .u8 n⟩
abbrev eU32 : Enc := ⟨Int, fun n => .int .u32 n⟩
abbrev eU64 : Enc := ⟨Int, fun n => .int .u64 n⟩
abbrev eB : Enc := ⟨Bool, fun b => .bool b⟩
abbrev eS : Enc := ⟨List UInt8, fun s => str s⟩
abbrev eP : Enc := ⟨Option Addr, fun p => .pointer p⟩
abbrev eSl : Enc := ⟨Option Addr × Nat × Nat, fun x => .slice x.1 x.2.1 x.2.2⟩
abbrev eM : Enc := ⟨Option Nat, fun r => .map r⟩
abbrev eV : Enc := ⟨Value, fun v => v⟩
abbrev eN : Enc := ⟨Unit, fun _ => .tuple #[]⟩
abbrev eT2 (a b : Enc) : Enc := ⟨a.α × b.α, fun x => .tuple #[a.enc x.1, b.enc x.2]⟩
abbrev eT3 (a b c : Enc) : Enc := ⟨a.α × b.α × c.α, fun x => .tuple #[a.enc x.1, b.enc x.2.1, c.enc x.2.2]⟩
abbrev eA (a : Enc) : Enc := ⟨List a.α, fun l => .agg (l.map a.enc).toArray⟩
def lk.{u} {α : Type u} (d : α) : List (Nat × α) → Nat → α
  | [], _ => d
  | (i, x) :: r, t => bif Nat.beq i t then x else lk d r t
end Go.Sp
namespace Go.Sp
open Go
inductive Sk
  | skip | ret | bad
  | exit (id : Nat)
  | reg (id : Nat)
  | seq (a b : Sk)
  | cond (x : Operand) (a b : Sk)
  | block (id : Nat) (b : Sk)
  | loop (b : Sk)
def sk : Code → Sk
  | .skip => .skip
  | .label _ => .skip
  | .ret => .ret
  | .exit id => .exit id
  | .region id _ _ => .reg id
  | .seq a b => .seq (sk a) (sk b)
  | .cond x a b => .cond x (sk a) (sk b)
  | .block id b => .block id (sk b)
  | .loop b => .loop (sk b)
  | .scope b => sk b
  | _ => .bad
def regs : Code → List (Nat × Array Oper × Bool)
  | .region id ops d => [(id, ops, d)]
  | .seq a b => regs a ++ regs b
  | .cond _ a b => regs a ++ regs b
  | .block _ b => regs b
  | .loop b => regs b
  | .scope b => regs b
  | _ => []
def nodupB : List Nat → Bool
  | [] => true
  | x :: r => !r.contains x && nodupB r
def fnd : List (Nat × Array Oper × Bool) → Nat → Option (Array Oper × Bool)
  | [], _ => none
  | (i, o, d) :: r, k => bif Nat.beq i k then some (o, d) else fnd r k
theorem fnd_append (l r : List (Nat × Array Oper × Bool)) (k : Nat) : fnd (l ++ r) k = match fnd l k with
    | some x => some x
    | none => fnd r k := by
  induction l with
  | nil => rfl
  | cons x l ih =>
    obtain ⟨i, o, d⟩ := x
    simp only [List.cons_append, fnd]
    cases Nat.beq i k <;> simp [ih]
theorem findR_fnd : ∀ (c : Code) (k : Nat), findR c k = fnd (regs c) k
  | .region id ops d, k => by simp only [findR, regs, fnd]
  | .seq a b, k => by simp only [findR, regs, fnd_append, findR_fnd a k, findR_fnd b k]; try (cases fnd (regs a) k <;> rfl)
  | .cond x a b, k => by simp only [findR, regs, fnd_append, findR_fnd a k, findR_fnd b k]; try (cases fnd (regs a) k <;> rfl)
  | .block _ b, k => by simp only [findR, regs, findR_fnd b k]
  | .loop b, k => by simp only [findR, regs, findR_fnd b k]
  | .scope b, k => by simp only [findR, regs, findR_fnd b k]
  | .skip, _ | .label _, _ | .ret, _ | .exit _, _ => rfl
  | .rangeFunc _ _ _ _, _ => rfl
  | .goto _, _ => rfl
  | .refuse _, _ => rfl
theorem fnd_mem : ∀ (l : List (Nat × Array Oper × Bool)), nodupB (l.map (·.1)) = true → ∀ x, x ∈ l → fnd l x.1 = some x.2
  | (i, o, d) :: r, h, x, hx => by
    simp only [List.map_cons, nodupB, Bool.and_eq_true, Bool.not_eq_true', List.contains_eq_mem, decide_eq_false_iff_not] at h
    simp only [fnd]
    rcases List.mem_cons.1 hx with rfl | hx
    · simp
    · have hne : Nat.beq i x.1 = false := by
        cases hb : Nat.beq i x.1 with
        | false => rfl
        | true => exact absurd (List.mem_map.2 ⟨x, hx, (Nat.eq_of_beq_eq_true hb).symm⟩) h.1
      simp only [hne, cond_false]
      exact fnd_mem r h.2 x hx
def dw (F : W) : W := fun w => ∀ w', hp w' = hp w → F w'
def D (c : Cfg) : Sk → KQ → Env → W
  | .skip, Q, ρ => Q .normal ρ
  | .ret, Q, ρ => Q .ret ρ
  | .bad, _, _ => ff
  | .exit id, Q, ρ => Q (.exit id) ρ
  | .reg id, Q, ρ => dw (RP c id (prn (c.li id) ρ) (Q .normal))
  | .seq a b, Q, ρ => D c a (thn (D c b Q) Q) ρ
  | .cond x a b, Q, ρ => match evO ρ x with
    | some (.bool true) => D c a Q ρ
    | some (.bool false) => D c b Q ρ
    | _ => ff
  | .block id b, Q, ρ => D c b (inb id Q) ρ
  | .loop b, Q, ρ => fun w => ∃ (sl : List Nat) (J : Nat → Env → W) (n0 : Nat), J n0 (prn sl ρ) w ∧ ∀ n ρ w, J n ρ w → ∃ Q' : KQ, (∀ e ρ w, Q' e ρ w → thn (fun ρ' w' => ∃ m, m < n ∧ J m (prn sl ρ') w') Q e ρ w) ∧ D c b Q' ρ w
theorem WP_mono {c : Cfg} {x : Code} {Q Q' : KQ} {ρ : Env} {w : World} (h : WP c x Q ρ w) (f : ∀ e ρ w, Q e ρ w → Q' e ρ w) : WP c x Q' ρ w := fun ok a hr =>
  wp_mono (h ok a hr) fun e a w q => lift_mono f e a w q
theorem hp_E {w w' : World} {L : List HP} (e : hp w' = hp w) (h : Holds w L) : Holds w' L := by unfold Holds at *; rw [e]; exact h
theorem D_sound {c : Cfg} : ∀ (x : Code), (∀ r, r ∈ regs x → findR c.body r.1 = some r.2) → ∀ (Q : KQ) (ρ : Env) (w : World), D c (sk x) Q ρ w → WP c x Q ρ w
  | .skip, _, Q, ρ, w, h => fun _ _ hr => wp_skip ⟨ρ, hr, h⟩
  | .label _, _, Q, ρ, w, h => fun _ _ hr => wp_label ⟨ρ, hr, h⟩
  | .ret, _, Q, ρ, w, h => fun _ _ hr => wp_ret ⟨ρ, hr, h⟩
  | .exit _, _, Q, ρ, w, h => fun _ _ hr => wp_exit ⟨ρ, hr, h⟩
  | .region id ops d, hg, Q, ρ, w, h => by
    have hf := hg (id, ops, d) (by simp [regs])
    exact wp_reg' hf h
  | .seq a b, hg, Q, ρ, w, h => by
    have h1 := D_sound a (fun r hr => hg r (by simp [regs, hr])) _ ρ w h
    refine wp_seq' (WP_mono h1 fun e ρ w q => ?_)
    cases e with
    | normal => exact D_sound b (fun r hr => hg r (by simp [regs, hr])) _ _ _ q
    | exit id => exact q
    | goto l => exact q
    | ret => exact q
    | panic ch => exact q
    | outgrown => exact q
  | .cond x a b, hg, Q, ρ, w, h => by
    simp only [sk, D] at h
    cases hx : evO ρ x with
    | none => simp only [hx] at h; exact h.elim
    | some v =>
      simp only [hx] at h
      cases v with
      | bool t =>
        refine wp_cond' hx (fun ht => ?_) fun ht => ?_
        · subst ht; exact D_sound a (fun r hr => hg r (by simp [regs, hr])) _ ρ w h
        · subst ht; exact D_sound b (fun r hr => hg r (by simp [regs, hr])) _ ρ w h
      | _ => exact h.elim
  | .block id b, hg, Q, ρ, w, h => wp_block' (D_sound b (fun r hr => hg r (by simpa [regs] using hr)) _ ρ w h)
  | .loop b, hg, Q, ρ, w, h => by
    intro ok a hr
    obtain ⟨sl, J, n0, hJ, h⟩ := h
    refine wp_loop_ghost (fun n a w => ∃ ρ, Rl c.n a ρ ∧ J n ρ w) n0 ⟨_, hr.prn sl, hJ⟩ ?_
    rintro n a w ⟨ρ, hr, hJ⟩
    obtain ⟨Q', hq, hD⟩ := h n ρ w hJ
    refine wp_mono (WP_mono (D_sound b (fun r hr => hg r (by simpa [regs] using hr)) _ ρ w hD) hq ok a hr) fun e a w q => ?_
    cases e with
    | normal => obtain ⟨ρ', hr', m, hm, h3⟩ := q; exact ⟨m, hm, _, hr'.prn sl, h3⟩
    | exit id => exact q
    | ret => exact q
    | goto l => exact q.elim
    | panic ch => exact q.elim
    | outgrown => exact q.elim
  | .scope b, hg, Q, ρ, w, h => wp_scope' (D_sound b (fun r hr => hg r (by simpa [regs] using hr)) Q ρ w h)
  | .rangeFunc _ _ _ _, _, _, _, _, h => h.elim
  | .goto _, _, _, _, _, h => h.elim
  | .refuse _, _, _, _, _, h => h.elim
section
variable {c : Cfg} {L : List HP} {Q : KQ} {ρ : Env} {w : World}
theorem d_seq {x y : Sk} (h : ∀ K : Env → W, (∀ L ρ, E L (D c y Q ρ) → E L (K ρ)) → E L (D c x (thn K Q) ρ)) : E L (D c (.seq x y) Q ρ) :=
  h _ (fun _ _ h => h)
theorem d_reg {id : Nat} (h : E L (RP c id (prn (c.li id) ρ) (Q .normal))) : E L (D c (.reg id) Q ρ) := fun _ hw w' e => h w' (hp_E e hw)
theorem d_cond {x : Operand} {t e : Sk} {b : Bool} (hx : evO ρ x = some (.bool b)) (h1 : b = true → E L (D c t Q ρ)) (h2 : b = false → E L (D c e Q ρ)) : E L (D c (.cond x t e) Q ρ) := by
  unfold D; rw [hx]
  cases b with
  | true => exact h1 rfl
  | false => exact h2 rfl
@[go_sem] theorem d_skip : D c .skip Q ρ = Q .normal ρ := rfl
@[go_sem] theorem d_ret : D c .ret Q ρ = Q .ret ρ := rfl
@[go_sem] theorem d_exit (id : Nat) : D c (.exit id) Q ρ = Q (.exit id) ρ := rfl
@[go_sem] theorem d_block (id : Nat) (b : Sk) : D c (.block id b) Q ρ = D c b (inb id Q) ρ := rfl
def bk {σ : Type} (sl : List Nat) (env : σ → Env) (J : σ → List HP → Prop) (ν : σ → Nat) (s : σ) : Env → W := fun ρ' w => ∃ s' L', prn sl ρ' = env s' ∧ J s' L' ∧ ν s' < ν s ∧ Holds w L'
theorem d_loop {σ : Type} (sl : List Nat) (env : σ → Env) (J : σ → List HP → Prop) (ν : σ → Nat) (s0 : σ) {b : Sk} (h0 : prn sl ρ = env s0) (hJ : J s0 L)
    (round : ∀ s L, J s L → E L (D c b (thn (bk sl env J ν s) Q) (env s))) : E L (D c (.loop b) Q ρ) := by
  intro w hw
  refine ⟨sl, fun n ρ w => ∃ s L, ρ = env s ∧ J s L ∧ Holds w L ∧ ν s = n, ν s0, ⟨s0, L, h0, hJ, hw, rfl⟩, ?_⟩
  rintro n ρ w ⟨s, L', rfl, hJ, hw, rfl⟩
  refine ⟨_, fun e ρ w q => ?_, round s L' hJ w hw⟩
  cases e with
  | normal => obtain ⟨s', L', h1, h2, h3, h4⟩ := q; exact ⟨_, h3, s', L', h1, h2, h4, rfl⟩
  | _ => exact q
theorem d_back {σ : Type} {sl : List Nat} {env : σ → Env} {J : σ → List HP → Prop} {ν : σ → Nat} {s : σ} (s' : σ) (L' : List HP) (h0 : prn sl ρ = env s') (hJ : J s' L') (hν : ν s' < ν s) (hs : Sub L' L) :
    E L (bk sl env J ν s ρ) := fun _ hw => ⟨s', L', h0, hJ, hν, hw.sub hs⟩
end
theorem d_fn {c : Cfg} {f : FuncId} {fn : Func} {e : Enc} {args : Array Value} {G : e.α → W} {L : List HP} {s : Sk} (hf : c.P.funcs[f]? = some fn) (hb : fn.body = some c.body) (hres : fn.results.toList = c.res)
    (hn : fn.ntmps = c.n) (ok : (c.P.follows .mixedOrders && okc c c.body) = true) (nd : nodupB ((regs c.body).map (·.1)) = true) (hk : sk c.body = s) {ρ : Env} (hρ : envA 0 args.toList = ρ) (hs : Nat.ble args.size c.n = true)
    (h : E L (D c s (fnQ c e G) ρ)) : E L (cal e c.P f args G) := by
  subst hk
  exact r_fn hf hb hres hn ok hρ hs fun w hw => D_sound c.body (fun r hr => by rw [findR_fnd]; exact fnd_mem _ nd r hr) _ _ w (h w hw)
end Go.Sp
namespace Go.Sp
open Go
def wf64 (n : Int) : Prop := -9223372036854775808 ≤ n ∧ n ≤ 9223372036854775807
theorem w64 {n : Int} (h : -9223372036854775808 ≤ n) (h' : n ≤ 9223372036854775807) : IntKind.wrap .i64 n = n := by
  rw [IntKind.wrap_i64]; omega
theorem wU32 {n : Int} (h : 0 ≤ n) (h' : n ≤ 4294967295) : IntKind.wrap .u32 n = n := by
  rw [IntKind.wrap_u32]; omega
theorem td {n k : Int} (h : 0 ≤ n) : n.tdiv k = n / k := Int.tdiv_eq_ediv_of_nonneg h
theorem tm {n k : Int} (h : 0 ≤ n) : n.tmod k = n % k := Int.tmod_eq_emod_of_nonneg h
@[go_sem] theorem envA_n (i : Nat) : envA i [] = [] := rfl
@[go_sem] theorem envA_c (i : Nat) (v : Value) (vs : List Value) : envA i (v :: vs) = (i, v) :: envA (i + 1) vs := rfl
attribute [go_sem] Int.toNat_natCast add_of spl List.set_cons_zero List.set_cons_succ List.nil_append List.cons_append reduceCtorEq ne_eq not_false_eq_true Nat.zero_add
attribute [push_cast] decide_eq_true_eq decide_eq_false_iff_not beq_iff_eq bne_iff_ne beq_eq_false_iff_ne bne_eq_false_iff_eq Bool.not_eq_true' Bool.not_eq_false' Bool.not_eq_true Bool.not_eq_false Bool.not_not Bool.not_true Bool.not_false Int.not_lt Int.not_le ne_eq not_true_eq_false not_false_eq_true
theorem Fn.mono {e : Enc} {P : Program} {f : FuncId} {args : Array Value} {A : List HP} {B B' : e.α → List HP → Prop} (h : Fn e P f args A B) (hB : ∀ x X, B x X → B' x X) : Fn e P f args A B' :=
  fun L => (h L).mono fun _ c => c.mono fun _ _ ⟨x, he, X, hx, hh⟩ => ⟨x, he, X, hB x X hx, hh⟩
def Fp (e : Enc) (P : Program) (f : FuncId) (args : Array Value) (A : List HP) (x : e.α) : Prop := Fn e P f args A fun y X => X = A ∧ y = x
theorem r_retb {e : Enc} {v : Value} {L L' A : List HP} {x x' : e.α} (hv : v = e.enc x) (hx : x = x') (hs : Sub (A ++ L') L) :
    E L (fin e (fun y w => ∃ X, (X = A ∧ y = x') ∧ Holds w (X ++ L')) v) := fun _ hw => ⟨x, hv, A, ⟨rfl, hx⟩, hw.sub hs⟩
theorem Fp.frame {e : Enc} {P : Program} {f : FuncId} {args : Array Value} {A : List HP} {x : e.α} (h : Fp e P f args A x) (B : List HP) : Fn e P f args (A ++ B) fun y X => X = A ++ B ∧ y = x := fun L w hw =>
  (h (B ++ L) w (by simpa using hw)).mono fun _ _ ⟨y, he, X, ⟨hX, hy⟩, hh⟩ => ⟨y, he, A ++ B, ⟨rfl, hy⟩, by subst hX; simpa using hh⟩
theorem below_of {w w' : World} {L : List HP} (h : Holds w' (old w :: L)) : RowKit.Below w.heap.size w w' := by
  obtain ⟨h1, h2, h3, h4⟩ := Holds.old h
  refine ⟨h1, h3, h2, ?_, h4⟩
  rcases Nat.lt_or_ge w'.heap.size w.heap.size with hl | hl
  · have h5 := h4 w'.heap.size hl
    simp [hl] at h5
  · exact hl
theorem calls_of_E {P : Program} {f : FuncId} {args : Array Value} {w : World} {b : Bool} (h : Fn eB P f args [old w] fun y X => X = [old w] ∧ y = b) :
    Calls P f args w fun e w' => e = .returned (.bool b) ∧ RowKit.Below w.heap.size w w' := by
  refine (h [] w (by simpa using Holds.start w)).mono ?_
  rintro e w' ⟨y, he, X, ⟨rfl, rfl⟩, hX⟩
  exact ⟨he, below_of (L := []) (by simpa using hX)⟩
end Go.Sp
namespace Go.Sp
open Go
theorem Sub.app (X : List HP) {L L' : List HP} (h : Sub L L') : Sub (X ++ L) (X ++ L') := by
  induction X with
  | nil => exact h
  | cons _ _ ih => exact .cons .here ih
def pc (h : PH) (a : Addr) : Option Value := match h (a.block + 1) with
  | some (.inl (.cells c _ _)) => if a.spot.isSome then none else c[a.off]?
  | _ => none
theorem pc_hp (w : World) (a : Addr) : pc (hp w) a = w.cell? a := by
  unfold pc World.cell?
  rw [hp_s]
  cases w.heap[a.block]? with
  | none => rfl
  | some o => cases o <;> rfl
theorem pc_sub {h h' : PH} (s : sub h h') {a : Addr} {v : Value} (e : pc h a = some v) : pc h' a = some v := by
  unfold pc at *
  cases hb : h (a.block + 1) with
  | none => simp [hb] at e
  | some o => rw [s _ _ hb]; simpa [hb] using e
theorem HS.part {A : HP} {L : List HP} {h : PH} (x : HS (A :: L) h) : ∃ a, sub a h ∧ A a := by
  obtain ⟨a, _, _, sa, _, p, _⟩ := x; exact ⟨a, sa, p⟩
theorem Holds.rd {w : World} {L L' : List HP} {A : HP} (ha : At L A L') (hw : Holds w L) {ad : Addr} {v : Value} (hr : ∀ h, A h → pc h ad = some v) : w.cell? ad = some v := by
  obtain ⟨a, sa, p⟩ := HS.part (ha.hs hw)
  rw [← pc_hp]; exact pc_sub sa (hr a p)
section
variable {e : Enc} {P : Program} {L L' R : List HP} {A : HP} {w : World}
theorem r_fact {p : Prop} {G : W} (ha : At L A L') (hp : ∀ h, A h → p) (h : p → E L G) : E L G := fun w hw =>
  have ⟨a, _, q⟩ := HS.part (ha.hs hw)
  h (hp a q) w hw
theorem r_ldA {k : e.α → W} {ad : Addr} {x : e.α} (ha : At L A L') (hr : ∀ h, A h → pc h ad = some (e.enc x)) (h : E L (k x)) : E L (ld e ad k) :=
  fun w hw => ⟨x, Holds.rd ha hw hr, h w hw⟩
theorem r_ldqA {k : e.α → W} {ad : Addr} {x : e.α} (ha : At R A L') (hr : ∀ h, A h → pc h ad = some (e.enc x)) (h : E L (k x)) : E L (ldq (HW R) e ad k) :=
  fun w hw => ⟨x, fun _ hs => Holds.rd ha hs hr, h w hw⟩
theorem r_ldnA {k : e.α → W} {ad : Addr} {n : Nat} {x : e.α} {cs : List Value} (ha : At L A L') (hx : e.enc x = .agg cs.toArray) (hn : cs.length = n) (hr : ∀ h, A h → ∀ j v, cs[j]? = some v → pc h (ad.add j) = some v) (h : E L (k x)) :
    E L (ldn e n ad k) := fun w hw => ⟨x, cs.toArray, hx, by simpa using hn, fun i hi => by
      have hc : cs[i]? = some cs[i] := by simp [hn, hi]
      simpa [hn, hi] using Holds.rd ha hw (fun h a => hr h a i cs[i] hc), h w hw⟩
theorem r_ldnqA {k : e.α → W} {ad : Addr} {n : Nat} {x : e.α} {cs : List Value} (ha : At R A L') (hx : e.enc x = .agg cs.toArray) (hn : cs.length = n) (hr : ∀ h, A h → ∀ j v, cs[j]? = some v → pc h (ad.add j) = some v) (h : E L (k x)) :
    E L (ldnq (HW R) e n ad k) := fun w hw => ⟨x, cs.toArray, hx, by simpa using hn, fun _ hs i hi => by
      have hc : cs[i]? = some cs[i] := by simp [hn, hi]
      simpa [hn, hi] using Holds.rd ha hs (fun h a => hr h a i cs[i] hc), h w hw⟩
end
theorem ar_pc {b : Nat} {t : TypeId} {l : List Value} {h : PH} (x : ar b t l h) (o : Nat) : pc h ⟨b, o, none⟩ = l[o]? := by
  unfold ar blk at x
  simp [pc, x]
abbrev SlV := Option Addr × Nat × Nat
def Rs (A : HP) (s : SlV) (sz : Nat) (cs : List Value) : Prop :=
  cs.length = s.2.1 * sz ∧ (s.2.1 ≠ 0 → s.1 ≠ none) ∧ ∀ a, s.1 = some a → ∀ h, A h → ∀ j v, cs[j]? = some v → pc h (a.add j) = some v
theorem flat_get {α : Type} {cel : α → List Value} {sz : Nat} (hc : ∀ x, (cel x).length = sz) : ∀ (xs : List α) (i : Nat) (x : α), xs[i]? = some x → ∀ j v, (cel x)[j]? = some v → (xs.flatMap cel)[i * sz + j]? = some v
  | y :: ys, 0, x, h, j, v, hj => by
    have : y = x := by simpa using h
    subst this
    have hlt : j < (cel y).length := by
      rcases Nat.lt_or_ge j (cel y).length with h | h
      · exact h
      · rw [List.getElem?_eq_none h] at hj; cases hj
    simp only [List.flatMap_cons, Nat.zero_mul, Nat.zero_add, List.getElem?_append_left hlt]
    exact hj
  | y :: ys, i + 1, x, h, j, v, hj => by
    have h' : ys[i]? = some x := by simpa using h
    have := flat_get hc ys i x h' j v hj
    simp only [List.flatMap_cons]
    rw [List.getElem?_append_right (by rw [hc, Nat.add_mul]; omega), hc]
    rw [← this]; congr 1; rw [Nat.add_mul]; omega
theorem flat_len {α : Type} {cel : α → List Value} {sz : Nat} (hc : ∀ x, (cel x).length = sz) (xs : List α) : (xs.flatMap cel).length = xs.length * sz := by
  induction xs with
  | nil => simp
  | cons y ys ih => simp only [List.flatMap_cons, List.length_append, hc, ih, List.length_cons, Nat.add_mul]; omega
theorem Rs.elem {α : Type} {cel : α → List Value} {A : HP} {a : Addr} {n c sz : Nat} {xs : List α} (h : Rs A (some a, n, c) sz (xs.flatMap cel)) (hc : ∀ x, (cel x).length = sz) {i : Nat} {x : α} (hx : xs[i]? = some x) :
    ∀ h, A h → ∀ j v, (cel x)[j]? = some v → pc h ((a.add (i * sz)).add j) = some v := fun q hq j v hj => by
  rw [Deep.add_add]; exact h.2.2 a rfl q hq _ v (flat_get hc xs i x hx j v hj)
theorem Rs.len {α : Type} {cel : α → List Value} {A : HP} {s : SlV} {sz : Nat} {xs : List α} (h : Rs A s sz (xs.flatMap cel)) (hc : ∀ x, (cel x).length = sz) (hs : 0 < sz) : s.2.1 = xs.length := by
  have := h.1
  rw [flat_len hc] at this
  exact (Nat.eq_of_mul_eq_mul_right hs this).symm
@[go_sem] theorem nn_some (a : Addr) (k : Addr → W) : nn (some a) k = k a := rfl
theorem Rs.ptr {A : HP} {p : Option Addr} {n c sz : Nat} {cs : List Value} (h : Rs A (p, n, c) sz cs) (hn : n ≠ 0) : ∃ a, p = some a := by
  cases p with
  | none => exact absurd rfl (h.2.1 hn)
  | some a => exact ⟨a, rfl⟩
section
variable {α : Type} {cel : α → List Value} {A : HP} {a : Addr} {n c sz i j : Nat} {xs : List α} {x : α} {e : Enc} {L L' R : List HP}
theorem r_sn {k : e.α → W} {y : e.α} (hR : Rs A (some a, n, c) sz (xs.flatMap cel)) (hc : ∀ x, (cel x).length = sz) (hx : xs[i]? = some x) (ha : At L A L') (he : e.enc y = .agg (cel x).toArray) (h : E L (k y)) : E L (ldn e sz (a.add (i * sz)) k) :=
  r_ldnA ha he (hc x) (hR.elem hc hx) h
theorem r_snq {k : e.α → W} {y : e.α} (hR : Rs A (some a, n, c) sz (xs.flatMap cel)) (hc : ∀ x, (cel x).length = sz) (hx : xs[i]? = some x) (ha : At R A L') (he : e.enc y = .agg (cel x).toArray) (h : E L (k y)) : E L (ldnq (HW R) e sz (a.add (i * sz)) k) :=
  r_ldnqA ha he (hc x) (hR.elem hc hx) h
end
def ow (t : TypeId) (sz : Nat) (s : SlV) (xs : List Value) : HP := fun h => xs.length = s.2.1 * sz ∧ (s = (none, 0, 0) ∨
  ∃ g cap cur, s = (some ⟨g, 0, none⟩, s.2.1, cap) ∧ h (g + 1) = some (.inl (.cells cur t (0, 0))) ∧ s.2.1 ≤ cap ∧ cap ≤ maxLen ∧ cur.size = cap * sz ∧ cur.toList.take (s.2.1 * sz) = xs)
theorem ow_fact {t : TypeId} {sz : Nat} {s : SlV} {xs : List Value} {h : PH} (x : ow t sz s xs h) : Rs (ow t sz s xs) s sz xs := by
  obtain ⟨h1, h2⟩ := x
  refine ⟨h1, ?_, ?_⟩
  · rcases h2 with rfl | ⟨g, cap, cur, hs, _⟩
    · simp
    · intro _; rw [hs]; simp
  · intro a ha q ⟨_, hq⟩ j v hj
    rcases hq with rfl | ⟨g, cap, cur, hs, hg, hn, hm, hcs, ht⟩
    · simp at ha
    · rw [hs] at ha
      have : a = ⟨g, 0, none⟩ := by simpa using ha.symm
      subst this
      rw [add_of]
      simp only [pc, hg, Option.isSome_none, Bool.false_eq_true, if_false, Nat.zero_add]
      have hlt : j < s.2.1 * sz := by
        rcases Nat.lt_or_ge j (s.2.1 * sz) with h | h
        · exact h
        · rw [List.getElem?_eq_none (by omega)] at hj; cases hj
      rw [← ht, List.getElem?_take] at hj
      simpa [hlt] using hj
theorem ow_nil (t : TypeId) (sz : Nat) (h : PH) : ow t sz (none, 0, 0) [] h := ⟨by simp, .inl rfl⟩
theorem Holds.nilow {w : World} {L : List HP} (t : TypeId) (sz : Nat) (h : Holds w L) : Holds w (ow t sz (none, 0, 0) [] :: L) :=
  ⟨fun _ => none, hp w, fun _ => .inl rfl, sub.none _, sub.refl _, ow_nil t sz _, h⟩
theorem r_nilow {L : List HP} {G : W} (t : TypeId) (sz : Nat) (h : E (ow t sz (none, 0, 0) [] :: L) G) : E L G := fun w hw => h w (hw.nilow t sz)
theorem ow_world {w : World} {L : List HP} {t : TypeId} {sz : Nat} {s : SlV} {xs : List Value} (h : Holds w (ow t sz s xs :: L)) (base : Nat) (hb : ∀ g, s.1 = some g → base ≤ g.block) : w.ownsRow base t sz (.slice s.1 s.2.1 s.2.2) s.2.1 xs := by
  obtain ⟨a, sa, h1, h2⟩ := HS.part h
  refine ⟨h1, ?_⟩
  rcases h2 with rfl | ⟨g, cap, cur, hs, hg, hn, hm, hcs, ht⟩
  · exact .inl ⟨rfl, rfl⟩
  · refine .inr ⟨g, cap, cur, ?_, ?_, hp_o.1 (sa _ _ hg), hn, hm, hcs, ht⟩
    · obtain ⟨p, n, c⟩ := s
      simp only [Prod.mk.injEq, true_and] at hs
      obtain ⟨rfl, rfl⟩ := hs; rfl
    · exact hb ⟨g, 0, none⟩ (by rw [hs])
theorem Holds.grown {w w' : World} {t : TypeId} {sz : Nat} {s s' : SlV} {xs xs' : List Value} {L : List HP} (h : Holds w (ow t sz s xs :: L)) (base : Nat) (hbase : s.1 = none → base = w.heap.size)
    (ho : w'.ownsRow base t sz (.slice s'.1 s'.2.1 s'.2.2) s'.2.1 xs') (hg : w.grownBy w' (Value.slice s.1 s.2.1 s.2.2).ownBlock) (hf : ∀ g, s.1 = some g → s'.1 = s.1 ∨ ∃ q, s'.1 = some ⟨q, 0, none⟩ ∧ w.heap.size ≤ q) : Holds w' (ow t sz s' xs' :: L) := by
  obtain ⟨a, r, d, sa, sr, ⟨h1, h2⟩, hL⟩ := h
  have rest : Sp.sub r (hp w') := by
    intro n o hn
    have hw := sr n o hn
    cases n with
    | zero => simpa [hp, hg.os, hg.tape, hg.output] using hw
    | succ n =>
      rw [hp_s] at hw ⊢
      have hlt : n < w.heap.size := by
        rcases Nat.lt_or_ge n w.heap.size with h | h
        · exact h
        · simp [Array.getElem?_eq_none h] at hw
      rw [hg.block n hlt ?_]; exact hw
      intro e
      rcases h2 with hs | ⟨g, cap, cur, hs, hgc, _⟩
      · rw [hs] at e; simp [Value.ownBlock] at e
      · rw [hs] at e
        simp only [Value.ownBlock, Option.some.injEq] at e
        subst e
        rcases d (n + 1) with h | h
        · rw [h] at hgc; cases hgc
        · rw [h] at hn; cases hn
  rcases ho with ⟨ho1, ho2⟩
  rcases ho2 with ⟨hv, hn0⟩ | ⟨g, cap, cur, hv, hbg, hgc, hn, hm, hcs, ht⟩
  · have : s' = (none, 0, 0) := by
      obtain ⟨p, n, c⟩ := s'
      simp only [Value.slice.injEq] at hv
      obtain ⟨rfl, rfl, rfl⟩ := hv; rfl
    subst this
    have : xs' = [] := List.eq_nil_of_length_eq_zero (by simpa using ho1)
    subst this
    exact ⟨fun _ => none, r, fun _ => .inl rfl, sub.none _, rest, ow_nil _ _ _, hL⟩
  · have hs' : s' = (some ⟨g, 0, none⟩, s'.2.1, cap) := by
      obtain ⟨p, n, c⟩ := s'
      simp only [Value.slice.injEq] at hv
      obtain ⟨rfl, _, rfl⟩ := hv; rfl
    refine ⟨fun n => if n = g + 1 then some (.inl (.cells cur t (0, 0))) else none, r, ?_, ?_, rest, ⟨ho1, .inr ⟨g, cap, cur, hs', by simp, hn, hm, hcs, ht⟩⟩, hL⟩
    · intro n
      by_cases hn : n = g + 1
      · subst hn
        right
        have fresh : w.heap.size ≤ g → r (g + 1) = none := fun hle => by
          cases hr : r (g + 1) with
          | none => rfl
          | some o =>
            have := sr _ _ hr
            rw [hp_s, Array.getElem?_eq_none hle] at this
            cases this
        rcases h2 with hs | ⟨g0, cap0, cur0, hs, hgc0, _⟩
        · exact fresh (by rw [← hbase (by rw [hs])]; exact hbg)
        · rcases hf ⟨g0, 0, none⟩ (by rw [hs]) with e | ⟨q, e, hq⟩
          · rw [hs, hs'] at e
            have : g = g0 := by simpa using e
            subst this
            rcases d (g + 1) with h | h
            · rw [h] at hgc0; cases hgc0
            · exact h
          · rw [hs'] at e
            have : g = q := by simpa using e
            subst this
            exact fresh hq
      · exact .inl (by simp [hn])
    · intro n o hn
      by_cases he : n = g + 1
      · subst he
        simp at hn; subst hn
        exact hp_o.2 hgc
      · simp [he] at hn
theorem r_append {P : Program} {L L' L2 : List HP} {A : HP} {tt t : TypeId} {sz : Nat} {s : SlV} {ad : Addr} {m c : Nat} {xs news : List Value} {k : SlV → W} (i : TypeInfo) (z : Value) (ht : P.underlying tt = some (.slice t)) (hi : P.info? t = some i) (hz : i.zero = some z)
    (hsize : i.size = sz) (hzs : z.cells.size = sz) (hsz : 0 < sz) (ho : At L (ow t sz s xs) L') (ha : At L A L2) (hr : Rs A (some ad, m, c) sz news) (h1 : news.all one = true)
    (h63 : s.2.1 + m ≤ maxLen) (hbytes : (s.2.1 + m) * i.bytes ≤ 140737488355328)
    (h : ∀ s' : SlV, s'.2.1 = s.2.1 + m → (s'.1 = none → s' = (none, 0, 0)) → E (ow t sz s' (xs ++ news) :: L') (k s')) : E L (val eSl P (Builtin.append_ #[tt, tt] tt #[.slice s.1 s.2.1 s.2.2, .slice (some ad) m c]) k) := by
  intro w hw
  have hO := ho.hs hw
  have hnews : ∀ j u, news[j]? = some u → w.cell? (ad.add j) = some u := fun j u hj => Holds.rd ha hw fun q hq => hr.2.2 ad rfl q hq j u hj
  have hone : ∀ u ∈ news, u.oneCell' = true := fun u hu => by simpa [one] using List.all_eq_true.1 h1 u hu
  have form : ∀ (w : World) (base : Nat) (q : SlV) (n : Nat) (ys : List Value), w.ownsRow base t sz (.slice q.1 q.2.1 q.2.2) n ys → ∀ g, q.1 = some g → g = ⟨g.block, 0, none⟩ := by
    intro w base q n ys hq g hg
    rcases hq.2 with ⟨hv, _⟩ | ⟨g', cap, cur, hv, _⟩
    · simp only [Value.slice.injEq] at hv; rw [hg] at hv; cases hv.1
    · simp only [Value.slice.injEq] at hv
      rw [hg] at hv
      have := hv.1
      simp only [Option.some.injEq] at this
      subst this; rfl
  have hW0 := ow_world hO 0 (fun _ _ => Nat.zero_le _)
  have key : ∀ base, (s.1 = none → base = w.heap.size) → (∀ g, s.1 = some g → base ≤ g.block) → base ≤ w.heap.size →
      val eSl P (Builtin.append_ #[tt, tt] tt #[.slice s.1 s.2.1 s.2.2, .slice (some ad) m c]) k w := by
    intro base hb1 hb2 hb3
    obtain ⟨v', w', hrun, hown, hg, _, hlie⟩ := run_append_own_at (P := P) w base tt tt t i z sz i.bytes ht hi hz hsize rfl hzs hsz _ _ _ (ow_world hO base hb2) ad m c news hr.1 hnews hone h63 hbytes hb3
    have hv : ∃ s' : SlV, v' = .slice s'.1 s'.2.1 s'.2.2 ∧ s'.2.1 = s.2.1 + m ∧ (s'.1 = none → s' = (none, 0, 0)) := by
      rcases hown.2 with ⟨rfl, hn⟩ | ⟨g, cap, cur, rfl, _⟩
      · exact ⟨(none, 0, 0), rfl, by show (0 : Nat) = _; omega, fun _ => rfl⟩
      · exact ⟨(some ⟨g, 0, none⟩, s.2.1 + m, cap), rfl, rfl, fun h => by cases h⟩
    obtain ⟨s', rfl, hn, hnn⟩ := hv
    have hown' := hown
    rw [← hn] at hown'
    refine ⟨s', w', hrun, h s' hn hnn w' (Holds.grown hO base hb1 hown' hg fun g hs => ?_)⟩
    have hg0 := form w 0 s _ _ hW0 g hs
    cases hs' : s'.1 with
    | none => rw [hs, hs'] at hlie; simp [Value.ownBlock] at hlie
    | some q =>
      have hq := form w' base s' _ _ hown q hs'
      rw [hs, hs'] at hlie
      simp only [Value.ownBlock, Option.some.injEq] at hlie
      rcases hlie with e | e
      · left; rw [hs, hg0, hq, e]
      · right; exact ⟨q.block, by rw [← hq], by omega⟩
  cases hs : s.1 with
  | none => rw [← hs]; exact key w.heap.size (fun _ => rfl) (fun g h => by rw [hs] at h; cases h) (Nat.le_refl _)
  | some g => rw [← hs]; exact key 0 (fun h => by rw [hs] at h; cases h) (fun _ _ => Nat.zero_le _) (Nat.zero_le _)
theorem Rs_ar {b m c sz : Nat} {t : TypeId} {cs : List Value} (h : cs.length = m * sz) : Rs (ar b t cs) (some ⟨b, 0, none⟩, m, c) sz cs := by
  refine ⟨h, by simp, ?_⟩
  intro a ha q hq j v hj
  have : a = ⟨b, 0, none⟩ := by simpa using ha.symm
  subst this
  rw [add_of, ar_pc hq, Nat.zero_add]; exact hj
def apOk (P : Program) (tt t : TypeId) (sz bt : Nat) : Bool := match P.underlying tt, P.info? t with
  | some (.slice t'), some i => Nat.beq t' t && Nat.beq i.size sz && Nat.beq i.bytes bt && Nat.blt 0 sz && match i.zero with
    | some z => Nat.beq z.cells.size sz
    | none => false
  | _, _ => false
theorem r_app {P : Program} {L L' L2 : List HP} {A : HP} {tt t : TypeId} {sz : Nat} {s : SlV} {ad : Addr} {m c : Nat} {xs news : List Value} {k : SlV → W} (bt : Nat) (hk : apOk P tt t sz bt = true) (ho : At L (ow t sz s xs) L') (ha : At L A L2) (hr : Rs A (some ad, m, c) sz news) (h1 : news.all one = true)
    (h63 : s.2.1 + m ≤ maxLen) (hbytes : (s.2.1 + m) * bt ≤ 140737488355328)
    (h : ∀ s' : SlV, s'.2.1 = s.2.1 + m → (s'.1 = none → s' = (none, 0, 0)) → E (ow t sz s' (xs ++ news) :: L') (k s')) : E L (val eSl P (oB_append #[tt, tt] tt #[.slice s.1 s.2.1 s.2.2, .slice (some ad) m c]) k) := by
  unfold apOk at hk
  split at hk
  · rename_i t' i ht hi
    simp only [Bool.and_eq_true] at hk
    obtain ⟨⟨⟨⟨h1', h2⟩, h3⟩, h4⟩, h5⟩ := hk
    split at h5
    · rename_i z hz
      have e1 := Nat.eq_of_beq_eq_true h1'
      subst e1
      have e3 := Nat.eq_of_beq_eq_true h3
      subst e3
      exact r_append i z ht hi hz (Nat.eq_of_beq_eq_true h2) (Nat.eq_of_beq_eq_true h5) (Nat.le_of_ble_eq_true h4) ho ha hr h1 h63 hbytes h
    · cases h5
  · cases hk
theorem r_valq {e : Enc} {P : Program} {L : List HP} {S : W} {s : Sem Value} {k : e.α → W} {x : e.α} (hs : ∀ w, s.run P w = .ok (e.enc x) w) (h : E L (k x)) : E L (valq S e P s k) := fun w hw => ⟨x, fun w' _ => hs w', h w hw⟩
end Go.Sp
namespace Go.Sp
open Go
def le (a b : List UInt8) : Bool := Op.bytesLess a b || a == b
theorem less_irrefl : ∀ a : List UInt8, Op.bytesLess a a = false
  | [] => rfl
  | x :: a => by simp [Op.bytesLess, less_irrefl a]
theorem less_trans : ∀ {a b c : List UInt8}, Op.bytesLess a b = true → Op.bytesLess b c = true → Op.bytesLess a c = true
  | [], [], _, h, _ => by simp [Op.bytesLess] at h
  | [], y :: b, [], _, h' => by simp [Op.bytesLess] at h'
  | [], y :: b, z :: c, _, _ => rfl
  | x :: a, [], _, h, _ => by simp [Op.bytesLess] at h
  | x :: a, y :: b, [], _, h' => by simp [Op.bytesLess] at h'
  | x :: a, y :: b, z :: c, h, h' => by
    simp only [Op.bytesLess, Bool.or_eq_true, Bool.and_eq_true, decide_eq_true_eq, beq_iff_eq] at *
    rcases h with h | ⟨rfl, h⟩ <;> rcases h' with h' | ⟨rfl, h'⟩
    · exact .inl (UInt8.lt_trans h h')
    · exact .inl h
    · exact .inl h'
    · exact .inr ⟨rfl, less_trans h h'⟩
theorem less_total : ∀ (a b : List UInt8), Op.bytesLess a b = true ∨ a = b ∨ Op.bytesLess b a = true
  | [], [] => .inr (.inl rfl)
  | [], y :: b => .inl rfl
  | x :: a, [] => .inr (.inr rfl)
  | x :: a, y :: b => by
    simp only [Op.bytesLess, Bool.or_eq_true, Bool.and_eq_true, decide_eq_true_eq, beq_iff_eq, List.cons.injEq]
    rcases UInt8.lt_or_lt_of_ne (a := x) (b := y) |> fun f => Classical.em (x = y) |>.imp id f with rfl | h | h
    · rcases less_total a b with h | h | h
      · exact .inl (.inr ⟨rfl, h⟩)
      · exact .inr (.inl ⟨rfl, h⟩)
      · exact .inr (.inr (.inr ⟨rfl, h⟩))
    · exact .inl (.inl h)
    · exact .inr (.inr (.inl h))
theorem less_le (a b : List UInt8) : Op.bytesLess a b = !(le b a) := by
  unfold le
  rcases less_total a b with h | rfl | h
  · have h1 : Op.bytesLess b a = false := by
      cases h2 : Op.bytesLess b a with
      | false => rfl
      | true => have := less_trans h h2; rw [less_irrefl] at this; cases this
    have h3 : (b == a) = false := by
      cases h2 : b == a with
      | false => rfl
      | true => rw [beq_iff_eq] at h2; subst h2; rw [less_irrefl] at h; cases h
    simp [h, h1, h3]
  · simp [less_irrefl]
  · have h1 : Op.bytesLess a b = false := by
      cases h2 : Op.bytesLess a b with
      | false => rfl
      | true => have := less_trans h h2; rw [less_irrefl] at this; cases this
    simp [h, h1]
theorem le_trans' {a b c : List UInt8} (h : le a b = true) (h' : le b c = true) : le a c = true := by
  simp only [le, Bool.or_eq_true, beq_iff_eq] at *
  rcases h with h | rfl
  · rcases h' with h' | rfl
    · exact .inl (less_trans h h')
    · exact .inl h
  · exact h'
theorem le_total' (a b : List UInt8) : le a b = true ∨ le b a = true := by
  simp only [le, Bool.or_eq_true, beq_iff_eq]
  rcases less_total a b with h | rfl | h
  · exact .inl (.inl h)
  · exact .inl (.inr rfl)
  · exact .inr (.inl h)
end Go.Sp
namespace Go.Sp
open Go
inductive Lf
  | i (k : IntKind)
  | s
  | b
def lfOk : Lf → Value → Prop
  | .i k, v => ∃ n, v = .int k n ∧ (Lit.int k n).wf = true
  | .s, v => ∃ s : List UInt8, v = str s ∧ s.length ≤ maxLen
  | .b, v => ∃ b, v = .bool b
def lfs : List Lf → List Value → Prop
  | [], [] => True
  | k :: ks, v :: vs => lfOk k v ∧ lfs ks vs
  | _, _ => False
def shFs (P : Program) (sh : TypeId → Option (List Lf)) : List Field → Nat → Option (List Lf)
  | [], _ => some []
  | f :: fs, off => match Nat.beq f.offset off, sh f.type with
    | true, some a => match Nat.beq (P.cellsOf f.type) a.length, shFs P sh fs (off + a.length) with
      | true, some r => some (a ++ r)
      | _, _ => none
    | _, _ => none
def shape (P : Program) : Nat → TypeId → Option (List Lf)
  | 0, _ => none
  | n + 1, t => match P.underlying t with
    | some (.int k) => some [.i k]
    | some .string => some [.s]
    | some .bool => some [.b]
    | some (.struct fs) => match shFs P (shape P n) fs.toList 0 with
      | some r => match Nat.beq (P.cellsOf t) r.length with
        | true => some r
        | false => none
      | none => none
    | _ => none
theorem lfs_append : ∀ {a b : List Lf} {u v : List Value}, lfs a u → lfs b v → lfs (a ++ b) (u ++ v)
  | [], _, [], _, _, h => h
  | _ :: _, _, _ :: _, _, h, h' => ⟨h.1, lfs_append h.2 h'⟩
  | [], _, _ :: _, _, h, _ => h.elim
  | _ :: _, _, [], _, h, _ => h.elim
section
variable {H : Type} {enc : TypeId × Value → H} {P : Program} {w : World} {base : Nat} {spare : Nat → Bool} {held : Bool}
theorem shape_ok : ∀ (n : Nat) (t : TypeId) (ks : List Lf), shape P n t = some ks → ∀ (fuel : Nat) (cs : List Value) (x : DataW H × List MemPlace), DataW.trod enc P w base spare held fuel t cs = some x → lfs ks cs
  | 0, _, _, h, _, _, _, _ => by cases h
  | n + 1, t, ks, h, fuel, cs, x, hx => by
    unfold shape at h
    split at h
    · rename_i k ht
      cases h
      obtain ⟨m, rfl, _, hw⟩ := DataW.trod_int ht hx
      exact ⟨⟨m, rfl, hw⟩, trivial⟩
    · rename_i ht
      cases h
      obtain ⟨s, rfl, _, hs⟩ := DataW.trod_string ht hx
      exact ⟨⟨s.data.toList, rfl, by simpa using hs⟩, trivial⟩
    · rename_i ht
      cases h
      obtain ⟨b, rfl, _⟩ := DataW.trod_bool ht hx
      exact ⟨⟨b, rfl⟩, trivial⟩
    · rename_i fs ht
      obtain ⟨xs, m, _, _, hl, hlen, hf⟩ := DataW.trod_struct ht hx
      have each : ∀ f ∈ fs.toList, ∃ y, DataW.trod enc P w base spare held m f.type ((cs.drop f.offset).take (P.cellsOf f.type)) = some y := by
        intro f hf'
        obtain ⟨i, hi, rfl⟩ := List.getElem_of_mem hf'
        have hi' : i < fs.size := by simpa using hi
        have := hf i fs[i] (by simp [hi'])
        rw [List.getElem?_eq_getElem (by omega)] at this
        exact ⟨_, this⟩
      have go : ∀ (gs : List Field) (off : Nat) (r : List Lf), shFs P (shape P n) gs off = some r → (∀ f ∈ gs, ∃ y, DataW.trod enc P w base spare held m f.type ((cs.drop f.offset).take (P.cellsOf f.type)) = some y) →
          off + r.length ≤ cs.length → lfs r ((cs.drop off).take r.length) := by
        intro gs
        induction gs with
        | nil => intro off r hr _ _; simp only [shFs, Option.some.injEq] at hr; subst hr; simp [lfs]
        | cons g gs ih =>
          intro off r hr hy hle
          unfold shFs at hr
          split at hr
          · rename_i a h1 h2
            split at hr
            · rename_i r' h3 h4
              simp only [Option.some.injEq] at hr
              subst hr
              have e1 := Nat.eq_of_beq_eq_true h1
              have e3 := Nat.eq_of_beq_eq_true h3
              obtain ⟨y, hy'⟩ := hy g (by simp)
              have hA := shape_ok n g.type a h2 m _ y hy'
              rw [e1, e3] at hA
              simp only [List.length_append] at hle
              have hB := ih (off + a.length) r' h4 (fun f hf => hy f (by simp [hf])) (by omega)
              have := lfs_append hA hB
              rwa [show ((cs.drop off).take a.length) ++ ((cs.drop (off + a.length)).take r'.length) = (cs.drop off).take (a ++ r').length by
                rw [List.length_append, List.take_add, List.drop_drop]] at this
            · cases hr
          · cases hr
      split at h
      · rename_i r hr
        split at h
        · rename_i he
          cases h
          have e := Nat.eq_of_beq_eq_true he
          have := go fs.toList 0 ks hr each (by omega)
          simpa [show ks.length = cs.length by omega] using this
        · cases h
      · cases h
    · cases h
theorem okSlice_cells {r : Reach} {b0 : Nat} {t e : TypeId} {v : Value} (ht : P.underlying t = some (.slice e)) (hv : Value.okWide P w r b0 t v) : v.cells.toList = [v] := by
  obtain ⟨a, n, c, rfl⟩ := WideShapes.okWide_slice ht hv
  rfl
theorem mapM_get {α β : Type} {f : α → Option β} : ∀ (l : List α) (ys : List β), l.mapM f = some ys → ys.length = l.length ∧ ∀ (i : Nat) (x : α), l[i]? = some x → f x = ys[i]?
  | [], ys, h => by
    simp only [List.mapM_nil] at h
    obtain rfl : ys = [] := by cases h; rfl
    simp
  | a :: l, ys, h => by
    simp only [List.mapM_cons] at h
    cases ha : f a with
    | none => simp [ha] at h
    | some b =>
      cases hl : l.mapM f with
      | none => simp [ha, hl] at h
      | some bs =>
        simp only [ha, hl, Option.bind_eq_bind, Option.bind_some, Option.pure_def, Option.some.injEq] at h
        subst h
        obtain ⟨h1, h2⟩ := mapM_get l bs hl
        refine ⟨by simp [h1], fun i x hi => ?_⟩
        cases i with
        | zero => simp only [List.getElem?_cons_zero, Option.some.injEq] at hi; subst hi; simpa using ha
        | succ i => simpa using h2 i x (by simpa using hi)
theorem cells_get {a : Addr} {n : Nat} {cs : List Value} (h : w.cells? base a n = some cs) : cs.length = n ∧ ∀ j v, cs[j]? = some v → w.cell? (a.add j) = some v := by
  unfold World.cells? at h
  split at h
  · obtain ⟨h1, h2⟩ := mapM_get _ _ h
    refine ⟨by simpa using h1, fun j v hj => ?_⟩
    have hlt : j < n := by
      rcases Nat.lt_or_ge j cs.length with h | h
      · simpa [h1] using h
      · rw [List.getElem?_eq_none h] at hj; cases hj
    rw [h2 j j (by simp [hlt]), hj]
  · cases h
theorem pc_old {w0 : World} {h : PH} (x : old w0 h) {a : Addr} {v : Value} (e : w0.cell? a = some v) : pc h a = some v := by
  have hb : a.block < w0.heap.size := by
    rcases Nat.lt_or_ge a.block w0.heap.size with h | h
    · exact h
    · unfold World.cell? at e; rw [Array.getElem?_eq_none h] at e; cases e
  rw [← pc_hp] at e
  unfold pc at *
  rw [x.2 _ hb]; exact e
theorem open_slice_flat {α : Type} {cel : α → List Value} {Q : α → Prop} {sz : Nat} {t e : TypeId} {v : Value} {d : DataW H} {p : List MemPlace} {ks : List Lf} (ht : P.underlying t = some (.slice e)) (hk : shape P 8 e = some ks) (hsz : P.cellsOf e = sz) (hc : ∀ x, (cel x).length = sz)
    (hv : v.cells.toList = [v]) (hof : ∀ cs, lfs ks cs → ∃ x, cs = cel x ∧ Q x) (h : DataW.Trod enc P w base spare held t v d p) :
    ∃ (s : SlV) (l : List α), v = .slice s.1 s.2.1 s.2.2 ∧ Rs (old w) s sz (l.flatMap cel) ∧ s.2.1 = l.length ∧ (∀ x ∈ l, Q x) ∧ (l.length ≤ maxLen ∧ s.2.1 ≤ s.2.2) ∧ ((s = (none, 0, 0) ∧ d = .nil) ∨ ∃ es ss, d = .slice es ss ∧ es.length = l.length) := by
  obtain ⟨fuel, h⟩ := h
  rw [hv] at h
  rcases Deep.open_slice ht h with ⟨h1, h2⟩ | ⟨a, len, cap, m, n, D, Pl, h1, hb, hl, hm, hmm, hx, hi⟩
  · have : v = .slice none 0 0 := by simpa using h1
    subst this
    refine ⟨(none, 0, 0), [], rfl, ⟨by simp, by simp, by simp⟩, rfl, by simp, ⟨by simp, by simp⟩, .inl ⟨rfl, ?_⟩⟩
    exact congrArg Prod.fst h2
  · have : v = .slice (some a) len cap := by simpa using h1
    subst this
    have hle : len ≤ m := by rw [hmm]; split <;> omega
    have each : ∀ i, i < len → ∃ x, w.cells? base (a.add (i * sz)) sz = some (cel x) ∧ Q x := by
      intro i hlt
      obtain ⟨cs', e1, e2⟩ := hi i (by omega)
      obtain ⟨x, rfl, hq⟩ := hof cs' (shape_ok 8 e ks hk _ _ _ e2)
      rw [hsz] at e1
      exact ⟨x, e1, hq⟩
    have build : ∀ k, k ≤ len → ∃ l : List α, l.length = k ∧ (∀ i x, l[i]? = some x → w.cells? base (a.add (i * sz)) sz = some (cel x) ∧ Q x) := by
      intro k
      induction k with
      | zero => exact fun _ => ⟨[], rfl, by simp⟩
      | succ k ih =>
        intro hk'
        obtain ⟨l, hl1, hl2⟩ := ih (by omega)
        obtain ⟨x, hx1, hx2⟩ := each k (by omega)
        refine ⟨l ++ [x], by simp [hl1], fun i y hy => ?_⟩
        rcases Nat.lt_or_ge i l.length with h | h
        · rw [List.getElem?_append_left h] at hy; exact hl2 i y hy
        · rw [List.getElem?_append_right h] at hy
          have : i = k := by
            rcases Nat.eq_or_lt_of_le h with h' | h'
            · omega
            · rw [List.getElem?_eq_none (by simp; omega)] at hy; cases hy
          subst this
          simp only [hl1, Nat.sub_self, List.getElem?_cons_zero, Option.some.injEq] at hy
          subst hy
          exact ⟨hx1, hx2⟩
    obtain ⟨l, hl1, hl2⟩ := build len (Nat.le_refl _)
    refine ⟨(some a, len, cap), l, rfl, ⟨?_, by simp, ?_⟩, hl1.symm, ?_, ⟨by omega, hl⟩, .inr ⟨_, _, congrArg Prod.fst hx, by simp [hl1]⟩⟩
    · rw [flat_len hc, hl1]
    · intro a' ha' q hq j u hj
      have : a' = a := by simpa using ha'.symm
      subst this
      have hlt : j < l.length * sz := by
        rcases Nat.lt_or_ge j (l.length * sz) with h | h
        · exact h
        · rw [List.getElem?_eq_none (by rw [flat_len hc]; exact h)] at hj; cases hj
      have hs : 0 < sz := by
        rcases Nat.eq_zero_or_pos sz with h | h
        · subst h; simp at hlt
        · exact h
      have hi1 : j / sz < l.length := Nat.div_lt_of_lt_mul (by rw [Nat.mul_comm]; exact hlt)
      have hx1 : l[j / sz]? = some l[j / sz] := by simp [hi1]
      obtain ⟨e1, _⟩ := hl2 _ _ hx1
      have hmod := Nat.mod_lt j hs
      have hdiv : j / sz * sz + j % sz = j := by rw [Nat.mul_comm]; exact Nat.div_add_mod j sz
      have hu : (cel l[j / sz])[j % sz]? = some u := by
        have e2 : (cel l[j / sz])[j % sz]? = some ((cel l[j / sz])[j % sz]'(by rw [hc]; exact hmod)) := by simp [hc, hmod]
        have := flat_get hc l _ _ hx1 _ _ e2
        rw [hdiv, hj] at this
        rw [e2, this]
      have := (cells_get e1).2 _ _ hu
      rw [Deep.add_add, hdiv] at this
      exact pc_old hq this
    · intro x hx'
      obtain ⟨i, hi', rfl⟩ := List.getElem_of_mem hx'
      exact (hl2 i _ (by simp [hi'])).2
end
end Go.Sp
namespace Go.Sp
open Go
attribute [push_cast] Bool.false_eq_true Bool.true_eq_false
@[go_sem] theorem inb_ne (id i : Nat) (Q : KQ) (ρ : Env) (h : i ≠ id) : inb id Q (.exit i) ρ = Q (.exit i) ρ := inb_o id i Q ρ (by
  cases hb : Nat.beq i id with
  | false => rfl
  | true => exact absurd (Nat.eq_of_beq_eq_true hb) h)
section
variable {c : Cfg} {L : List HP} {Q : KQ} {ρ : Env} {w : World} {σ : Type}
theorem d_lp (sl : List Nat) (env : σ → Env) (F : σ → List HP) (I : σ → Prop) (ν : σ → Nat) (s0 : σ) {b : Sk} (h0 : prn sl ρ = env s0) (hs : Sub (F s0) L) (hI : I s0)
    (round : ∀ s, I s → E (F s) (D c b (thn (bk sl env (fun s M => M = F s ∧ I s) ν s) Q) (env s))) : E L (D c (.loop b) Q ρ) :=
  E.sub hs (d_loop sl env (fun s M => M = F s ∧ I s) ν s0 h0 ⟨rfl, hI⟩ fun s _ ⟨hL, hi⟩ => by subst hL; exact round s hi)
theorem d_bk {sl : List Nat} {env : σ → Env} {F : σ → List HP} {I : σ → Prop} {ν : σ → Nat} {s : σ} (s' : σ) (h0 : prn sl ρ = env s') (hI : I s') (hν : ν s' < ν s) (hs : Sub (F s') L) :
    E L (bk sl env (fun s M => M = F s ∧ I s) ν s ρ) := d_back s' (F s') h0 ⟨rfl, hI⟩ hν hs
end
end Go.Sp
namespace Go.Sp
open Go
attribute [go_sem] Nat.mul_one Nat.zero_mul Nat.add_zero
def cb (l : List UInt8) : List Value := l.map fun b => .int .u8 (b.toNat : Int)
theorem cb_len (l : List UInt8) : (cb l).length = l.length := by simp [cb]
theorem cb_get {l : List UInt8} {i : Nat} (h : i < l.length) : (cb l)[i]? = some (.int .u8 ((l.getD i 0).toNat : Int)) := by
  simp [cb, h]
theorem cb_set (l : List UInt8) (i : Nat) (x : UInt8) : cb (l.set i x) = (cb l).set i (.int .u8 (x.toNat : Int)) := by
  simp [cb, List.map_set]
theorem cb_rep (n : Nat) : cb (List.replicate n 0) = List.replicate n (.int .u8 0) := by simp [cb]
@[go_sem] theorem tn1 (n : Nat) : ((n : Int) + 1).toNat = n + 1 := by omega
@[go_sem] theorem tn2 (n : Nat) : ((n : Int) + 2).toNat = n + 2 := by omega
theorem bt_lt (m : List UInt8) (i : Nat) : bt m i < 256 := (m.getD i 0).toNat_lt
@[go_sem] theorem w64_bt (m : List UInt8) (i : Nat) : IntKind.wrap .i64 (bt m i : Int) = (bt m i : Int) := w64 (by omega) (by have := bt_lt m i; omega)
section
variable {e : Enc} {P : Program} {L L' L2 R : List HP} {A : HP} {w : World} {b o : Nat} {t : TypeId} {l : List UInt8}
theorem r_bs {k : W} {v : Int} (x : UInt8) (ha : At L (ar b t (cb l)) L') (ho : o < l.length) (hv : v = (x.toNat : Int)) (h : E (ar b t (cb (l.set o x)) :: L') k) : E L (st ⟨b, o, none⟩ (.int .u8 v) k) := by
  subst hv
  refine r_st ha (by rw [cb_len]; exact ho) rfl ?_
  rw [← cb_set]; exact h
theorem Rs.cut {p : Option Addr} {m c c' sz : Nat} {cs : List Value} (hR : Rs A (p, m, c) sz cs) {lo n : Nat} (hn : lo + n ≤ m) (hc : m ≤ c) : Rs A (slp p (lo : Int) (c : Int) sz, n, c') sz ((cs.drop (lo * sz)).take (n * sz)) := by
  obtain ⟨h1, h2, h3⟩ := hR
  refine ⟨?_, ?_, ?_⟩
  · simp only [List.length_take, List.length_drop, h1]
    have : n * sz ≤ m * sz - lo * sz := by rw [← Nat.sub_mul]; exact Nat.mul_le_mul_right _ (by omega)
    exact Nat.min_eq_left this
  · intro hz
    have hp : p ≠ none := h2 (by simp only at hz ⊢; omega)
    unfold slp
    simp only [Int.toNat_natCast]
    split
    · exact hp
    · cases p with
      | none => exact absurd rfl hp
      | some a => simp
  · intro a ha h hh j v hj
    have hj' : j < n * sz := by
      rcases Nat.lt_or_ge j (n * sz) with h | h
      · exact h
      · rw [List.getElem?_eq_none (by simp; omega)] at hj; cases hj
    rw [List.getElem?_take, if_pos hj', List.getElem?_drop] at hj
    unfold slp at ha
    simp only [Int.toNat_natCast] at ha
    split at ha
    · rename_i e
      have : n = 0 := by omega
      subst this; simp at hj'
    · cases p with
      | none => simp at ha
      | some a0 =>
        have : a = a0.add (lo * sz) := by simpa using ha.symm
        subst this
        rw [Deep.add_add]
        exact h3 a0 rfl h hh _ v hj
theorem Rs.eqn {s : SlV} {sz : Nat} {cs cs' : List Value} (h : Rs A s sz cs) (e : cs = cs') : Rs A s sz cs' := e ▸ h
def cvOk (P : Program) (s d : TypeId) : Bool := match P.underlying s, P.underlying d with
  | some (.slice e), some .string => match P.underlying e with
    | some (.int .u8) => true
    | _ => false
  | _, _ => false
theorem run_conv0 {s d : TypeId} (hk : cvOk P s d = true) (p : Option Addr) (n c : Nat) (bs : List UInt8) (hn : bs.length = n) (hp : n ≠ 0 → p ≠ none) (w : World) (hc : ∀ a, p = some a → ∀ j v, (cb bs)[j]? = some v → w.cell? (a.add j) = some v) :
    (oConv s d (.slice p n c)).run P w = .ok (str bs) w := by
  unfold cvOk at hk
  split at hk
  · rename_i el h1 h2
    split at hk
    · rename_i h3
      subst hn
      cases p with
      | some a =>
        have := run_convert_bytes_back (P := P) w s d el a c bs h1 h3 h2 (fun j hj => hc a rfl j _ (by rw [cb_get hj]; simp [hj]))
        exact this
      | none =>
        have : bs = [] := by
          cases bs with
          | nil => rfl
          | cons x r => exact absurd rfl (hp (by simp))
        subst this
        show (convert s d (.slice none 0 c)).run P w = _
        rw [run_convert_bytes_string w s d el none 0 c h1 h3 h2]
        rfl
    · cases hk
  · cases hk
theorem r_conv {s d : TypeId} {p : Option Addr} {n c : Nat} {k : List UInt8 → W} {bs : List UInt8} (hk : cvOk P s d = true) (hR : Rs A (p, n, c) 1 (cb bs)) (ha : At L A L') (h : E L (k bs)) : E L (val eS P (oConv s d (.slice p n c)) k) := fun w hw =>
  ⟨bs, w, run_conv0 hk p n c bs (by have := hR.1; rw [cb_len] at this; simpa using this) hR.2.1 w (fun a e j v hj => Holds.rd ha hw (fun q hq => hR.2.2 a e q hq j v hj)), h w hw⟩
def mkOk (P : Program) (t e : TypeId) : Bool := match P.underlying t, P.info? e with
  | some (.slice e'), some i => Nat.beq e' e && Nat.beq i.size 1 && Nat.beq i.bytes 1 && match i.zero with
    | some (.int .u8 0) => true
    | _ => false
  | _, _ => false
theorem made_b (n : Nat) : madeCells (Value.int .u8 0).cells (n * 1) = ⟨cb (List.replicate n 0)⟩ := by
  apply Array.toList_inj.1
  rw [cb_rep]
  simp only [madeCells, Nat.mul_one, Array.toList_map, Array.toList_range]
  apply List.ext_getElem
  · simp
  · intro i h1 h2
    have : (Value.int .u8 0).cells = #[.int .u8 0] := rfl
    simp [this, Nat.mod_one]
theorem r_mkb {tt el : TypeId} {n : Int} {k : SlV → W} (m : Nat) (hk : mkOk P tt el = true) (hn : n = (m : Int)) (hm : m ≤ 16777216) (h : ∀ b, E (ar b el (cb (List.replicate m 0)) :: L) (k (some ⟨b, 0, none⟩, m, m))) :
    E L (val eSl P (oMake tt (.int .i64 n) (.int .i64 n)) k) := by
  subst hn
  unfold mkOk at hk
  split at hk
  case h_2 => cases hk
  rename_i e' i h1 h2
  simp only [Bool.and_eq_true] at hk
  obtain ⟨⟨⟨h3, h4⟩, h5⟩, h6⟩ := hk
  have e3 := Nat.eq_of_beq_eq_true h3
  subst e3
  split at h6
  case h_2 => cases h6
  rename_i hz
  intro w hw
  have := run_makeSlice (P := P) w tt e' i (.int .u8 0) h1 h2 hz .i64 .i64 (m : Int) (m : Int) (by omega) (by omega) (by rw [Nat.eq_of_beq_eq_true h4]; simp; omega) (by rw [Nat.eq_of_beq_eq_true h5]; omega) (by omega)
  rw [Nat.eq_of_beq_eq_true h4] at this
  simp only [Int.toNat_natCast] at this
  rw [made_b] at this
  exact ⟨(some ⟨w.heap.size, 0, none⟩, m, m), _, this, h _ _ (Holds.push hw (.cells ⟨cb (List.replicate m 0)⟩ e' (0, 0)) rfl)⟩
end
end Go.Sp
namespace Go.Sp
open Go
theorem Rs.pre {α : Type} {cel : α → List Value} {A : HP} {sp : Option Addr} {m sc c' sz : Nat} {l : List α} (hR : Rs A (sp, m, sc) sz (l.flatMap cel)) (hc : ∀ x, (cel x).length = sz) (hm : m = l.length) {i : Nat} (hi : i ≤ m) (hcap : m ≤ sc) : Rs A (slp sp 0 (sc : Int) sz, i, c') sz ((l.take i).flatMap cel) := by
  have h := hR.cut (c' := c') (lo := 0) (n := i) (by omega) hcap
  refine h.eqn ?_
  rw [Nat.zero_mul, List.drop_zero]
  have h1 : l.flatMap cel = (l.take i).flatMap cel ++ (l.drop i).flatMap cel := by rw [← List.flatMap_append, List.take_append_drop]
  rw [h1, List.take_append_of_le_length (by rw [flat_len hc]; simp; rw [Nat.min_eq_left (by omega)]; exact Nat.le_refl _), List.take_of_length_le (by rw [flat_len hc]; simp; exact Nat.mul_le_mul_right _ (by omega))]
end Go.Sp
namespace Go.Sp
open Go
attribute [go_sem] Nat.reduceAdd Nat.reduceEqDiff Int.reduceToNat Nat.reduceMul Nat.reduceSub
attribute [push_cast] Option.isNone_some Option.isNone_none
class AX (L : List HP) (x : HP) (R : outParam (List HP)) : Prop where p : At L x R
class A1 (L : List HP) (b : Nat) (t : outParam TypeId) (l : outParam (List Value)) (R : outParam (List HP)) : Prop where p : At L (ar b t l) R
class TX (L A : List HP) (R : outParam (List HP)) : Prop where p : Takes L A R
class SX (R L : List HP) : Prop where p : Sub R L
class NX (A L : List HP) (R : outParam (List HP)) : Prop where e : A ++ L = R
theorem At.pre (X : List HP) {L R : List HP} {x : HP} (h : At L x R) : At (X ++ L) x (X ++ R) := by
  induction X with
  | nil => exact h
  | cons y X ih => exact .there ih
instance AX.ap {X L R : List HP} {x : HP} [h : AX L x R] : AX (X ++ L) x (X ++ R) := ⟨h.p.pre X⟩
instance AX.apn {L R : List HP} {x : HP} [h : AX L x R] : AX ([] ++ L) x R := ⟨h.p⟩
instance AX.apc {a x : HP} {A L R : List HP} [h : AX (a :: (A ++ L)) x R] : AX ((a :: A) ++ L) x R := ⟨h.p⟩
instance AX.there {x y : HP} {L R : List HP} [h : AX L x R] : AX (y :: L) x (y :: R) := ⟨.there h.p⟩
instance AX.here {x : HP} {L : List HP} : AX (x :: L) x L := ⟨.here⟩
section
variable {b : Nat} {t : TypeId} {l : List Value} {L R A X : List HP} {x y a : HP}
instance A1.ap [h : A1 L b t l R] : A1 (X ++ L) b t l (X ++ R) := ⟨h.p.pre X⟩
instance A1.apn [h : A1 L b t l R] : A1 ([] ++ L) b t l R := ⟨h.p⟩
instance A1.apc [h : A1 (a :: (A ++ L)) b t l R] : A1 ((a :: A) ++ L) b t l R := ⟨h.p⟩
instance A1.there [h : A1 L b t l R] : A1 (y :: L) b t l (y :: R) := ⟨.there h.p⟩
instance A1.here : A1 (ar b t l :: L) b t l L := ⟨.here⟩
end
instance NX.nil {L : List HP} : NX [] L L := ⟨rfl⟩
instance NX.cons {a : HP} {A L R : List HP} [h : NX A L R] : NX (a :: A) L (a :: R) := ⟨congrArg (a :: ·) h.e⟩
theorem Takes.app {L A B R R' : List HP} (h : Takes L A R) (h' : Takes R B R') : Takes L (A ++ B) R' := by
  induction h with
  | nil => exact h'
  | cons ha _ ih => exact .cons ha (ih h')
instance TX.nil {L : List HP} : TX L [] L := ⟨.nil⟩
instance TX.app {L A B R R' : List HP} [h : TX L A R] [h' : TX R B R'] : TX L (A ++ B) R' := ⟨h.p.app h'.p⟩
instance TX.cons {L L' A R : List HP} {x : HP} [h : AX L x L'] [h' : TX L' A R] : TX L (x :: A) R := ⟨.cons h.p h'.p⟩
theorem Takes.all (A : List HP) {L : List HP} : Takes (A ++ L) A L := by
  induction A with
  | nil => exact .nil
  | cons a A ih => exact .cons .here ih
instance TX.self {A L : List HP} : TX (A ++ L) A L := ⟨.all A⟩
theorem Takes.sub {L A R R' : List HP} (h : Takes L A R) (hs : Sub R' R) : Sub (A ++ R') L := by
  induction h with
  | nil => exact hs
  | cons ha _ ih => exact .cons ha (ih hs)
theorem Takes.back {L A R : List HP} (t : Takes L A R) : ∀ {h : PH}, HS (A ++ R) h → HS L h := by
  induction t with
  | nil => exact id
  | cons h _ ih => exact fun z => h.back (HS.cong (fun _ => ih) z)
instance (priority := 100) SX.drop {R L : List HP} {y : HP} [h : SX R L] : SX R (y :: L) := ⟨.drop h.p⟩
instance SX.app {A R L L' : List HP} [h : TX L A L'] [h' : SX R L'] : SX (A ++ R) L := ⟨h.p.sub h'.p⟩
instance SX.cons {R L L' : List HP} {x : HP} [h : AX L x L'] [h' : SX R L'] : SX (x :: R) L := ⟨.cons h.p h'.p⟩
instance SX.nil {L : List HP} : SX [] L := ⟨.nil⟩
instance (priority := 2000) SX.refl {L : List HP} : SX L L := ⟨.refl⟩
section
variable {e : Enc} {P : Program} {L L' M R R' A B : List HP} {w : World} {b o n : Nat} {t : TypeId} {l cs vs : List Value}
theorem i_ld {k : e.α → W} {x : e.α} [h : A1 L b t l R] (hl : l[o]? = some (e.enc x)) (hk : E L (k x)) : E L (ld e ⟨b, o, none⟩ k) := r_ld h.p hl hk
theorem i_ldq {k : e.α → W} {x : e.α} [h : A1 R b t l R'] (hl : l[o]? = some (e.enc x)) (hk : E L (k x)) : E L (ldq (HW R) e ⟨b, o, none⟩ k) := r_ldq h.p hl hk
theorem i_lds {k : Option Addr × Nat × Nat → W} {p : Option Addr} {m c : Nat} [h : A1 L b t l R] (hl : l[o]? = some (.slice p m c)) (hk : E L (k (p, m, c))) : E L (ld eSl ⟨b, o, none⟩ k) := r_ld (x := (p, m, c)) h.p hl hk
theorem i_ldsq {k : Option Addr × Nat × Nat → W} {p : Option Addr} {m c : Nat} [h : A1 R b t l R'] (hl : l[o]? = some (.slice p m c)) (hk : E L (k (p, m, c))) : E L (ldq (HW R) eSl ⟨b, o, none⟩ k) := r_ldq (x := (p, m, c)) h.p hl hk
theorem i_ldn {k : e.α → W} {x : e.α} [h : A1 L b t l R] (hl : (l.drop o).take n = cs) (hx : e.enc x = .agg cs.toArray) (hn : cs.length = n) (hk : E L (k x)) : E L (ldn e n ⟨b, o, none⟩ k) := r_ldn h.p hx hn hl hk
theorem i_ldnq {k : e.α → W} {x : e.α} [h : A1 R b t l R'] (hl : (l.drop o).take n = cs) (hx : e.enc x = .agg cs.toArray) (hn : cs.length = n) (hk : E L (k x)) : E L (ldnq (HW R) e n ⟨b, o, none⟩ k) := r_ldnq h.p hx hn hl hk
theorem i_st {k : W} {v : Value} [h : A1 L b t l R] (ho : o < l.length) (hv : one v = true) (hk : E (ar b t (l.set o v) :: R) k) : E L (st ⟨b, o, none⟩ v k) := r_st h.p ho hv hk
theorem i_stl {k : W} [h : A1 L b t l R] (ho : o + vs.length ≤ l.length) (hv : vs.all one = true) (hk : E (ar b t (spl l o vs) :: R) k) : E L (stl vs ⟨b, o, none⟩ 0 k) := r_stl h.p ho hv hk
theorem i_kp0 {F : W → W} [s : SX R L] (h : E L (F (HW R))) : E L (kpn (HW R) F) := r_kp0 s.p h
def cndO (o : Option Value) (A B : Prop) : Prop := match o with
  | some (.bool b) => (b = true → A) ∧ (b = false → B)
  | _ => False
theorem d_cnd {c : Cfg} {Q : KQ} {ρ : Env} {x : Operand} {y z : Sk} (h : cndO (evO ρ x) (E L (D c y Q ρ)) (E L (D c z Q ρ))) : E L (D c (.cond x y z) Q ρ) := by
  unfold cndO at h
  split at h
  · rename_i b hx
    exact d_cond hx h.1 h.2
  · exact h.elim
theorem d_blk {c : Cfg} {Q : KQ} {ρ : Env} {id : Nat} {b : Sk} (h : E L (D c b (inb id Q) ρ)) : E L (D c (.block id b) Q ρ) := h
theorem d_sk0 {c : Cfg} {Q : KQ} {ρ : Env} (h : E L (Q .normal ρ)) : E L (D c .skip Q ρ) := h
theorem d_rt0 {c : Cfg} {Q : KQ} {ρ : Env} (h : E L (Q .ret ρ)) : E L (D c .ret Q ρ) := h
theorem d_ex0 {c : Cfg} {Q : KQ} {ρ : Env} {id : Nat} (h : E L (Q (.exit id) ρ)) : E L (D c (.exit id) Q ρ) := h
class SG (G : Prop) (G' : outParam Prop) : Prop where p : G' → G
class SL (G : Prop) (G' : outParam Prop) : Prop where p : G' → G
class SC (G : Prop) (G' : outParam Prop) : Prop where p : G' → G
class SP (G : Prop) (G' : outParam Prop) : Prop where p : G' → G
theorem i_c {G G' A B : Prop} [s : SC G G'] (a : A) (b : B) (h : A ∧ B → G' := by exact fun x => x) : G := s.p (h ⟨a, b⟩)
structure Ip (Q P : Prop) : Prop where p : Q → P
theorem w_rq {p : Prop} {k : W} (h : p) : Ip (E L k) (E L (rq p k)) := ⟨r_rq h⟩
theorem w_sl {G G' Q : Prop} [s : SL G G'] (h : Ip Q G') : Ip Q G := ⟨fun q => s.p (h.p q)⟩
theorem w_e1 {α : Type} {X Y : α → Prop} {x : α} (h : X x) : Ip (Y x) (∃ x, X x ∧ Y x) := ⟨fun q => ⟨x, h, q⟩⟩
theorem w_e3 {α β γ : Type} {X Y : α → β → γ → Prop} {x : α} {y : β} {z : γ} (h : X x y z) : Ip (Y x y z) (∃ x y z, X x y z ∧ Y x y z) := ⟨fun q => ⟨x, y, z, h, q⟩⟩
theorem w_a {a b c : Prop} (h : a) (h2 : b) : Ip c (a ∧ b ∧ c) := ⟨fun q => ⟨h, h2, q⟩⟩
theorem w_ldn {k : e.α → W} {x : e.α} [h : A1 L b t l R] (hl : (l.drop o).take n = cs) (hx : e.enc x = .agg cs.toArray) (hn : cs.length = n) : Ip (E L (k x)) (E L (ldn e n ⟨b, o, none⟩ k)) := ⟨i_ldn hl hx hn⟩
theorem w_ldq {k : e.α → W} {x : e.α} [h : A1 R b t l R'] (hl : (l.drop o).take n = cs) (hx : e.enc x = .agg cs.toArray) (hn : cs.length = n) : Ip (E L (k x)) (E L (ldnq (HW R) e n ⟨b, o, none⟩ k)) := ⟨i_ldnq hl hx hn⟩
theorem w_ph {F : W → W} {Q : Prop} (h : Ip Q (E L (ph F))) : Ip Q (E L (ph F)) := h
theorem w_rg {c : Cfg} {Q : KQ} {ρ : Env} {id : Nat} {P : Prop} (h : Ip P (E L (RP c id (prn (c.li id) ρ) (Q .normal)))) : Ip P (E L (D c (.reg id) Q ρ)) := ⟨fun q => d_reg (h.p q)⟩
theorem w_id {P : Prop} : Ip P P := ⟨id⟩
theorem i_x {P Q : Prop} (q : Q) (h : Ip Q P := by
    first
    | with_reducible exact w_rq (by first | decide | omega)
    | ((with_reducible apply w_sl); first | exact w_e1 rfl | exact w_e3 rfl | (refine w_a ?_ rfl; simp <;> fail))
    | ((with_reducible first | apply w_ldn | apply w_ldq); iterate 3 exact rfl)
    | ((fail_if_success with_reducible refine w_ph ?_); (try with_reducible apply w_rg); simp only [go_sem]; exact w_id)) : P := h.p q
instance {c : Cfg} {Q : KQ} {ρ : Env} {id : Nat} {b : Sk} : SG (E L (D c (.block id b) Q ρ)) (E L (D c b (inb id Q) ρ)) := ⟨d_blk⟩
instance {c : Cfg} {Q : KQ} {ρ : Env} : SG (E L (D c .skip Q ρ)) (E L (Q .normal ρ)) := ⟨d_sk0⟩
instance {c : Cfg} {Q : KQ} {ρ : Env} : SG (E L (D c .ret Q ρ)) (E L (Q .ret ρ)) := ⟨d_rt0⟩
instance {c : Cfg} {Q : KQ} {ρ : Env} {id : Nat} : SG (E L (D c (.exit id) Q ρ)) (E L (Q (.exit id) ρ)) := ⟨d_ex0⟩
instance {k : Addr → W} : SG (E L (nwc l.toArray t k)) (∀ b, E (ar b t l :: L) (k ⟨b, 0, none⟩)) := ⟨r_nwc⟩
instance {F : W → W} : SP (E L (ph F)) (E L (F (HW L))) := ⟨r_ph0⟩
instance {F : W → W} [s : SX R L] : SG (E L (kpn (HW R) F)) (E L (F (HW R))) := ⟨i_kp0⟩
instance {k : e.α → W} [h : A1 L b t l R] : SL (E L (ld e ⟨b, o, none⟩ k)) (∃ x, l[o]? = some (e.enc x) ∧ E L (k x)) := ⟨fun ⟨_, h1, h2⟩ => i_ld h1 h2⟩
instance {k : e.α → W} [h : A1 R b t l R'] : SL (E L (ldq (HW R) e ⟨b, o, none⟩ k)) (∃ x, l[o]? = some (e.enc x) ∧ E L (k x)) := ⟨fun ⟨_, h1, h2⟩ => i_ldq h1 h2⟩
instance (priority := 2000) {k : Option Addr × Nat × Nat → W} [h : A1 L b t l R] : SL (E L (ld eSl ⟨b, o, none⟩ k)) (∃ p m c, l[o]? = some (.slice p m c) ∧ E L (k (p, m, c))) := ⟨fun ⟨_, _, _, h1, h2⟩ => i_lds h1 h2⟩
instance (priority := 2000) {k : Option Addr × Nat × Nat → W} [h : A1 R b t l R'] : SL (E L (ldq (HW R) eSl ⟨b, o, none⟩ k)) (∃ p m c, l[o]? = some (.slice p m c) ∧ E L (k (p, m, c))) := ⟨fun ⟨_, _, _, h1, h2⟩ => i_ldsq h1 h2⟩
instance {k : W} {v : Value} [h : A1 L b t l R] : SL (E L (st ⟨b, o, none⟩ v k)) (o < l.length ∧ one v = true ∧ E (ar b t (l.set o v) :: R) k) := ⟨fun ⟨h1, h2, h3⟩ => i_st h1 h2 h3⟩
instance {k : W} [h : A1 L b t l R] : SL (E L (stl vs ⟨b, o, none⟩ 0 k)) (o + vs.length ≤ l.length ∧ vs.all one = true ∧ E (ar b t (spl l o vs) :: R) k) := ⟨fun ⟨h1, h2, h3⟩ => i_stl h1 h2 h3⟩
instance {c : Cfg} {Q : KQ} {ρ : Env} {x : Operand} {y z : Sk} : SC (E L (D c (.cond x y z) Q ρ)) (cndO (evO ρ x) (E L (D c y Q ρ)) (E L (D c z Q ρ))) := ⟨d_cnd⟩
instance {b : Bool} {k1 k2 : W} : SC (E L (cnd b k1 k2)) ((b = true → E L k1) ∧ (b = false → E L k2)) := ⟨fun h => r_cnd h.1 h.2⟩
def Fq (e : Enc) (P : Program) (f : FuncId) (args : Array Value) (A B : List HP) (x : e.α) : Prop := Fn e P f args A fun y X => X = B ∧ y = x
theorem Fp.q {f : FuncId} {args : Array Value} {x : e.α} (h : Fp e P f args A x) : Fq e P f args A A x := h
theorem r_clq {f : FuncId} {args : Array Value} {x : e.α} {k : e.α → W} (h : Fq e P f args A B x) (ht : Takes L A L') (hk : E (B ++ L') (k x)) : E L (cal e P f args k) :=
  r_cal h ht fun y X hB => by
    obtain ⟨rfl, rfl⟩ := hB
    exact hk
theorem i_clq {f : FuncId} {args : Array Value} {x : e.α} {k : e.α → W} (h : Fq e P f args A B x) [ht : TX L A L'] [hn : NX B L' M] (hk : E M (k x)) : E L (cal e P f args k) :=
  r_clq h ht.p (hn.e.symm ▸ hk)
theorem i_clp {f : FuncId} {args : Array Value} {x : e.α} {k : e.α → W} (h : Fp e P f args A x) [ht : TX L A L'] (hk : E L (k x)) : E L (cal e P f args k) :=
  r_clq (Fp.q h) ht.p fun w hw => hk w (ht.p.back hw)
theorem i_ret {v : Value} {x x' : e.α} [s : SX (B ++ L') L] (hv : v = e.enc x) (hx : x = x') :
    E L (fin e (fun y w => ∃ X, (X = B ∧ y = x') ∧ Holds w (X ++ L')) v) := r_retb hv hx s.p
theorem i_ret0 {v : Value} [s : SX (B ++ L') L] (hv : v = eN.enc ()) : E L (fin eN (fun _ w => ∃ X, (X = B ∧ True) ∧ Holds w (X ++ L')) v) := fun _ hw => ⟨(), hv, B, ⟨rfl, trivial⟩, hw.sub s.p⟩
theorem i_ret2 {a b : Enc} {v : Value} {x : a.α} {y : b.α} {x' : a.α × b.α} [s : SX (B ++ L') L] (hv : v = .tuple #[a.enc x, b.enc y]) (hx : (x, y) = x') :
    E L (fin (eT2 a b) (fun y w => ∃ X, (X = B ∧ y = x') ∧ Holds w (X ++ L')) v) := r_retb (x := (x, y)) hv hx s.p
theorem i_ret3 {a b c : Enc} {v : Value} {x : a.α} {y : b.α} {z : c.α} {x' : a.α × b.α × c.α} [s : SX (B ++ L') L] (hv : v = .tuple #[a.enc x, b.enc y, c.enc z]) (hx : (x, y, z) = x') :
    E L (fin (eT3 a b c) (fun y w => ∃ X, (X = B ∧ y = x') ∧ Holds w (X ++ L')) v) := r_retb (x := (x, y, z)) hv hx s.p
theorem Fq.fold {f : FuncId} {args : Array Value} {x : e.α} {C : List HP} (h : Fq e P f args (A ++ C) (B ++ C) x) : Fq e P f args (HS A :: C) (HS B :: C) x := fun L w hw => by
  have h0 : Holds w ((A ++ C) ++ L) := by simpa using Holds.open (by simpa using hw : Holds w (HS A :: (C ++ L)))
  refine Calls.mono (h L w h0) ?_
  rintro _ w' ⟨y, he, X, ⟨rfl, rfl⟩, hX⟩
  refine ⟨_, he, _, ⟨rfl, rfl⟩, ?_⟩
  have h1 : Holds w' (B ++ (C ++ L)) := by simpa using hX
  simpa using Holds.close h1
theorem Fq.more {f : FuncId} {args : Array Value} {x : e.α} (h : Fq e P f args A B x) (C : List HP) : Fq e P f args (A ++ C) (B ++ C) x := fun L w hw => by
  refine Calls.mono (h (C ++ L) w (by simpa using hw)) ?_
  rintro _ w' ⟨y, he, X, ⟨rfl, rfl⟩, hX⟩
  exact ⟨_, he, _, ⟨rfl, rfl⟩, by simpa using hX⟩
theorem E.open {G : World → Prop} (h : E (A ++ L) G) : E (HS A :: L) G := fun w hw => h w hw.open
theorem E.close {G : World → Prop} (h : E (HS A :: L) G) : E (A ++ L) G := fun w hw => h w hw.close
end
end Go.Sp
namespace Go.Sp
open Go Go.MapKept
section
variable {κ ε : Enc}
abbrev Ents (κ ε : Enc) := List (κ.α × ε.α × Nat)
def men (κ ε : Enc) (x : κ.α × ε.α × Nat) : MapEntry := { key := κ.enc x.1, val := ε.enc x.2.1, born := x.2.2 }
def mp (κ ε : Enc) (m : Nat) (es : Ents κ ε) (c : Nat) : HP := blk m (.map ⟨es.map (men κ ε)⟩ c)
def gk [DecidableEq κ.α] : Ents κ ε → κ.α → Option ε.α
  | [], _ => none
  | x :: r, k => if x.1 = k then some x.2.1 else gk r k
def pk [DecidableEq κ.α] : Ents κ ε → κ.α → ε.α → Nat → Ents κ ε
  | [], k, v, c => [(k, v, c)]
  | x :: r, k, v, c => if x.1 = k then (k, v, x.2.2) :: r else x :: pk r k v c
def ck [DecidableEq κ.α] (es : Ents κ ε) (k : κ.α) (c : Nat) : Nat := if gk es k = none then c + 1 else c
def kdOk (d : TypeDesc) (κ : Enc) : Prop := (∀ a, IsKey d (κ.enc a)) ∧ ∀ a b, κ.enc a = κ.enc b → a = b
theorem mp_get {L : List HP} {m c : Nat} {es : Ents κ ε} {w : World} (h : Holds w (mp κ ε m es c :: L)) : w.heap[m]? = some (.map ⟨es.map (men κ ε)⟩ c) := Holds.get h
theorem str_inj {a b : List UInt8} (h : str a = str b) : a = b := by
  unfold str at h
  simpa using h
theorem kd_i : kdOk (.int .i64) eI := ⟨fun _ => rfl, fun _ _ h => by simpa using h⟩
theorem kd_s : kdOk .string eS := ⟨fun _ => trivial, fun _ _ h => str_inj h⟩
theorem findNow_gk [DecidableEq κ.α] {d : TypeDesc} (hd : kdOk d κ) (k : κ.α) : ∀ (es : Ents κ ε) (i : Nat),
    (gk es k = none ∧ Instr.findNow d (κ.enc k) (es.map (men κ ε)) i = some none ∧ ∀ v c, pk es k v c = es ++ [(k, v, c)]) ∨
    ∃ j x, gk es k = some x.2.1 ∧ es[j]? = some x ∧ x.1 = k ∧ Instr.findNow d (κ.enc k) (es.map (men κ ε)) i = some (some (i + j, ε.enc x.2.1)) ∧ ∀ v c, pk es k v c = es.set j (k, v, x.2.2)
  | [], i => .inl ⟨rfl, rfl, fun _ _ => rfl⟩
  | x :: r, i => by
    obtain ⟨q, hq, hi⟩ := sameNow_of_keys (hd.1 k) (hd.1 x.1)
    by_cases h : x.1 = k
    · right
      have : q = true := hi.2 (by rw [h])
      subst this
      refine ⟨0, x, by simp [gk, h], rfl, h, ?_, fun v c => by simp [pk, h]⟩
      simp [Instr.findNow, men, hq]
    · have : q = false := by
        cases q with
        | false => rfl
        | true => exact absurd (hd.2 _ _ (hi.1 rfl)).symm h
      subst this
      rcases findNow_gk hd k r (i + 1) with ⟨h1, h2, h3⟩ | ⟨j, y, h1, h2, h3, h4, h5⟩
      · left
        refine ⟨by simp [gk, h, h1], ?_, fun v c => by simp [pk, h, h3]⟩
        simp only [List.map_cons, Instr.findNow, men, hq]
        exact h2
      · right
        refine ⟨j + 1, y, by simp [gk, h, h1], by simpa using h2, h3, ?_, fun v c => by simp [pk, h, h5]⟩
        simp only [List.map_cons, Instr.findNow, men, hq]
        refine h4.trans ?_
        rw [show i + 1 + j = i + (j + 1) by omega]
end
section
variable {κ ε : Enc} [DecidableEq κ.α] {P : Program} {L L' R R' L2 : List HP} {tt kt et : TypeId} {d : TypeDesc} {m c : Nat} {es : Ents κ ε}
theorem run_lk {w : World} (ht : P.underlying tt = some (.map kt et)) (hd : P.underlying kt = some d) (hk : kdOk d κ) {z : ε.α} {i : TypeInfo} (hi : P.info? et = some i) (hz : i.zero = some (ε.enc z)) (hb : w.heap[m]? = some (.map ⟨es.map (men κ ε)⟩ c)) (k : κ.α) (b : Bool) :
    (oLookup tt (.map (some m)) (κ.enc k) b).run P w = .ok (if b then .tuple #[ε.enc ((gk es k).getD z), .bool (gk es k).isSome] else ε.enc ((gk es k).getD z)) w := by
  unfold oLookup Instr.lookup
  rcases findNow_gk hk k es 0 with ⟨h1, h2, _⟩ | ⟨j, x, h1, h2, h3, h4, _⟩
  · have hz' : (zeroValue et).run P w = .ok (ε.enc z) w := by simp [zeroValue, typeInfo, hi, hz]
    cases b <;> simp [run_underlying ht, MapKept.run_getObj_map hb, run_checkKey hd (hk.1 k), run_findKey hd h2, h1, hz', Result.andThen]
  · cases b <;> simp [run_underlying ht, MapKept.run_getObj_map hb, run_checkKey hd (hk.1 k), run_findKey hd h4, h1, Result.andThen]
def mpOk (P : Program) (tt : TypeId) (z : Value) (s : Bool) : Bool := match P.underlying tt with
  | some (.map kt et) => (match P.underlying kt, s with
    | some (.int .i64), false => true
    | some .string, true => true
    | _, _ => false) && (match P.info? et with
    | some i => (match i.zero, z with
      | some (.string a), .string b => a.data.toList == b.data.toList
      | some (.int .i64 a), .int .i64 b => a == b
      | some (.bool a), .bool b => a == b
      | some (.map none), .map none => true
      | _, _ => false)
    | none => false)
  | _ => false
theorem mpOk_spec {z : Value} {s : Bool} (h : mpOk P tt z s = true) : ∃ kt et i, P.underlying tt = some (.map kt et) ∧ P.underlying kt = some (if s then .string else .int .i64) ∧ P.info? et = some i ∧ i.zero = some z := by
  unfold mpOk at h
  split at h
  case h_2 => cases h
  rename_i kt et h1
  simp only [Bool.and_eq_true] at h
  obtain ⟨h2, h3⟩ := h
  split at h3
  case h_2 => cases h3
  rename_i i hi
  refine ⟨kt, et, i, h1, ?_, hi, ?_⟩
  · split at h2
    · rename_i hk; exact hk
    · rename_i hk; exact hk
    · cases h2
  · split at h3
    · rename_i a b hz
      rw [hz]
      have h4 : a.data.toList = b.data.toList := by simpa using h3
      obtain ⟨⟨a⟩⟩ := a
      obtain ⟨⟨b⟩⟩ := b
      simp at h4
      rw [h4]
    · rename_i hz; rw [hz]; simpa using h3
    · rename_i hz; rw [hz]; simpa using h3
    · rename_i hz; exact hz
    · cases h3
end
section
variable {ε : Enc} {P : Program} {L L' R R' L2 : List HP} {tt kt et : TypeId} {m c : Nat}
theorem r_lk2 {es : Ents eI ε} {i : Int} {k : ε.α × Bool → W} (z : ε.α) (h : mpOk P tt (ε.enc z) false = true) (ha : At L (mp eI ε m es c) L') (hk : E L (k ((gk es i).getD z, (gk es i).isSome))) :
    E L (val (eT2 ε eB) P (oLookup tt (.map (some m)) (.int .i64 i) true) k) := fun w hw => by
  obtain ⟨_, _, _, h1, h2, h3, h4⟩ := mpOk_spec h
  exact ⟨((gk es i).getD z, (gk es i).isSome), w, run_lk (κ := eI) h1 h2 kd_i h3 h4 (mp_get (ha.hs hw)) i true, hk w hw⟩
theorem r_lk1q {es : Ents eI ε} {i : Int} {k : ε.α → W} (z : ε.α) (h : mpOk P tt (ε.enc z) false = true) (ha : At R (mp eI ε m es c) L') (hk : E L (k ((gk es i).getD z))) :
    E L (valq (HW R) ε P (oLookup tt (.map (some m)) (.int .i64 i) false) k) := fun w hw => by
  obtain ⟨_, _, _, h1, h2, h3, h4⟩ := mpOk_spec h
  exact ⟨_, fun w' hw' => run_lk (κ := eI) h1 h2 kd_i h3 h4 (mp_get (ha.hs hw')) i false, hk w hw⟩
theorem ents_modify {κ ε : Enc} (es : Ents κ ε) (j : Nat) (x : κ.α × ε.α × Nat) (hx : es[j]? = some x) (k : κ.α) (v : ε.α) :
    ((⟨es.map (men κ ε)⟩ : Array MapEntry).modify j fun e => { e with key := κ.enc k, val := ε.enc v }) = ⟨(es.set j (k, v, x.2.2)).map (men κ ε)⟩ := by
  have hj : j < es.length := (List.getElem?_eq_some_iff.1 hx).1
  have hx' : es[j] = x := (List.getElem?_eq_some_iff.1 hx).2
  apply Array.ext_getElem?
  intro i
  simp only [Array.getElem?_modify, List.getElem?_toArray, List.getElem?_map, List.getElem?_set]
  by_cases h : j = i
  · subst h
    simp [hj, hx', men]
  · simp [h]
theorem r_mu {es : Ents eI ε} {i : Int} {v : ε.α} {k : W} (z : ε.α) (h : mpOk P tt (ε.enc z) false = true) (ha : At L (mp eI ε m es c) L') (hk : E (mp eI ε m (pk es i v c) (ck es i c) :: L') k) :
    E L (unt P (oMapUpdate tt (.map (some m)) (.int .i64 i) (ε.enc v)) k) := fun w hw => by
  obtain ⟨kt, _, _, h1, h2, _, _⟩ := mpOk_spec h
  have hw' := ha.hs hw
  have hb := mp_get hw'
  have hkey : IsKey (.int .i64) (.int .i64 i) := rfl
  unfold oMapUpdate Instr.mapUpdate
  rcases findNow_gk (κ := eI) kd_i i es 0 with ⟨g1, g2, g3⟩ | ⟨j, x, g1, g2, g3, g4, g5⟩
  · refine ⟨{ w with heap := w.heap.setIfInBounds m (.map ⟨(pk es i v c).map (men eI ε)⟩ (ck es i c)) }, ?_, hk _ (Holds.set hw' _ rfl)⟩
    simp only [run_underlying h1, Sem.run_bind, Result.andThen, MapKept.run_getObj_map hb, run_checkKey h2 hkey, run_findKey h2 g2, MapKept.run_setObj_map _ hb]
    simp [g3, ck, g1, men]
  · refine ⟨{ w with heap := w.heap.setIfInBounds m (.map ⟨(pk es i v c).map (men eI ε)⟩ (ck es i c)) }, ?_, hk _ (Holds.set hw' _ rfl)⟩
    have hg : (((⟨es.map (men eI ε)⟩ : Array MapEntry)[0 + j]?).map (·.key)).getD (.int .i64 i) = .int .i64 i := by
      simp [g2, men, g3]
    simp only [run_underlying h1, Sem.run_bind, Result.andThen, MapKept.run_getObj_map hb, run_checkKey h2 hkey, run_findKey h2 g4, hg, run_keyThatStays hkey, MapKept.run_setObj_map _ hb]
    have := ents_modify es j x g2 i v
    simp only [Nat.zero_add]
    rw [show (eI.enc i) = Value.int .i64 i from rfl] at this
    rw [this, g5]
    simp [ck, g1]
theorem r_mclr {κ ε : Enc} {es : Ents κ ε} {t ty : TypeId} {k : Unit → W} {a b : TypeId} (h : P.underlying t = some (.map a b)) (ha : At L (mp κ ε m es c) L') (hk : E (mp κ ε m [] c :: L') (k ())) :
    E L (val eN P (oB_clear #[t] ty #[.map (some m)]) k) := fun w hw => by
  have hw' := ha.hs hw
  have hb := mp_get hw'
  refine ⟨(), { w with heap := w.heap.setIfInBounds m (.map #[] c) }, ?_, hk _ (Holds.set hw' _ rfl)⟩
  unfold oB_clear Builtin.clear_
  simp [run_underlying h, MapKept.run_getObj_map hb, MapKept.run_setObj_map _ hb, Result.andThen]
theorem r_mrng {κ ε : Enc} {es : Ents κ ε} {k : Option Addr → W} {a b : TypeId} (h : P.underlying tt = some (.map a b)) (ha : At L (mp κ ε m es c) L') (hk : ∀ i, E (blk i (.mapIter (some m) c #[] c) :: L) (k (some ⟨i, 0, none⟩))) :
    E L (val eP P (oRange tt (.map (some m))) k) := fun w hw =>
  ⟨_, _, run_range_map w tt a b m _ c h (mp_get (ha.hs hw)), hk _ _ (Holds.push hw _ rfl)⟩
theorem r_mnx {κ ε : Enc} {es : Ents κ ε} {it c0 since : Nat} {seen : Array Nat} {ty : TypeId} {k1 : W} {k2 : Bool × κ.α × ε.α → W} (hi : At L (blk it (.mapIter (some m) since seen c0)) L') (ha : At L' (mp κ ε m es c) L2)
    (hold : ∀ x ∈ es, x.2.2 < since) (hs : since ≤ c0) (h1 : (∀ x ∈ es, x.2.2 ∈ seen) → E L k1)
    (h2 : ∀ x ∈ es, ¬ x.2.2 ∈ seen → E (blk it (.mapIter (some m) since (seen.push x.2.2) c) :: L') (k2 (true, x.1, x.2.1))) :
    E L (nxt (eT3 eB κ ε) P (oNext (.pointer (some ⟨it, 0, none⟩)) false ty) k1 k2) := fun w hw => by
  have hw1 := hi.hs hw
  have hr := Holds.get hw1
  have hb : w.heap[m]? = some (.map ⟨es.map (men κ ε)⟩ c) := Holds.get (ha.hs (HS.tl hw1))
  have hold' : ∀ x ∈ (⟨es.map (men κ ε)⟩ : Array MapEntry).toList, x.born < since := by
    intro x hx
    obtain ⟨y, hy, rfl⟩ := List.mem_map.1 hx
    exact hold y hy
  rcases run_next_at (P := P) w ty it m since c0 seen _ c hr hb hold' hs with ⟨g1, g2⟩ | ⟨e, he, w1, hw', g2⟩
  · refine ⟨w, .inl ⟨g2, h1 (fun x hx => ?_) w hw⟩⟩
    by_cases hc : x.2.2 ∈ seen
    · exact hc
    · exfalso
      have : men κ ε x ∈ (leftOf ⟨es.map (men κ ε)⟩ seen).toList := by
        unfold leftOf
        simp only [Array.toList_filter, List.mem_filter, List.mem_map]
        refine ⟨⟨x, hx, rfl⟩, ?_⟩
        simp only [men]
        simpa using hc
      have h0 : (leftOf ⟨es.map (men κ ε)⟩ seen).toList = [] := by
        apply List.eq_nil_of_length_eq_zero; simpa using g1
      rw [h0] at this
      cases this
  · obtain ⟨m1, m2⟩ := mem_left he
    obtain ⟨x, hx, rfl⟩ := List.mem_map.1 m1
    have hns : ¬ x.2.2 ∈ seen := by simpa [men] using m2
    refine ⟨_, .inr ⟨(true, x.1, x.2.1), g2, h2 x hx hns _ ?_⟩⟩
    have hw2 : Holds w1 (blk it (.mapIter (some m) since seen c0) :: L') := by
      rcases hw' with rfl | rfl
      · exact hw1
      · exact Holds.heap hw1 rfl
    exact Holds.set hw2 _ rfl
theorem r_mlen {κ ε : Enc} {es : Ents κ ε} {t ty : TypeId} {k : Int → W} {a b : TypeId} (h : P.underlying t = some (.map a b)) (ha : At L (mp κ ε m es c) L') (hk : E L (k (es.length : Int))) :
    E L (val eI P (oB_len #[t] ty #[.map (some m)]) k) := fun w hw => by
  refine ⟨_, w, ?_, hk w hw⟩
  unfold oB_len Builtin.len_
  simp [run_underlying h, MapKept.run_getObj_map (mp_get (ha.hs hw)), goInt, Result.andThen]
class M1 (L : List HP) (κ ε : Enc) (m : Nat) (es : outParam (Ents κ ε)) (c : outParam Nat) (R : outParam (List HP)) : Prop where p : At L (mp κ ε m es c) R
instance M1.there {κ ε : Enc} {y : HP} {es : Ents κ ε} [h : M1 L κ ε m es c R] : M1 (y :: L) κ ε m es c (y :: R) := ⟨.there h.p⟩
instance M1.here {κ ε : Enc} {es : Ents κ ε} : M1 (mp κ ε m es c :: L) κ ε m es c L := ⟨.here⟩
theorem i_lk2 {es : Ents eI ε} {i : Int} {k : ε.α × Bool → W} (z : ε.α) [ha : M1 L eI ε m es c L'] (h : mpOk P tt (ε.enc z) false = true) (hk : E L (k ((gk es i).getD z, (gk es i).isSome))) :
    E L (val (eT2 ε eB) P (oLookup tt (.map (some m)) (.int .i64 i) true) k) := r_lk2 z h ha.p hk
theorem i_lk1q {es : Ents eI ε} {i : Int} {k : ε.α → W} (z : ε.α) [ha : M1 R eI ε m es c L'] (h : mpOk P tt (ε.enc z) false = true) (hk : E L (k ((gk es i).getD z))) :
    E L (valq (HW R) ε P (oLookup tt (.map (some m)) (.int .i64 i) false) k) := r_lk1q z h ha.p hk
theorem i_mu {es : Ents eI ε} {i : Int} {v : ε.α} {x : Value} {k : W} (z : ε.α) [ha : M1 L eI ε m es c L'] (hx : x = ε.enc v) (h : mpOk P tt (ε.enc z) false = true) (hk : E (mp eI ε m (pk es i v c) (ck es i c) :: L') k) :
    E L (unt P (oMapUpdate tt (.map (some m)) (.int .i64 i) x) k) := by subst hx; exact r_mu z h ha.p hk
theorem i_mclr {κ ε : Enc} {es : Ents κ ε} {t ty : TypeId} {k : Unit → W} {a b : TypeId} (h : P.underlying t = some (.map a b)) [ha : M1 L κ ε m es c L'] (hk : E (mp κ ε m [] c :: L') (k ())) :
    E L (val eN P (oB_clear #[t] ty #[.map (some m)]) k) := r_mclr h ha.p hk
theorem i_mrng {κ ε : Enc} {es : Ents κ ε} {k : Option Addr → W} {a b : TypeId} (h : P.underlying tt = some (.map a b)) [ha : M1 L κ ε m es c L'] (hk : ∀ i, E (blk i (.mapIter (some m) c #[] c) :: L) (k (some ⟨i, 0, none⟩))) :
    E L (val eP P (oRange tt (.map (some m))) k) := r_mrng h ha.p hk
def mkOk2 (P : Program) (t e : TypeId) (z : Value) : Bool := match P.underlying t, P.info? e with
  | some (.slice e'), some i => Nat.beq e' e && Nat.beq i.size 1 && Nat.ble i.bytes 64 && match i.zero, z with
    | some (.string a), .string b => a.data.toList == b.data.toList
    | some (.int j a), .int k b => decide (j = k) && a == b
    | some (.bool a), .bool b => a == b
    | _, _ => false
  | _, _ => false
end
end Go.Sp
namespace Go.Sp
open Go
section
variable {P : Program} {f : FuncId} {args : Array Value}
theorem Holds.below {w w' : World} {L : List HP} (h : Holds w L) (hb : RowKit.Below w.heap.size w w') : Holds w' L := by
  refine HS.mono h fun n u hu => ?_
  cases n with
  | zero => simpa [hp, hb.os, hb.tape, hb.output] using hu
  | succ n =>
    have hlt : n < w.heap.size := by
      rcases Nat.lt_or_ge n w.heap.size with h | h
      · exact h
      · simp [hp, Array.getElem?_eq_none h] at hu
    rw [hp_s, hb.block n hlt]
    exact hu
theorem fp_below {e : Enc} {x : e.α} (h : ∀ w, Calls P f args w fun en w' => en = .returned (e.enc x) ∧ RowKit.Below w.heap.size w w') : Fp e P f args [] x := fun L w hw =>
  (h w).mono fun _ w' ⟨he, hb⟩ => ⟨x, he, [], ⟨rfl, rfl⟩, Holds.below (by simpa using hw) hb⟩
theorem fq_sort (hS : ∀ (blk off cap : Nat) (zs : List Int) (w : World), Sort.Holds (Value.int .i64) w blk off zs.toArray → blk < w.heap.size → zs.length < 4611686018427387904 →
      Calls P f #[.slice (some ⟨blk, off, none⟩) zs.length cap] w fun e w' => e = .returned (.tuple #[]) ∧ ∃ n os, w' = Sort.grow (Sort.putRow (Value.int .i64) (Sort.ahead w n) blk off (zs.mergeSort fun x y => decide (x ≤ y)).toArray) os)
    (h0 : ∀ (p : Option Addr) (cap : Nat) (w : World), Calls P f #[.slice p 0 cap] w fun e w' => e = .returned (.tuple #[]) ∧ w' = w)
    (t : TypeId) (s : SlV) (zs : List Int) (hl : zs.length < 4611686018427387904) :
    Fq eN P f #[.slice s.1 s.2.1 s.2.2] [ow t 1 s (zs.map fun n => .int .i64 n)] [ow t 1 s ((zs.mergeSort fun x y => decide (x ≤ y)).map fun n => .int .i64 n)] () := fun L w hw => by
  have hw' : Holds w (ow t 1 s (zs.map fun n => .int .i64 n) :: L) := by simpa using hw
  have hw0 := hw'
  obtain ⟨a, r, d, sa, sr, ⟨hx, hc⟩, hz⟩ := hw'
  simp only [List.length_map, Nat.mul_one] at hx
  rcases hc with rfl | ⟨g, cap, cur, hs, hg, hn, hm, hcs, ht⟩
  · have : zs = [] := List.eq_nil_of_length_eq_zero hx
    subst this
    refine (h0 none 0 w).mono ?_
    rintro _ _ ⟨rfl, rfl⟩
    exact ⟨(), rfl, _, ⟨rfl, rfl⟩, by simpa using hw0⟩
  · have hgw : w.heap[g]? = some (.cells cur t (0, 0)) := hp_o.1 (sa _ _ hg)
    have hlt : g < w.heap.size := (Array.getElem?_eq_some_iff.1 hgw).1
    have hH : Sort.Holds (Value.int .i64) w g 0 zs.toArray := by
      intro j hj
      simp only [List.size_toArray] at hj
      have hcur : cur[j]? = some (.int .i64 zs[j]) := by
        have : (cur.toList.take (s.2.1 * 1))[j]? = some (.int .i64 zs[j]) := by rw [ht]; simp [hj]
        rw [List.getElem?_take] at this
        have h1 : j < s.2.1 * 1 := by omega
        exact (by simpa [h1] using this : j < s.2.1 ∧ _).2
      refine ⟨?_, by simp [World.frozen?, hgw]⟩
      simp [World.cell?, hgw, hcur, hj]
    have h1 := hS g 0 s.2.2 zs w hH hlt hl
    have hsz : s = (some ⟨g, 0, none⟩, zs.length, cap) := by rw [hs]; simp [hx]
    rw [hsz] at h1 ⊢
    refine h1.mono ?_
    rintro _ _ ⟨rfl, n, os, rfl⟩
    have hlen : (zs.mergeSort fun x y => decide (x ≤ y)).length = zs.length := List.length_mergeSort _
    generalize hq : zs.mergeSort (fun x y => decide (x ≤ y)) = ys at *
    refine ⟨(), rfl, _, ⟨rfl, rfl⟩, ?_⟩
    have hset : Holds (Sort.putRow (Value.int .i64) (Sort.ahead w n) g 0 ys.toArray) (ow t 1 (some ⟨g, 0, none⟩, zs.length, cap) (ys.map fun n => .int .i64 n) :: L) := by
      let cur' := Sort.putCells (Value.int .i64) 0 ys.toArray cur
      have hheap : ∀ k, (Sort.putRow (Value.int .i64) (Sort.ahead w n) g 0 ys.toArray).heap[k]? = if k = g then some (.cells cur' t (0, 0)) else w.heap[k]? := by
        intro k
        simp only [Sort.putRow, Sort.mapBlock, Sort.heap_ahead, Array.getElem?_modify]
        by_cases hk : k = g
        · subst hk
          simp [hgw, Sort.onCells, cur']
        · simp [hk, Ne.symm hk]
      refine ⟨fun k => if k = g + 1 then some (.inl (.cells cur' t (0, 0))) else a k, r, ?_, ?_, ?_, ⟨by simp [hlen], .inr ⟨g, cap, cur', rfl, by simp, ?_, hm, ?_, ?_⟩⟩, hz⟩
      · intro k
        by_cases hk : k = g + 1
        · subst hk
          rcases d (g + 1) with h | h
          · rw [hg] at h; cases h
          · exact .inr h
        · simp only [hk, if_false]; exact d k
      · intro k u hu
        by_cases hk : k = g + 1
        · subst hk
          simp at hu; subst hu
          exact hp_o.2 (by rw [hheap]; simp)
        · simp only [hk, if_false] at hu
          have := sa k u hu
          cases k with
          | zero => exact this
          | succ k => rw [hp_s] at this ⊢; rw [hheap, if_neg (by omega)]; exact this
      · intro k u hu
        have hk : k ≠ g + 1 := by
          rintro rfl
          rcases d (g + 1) with h | h
          · rw [hg] at h; cases h
          · rw [h] at hu; cases hu
        have := sr k u hu
        cases k with
        | zero => exact this
        | succ k => rw [hp_s] at this ⊢; rw [hheap, if_neg (by omega)]; exact this
      · simp only; omega
      · simpa [cur', Sort.putCells] using hcs
      · have hcl : zs.length ≤ cur.size := by omega
        apply List.ext_getElem?
        intro j
        rw [List.getElem?_take]
        simp only [Nat.mul_one]
        by_cases hj : j < zs.length
        · have h2 : j < cur.size := by omega
          have h3 : j < ys.length := by omega
          simp [cur', Sort.putCells, hj, h2, h3]
        · have h3 : ys.length ≤ j := by omega
          simp [hj, h3]
    have hgrow : Holds (Sort.grow (Sort.putRow (Value.int .i64) (Sort.ahead w n) g 0 ys.toArray) os) (ow t 1 (some ⟨g, 0, none⟩, zs.length, cap) (ys.map fun n => .int .i64 n) :: L) := by
      refine Holds.below hset ⟨rfl, rfl, rfl, by simp [Sort.grow], fun k hk => ?_⟩
      simp only [Sort.grow]
      rw [Array.getElem?_append_left hk]
    simpa using hgrow
end
end Go.Sp
namespace Go.Sp
open Go
class O1 (L : List HP) (t : TypeId) (sz : Nat) (s : SlV) (xs : outParam (List Value)) (R : outParam (List HP)) : Prop where p : At L (ow t sz s xs) R
class O2 (L : List HP) (a : Addr) (t : outParam TypeId) (sz n c : outParam Nat) (xs : outParam (List Value)) (R : outParam (List HP)) : Prop where p : At L (ow t sz (some a, n, c) xs) R
section
variable {e : Enc} {P : Program} {L L' L2 M R : List HP} {t : TypeId} {sz : Nat} {s : SlV} {xs : List Value} {y : HP}
instance O1.there [h : O1 L t sz s xs R] : O1 (y :: L) t sz s xs (y :: R) := ⟨.there h.p⟩
instance O1.here : O1 (ow t sz s xs :: L) t sz s xs L := ⟨.here⟩
instance O2.there {a : Addr} {n c : Nat} [h : O2 L a t sz n c xs R] : O2 (y :: L) a t sz n c xs (y :: R) := ⟨.there h.p⟩
instance O2.here {a : Addr} {n c : Nat} : O2 (ow t sz (some a, n, c) xs :: L) a t sz n c xs L := ⟨.here⟩
theorem i_app {tt el : TypeId} {b m c : Nat} {news : List Value} {k : SlV → W} (s : SlV) (bt : Nat) [ho : O1 L t sz s xs L'] [ha : A1 L b el news L2] (hk : apOk P tt t sz bt = true) (hbt : Nat.ble bt 1000000 = true) (hm : news.length = m * sz) (h1 : news.all one = true)
    (hs : s.2.1 + m ≤ 100000000) (h : ∀ s' : SlV, s'.2.1 = s.2.1 + m → (s'.1 = none → s' = (none, 0, 0)) → E (ow t sz s' (xs ++ news) :: L') (k s')) :
    E L (val eSl P (oB_append #[tt, tt] tt #[.slice s.1 s.2.1 s.2.2, .slice (some ⟨b, 0, none⟩) m c]) k) :=
  r_app bt hk ho.p ha.p (Rs_ar hm) h1 (by simp only [maxLen]; omega) (Nat.le_trans (Nat.mul_le_mul hs (Nat.le_of_ble_eq_true hbt)) (by decide)) h
theorem i_cal {f : FuncId} {args : Array Value} {A : List HP} {B : e.α → List HP → Prop} {k : e.α → W} (h : Fn e P f args A B) [ht : TX L A L'] (hk : ∀ x X, B x X → E (X ++ L') (k x)) : E L (cal e P f args k) := r_cal h ht.p hk
theorem mkOk2_spec {tt el : TypeId} {z : Value} (h : mkOk2 P tt el z = true) : ∃ i, P.underlying tt = some (.slice el) ∧ P.info? el = some i ∧ i.zero = some z ∧ i.size = 1 ∧ i.bytes ≤ 64 ∧ z.cells = #[z] := by
  unfold mkOk2 at h
  split at h
  case h_2 => cases h
  rename_i e' i h1 h2
  simp only [Bool.and_eq_true] at h
  obtain ⟨⟨⟨h3, h4⟩, h5⟩, h6⟩ := h
  have e3 := Nat.eq_of_beq_eq_true h3
  subst e3
  refine ⟨i, h1, h2, ?_, Nat.eq_of_beq_eq_true h4, Nat.le_of_ble_eq_true h5, ?_⟩
  · split at h6
    · rename_i a b hz
      rw [hz]
      have h4 : a.data.toList = b.data.toList := by simpa using h6
      obtain ⟨⟨a⟩⟩ := a
      obtain ⟨⟨b⟩⟩ := b
      simp at h4
      rw [h4]
    · rename_i hz
      simp at h6
      rw [hz, h6.1, h6.2]
    · rename_i hz; rw [hz]; simpa using h6
    · cases h6
  · split at h6
    · rfl
    · rfl
    · rfl
    · cases h6
theorem made_1 (z : Value) (hz : z.cells = #[z]) (n : Nat) : madeCells z.cells (n * 1) = ⟨List.replicate n z⟩ := by
  apply Array.toList_inj.1
  rw [hz]
  simp only [madeCells, Nat.mul_one, Array.toList_map, Array.toList_range]
  apply List.ext_getElem
  · simp
  · intro i h1 h2
    simp [Nat.mod_one]
theorem r_mk {tt el : TypeId} {n : Int} {k : SlV → W} (m : Nat) (z : Value) (hk : mkOk2 P tt el z = true) (hn : n = (m : Int)) (hm : m ≤ 16777216) (h : ∀ b, E (ar b el (List.replicate m z) :: L) (k (some ⟨b, 0, none⟩, m, m))) :
    E L (val eSl P (oMake tt (.int .i64 n) (.int .i64 n)) k) := by
  subst hn
  obtain ⟨i, h1, h2, h3, h4, h5, h6⟩ := mkOk2_spec hk
  intro w hw
  have hb : (i.bytes : Int) * (m : Int) ≤ 281474976710656 := by
    have : i.bytes * m ≤ 64 * 16777216 := Nat.mul_le_mul h5 hm
    have h' : ((i.bytes * m : Nat) : Int) ≤ 281474976710656 := by omega
    simpa using h'
  have := run_makeSlice (P := P) w tt el i z h1 h2 h3 .i64 .i64 (m : Int) (m : Int) (by omega) (by omega) (by rw [h4]; simp; omega) hb (by omega)
  rw [h4] at this
  simp only [Int.toNat_natCast] at this
  rw [made_1 z h6] at this
  exact ⟨(some ⟨w.heap.size, 0, none⟩, m, m), _, this, h _ _ (Holds.push hw (.cells ⟨List.replicate m z⟩ el (0, 0)) rfl)⟩
end
theorem i_bk {L : List HP} {ρ : Env} {σ : Type} {sl : List Nat} {env : σ → Env} {F : σ → List HP} {I : σ → Prop} {ν : σ → Nat} {s : σ} (s' : σ) [hs : SX (F s') L] (h0 : prn sl ρ = env s') (hI : I s') (hν : ν s' < ν s) :
    E L (bk sl env (fun s M => M = F s ∧ I s) ν s ρ) := d_bk s' h0 hI hν hs.p
theorem r_nwm (κ ε : Enc) {L : List HP} {k : Nat → W} (h : ∀ b, E (mp κ ε b [] 0 :: L) (k b)) : E L (nwb (.map #[] 0) k) := r_nwb h
theorem i_done {e : Enc} {L L' : List HP} {v : Value} {B : e.α → List HP → Prop} (x : e.α) (X : List HP) [hs : SX (X ++ L') L] (hv : v = e.enc x) (hB : B x X) :
    E L (fin e (fun x w => ∃ X, B x X ∧ Holds w (X ++ L')) v) := r_done x X hv hB hs.p
theorem i_ow {L R : List HP} {t : TypeId} {sz : Nat} {xs : List Value} {G : W} (s : SlV) [ho : O1 L t sz s xs R] (h : Rs (ow t sz s xs) s sz xs → E L G) : E L G := r_fact ho.p (fun _ hq => ow_fact hq) h
theorem i_o1 {e : Enc} {L R : List HP} {t : TypeId} {xs : List Value} {k : e.α → W} {a : Addr} {n c i : Nat} {y : e.α} [ho : O2 L a t 1 n c xs R] (hx : xs[i]? = some (e.enc y)) (h : E L (k y)) : E L (ld e (a.add i) k) :=
  r_ldA ho.p (fun h' hq => (ow_fact hq).2.2 a rfl h' hq i _ hx) h
section
variable {κ ε : Enc}
def Rg (es S R : Ents κ ε) : Prop := (S ++ R).Perm es
def sn (S : Ents κ ε) : Array Nat := ⟨S.map (·.2.2)⟩
theorem Rg.start (es : Ents κ ε) : Rg es [] es := List.Perm.refl _
theorem Rg.step [DecidableEq (κ.α × ε.α × Nat)] {es S R : Ents κ ε} (h : Rg es S R) {x : κ.α × ε.α × Nat} (hx : x ∈ es) (hn : ¬ x.2.2 ∈ sn S) : ∃ R', R'.length < R.length ∧ Rg es (S ++ [x]) R' := by
  have hR : x ∈ R := by
    have : x ∈ S ++ R := h.mem_iff.2 hx
    rcases List.mem_append.1 this with h1 | h1
    · exfalso; apply hn
      simp only [sn, List.mem_toArray, List.mem_map]
      exact ⟨x, h1, rfl⟩
    · exact h1
  refine ⟨R.erase x, by
    rw [List.length_erase_of_mem hR]
    have := List.length_pos_of_mem hR
    omega, ?_⟩
  have h1 : (x :: R.erase x).Perm R := (List.perm_cons_erase hR).symm
  show ((S ++ [x]) ++ R.erase x).Perm es
  rw [List.append_assoc]
  exact ((List.Perm.refl S).append h1).trans h
theorem Rg.done {es S R : Ents κ ε} (h : Rg es S R) (hb : (es.map (·.2.2)).Nodup) (ha : ∀ x ∈ es, x.2.2 ∈ sn S) : R = [] := by
  cases R with
  | nil => rfl
  | cons x R =>
    exfalso
    have hx : x ∈ es := h.mem_iff.1 (by simp)
    have h1 := ha x hx
    simp only [sn, List.mem_toArray] at h1
    have h2 : ((S ++ x :: R).map (·.2.2)).Nodup := (h.map (·.2.2)).nodup_iff.2 hb
    rw [List.map_append, List.nodup_append] at h2
    exact h2.2.2 _ h1 _ (by simp) rfl
theorem sn_push (S : Ents κ ε) (x : κ.α × ε.α × Nat) : (sn S).push x.2.2 = sn (S ++ [x]) := by
  simp [sn]
end
class B1 (L : List HP) (b : Nat) (o : outParam Obj) (R : outParam (List HP)) : Prop where p : At L (blk b o) R
instance B1.there {L R : List HP} {b : Nat} {o : Obj} {y : HP} [h : B1 L b o R] : B1 (y :: L) b o (y :: R) := ⟨.there h.p⟩
instance B1.here {L : List HP} {b : Nat} {o : Obj} : B1 (blk b o :: L) b o L := ⟨.here⟩
section
variable {κ ε : Enc} {P : Program} {L L' L2 : List HP} {it m since c0 c : Nat}
theorem find_born {es : Ents κ ε} {x : κ.α × ε.α × Nat} (hx : x ∈ es) (hu : (es.map (·.2.2)).Nodup) : (es.map (men κ ε)).find? (fun e => e.born == x.2.2) = some (men κ ε x) := by
  induction es with
  | nil => cases hx
  | cons y r ih =>
    rw [List.map_cons, List.nodup_cons] at hu
    rw [List.map_cons, List.find?_cons]
    by_cases hy : y.2.2 = x.2.2
    · have : x = y := by
        cases hx with
        | head => rfl
        | tail _ h => exact absurd (List.mem_map.2 ⟨x, h, hy.symm⟩) hu.1
      subst this
      simp [men]
    · have : x ∈ r := by
        cases hx with
        | head => exact absurd rfl hy
        | tail _ h => exact h
      simp only [men, beq_eq_false_iff_ne.2 hy]
      exact ih this hu.2
theorem i_mnx {es : Ents κ ε} {ty : TypeId} {seen : Array Nat} {k1 : W} {k2 : Bool × κ.α × ε.α → W} [hi : B1 L it (.mapIter (some m) since seen c0) L'] [ha : M1 L' κ ε m es c L2]
    (hold : ∀ x ∈ es, x.2.2 < since) (hs : since ≤ c0) (h1 : (∀ x ∈ es, x.2.2 ∈ seen) → E L k1)
    (h2 : ∀ x ∈ es, ¬ x.2.2 ∈ seen → E (blk it (.mapIter (some m) since (seen.push x.2.2) c) :: L') (k2 (true, x.1, x.2.1))) :
    E L (nxt (eT3 eB κ ε) P (oNext (.pointer (some ⟨it, 0, none⟩)) false ty) k1 k2) := r_mnx hi.p ha.p hold hs h1 h2
theorem i_ment {es S : Ents κ ε} {x : κ.α × ε.α × Nat} {k : κ.α × ε.α → W} [hi : B1 L it (.mapIter (some m) since (sn (S ++ [x])) c) L'] [ha : M1 L' κ ε m es c L2] (hx : x ∈ es) (hu : (es.map (·.2.2)).Nodup) (hk : E L (k (x.1, x.2.1))) :
    E L (val (eT2 κ ε) P (oEntry (.pointer (some ⟨it, 0, none⟩))) k) := fun w hw => by
  have hw1 := hi.p.hs hw
  have hr := Holds.get hw1
  have hb : w.heap[m]? = some (.map ⟨es.map (men κ ε)⟩ c) := Holds.get (ha.p.hs (HS.tl hw1))
  refine ⟨(x.1, x.2.1), w, ?_, hk w hw⟩
  have hg : (getObj it).run P w = .ok (.mapIter (some m) since (sn (S ++ [x])) c) w := by simp [getObj, Sem.run, hr]
  have hl : (sn (S ++ [x])).back? = some x.2.2 := by simp [sn]
  have hf : (⟨es.map (men κ ε)⟩ : Array MapEntry).find? (fun e => e.born == x.2.2) = some (men κ ε x) := by
    rw [← Array.find?_toList]; exact find_born hx hu
  simp only [oEntry, Instr.entry, Sem.run_bind, hg, Result.andThen_ok, hl, MapKept.run_getObj_map hb]
  simp [hf, men]
end
end Go.Sp
namespace Go.Sp
open Go
def sb (b : Nat) (s : List UInt8) : HP := fun h => ∃ cs e fr, h (b + 1) = some (.inl (.cells cs e fr)) ∧ cs.toList.take s.length = cb s
class S1 (L : List HP) (b : Nat) (s : outParam (List UInt8)) (R : outParam (List HP)) : Prop where p : At L (sb b s) R
section
variable {P : Program} {L R : List HP} {b : Nat} {s : List UInt8} {y : HP}
instance S1.there [h : S1 L b s R] : S1 (y :: L) b s (y :: R) := ⟨.there h.p⟩
instance S1.here : S1 (sb b s :: L) b s L := ⟨.here⟩
theorem i_sb {k : Int → W} {i : Nat} [hs : S1 L b s R] (hi : i < s.length) (h : E L (k (bt s i : Int))) : E L (ld eU8 ⟨b, i, none⟩ k) :=
  r_ldA hs.p (fun h' ⟨cs, e, fr, h1, h2⟩ => by
    have h3 : (cs.toList.take s.length)[i]? = (cb s)[i]? := by rw [h2]
    rw [List.getElem?_take, if_pos hi, cb_get hi] at h3
    have h4 : cs[i]? = some (.int .u8 ((s.getD i 0).toNat : Int)) := by simpa using h3
    simp only [pc, h1, Option.isSome_none, Bool.false_eq_true, if_false]
    exact h4) h
def cvsOk (P : Program) (src dst : TypeId) : Bool := match P.underlying src, P.underlying dst with
  | some .string, some (.slice e) => (match P.underlying e with
    | some (.int .u8) => true
    | _ => false)
  | _, _ => false
theorem r_cvs {src dst : TypeId} {k : SlV → W} (hk : cvsOk P src dst = true) (h : ∀ b c, E (sb b s :: L) (k (some ⟨b, 0, none⟩, s.length, c))) : E L (val eSl P (oConv src dst (str s)) k) := fun w hw => by
  unfold cvsOk at hk
  split at hk
  case h_2 => cases hk
  rename_i e h1 h2
  split at hk
  case h_2 => cases hk
  rename_i h3
  have hr := Lib.run_convert_string_bytes w src dst e ⟨s.toArray⟩ h1 h2 h3
  have hsz : (⟨s.toArray⟩ : ByteArray).size = s.length := rfl
  refine ⟨(some ⟨w.heap.size, 0, none⟩, s.length, _), _, hr, h _ _ _ ?_⟩
  have hnew := Lib.bytesWorld_at_new w e ⟨s.toArray⟩
  have hold := Lib.bytesWorld_at_old w e ⟨s.toArray⟩
  have hos : (Lib.bytesWorld w e ⟨s.toArray⟩).os = w.os ∧ (Lib.bytesWorld w e ⟨s.toArray⟩).output = w.output ∧ (Lib.bytesWorld w e ⟨s.toArray⟩).tape = w.tape := by
    unfold Lib.bytesWorld World.freeze
    split <;> exact ⟨rfl, rfl, rfl⟩
  generalize Lib.bytesWorld w e ⟨s.toArray⟩ = w' at *
  refine ⟨fun n => if n = w.heap.size + 1 then some (.inl (.cells (Lib.bytesCells w e ⟨s.toArray⟩) e ((Lib.bytesCells w e ⟨s.toArray⟩).size, (Lib.bytesCells w e ⟨s.toArray⟩).size + 1))) else none, hp w, ?_, ?_, ?_, ⟨_, e, _, by simp; exact ⟨rfl, rfl⟩, ?_⟩, hw⟩
  · intro n
    by_cases hn : n = w.heap.size + 1
    · subst hn; exact .inr (by simp [hp])
    · exact .inl (by simp [hn])
  · intro n u hu
    by_cases hn : n = w.heap.size + 1
    · subst hn
      simp at hu; subst hu
      exact hp_o.2 hnew
    · simp [hn] at hu
  · intro n u hu
    cases n with
    | zero => simpa [hp, hos.1, hos.2.1, hos.2.2] using hu
    | succ n =>
      have hlt : n < w.heap.size := by
        rcases Nat.lt_or_ge n w.heap.size with h | h
        · exact h
        · simp [hp, Array.getElem?_eq_none h] at hu
      rw [hp_s, hold n hlt]
      simpa [hp, hlt] using hu
  · unfold Lib.bytesCells
    simp only [Array.toList_append, Array.toList_map]
    have : (List.map (fun b => Value.int .u8 (b.toNat : Int)) s).length = s.length := by simp
    rw [List.take_append_of_le_length (by simp)]
    simp [cb, List.take_of_length_le]
theorem wr62 (n : Int) (h0 : 0 ≤ n) (h1 : n < 2 ^ 62) : IntKind.wrap .i64 n = n := by
  have : (2 : Int) ^ 62 = 4611686018427387904 := by decide
  exact w64 (by omega) (by omega)
theorem or_b {n c : Int} (h0 : 0 ≤ n) (h1 : n < 281474976710656) (h2 : 0 ≤ c) (h3 : c < 256) : bits .or .i64 (n * 256) c = n * 256 + c :=
  bits_join .i64 62 (by decide) wr62 8 (n * 256) c (by omega) (by simp) (by omega) h2 (by omega) (by omega)
def be (l : List UInt8) : Nat := l.foldl (fun n c => n * 256 + c.toNat) 0
theorem be_snoc (l : List UInt8) (c : UInt8) : be (l ++ [c]) = be l * 256 + c.toNat := by simp [be]
theorem be_lt' : ∀ (l : List UInt8) (n : Nat), l.foldl (fun n c => n * 256 + c.toNat) n < (n + 1) * 256 ^ l.length
  | [], n => by simp
  | c :: l, n => by
    have h1 := be_lt' l (n * 256 + c.toNat)
    have h2 := c.toNat_lt
    have h3 : (n * 256 + c.toNat + 1) * 256 ^ l.length ≤ ((n + 1) * 256) * 256 ^ l.length := Nat.mul_le_mul_right _ (by omega)
    simp only [List.foldl_cons, List.length_cons, Nat.pow_succ]
    rw [Nat.mul_comm (256 ^ l.length) 256, ← Nat.mul_assoc]
    omega
theorem be_lt (l : List UInt8) : be l < 256 ^ l.length := by
  have := be_lt' l 0
  simpa [be] using this
end
end Go.Sp
namespace Go.Sp
open Go
set_option linter.unusedSimpArgs false
set_option linter.unusedVariables false
set_option maxRecDepth 10000
def lowb (n : Int) : Nat → List UInt8
  | 0 => []
  | i + 1 => UInt8.ofNat ((n / 256 ^ i) % 256).toNat :: lowb n i
theorem lowb_len (n : Int) (i : Nat) : (lowb n i).length = i := by
  induction i with
  | zero => rfl
  | succ i ih => simp [lowb, ih]
theorem fold_eq : ∀ (l : List UInt8) (n : Nat), l.foldl (fun n c => n * 256 + c.toNat) n = n * 256 ^ l.length + be l
  | [], n => by simp [be]
  | c :: l, n => by
    have h1 := fold_eq l (n * 256 + c.toNat)
    have h2 : be (c :: l) = c.toNat * 256 ^ l.length + be l := by
      have := fold_eq l c.toNat
      simpa [be] using this
    rw [h2, List.foldl_cons, h1, List.length_cons, Nat.pow_succ, Nat.add_mul, Nat.mul_assoc, Nat.mul_comm 256 (256 ^ l.length), Nat.add_assoc]
theorem lowb_fold : ∀ (l : List UInt8) (n : Nat), lowb ((l.foldl (fun n c => n * 256 + c.toNat) n : Nat) : Int) l.length = l
  | [], n => rfl
  | c :: l, n => by
    have h := lowb_fold l (n * 256 + c.toNat)
    simp only [List.foldl_cons, List.length_cons, lowb]
    rw [h]
    have e := fold_eq l (n * 256 + c.toNat)
    have hb := be_lt l
    have hd : (l.foldl (fun n c => n * 256 + c.toNat) (n * 256 + c.toNat)) / 256 ^ l.length = n * 256 + c.toNat := by
      rw [e, Nat.mul_comm, Nat.mul_add_div (Nat.pow_pos (by decide)), Nat.div_eq_of_lt hb]; omega
    have hc := c.toNat_lt
    have h3 : ((((l.foldl (fun n c => n * 256 + c.toNat) (n * 256 + c.toNat) : Nat) : Int) / 256 ^ l.length) % 256).toNat = c.toNat := by
      generalize l.foldl (fun n c => n * 256 + c.toNat) (n * 256 + c.toNat) = X at *
      have h4 : ((X : Int) / 256 ^ l.length) = ((X / 256 ^ l.length : Nat) : Int) := by simp
      rw [h4, hd]; omega
    rw [h3]
    simp
theorem lowb_be {l : List UInt8} {w : Nat} (h : l.length = w) : lowb (be l : Int) w = l := by subst h; exact lowb_fold l 0
theorem be_cons (c : UInt8) (l : List UInt8) : be (c :: l) = c.toNat * 256 ^ l.length + be l := by
  have := fold_eq l c.toNat
  simpa [be] using this
theorem be_lowb {n : Int} (h : 0 ≤ n) : ∀ w : Nat, (be (lowb n w) : Int) = n % 256 ^ w
  | 0 => by simp [lowb, be, Int.emod_one]
  | w + 1 => by
    have ih := be_lowb h w
    have hp : (0 : Int) < 256 ^ w := Int.pow_pos (by decide)
    have hq : 0 ≤ (n / 256 ^ w) % 256 ∧ (n / 256 ^ w) % 256 < 256 := by omega
    simp only [lowb, be_cons, lowb_len]
    have e1 : ((UInt8.ofNat ((n / 256 ^ w) % 256).toNat).toNat : Int) = (n / 256 ^ w) % 256 := by
      have : ((n / 256 ^ w) % 256).toNat < 256 := by omega
      simp only [UInt8.toNat_ofNat']
      omega
    rw [Int.natCast_add, Int.natCast_mul, e1, ih, Int.natCast_pow, Int.pow_succ]
    have e2 := Int.emod_add_mul_ediv n (256 ^ w)
    have e3 := Int.emod_add_mul_ediv (n / 256 ^ w) 256
    have e4 : n / 256 ^ w / 256 = n / (256 ^ w * 256) := Int.ediv_ediv_of_nonneg (by omega)
    have e5 := Int.emod_add_mul_ediv n (256 ^ w * 256)
    rw [← e4] at e5
    generalize (256 : Int) ^ w = P at *
    generalize n / P = q at *
    generalize q / 256 = r at *
    generalize hm : q % 256 = m at *
    have e6 : P * q = P * m + P * (256 * r) := by rw [← Int.mul_add, e3]
    have e7 : P * 256 * r = P * (256 * r) := Int.mul_assoc _ _ _
    have e8 : m * P = P * m := Int.mul_comm _ _
    omega
theorem be_fits {n : Int} {w : Nat} (h : 0 ≤ n) (h2 : n < ((256 ^ w : Nat) : Int)) : (be (lowb n w) : Int) = n := by
  rw [be_lowb h]
  have e : ((256 ^ w : Nat) : Int) = 256 ^ w := by simp
  rw [e] at h2
  exact Int.emod_eq_of_lt h h2
end Go.Sp
namespace Go.Sp
open Go
set_option maxRecDepth 100000
set_option linter.unusedVariables false
structure runtime_boundsError where
  x : Int
  y : Int
  signed : Bool
  code : Int
  deriving DecidableEq
def v_runtime_boundsError (x : runtime_boundsError) : Value := .agg #[.int .i64 x.x, .int .i64 x.y, .bool x.signed, .int .u8 x.code]
abbrev e_runtime_boundsError : Enc := ⟨runtime_boundsError, v_runtime_boundsError⟩
structure runtime_errorAddressString where
  msg : List UInt8
  addr : Int
  deriving DecidableEq
def v_runtime_errorAddressString (x : runtime_errorAddressString) : Value := .agg #[str x.msg, .int .u64 x.addr]
abbrev e_runtime_errorAddressString : Enc := ⟨runtime_errorAddressString, v_runtime_errorAddressString⟩
structure maps_unhashableTypeError where
  typ : Option Addr
  deriving DecidableEq
def v_maps_unhashableTypeError (x : maps_unhashableTypeError) : Value := .agg #[.pointer x.typ]
abbrev e_maps_unhashableTypeError : Enc := ⟨maps_unhashableTypeError, v_maps_unhashableTypeError⟩
structure api_Active where
  Txn : Int
  Last : Int
  deriving DecidableEq
def v_api_Active (x : api_Active) : Value := .agg #[.int .i64 x.Txn, .int .i64 x.Last]
abbrev e_api_Active : Enc := ⟨api_Active, v_api_Active⟩
structure api_Rec where
  Kind : Int
  Txn : Int
  Prev : Int
  Page : Int
  Act : Int
  Key : List UInt8
  Old : List UInt8
  New : List UInt8
  Next : Int
  Images : (Option Addr × Nat × Nat)
  Table : (Option Addr × Nat × Nat)
  Epoch : Int
  Node : Int
  deriving DecidableEq
def v_api_Rec (x : api_Rec) : Value := .agg #[.int .i64 x.Kind, .int .i64 x.Txn, .int .i64 x.Prev, .int .i64 x.Page, .int .i64 x.Act, str x.Key, str x.Old, str x.New, .int .i64 x.Next, .slice x.Images.1 x.Images.2.1 x.Images.2.2, .slice x.Table.1 x.Table.2.1 x.Table.2.2, .int .i64 x.Epoch, .int .i64 x.Node]
abbrev e_api_Rec : Enc := ⟨api_Rec, v_api_Rec⟩
structure api_Msg where
  Kind : Int
  From : Int
  To : Int
  Epoch : Int
  Before : Int
  Start : Int
  End : Int
  Until : Int
  Holder : Int
  Text : List UInt8
  deriving DecidableEq
def v_api_Msg (x : api_Msg) : Value := .agg #[.int .i64 x.Kind, .int .i64 x.From, .int .i64 x.To, .int .i64 x.Epoch, .int .i64 x.Before, .int .i64 x.Start, .int .i64 x.End, .int .i64 x.Until, .int .i64 x.Holder, str x.Text]
abbrev e_api_Msg : Enc := ⟨api_Msg, v_api_Msg⟩
structure ship_Ship where
  log : Option Addr
  epoch : Int
  node : Int
  met : Bool
  next : Int
  acked : Int
  sent : Int
  deriving DecidableEq
def v_ship_Ship (x : ship_Ship) : Value := .agg #[.pointer x.log, .int .i64 x.epoch, .int .i64 x.node, .bool x.met, .int .i64 x.next, .int .i64 x.acked, .int .i64 x.sent]
abbrev e_ship_Ship : Enc := ⟨ship_Ship, v_ship_Ship⟩
structure disk_Disk where
  sure : (Option Addr × Nat × Nat)
  wait : Option Nat
  up : Bool
  fuse : Int
  keep : Int
  acts : Int
  downs : Int
  deriving DecidableEq
def v_disk_Disk (x : disk_Disk) : Value := .agg #[.slice x.sure.1 x.sure.2.1 x.sure.2.2, .map x.wait, .bool x.up, .int .i64 x.fuse, .int .u64 x.keep, .int .i64 x.acts, .int .i64 x.downs]
abbrev e_disk_Disk : Enc := ⟨disk_Disk, v_disk_Disk⟩
structure wal_Log where
  disk : Option Addr
  base : Int
  sectors : Int
  run : Int
  all : List UInt8
  durable : Int
  dead : Bool
  deriving DecidableEq
def v_wal_Log (x : wal_Log) : Value := .agg #[.pointer x.disk, .int .i64 x.base, .int .i64 x.sectors, .int .i64 x.run, str x.all, .int .i64 x.durable, .bool x.dead]
abbrev e_wal_Log : Enc := ⟨wal_Log, v_wal_Log⟩
structure past_Past where
  f_by : Option Nat
  last : Option Nat
  deriving DecidableEq
def v_past_Past (x : past_Past) : Value := .agg #[.map x.f_by, .map x.last]
abbrev e_past_Past : Enc := ⟨past_Past, v_past_Past⟩
structure gharrylaw14_Op where
  Kind : Int
  Who : Int
  Key : List UInt8
  Old : List UInt8
  New : List UInt8
  deriving DecidableEq
def v_gharrylaw14_Op (x : gharrylaw14_Op) : Value := .agg #[.int .i64 x.Kind, .int .i64 x.Who, str x.Key, str x.Old, str x.New]
abbrev e_gharrylaw14_Op : Enc := ⟨gharrylaw14_Op, v_gharrylaw14_Op⟩
structure past_Was where
  Val : List UInt8
  Is : Bool
  deriving DecidableEq
def v_past_Was (x : past_Was) : Value := .agg #[str x.Val, .bool x.Is]
abbrev e_past_Was : Enc := ⟨past_Was, v_past_Was⟩
structure strings_Builder where
  addr : Option Addr
  buf : (Option Addr × Nat × Nat)
  deriving DecidableEq
def v_strings_Builder (x : strings_Builder) : Value := .agg #[.pointer x.addr, .slice x.buf.1 x.buf.2.1 x.buf.2.2]
abbrev e_strings_Builder : Enc := ⟨strings_Builder, v_strings_Builder⟩
structure pack_Writer where
  s : List UInt8
  e : Int
  deriving DecidableEq
def v_pack_Writer (x : pack_Writer) : Value := .agg #[str x.s, .int .i64 x.e]
abbrev e_pack_Writer : Enc := ⟨pack_Writer, v_pack_Writer⟩
structure pack_Reader where
  s : List UInt8
  f_at : Int
  e : Int
  deriving DecidableEq
def v_pack_Reader (x : pack_Reader) : Value := .agg #[str x.s, .int .i64 x.f_at, .int .i64 x.e]
abbrev e_pack_Reader : Enc := ⟨pack_Reader, v_pack_Reader⟩
structure api_Span where
  Epoch : Int
  Start : Int
  deriving DecidableEq
def v_api_Span (x : api_Span) : Value := .agg #[.int .i64 x.Epoch, .int .i64 x.Start]
abbrev e_api_Span : Enc := ⟨api_Span, v_api_Span⟩
structure api_Image where
  Page : Int
  Text : List UInt8
  deriving DecidableEq
def v_api_Image (x : api_Image) : Value := .agg #[.int .i64 x.Page, str x.Text]
abbrev e_api_Image : Enc := ⟨api_Image, v_api_Image⟩
structure runtime_TypeAssertionError where
  _interface : Option Addr
  concrete : Option Addr
  asserted : Option Addr
  missingMethod : List UInt8
  deriving DecidableEq
def v_runtime_TypeAssertionError (x : runtime_TypeAssertionError) : Value := .agg #[.pointer x._interface, .pointer x.concrete, .pointer x.asserted, str x.missingMethod]
abbrev e_runtime_TypeAssertionError : Enc := ⟨runtime_TypeAssertionError, v_runtime_TypeAssertionError⟩
def TT : Nat → Enc := lk eV [(0, eN), (2, eI), (3, eI), (4, eB), (5, eU8), (6, eU8), (8, e_runtime_boundsError), (9, eS), (10, eS), (11, eS), (12, eU64), (14, e_runtime_errorAddressString), (15, eP), (16, eP), (17, eP), (19, e_maps_unhashableTypeError), (22, eSl), (23, eP), (24, eI), (25, (eT2 eP eI)), (27, eP), (28, (eT2 eP eI)), (30, eP), (33, (eT2 eP eI)), (35, eSl), (40, e_api_Active), (43, eSl), (44, eSl), (45, eSl), (47, e_api_Rec), (50, eP), (52, eSl), (55, e_api_Msg), (56, (eT2 eI eI)), (58, (eT2 eS eI)), (62, e_ship_Ship), (63, (eT2 eI eB)), (67, eSl), (68, eM), (69, eU64), (71, e_disk_Disk), (74, e_wal_Log), (77, eM), (78, eM), (80, e_past_Past), (81, (eA eI)), (83, e_gharrylaw14_Op), (85, (eT3 e_api_Rec eI eI)), (88, eM), (90, e_past_Was), (91, (eT2 e_past_Was eB)), (93, eSl), (107, eP), (108, eSl), (110, e_strings_Builder), (112, eP), (117, (eT2 eI eV)), (124, eM), (130, eP), (132, e_pack_Writer), (135, (eT2 eI eI)), (137, eSl), (141, (eT2 e_api_Rec eI)), (144, (eT2 eS eB)), (147, e_pack_Reader), (149, eU64), (150, eP), (161, e_api_Span), (162, (eT2 eSl eSl)), (166, eP), (177, eI), (178, (eT2 eI eI)), (185, eU32), (192, e_api_Image), (193, (eT2 eU64 eU64)), (198, eU64), (202, eP), (209, (eA eU32)), (211, (eT2 eU32 eU32)), (213, (eT2 eU64 eU64)), (216, eP), (224, e_runtime_TypeAssertionError), (225, (eA eP)), (228, eU8), (229, eU8)]
abbrev cI : Coe Int Value := ⟨.int .i64⟩
abbrev cB : Coe Bool Value := ⟨.bool⟩
abbrev cP : Coe (Option Addr) Value := ⟨.pointer⟩
abbrev cA : Coe Addr Value := ⟨fun a => .pointer (some a)⟩
open Go.Proofs in
noncomputable def cf (f : Func) (n : Nat) (li lo : List (Nat × List Nat)) (o : List (Nat × (Bool × List (Nat × Nat)))) (de : List (Nat × Enc)) : Cfg := { P := Tryz.prog, n := n, T := TT, body := f.body.getD .skip, res := f.results.toList, li := lk [] li, lo := lk [] lo, ord := lk (false, []) o, de := de }
end Go.Sp
