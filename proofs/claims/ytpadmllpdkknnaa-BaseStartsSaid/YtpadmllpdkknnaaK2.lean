/- What an operation of the model asks of the world, with its operands' values at hand: a request; the temporaries are a list of those that count. -/
import Derived.Test.YtpadmllpdkknnaaK1
import Derived.Laws.Entries
import Derived.OrdersHeld
import Derived.Lib.Bytes
import Derived.Lib.Bytealg
import Derived.Laws.Externs
namespace Go.Sp
open Go

abbrev W := World → Prop
abbrev Env := List (Nat × Value)
def gt : Env → Nat → Option Value
  | [], _ => none
  | (d, v) :: ρ, t => bif Nat.beq d t then some v else gt ρ t
def upd (ρ : Env) : Option Nat → Value → Env
  | none, _ => ρ
  | some d, v => (d, v) :: ρ
def prn : List Nat → Env → Env
  | [], _ => []
  | t :: ts, ρ => match gt ρ t with
    | some v => (t, v) :: prn ts ρ
    | none => prn ts ρ
/-- The frame has what the list says. -/
def Rl (n : Nat) (a : Act) (ρ : Env) : Prop := a.defers = [] ∧ a.tmps.size = n ∧ ∀ t v, gt ρ t = some v → a.tmps.getD t undef = v
def evO (ρ : Env) : Operand → Option Value
  | .tmp t => gt ρ t
  | .const v => some v
  | .global g => some (.pointer (some ⟨g, 0, none⟩))
  | .func f => some (.func (.func f) #[] #[])
theorem evO_eval {n : Nat} {a : Act} {ρ : Env} (r : Rl n a ρ) {x : Operand} {v : Value} (h : evO ρ x = some v) : a.eval x = v := by
  cases x with
  | tmp t => exact r.2.2 t v h
  | const u => simp [evO] at h; simp [Act.eval, h]
  | global g => simp [evO] at h; simp [Act.eval, h]
  | func f => simp [evO] at h; simp [Act.eval, h]
theorem Rl.prn {n : Nat} {a : Act} {ρ : Env} (r : Rl n a ρ) (ts : List Nat) : Rl n a (prn ts ρ) := by
  refine ⟨r.1, r.2.1, fun t v h => r.2.2 t v ?_⟩
  induction ts with
  | nil => cases h
  | cons u ts ih =>
    unfold Sp.prn at h
    cases hg : gt ρ u with
    | none => simp [hg] at h; exact ih h
    | some x =>
      simp only [hg, gt] at h
      cases hb : Nat.beq u t with
      | true => simp [hb] at h; subst h; rw [← Nat.eq_of_beq_eq_true hb]; exact hg
      | false => simp [hb] at h; exact ih h
theorem Rl.put {n : Nat} {a : Act} {ρ : Env} (r : Rl n a ρ) {d : Option Nat} (v : Value) (hd : ∀ t, d = some t → t < n) : Rl n (a.put d v) (upd ρ d v) := by
  cases d with
  | none => exact r
  | some d =>
    have hd' := hd d rfl
    refine ⟨r.1, by simp [Act.put, r.2.1], fun t u h => ?_⟩
    simp only [upd, gt] at h
    cases hb : Nat.beq d t with
    | true =>
      simp [hb] at h; subst h
      have : d = t := Nat.eq_of_beq_eq_true hb
      subst this
      have : d < a.tmps.size := by rw [r.2.1]; exact hd'
      simp [Act.put, this]
    | false =>
      simp [hb] at h
      have hne : d ≠ t := Nat.ne_of_beq_eq_false hb
      have := r.2.2 t u h
      simp [Act.put, Array.getElem?_setIfInBounds_ne hne] at this ⊢
      exact this

/-- How Go's values of a type are written as the model's. -/
structure Enc where
  α : Type
  enc : α → Value

structure Cfg where
  P : Program
  n : Nat
  T : Nat → Enc
  body : Code
  res : List ResultVar
  li : Nat → List Nat
  lo : Nat → List Nat
  ord : Nat → Bool × List (Nat × Nat)
  de : List (Nat × Enc) := []
/-- What kind an operation gives: by its slot, else by its type. -/
def dEnc (T : Enc) (d : Option Nat) : List (Nat × Enc) → Enc
  | [] => T
  | (i, e) :: r => match d with
    | some j => bif Nat.beq i j then e else dEnc T d r
    | none => T

/-! ### Requests -/
inductive Rq
  | val (v : Value)
  | ld1 (a : Addr)
  | ldn (n : Nat) (a : Addr)
  | st (vs : List Value) (a : Addr)
  | nw (cells : Array Value) (e : TypeId) (f : Addr → Value)
  | nwo (o : Obj) (f : Nat → Value)
  | cl (f : FuncId) (args : Array Value)
  | sm (s : Sem Value)
  | nx (s : Sem Value)
  | um (s : Sem Unit)

def Rq.sem : Rq → Sem Next
  | .val v => pure (.value v)
  | .ld1 a => do pure (.value (← load a))
  | .ldn n a => do pure (.value (.agg (← loadCells a n)))
  | .st vs a => do storeCells a vs; pure .skip
  | .nw cells e f => do pure (.value (f (← newRow e cells)))
  | .nwo o f => do pure (.value (f (← newObj o)))
  | .cl f args => pure (.enter f args)
  | .sm s => do pure (.value (← s))
  | .nx s => do pure (.value (← s))
  | .um s => do s; pure .skip

abbrev Kr := Rq → W
def ff : W := fun _ => False
def rq (p : Prop) (k : W) : W := fun w => p ∧ k w
def cnd (b : Bool) (k1 k2 : W) : W := match b with
  | true => k1
  | false => k2
def nn (p : Option Addr) (k : Addr → W) : W := match p with
  | some a => k a
  | none => ff
def rd (ρ : Env) (x : Operand) (k : Value → W) : W := match evO ρ x with
  | some v => k v
  | none => ff
def rds (ρ : Env) : List Operand → (List Value → W) → W
  | [], k => k []
  | x :: xs, k => rd ρ x fun v => rds ρ xs fun vs => k (v :: vs)
def rdp (ρ : Env) : List (Nat × Operand) → (List (Nat × Value) → W) → W
  | [], k => k []
  | (i, x) :: xs, k => rd ρ x fun v => rdp ρ xs fun vs => k ((i, v) :: vs)
def dr (v : Value) (k : Addr → W) : W := match v with
  | .pointer p => nn p k
  | _ => ff
def str (l : List UInt8) : Value := .string ⟨l.toArray⟩
def unstr (b : ByteArray) : List UInt8 := b.data.toList
/-- s[l:h] -/
def ss (s : List UInt8) (l h : Int) : List UInt8 := (s.take h.toNat).drop l.toNat

section tables
variable (P : Program)
def aggB (t : TypeId) : Bool := match P.underlying t with
  | some (.struct _) | some (.array ..) => true
  | _ => false
def szOf (t : TypeId) : Nat := match P.info? t with
  | some i => i.size
  | none => 0
def fieldOf (t : TypeId) (f : Nat) : Option Field := match P.underlying t with
  | some (.struct fs) => fs[f]?
  | _ => none
def sz (t : TypeId) (k : Nat → W) : W := match P.info? t with
  | some i => k i.size
  | none => ff
def zro (t : TypeId) (k : Array Value → W) : W := match P.info? t with
  | some i => match i.zero with
    | some z => k z.cells
    | none => ff
  | none => ff
end tables
/-- Where p[l:] begins, of a slice that has room for c. -/
def slp (p : Option Addr) (l c : Int) (sz : Nat) : Option Addr := if c.toNat = l.toNat then p else p.map (·.add (l.toNat * sz))
def slv (p : Option Addr) (l h c : Int) (sz : Nat) : Value := .slice (slp p l c sz) (h.toNat - l.toNat) (c.toNat - l.toNat)
def one (v : Value) : Bool := v.oneCell'

/-- Arithmetic and comparisons of numbers and texts. -/
def binR (P : Program) (op : BinOp) (t : TypeId) (ox oy : Operand) (x y : Value) (k : Kr) : W :=
  match x, y with
  | .int a m, .int b n =>
    match op with
    | .shl => rq (0 ≤ n) (k (.val (.int a (a.wrap (m * 2 ^ (min n.toNat a.bits))))))
    | .shr => rq (0 ≤ n) (k (.val (.int a (m.fdiv (2 ^ (min n.toNat a.bits))))))
    | .add => if a = b then k (.val (.int a (a.wrap (m + n)))) else ff
    | .sub => if a = b then k (.val (.int a (a.wrap (m - n)))) else ff
    | .mul => if a = b then k (.val (.int a (a.wrap (m * n)))) else ff
    | .quo => if a = b then rq (n ≠ 0) (k (.val (.int a (a.wrap (m.tdiv n))))) else ff
    | .rem => if a = b then rq (n ≠ 0) (k (.val (.int a (m.tmod n)))) else ff
    | .and => if a = b then k (.val (.int a (bits .and a m n))) else ff
    | .or => if a = b then k (.val (.int a (bits .or a m n))) else ff
    | .xor => if a = b then k (.val (.int a (bits .xor a m n))) else ff
    | .andNot => if a = b then k (.val (.int a (bits .andNot a m n))) else ff
    | .eql => if a = b then k (.val (.bool (m == n))) else ff
    | .neq => if a = b then k (.val (.bool (m != n))) else ff
    | .lss => if a = b then k (.val (.bool (decide (m < n)))) else ff
    | .leq => if a = b then k (.val (.bool (decide (m ≤ n)))) else ff
    | .gtr => if a = b then k (.val (.bool (decide (n < m)))) else ff
    | .geq => if a = b then k (.val (.bool (decide (n ≤ m)))) else ff
  | .string a, .string b =>
    match op with
    | .add => rq (((unstr a).length : Int) + ((unstr b).length : Int) ≤ 9223372036854775807) (k (.val (str (unstr a ++ unstr b))))
    | .eql => k (.val (.bool (unstr a == unstr b)))
    | .neq => k (.val (.bool (!(unstr a == unstr b))))
    | .lss => k (.val (.bool (Op.bytesLess (unstr a) (unstr b))))
    | .leq => k (.val (.bool (Op.bytesLess (unstr a) (unstr b) || unstr a == unstr b)))
    | .gtr => k (.val (.bool (!(Op.bytesLess (unstr a) (unstr b) || unstr a == unstr b))))
    | .geq => k (.val (.bool (!(Op.bytesLess (unstr a) (unstr b)))))
    | _ => ff
  | .pointer p, .pointer none =>
    match P.underlying t, op with
    | some (.pointer _), .eql => k (.val (.bool p.isNone))
    | some (.pointer _), .neq => k (.val (.bool (!p.isNone)))
    | _, _ => ff
  | .map p, .map none =>
    match P.underlying t, op with
    | some (.map _ _), .eql => k (.val (.bool p.isNone))
    | some (.map _ _), .neq => k (.val (.bool (!p.isNone)))
    | _, _ => ff
  | .bool a, .bool b =>
    match P.underlying t, op with
    | some .bool, .eql => k (.val (.bool (a == b)))
    | some .bool, .neq => k (.val (.bool (!(a == b))))
    | _, _ => ff
  | x, y => k (.sm (do eqGuard op t ox oy x y; binOp op t x y))

def convR (P : Program) (s d : TypeId) (x : Value) (k : Kr) : W :=
  match x with
  | .int _ n => match P.underlying s, P.underlying d with
    | some _, some (.int b) => k (.val (.int b (b.wrap n)))
    | _, _ => ff
  | .string b => match P.underlying s, P.underlying d with
    | some .string, some .string => k (.val (.string b))
    | _, _ => k (.sm (convert s d x))
  | x => k (.sm (convert s d x))

def bnd (o : Option Value) (d : Int) (k : Int → W) : W := match o with
  | none => k d
  | some (.int _ n) => k n
  | some _ => ff
def rdo (ρ : Env) (x : Option Operand) (k : Option Value → W) : W := match x with
  | none => k none
  | some x => rd ρ x fun v => k (some v)

def sliceR (P : Program) (t : TypeId) (x : Value) (lo hi : Option Value) (k : Kr) : W :=
  match P.underlying t, x with
  | some .string, .string b => bnd lo 0 fun l => bnd hi ((unstr b).length : Int) fun h =>
      rq (0 ≤ l ∧ l ≤ h ∧ h ≤ ((unstr b).length : Int)) (k (.val (str (ss (unstr b) l h))))
  | some (.slice e), .slice p n c => bnd lo 0 fun l => bnd hi (n : Int) fun h =>
      sz P e fun z => rq (0 ≤ l ∧ l ≤ h ∧ h ≤ (c : Int)) (k (.val (slv p l h c z)))
  | some (.array m e), .pointer p => nn p fun a => bnd lo 0 fun l => bnd hi (m : Int) fun h =>
      sz P e fun z => rq (0 ≤ l ∧ l ≤ h ∧ h ≤ (m : Int)) (k (.val (slv (some a) l h m z)))
  | _, _ => ff

def idxAddrR (P : Program) (t : TypeId) (x i : Value) (k : Kr) : W :=
  match P.underlying t, x, i with
  | some (.slice e), .slice p n _, .int _ j => sz P e fun z => rq (0 ≤ j ∧ j < (n : Int)) (nn p fun a => k (.val (.pointer (some (a.add (j.toNat * z))))))
  | some (.array m e), .pointer p, .int _ j => sz P e fun z => nn p fun a => rq (0 ≤ j ∧ j < (m : Int)) (k (.val (.pointer (some (a.add (j.toNat * z))))))
  | _, _, _ => ff

def idxR (P : Program) (t : TypeId) (x i : Value) (k : Kr) : W :=
  match P.underlying t, x, i with
  | some .string, .string b, .int _ j => rq (0 ≤ j ∧ j < ((unstr b).length : Int)) (k (.val (.int .u8 (((unstr b).getD j.toNat 0).toNat : Int))))
  | _, x, i => k (.sm (Instr.index t x i))

/-- The functions that have a body are entered. -/
def entered (P : Program) (f : FuncId) : Bool := match P.funcs[f]? with
  | some fn => fn.body.isSome && !(fn.name == "runtime.NumGoroutine")
  | none => false
def ent (P : Program) (f : FuncId) (k : W) : W := match entered P f with
  | true => k
  | false => ff
def callR (P : Program) (fv : Value) (args : List Value) (k : Kr) : W :=
  match fv with
  | .func (.func f) first cap => ent P f (k (.cl f (first ++ args.toArray ++ cap)))
  | _ => ff

/-- A function that the model itself carries out. -/
def extR (P : Program) (f : FuncId) (args : Array Value) (k : Kr) : W := match P.funcs[f]? with
  | some fn => match fn.name == "runtime.NumGoroutine", fn.body.isNone, Extern.findNext fn, Extern.find fn with
    | false, true, none, some e => k (.sm (e args))
    | _, _, _, _ => ff
  | none => ff
def callS (P : Program) (f : FuncId) (args : List Value) (k : Kr) : W :=
  match entered P f with
  | true => k (.cl f args.toArray)
  | false => extR P f args.toArray k
def builtR (P : Program) (b : Builtin) (ts : Array TypeId) (ty : TypeId) (args : List Value) (k : Kr) : W :=
  match b, args with
  | .len, [.string s] => match (ts[0]?).bind P.underlying with
    | some .string => k (.val (.int .i64 ((unstr s).length : Int)))
    | _ => ff
  | .len, [.slice _ n _] => match (ts[0]?).bind P.underlying with
    | some (.slice _) => k (.val (.int .i64 (n : Int)))
    | _ => ff
  | .len, args => k (.sm (Builtin.len_ ts ty args.toArray))
  | .cap, args => k (.sm (Builtin.cap_ ts ty args.toArray))
  | .min, [.int a x, .int _ y] => k (.val (.int a (if y < x then y else x)))
  | .max, [.int a x, .int _ y] => k (.val (.int a (if x < y then y else x)))
  | .append, args => k (.sm (Builtin.append_ ts ty args.toArray))
  | .copy, args => k (.sm (Builtin.copy_ ts ty args.toArray))
  | .clear, args => k (.sm (Builtin.clear_ ts ty args.toArray))
  | .delete, args => k (.sm (Builtin.delete_ ts ty args.toArray))
  | _, _ => ff

/-- What an operation asks for. -/
def dec (P : Program) (op : Op) (ty : TypeId) (ρ : Env) (k : Kr) : W :=
  match op with
  | .move x | .assign x => rd ρ x fun v => k (.val v)
  | .pick c x y => rd ρ c fun vc => match vc with
    | .bool b => cnd b (rd ρ x fun v => k (.val v)) (rd ρ y fun v => k (.val v))
    | _ => ff
  | .alloc e => zro P e fun z => k (.nw z e fun a => .pointer (some a))
  | .box e x => rd ρ x fun v => k (.nw v.cells e fun a => .pointer (some a))
  | .build t ps => rdp ρ ps.toList fun vs => zro P t fun z => match P.underlying t with
    | some (.struct fs) => if fs.all (fun f => (P.info? f.type).isSome) then match Instr.fill (fun i => (fs[i]?).map fun f => (f.offset, szOf P f.type)) z vs with
      | some cs => k (.val (.agg cs))
      | none => ff
      else ff
    | some (.array _ e) => sz P e fun n => match Instr.fill (fun i => some (i * n, n)) z vs with
      | some cs => k (.val (.agg cs))
      | none => ff
    | _ => ff
  | .buildSlice t n ps => rdp ρ ps.toList fun vs => match P.underlying t with
    | some (.slice e) => sz P e fun m => zro P e fun z => match Instr.fill (fun i => some (i * m, m)) ((Array.range (n * m)).map (z[· % z.size]!)) vs with
        | some cs => if n * m ≤ 16777216 then k (.nw cs e fun a => .slice (some a) n n) else ff
        | none => ff
    | _ => ff
  | .load t x => rd ρ x fun v => dr v fun a => match aggB P t with
    | true => sz P t fun n => k (.ldn n a)
    | false => match P.underlying t with | some _ => k (.ld1 a) | none => ff
  | .store t x y => rd ρ x fun v => dr v fun a => rd ρ y fun u => sz P t fun n => if u.cells.size = n then k (.st u.cells.toList a) else ff
  | .nilCheck x => rd ρ x fun v => match v with
    | .pointer p => nn p fun a => k (.val (.pointer (some a)))
    | .func (.func f) fi ca => k (.val (.func (.func f) fi ca))
    | _ => ff
  | .binOp op t x y _ => rd ρ x fun vx => rd ρ y fun vy => binR P op t x y vx vy k
  | .unOp op _ x => rd ρ x fun v => match op, v with
    | .not, .bool b => k (.val (.bool (!b)))
    | .neg, .int a n => k (.val (.int a (a.wrap (0 - n))))
    | _, _ => ff
  | .convert s d x => rd ρ x fun v => convR P s d v k
  | .makeFunc fn fi ca => rds ρ fi.toList fun a => rds ρ ca.toList fun b => k (.val (.func fn a.toArray b.toArray))
  | .makeMap _ none => k (.nwo (.map #[] 0) fun r => .map (some r))
  | .makeSlice t l c => rd ρ l fun vl => rd ρ c fun vc => k (.sm (Instr.makeSlice t vl vc))
  | .slice t x lo hi none => rd ρ x fun v => rdo ρ lo fun l => rdo ρ hi fun h => sliceR P t v l h k
  | .fieldAddr s x f => rd ρ x fun v => dr v fun a => match fieldOf P s f with
    | some g => sz P g.type fun n => if n = 0 then ff else k (.val (.pointer (some (a.add g.offset))))
    | none => ff
  | .field t x f => rd ρ x fun v => match v, fieldOf P t f with
    | .agg cs, some g => match aggB P g.type with
      | true => sz P g.type fun n => k (.val (.agg (cs.extract g.offset (g.offset + n))))
      | false => match P.underlying g.type with
        | some _ => match cs[g.offset]? with
          | some u => k (.val u)
          | none => ff
        | none => ff
    | _, _ => ff
  | .indexAddr t x i => rd ρ x fun v => rd ρ i fun j => idxAddrR P t v j k
  | .index t x i => rd ρ x fun v => rd ρ i fun j => idxR P t v j k
  | .lookup t x i b => rd ρ x fun v => rd ρ i fun j => k (.sm (Instr.lookup t v j b))
  | .mapUpdate t m i x => rd ρ m fun v => rd ρ i fun j => rd ρ x fun u => k (.um (Instr.mapUpdate t v j u))
  | .range t x => rd ρ x fun v => k (.sm (Instr.range t v))
  | .next it b => rd ρ it fun v => k (.nx (Instr.next v b ty))
  | .entry it => rd ρ it fun v => k (.sm (Instr.entry v))
  | .extract x i => rd ρ x fun v => match v with
    | .tuple vs => match vs[i]? with
      | some u => k (.val u)
      | none => ff
    | _ => ff
  | .call ⟨.value f, args, _⟩ => match f with
    | .func g => rds ρ args.toList fun vs => callS P g vs k
    | f => rd ρ f fun fv => rds ρ args.toList fun vs => callR P fv vs k
  | .call ⟨.builtin b, args, ts⟩ => rds ρ args.toList fun vs => builtR P b ts ty vs k
  | _ => ff

end Go.Sp
