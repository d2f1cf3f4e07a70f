/- A small separation logic over the model's heap: which blocks hold what, told by a list of parts that do not meet. -/
import Derived.Orders
import Derived.KernelRfl
namespace Go.Sp
open Go

abbrev PH := Nat → Option (Obj ⊕ (Os × Array (Nat × ByteArray) × (Nat → Question → Nat)))
abbrev HP := PH → Prop
def disj (a b : PH) : Prop := ∀ n, a n = none ∨ b n = none
def sub (a b : PH) : Prop := ∀ n o, a n = some o → b n = some o

theorem sub.none (h : PH) : sub (fun _ => none) h := fun _ _ x => by cases x
theorem sub.refl (a : PH) : sub a a := fun _ _ h => h
theorem sub.trans {a b c : PH} (h : sub a b) (h' : sub b c) : sub a c := fun n o x => h' n o (h n o x)
theorem disj.symm {a b : PH} (h : disj a b) : disj b a := fun n => (h n).symm
theorem disj.sub {a b c : PH} (h : disj a b) (hs : sub c b) : disj a c := fun n => by
  rcases h n with h | h
  · exact .inl h
  · cases hc : c n with
    | none => exact .inr rfl
    | some o => rw [hs n o hc] at h; cases h
theorem disj.subl {a b c : PH} (h : disj a b) (hs : Sp.sub c a) : disj c b := (h.symm.sub hs).symm

/-- The parts of the list lie in h, apart from one another. -/
def HS : List HP → HP
  | [] => fun _ => True
  | A :: L => fun h => ∃ a b, disj a b ∧ sub a h ∧ sub b h ∧ A a ∧ HS L b

def hp (w : World) : PH
  | 0 => some (.inr (w.os, w.output, w.tape))
  | n + 1 => (w.heap[n]?).map .inl
theorem hp_s (w : World) (n : Nat) : hp w (n + 1) = (w.heap[n]?).map .inl := rfl
theorem hp_o {w : World} {n : Nat} {o : Obj} : hp w (n + 1) = some (.inl o) ↔ w.heap[n]? = some o := by
  rw [hp_s]; cases w.heap[n]? <;> simp
def Holds (w : World) (L : List HP) : Prop := HS L (hp w)

theorem HS.mono {L : List HP} {h h' : PH} (x : HS L h) (s : sub h h') : HS L h' := by
  cases L with
  | nil => trivial
  | cons A L => obtain ⟨a, b, d, sa, sb, p, q⟩ := x; exact ⟨a, b, d, sa.trans s, sb.trans s, p, q⟩

def un (a b : PH) : PH := fun n => match a n with | some o => some o | none => b n
theorem un_l (a b : PH) : sub a (un a b) := fun n o h => by simp [un, h]
theorem un_r {a b : PH} (d : disj a b) : sub b (un a b) := fun n o h => by
  rcases d n with h' | h'
  · simp [un, h', h]
  · rw [h] at h'; cases h'
theorem un_sub {a b h : PH} (sa : sub a h) (sb : sub b h) : sub (un a b) h := fun n o x => by
  unfold un at x
  cases ha : a n with
  | some u => simp [ha] at x; exact sa n o (by rw [ha, x])
  | none => simp [ha] at x; exact sb n o x
theorem un_disj {a b c : PH} (h1 : disj a c) (h2 : disj b c) : disj (un a b) c := fun n => by
  rcases h1 n with h | h
  · rcases h2 n with h' | h'
    · exact .inl (by simp [un, h, h'])
    · exact .inr h'
  · exact .inr h

theorem HS.swap {A B : HP} {L : List HP} {h : PH} (x : HS (A :: B :: L) h) : HS (B :: A :: L) h := by
  obtain ⟨a, r, d, sa, sr, p, b, c, d', sb, sc, q, z⟩ := x
  have dab : disj a b := d.sub sb
  have dac : disj a c := d.sub sc
  refine ⟨b, un a c, ?_, sb.trans sr, un_sub sa (sc.trans sr), q, a, c, dac, un_l _ _, un_r dac, p, z⟩
  exact (un_disj dab d'.symm).symm
theorem HS.tl {A : HP} {L : List HP} {h : PH} (x : HS (A :: L) h) : HS L h := by
  obtain ⟨a, r, _, _, sr, _, z⟩ := x; exact z.mono sr
theorem HS.cong {A : HP} {L L' : List HP} (f : ∀ h, HS L h → HS L' h) {h : PH} (x : HS (A :: L) h) : HS (A :: L') h := by
  obtain ⟨a, r, d, sa, sr, p, z⟩ := x; exact ⟨a, r, d, sa, sr, p, f _ z⟩
theorem HS.hd {A A' : HP} {L : List HP} (f : ∀ h, A h → A' h) {h : PH} (x : HS (A :: L) h) : HS (A' :: L) h := by
  obtain ⟨a, r, d, sa, sr, p, z⟩ := x; exact ⟨a, r, d, sa, sr, f _ p, z⟩

/-- 'x' stands in the list, and what is left of it. -/
inductive At : List HP → HP → List HP → Prop
  | here {x : HP} {L : List HP} : At (x :: L) x L
  | there {x y : HP} {L L' : List HP} (h : At L x L') : At (y :: L) x (y :: L')
theorem At.hs {L L' : List HP} {x : HP} (t : At L x L') : ∀ {h : PH}, HS L h → HS (x :: L') h := by
  induction t with
  | here => exact id
  | there _ ih => exact fun z => HS.swap (HS.cong (fun _ => ih) z)
theorem At.back {L L' : List HP} {x : HP} (t : At L x L') : ∀ {h : PH}, HS (x :: L') h → HS L h := by
  induction t with
  | here => exact id
  | there _ ih => exact fun z => HS.cong (fun _ => ih) (HS.swap z)

/-- All of the first list lies in the second, with what is left. -/
inductive Takes : List HP → List HP → List HP → Prop
  | nil {L : List HP} : Takes L [] L
  | cons {L L' L'' : List HP} {x : HP} {A : List HP} (h : At L x L') (t : Takes L' A L'') : Takes L (x :: A) L''
theorem Takes.hs {L A R : List HP} (t : Takes L A R) : ∀ {h : PH}, HS L h → HS (A ++ R) h := by
  induction t with
  | nil => exact id
  | cons h _ ih => exact fun z => HS.cong (fun _ => ih) (h.hs z)
inductive Sub : List HP → List HP → Prop
  | refl {L : List HP} : Sub L L
  | nil {L : List HP} : Sub [] L
  | cons {R L L' : List HP} {x : HP} (h : At L x L') (t : Sub R L') : Sub (x :: R) L
  | drop {R L : List HP} {y : HP} (t : Sub R L) : Sub R (y :: L)
theorem Sub.hs {R L : List HP} (t : Sub R L) : ∀ {h : PH}, HS L h → HS R h := by
  induction t with
  | refl => exact id
  | nil => exact fun _ => trivial
  | cons h _ ih => exact fun z => HS.cong (fun _ => ih) (h.hs z)
  | drop _ ih => exact fun z => ih z.tl

/-- The program's rest is well in each world in which the list's parts lie. -/
def E (L : List HP) (G : World → Prop) : Prop := ∀ w, Holds w L → G w

theorem E.sub {L L' : List HP} {G : World → Prop} (s : Sub L' L) (h : E L' G) : E L G := fun w x => h w (s.hs x)
theorem E.mono {L : List HP} {G G' : World → Prop} (f : ∀ w, G w → G' w) (h : E L G) : E L G' := fun w x => f w (h w x)
theorem E.at {L L' : List HP} {x : HP} {G : World → Prop} (t : At L x L') (h : E (x :: L') G) : E L G := fun w z => h w (t.hs z)
theorem E.back {L L' : List HP} {x : HP} {G : World → Prop} (t : At L x L') (h : E L G) : E (x :: L') G := fun w z => h w (t.back z)

/-! ### Parts -/
def blk (b : Nat) (o : Obj) : HP := fun h => h (b + 1) = some (.inl o)
/-- A block of cells that nothing freezes. -/
def ar (b : Nat) (e : TypeId) (l : List Value) : HP := blk b (.cells ⟨l⟩ e (0, 0))
def pu (p : Prop) : HP := fun _ => p
def old (w0 : World) : HP := fun h => h 0 = some (.inr (w0.os, w0.output, w0.tape)) ∧ ∀ n, n < w0.heap.size → h (n + 1) = hp w0 (n + 1)

theorem Holds.get {w : World} {b : Nat} {o : Obj} {L : List HP} (h : Holds w (blk b o :: L)) : w.heap[b]? = some o := by
  obtain ⟨a, r, _, sa, _, p, _⟩ := h; exact hp_o.1 (sa _ _ p)
theorem Holds.old {w w0 : World} {L : List HP} (h : Holds w (Sp.old w0 :: L)) : w.os = w0.os ∧ w.output = w0.output ∧ w.tape = w0.tape ∧ ∀ n, n < w0.heap.size → w.heap[n]? = w0.heap[n]? := by
  obtain ⟨a, r, _, sa, _, p, _⟩ := h
  have h0 := sa _ _ p.1
  simp only [hp, Option.some.injEq, Sum.inr.injEq, Prod.mk.injEq] at h0
  refine ⟨h0.1, h0.2.1, h0.2.2, fun n hn => ?_⟩
  have h1 := p.2 n hn
  have : w0.heap[n]? = some w0.heap[n] := by simp [hn]
  rw [hp_o.2 this] at h1
  rw [this]; exact hp_o.1 (sa _ _ h1)
theorem Holds.start (w : World) : Holds w [Sp.old w] :=
  ⟨hp w, fun _ => none, fun _ => .inr rfl, sub.refl _, sub.none _, ⟨rfl, fun _ _ => rfl⟩, trivial⟩
theorem Holds.heap {w w' : World} {L : List HP} (h : Holds w L) (e : w'.heap = w.heap) (eo : w'.os = w.os := by rfl) (ep : w'.output = w.output := by rfl) (et : w'.tape = w.tape := by rfl) : Holds w' L := by
  have : hp w' = hp w := funext fun n => by cases n <;> simp [hp, e, eo, ep, et]
  unfold Holds at *; rw [this]; exact h
theorem Holds.sub {w : World} {L R : List HP} (h : Holds w L) (s : Sub R L) : Holds w R := s.hs h
theorem Holds.pure {w : World} {p : Prop} {L : List HP} (h : Holds w (pu p :: L)) : p ∧ Holds w L := by
  obtain ⟨a, r, _, _, sr, p, z⟩ := h; exact ⟨p, z.mono sr⟩
theorem Holds.mkpure {w : World} {p : Prop} {L : List HP} (hp' : p) (h : Holds w L) : Holds w (pu p :: L) :=
  ⟨fun _ => none, hp w, fun _ => .inl rfl, sub.none _, sub.refl _, hp', h⟩
theorem Holds.set {w : World} {b : Nat} {o : Obj} {L : List HP} (h : Holds w (blk b o :: L)) (o' : Obj) {w' : World}
    (e : w'.heap = w.heap.setIfInBounds b o') (eo : w'.os = w.os := by rfl) (ep : w'.output = w.output := by rfl) (et : w'.tape = w.tape := by rfl) : Holds w' (blk b o' :: L) := by
  have hb := h.get
  obtain ⟨a, r, d, sa, sr, p, z⟩ := h
  have hlt : b < w.heap.size := by
    rcases Nat.lt_or_ge b w.heap.size with h | h
    · exact h
    · simp [Array.getElem?_eq_none h] at hb
  have rb : r (b + 1) = none := by
    rcases d (b + 1) with h | h
    · rw [p] at h; cases h
    · exact h
  have same : ∀ n, n ≠ b + 1 → hp w' n = hp w n := by
    intro n hn
    cases n with
    | zero => simp [hp, eo, ep, et]
    | succ n => rw [hp_s, hp_s, e, Array.getElem?_setIfInBounds_ne (fun h => hn (by omega))]
  refine ⟨fun n => if n = b + 1 then some (.inl o') else a n, r, ?_, ?_, ?_, by simp [blk], z⟩
  · intro n
    by_cases hn : n = b + 1
    · subst hn; exact .inr rb
    · simp only [hn, if_false]; exact d n
  · intro n u hu
    by_cases hn : n = b + 1
    · subst hn; simp at hu; subst hu; exact hp_o.2 (by simp [e, hlt])
    · simp only [hn, if_false] at hu
      rw [same n hn]; exact sa n u hu
  · intro n u hu
    have hn : n ≠ b + 1 := fun h => by subst h; rw [rb] at hu; cases hu
    rw [same n hn]; exact sr n u hu
theorem Holds.push {w : World} {L : List HP} (h : Holds w L) (o : Obj) {w' : World} (e : w'.heap = w.heap.push o) (eo : w'.os = w.os := by rfl) (ep : w'.output = w.output := by rfl) (et : w'.tape = w.tape := by rfl) :
    Holds w' (blk w.heap.size o :: L) := by
  refine ⟨fun n => if n = w.heap.size + 1 then some (.inl o) else none, hp w, ?_, ?_, ?_, by simp [blk], h⟩
  · intro n
    by_cases hn : n = w.heap.size + 1
    · subst hn; exact .inr (by simp [hp])
    · exact .inl (by simp [hn])
  · intro n u hu
    by_cases hn : n = w.heap.size + 1
    · subst hn; simp at hu; subst hu; exact hp_o.2 (by simp [e])
    · simp [hn] at hu
  · intro n u hu
    cases n with
    | zero => simpa [hp, eo, ep, et] using hu
    | succ n =>
      have hlt : n < w.heap.size := by
        rcases Nat.lt_or_ge n w.heap.size with h | h
        · exact h
        · simp [hp, Array.getElem?_eq_none h] at hu
      rw [hp_s, e, Array.getElem?_push_lt hlt]
      simpa [hp, hlt] using hu
/-- Open a part that is a list of parts, or an existential one. -/
theorem Holds.open {w : World} {A L : List HP} (h : Holds w (HS A :: L)) : Holds w (A ++ L) := by
  unfold Holds at *
  generalize hp w = x at *
  induction A generalizing x with
  | nil => exact h.tl
  | cons P A ih =>
    obtain ⟨a, r, d, sa, sr, ⟨p1, p2, d', s1, s2, hp1, hA⟩, z⟩ := h
    refine ⟨p1, un p2 r, ?_, s1.trans sa, un_sub (s2.trans sa) sr, hp1, ih _ ⟨p2, r, d.subl s2, un_l _ _, un_r (d.subl s2), hA, z⟩⟩
    exact (un_disj d'.symm (d.subl s1).symm).symm
theorem Holds.close {w : World} {A L : List HP} (h : Holds w (A ++ L)) : Holds w (HS A :: L) := by
  unfold Holds at *
  generalize hp w = x at *
  induction A generalizing x with
  | nil => exact ⟨fun _ => none, x, fun _ => .inl rfl, sub.none _, sub.refl _, trivial, h⟩
  | cons P A ih =>
    obtain ⟨p1, r, d, s1, sr, hp1, z⟩ := h
    obtain ⟨a, b, d', sa, sb, hA, hL⟩ := ih _ z
    have dpa : disj p1 a := d.sub sa
    refine ⟨un p1 a, b, un_disj (d.sub sb) d', un_sub s1 (sa.trans sr), sb.trans sr, ⟨p1, a, dpa, un_l _ _, un_r dpa, hp1, hA⟩, hL⟩
theorem Holds.ex {α : Type} {w : World} {A : α → HP} {L : List HP} (h : Holds w ((fun x => ∃ y, A y x) :: L)) : ∃ y, Holds w (A y :: L) := by
  obtain ⟨a, r, d, sa, sr, ⟨y, p⟩, z⟩ := h; exact ⟨y, a, r, d, sa, sr, p, z⟩
theorem Holds.mkex {α : Type} {w : World} {A : α → HP} {L : List HP} (y : α) (h : Holds w (A y :: L)) : Holds w ((fun x => ∃ y, A y x) :: L) := by
  obtain ⟨a, r, d, sa, sr, p, z⟩ := h; exact ⟨a, r, d, sa, sr, ⟨y, p⟩, z⟩
end Go.Sp
