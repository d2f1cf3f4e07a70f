/- Operations carried out: in their order; in whatever order the tape picks. -/
import Derived.Test.YtpadmllpdkknnaaK5
namespace Go.Sp
open Go

/-! ### What a request does -/
def ld (e : Enc) (a : Addr) (k : e.α → W) : W := fun w => ∃ x, w.cell? a = some (e.enc x) ∧ k x w
def ldn (e : Enc) (n : Nat) (a : Addr) (k : e.α → W) : W := fun w => ∃ x cs, e.enc x = .agg cs ∧ cs.size = n ∧ (∀ i, i < n → w.cell? (a.add i) = cs[i]?) ∧ k x w
def st (a : Addr) (v : Value) (k : W) : W := fun w => one v = true ∧ (w.cell? a).isSome = true ∧ w.frozen? a = false ∧ k (w.setCell a v)
def stl : List Value → Addr → Nat → W → W
  | [], _, _, k => k
  | v :: vs, a, i, k => st (a.add i) v (stl vs a (i + 1) k)
def nwc (cells : Array Value) (t : TypeId) (k : Addr → W) : W := fun w => k ⟨w.heap.size, 0, none⟩ (w.alloc (.cells cells t))
def nwb (o : Obj) (k : Nat → W) : W := fun w => k w.heap.size (w.alloc o)
def cal (e : Enc) (P : Program) (f : FuncId) (args : Array Value) (k : e.α → W) : W := fun w => Calls P f args w fun en w' => ∃ x, en = .returned (e.enc x) ∧ k x w'
def val (e : Enc) (P : Program) (s : Sem Value) (k : e.α → W) : W := fun w => ∃ x w', s.run P w = .ok (e.enc x) w' ∧ k x w'
def unt (P : Program) (s : Sem Unit) (k : W) : W := fun w => ∃ w', s.run P w = .ok () w' ∧ k w'
/-- The next of a map's entries, or the end. -/
def nxt (e : Enc) (P : Program) (s : Sem Value) (k1 : W) (k2 : e.α → W) : W := fun w => ∃ w', (s.run P w = .ok (.tuple #[.bool false]) w' ∧ k1 w') ∨ ∃ x, s.run P w = .ok (e.enc x) w' ∧ k2 x w'
def ldq (S : W) (e : Enc) (a : Addr) (k : e.α → W) : W := fun w => ∃ x, (∀ w', S w' → w'.cell? a = some (e.enc x)) ∧ k x w
def ldnq (S : W) (e : Enc) (n : Nat) (a : Addr) (k : e.α → W) : W := fun w => ∃ x cs, e.enc x = .agg cs ∧ cs.size = n ∧ (∀ w', S w' → ∀ i, i < n → w'.cell? (a.add i) = cs[i]?) ∧ k x w
def valq (S : W) (e : Enc) (P : Program) (s : Sem Value) (k : e.α → W) : W := fun w => ∃ x, (∀ w', S w' → s.run P w' = .ok (e.enc x) w') ∧ k x w
/-- A condition on the world that the region keeps. -/
def ph (F : W → W) : W := fun w => ∃ S : W, S w ∧ F S w
/-- The condition still holds; one that says more may take its place. -/
def kpn (S : W) (F : W → W) : W := fun w => ∃ S' : W, (∀ u, S' u → S u) ∧ S' w ∧ F S' w

def exe (P : Program) (e : Enc) (S : Option W) (r : Rq) (k : Value → W) : W :=
  match S, r with
  | none, .val v => k v
  | none, .ld1 a => ld e a fun x => k (e.enc x)
  | none, .ldn n a => ldn e n a fun x => k (e.enc x)
  | none, .st vs a => stl vs a 0 (k undef)
  | none, .nw cells t f => nwc cells t fun a => k (f a)
  | none, .nwo o f => nwb o fun n => k (f n)
  | none, .cl f args => cal e P f args fun x => k (e.enc x)
  | none, .sm s => val e P s fun x => k (e.enc x)
  | none, .nx s => nxt e P s (k (.tuple #[.bool false])) fun x => k (e.enc x)
  | none, .um s => unt P s (k undef)
  | some _, .val v => k v
  | some S, .ld1 a => ldq S e a fun x => k (e.enc x)
  | some S, .ldn n a => ldnq S e n a fun x => k (e.enc x)
  | some S, .sm s => valq S e P s fun x => k (e.enc x)
  | some _, _ => ff

section
variable {P : Program} {e : Enc} {k : Value → W} {w : World}

theorem loadsFrom_ok {P : Program} {w : World} {a : Addr} (cs : Array Value) : ∀ (n i : Nat) (acc : Array Value), i + n = cs.size → acc = cs.extract 0 i → (∀ j, j < cs.size → w.cell? (a.add j) = cs[j]?) →
    (loadCellsFrom a i n acc).run P w = .ok cs w
  | 0, i, acc, h, ha, _ => by
    subst ha
    have : i = cs.size := by omega
    simp [loadCellsFrom, this]
  | n + 1, i, acc, h, ha, hc => by
    have hi : i < cs.size := by omega
    have h1 := hc i hi
    have h2 : cs[i]? = some cs[i] := by simp [hi]
    rw [h2] at h1
    simp only [loadCellsFrom, Sem.run_bind, run_load, h1, Result.andThen_ok]
    refine loadsFrom_ok cs n (i + 1) _ (by omega) ?_ hc
    subst ha
    apply Array.toList_inj.1
    simp [List.extract, List.take_succ_eq_append_getElem, hi]
theorem loads_ok {P : Program} {w : World} {a : Addr} {cs : Array Value} {n : Nat} (hn : cs.size = n) (h : ∀ i, i < n → w.cell? (a.add i) = cs[i]?) : (loadCells a n).run P w = .ok cs w := by
  subst hn
  exact loadsFrom_ok cs cs.size 0 #[] (by omega) (by simp) h
theorem stl_ok {P : Program} {a : Addr} {k : W} : ∀ (vs : List Value) (i : Nat) (w : World), stl vs a i k w → ∃ w', (storeCells a vs i).run P w = .ok () w' ∧ k w'
  | [], _, w, h => ⟨w, by simp [storeCells], h⟩
  | v :: vs, i, w, h => by
    obtain ⟨h1, h2, h3, h4⟩ := h
    obtain ⟨u, hu⟩ := Option.isSome_iff_exists.1 h2
    obtain ⟨w', hr, hk⟩ := stl_ok (P := P) vs (i + 1) _ h4
    refine ⟨w', ?_, hk⟩
    simp only [storeCells, Sem.run_bind, run_store P w _ v .plain h1, hu, h3, Bool.false_eq_true, if_false, Result.andThen_ok, hr]

theorem exe_plain {o : Oper} {a : Act} {next : Act → World → Prop} {Q : Exit → Act → World → Prop} {r : Rq} (hs : Is P (execOp a.eval o) r) (h : exe P e none r k w)
    (hk : ∀ v w', k v w' → next (a.put o.dst v) w') : o.wp P a w next Q := by
  unfold Oper.wp
  rw [hs w]
  cases r <;> simp only [exe] at h
  case val v => simpa [Rq.sem, Oper.upon] using hk _ _ h
  case ld1 ad =>
    obtain ⟨x, hx, h⟩ := h
    simpa [Rq.sem, hx, Oper.upon] using hk _ _ h
  case ldn n ad =>
    obtain ⟨x, cs, hx, hn, hc, h⟩ := h
    simp only [Rq.sem, Sem.run_bind, loads_ok hn hc, Result.andThen_ok, Sem.run_pure, Oper.upon]
    rw [← hx]; exact hk _ _ h
  case st vs ad =>
    obtain ⟨w', hr, h⟩ := stl_ok (P := P) vs 0 w h
    simp only [Rq.sem, Sem.run_bind, hr, Result.andThen_ok, Sem.run_pure, Oper.upon]
    exact hk _ _ h
  case nw cells t f => simpa [Rq.sem, newRow, Oper.upon] using hk _ _ h
  case nwo ob f => simpa [Rq.sem, Oper.upon] using hk _ _ h
  case cl f args =>
    simp only [Rq.sem, Sem.run_pure, Oper.upon]
    exact Calls.mono h fun en w' ⟨x, hx, h⟩ => by subst hx; exact hk _ _ h
  case sm s =>
    obtain ⟨x, w', hr, h⟩ := h
    simp only [Rq.sem, Sem.run_bind, hr, Result.andThen_ok, Sem.run_pure, Oper.upon]
    exact hk _ _ h
  case nx s =>
    obtain ⟨w', ⟨hr, h⟩ | ⟨x, hr, h⟩⟩ := h
    · simp only [Rq.sem, Sem.run_bind, hr, Result.andThen_ok, Sem.run_pure, Oper.upon]
      exact hk _ _ h
    · simp only [Rq.sem, Sem.run_bind, hr, Result.andThen_ok, Sem.run_pure, Oper.upon]
      exact hk _ _ h
  case um s =>
    obtain ⟨w', hr, h⟩ := h
    simp only [Rq.sem, Sem.run_bind, hr, Result.andThen_ok, Sem.run_pure, Oper.upon]
    exact hk _ _ h

theorem exe_quiet {o : Oper} {a : Act} {S : W} {r : Rq} (hs : Is P (execOp a.eval o) r) (h : exe P e (some S) r k w) :
    ∃ v, (∀ w', S w' → (execOp a.eval o).run P w' = .ok (.value v) w') ∧ k v w := by
  cases r <;> simp only [exe] at h <;> try exact h.elim
  case val v => exact ⟨v, fun w' _ => by rw [hs w']; simp [Rq.sem], h⟩
  case ld1 ad =>
    obtain ⟨x, hx, h⟩ := h
    exact ⟨_, fun w' hw => by rw [hs w']; simp [Rq.sem, hx w' hw], h⟩
  case ldn n ad =>
    obtain ⟨x, cs, hx, hn, hc, h⟩ := h
    exact ⟨_, fun w' hw => by rw [hs w', hx]; simp [Rq.sem, loads_ok hn (hc w' hw)], h⟩
  case sm s =>
    obtain ⟨x, hx, h⟩ := h
    exact ⟨_, fun w' hw => by rw [hs w']; simp [Rq.sem, hx w' hw], h⟩
end
end Go.Sp
