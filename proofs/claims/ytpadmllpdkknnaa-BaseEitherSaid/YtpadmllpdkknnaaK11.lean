/- Numbers, and small things that the walks use. -/
import Derived.Test.YtpadmllpdkknnaaK10
import Derived.Laws.BitsLemmas
import Derived.Below
namespace Go.Sp
open Go
def wf64 (n : Int) : Prop := -9223372036854775808 ≤ n ∧ n ≤ 9223372036854775807
theorem w64 {n : Int} (h : -9223372036854775808 ≤ n) (h' : n ≤ 9223372036854775807) : IntKind.wrap .i64 n = n := by
  rw [IntKind.wrap_i64]; omega
theorem wU8 {n : Int} (h : 0 ≤ n) (h' : n ≤ 255) : IntKind.wrap .u8 n = n := by
  rw [IntKind.wrap_u8]; omega
theorem wU32 {n : Int} (h : 0 ≤ n) (h' : n ≤ 4294967295) : IntKind.wrap .u32 n = n := by
  rw [IntKind.wrap_u32]; omega
theorem td {n k : Int} (h : 0 ≤ n) : n.tdiv k = n / k := Int.tdiv_eq_ediv_of_nonneg h
theorem tm {n k : Int} (h : 0 ≤ n) : n.tmod k = n % k := Int.tmod_eq_emod_of_nonneg h
@[go_sem] theorem envA_n (i : Nat) : envA i [] = [] := rfl
@[go_sem] theorem envA_c (i : Nat) (v : Value) (vs : List Value) : envA i (v :: vs) = (i, v) :: envA (i + 1) vs := rfl
attribute [go_sem] Int.toNat_natCast add_of spl List.set_cons_zero List.set_cons_succ List.nil_append List.cons_append reduceCtorEq ne_eq not_false_eq_true Nat.zero_add
attribute [push_cast] decide_eq_true_eq decide_eq_false_iff_not beq_iff_eq bne_iff_ne beq_eq_false_iff_ne bne_eq_false_iff_eq Bool.not_eq_true' Bool.not_eq_false' Bool.not_eq_true Bool.not_eq_false Bool.not_not Bool.not_true Bool.not_false Int.not_lt Int.not_le ne_eq not_true_eq_false not_false_eq_true
/-- Nothing but what a function gives. -/
theorem Fn.mono {e : Enc} {P : Program} {f : FuncId} {args : Array Value} {A : List HP} {B B' : e.α → List HP → Prop} (h : Fn e P f args A B) (hB : ∀ x X, B x X → B' x X) : Fn e P f args A B' :=
  fun L => (h L).mono fun _ c => c.mono fun _ _ ⟨x, he, X, hx, hh⟩ => ⟨x, he, X, hB x X hx, hh⟩
/-- A function that turns nothing and makes nothing that counts. -/
def Fp (e : Enc) (P : Program) (f : FuncId) (args : Array Value) (A : List HP) (x : e.α) : Prop := Fn e P f args A fun y X => X = A ∧ y = x
theorem r_calp {e : Enc} {P : Program} {L L' : List HP} {f : FuncId} {args : Array Value} {A : List HP} {x : e.α} {k : e.α → W} (h : Fp e P f args A x) (ht : Takes L A L')
    (hk : E L (k x)) (hb : Sub L (A ++ L') := by repeat constructor) : E L (cal e P f args k) :=
  r_cal h ht fun y X hB => by
    obtain ⟨rfl, rfl⟩ := hB
    exact hk.sub hb
theorem r_retp {e : Enc} {v : Value} {L L' A : List HP} {x : e.α} (hv : v = e.enc x) (hs : Sub (A ++ L') L) :
    E L (fin e (fun y w => ∃ X, (X = A ∧ y = x) ∧ Holds w (X ++ L')) v) := fun _ hw => ⟨x, hv, A, ⟨rfl, rfl⟩, hw.sub hs⟩
theorem r_retb {e : Enc} {v : Value} {L L' A : List HP} {x x' : e.α} (hv : v = e.enc x) (hx : x = x') (hs : Sub (A ++ L') L) :
    E L (fin e (fun y w => ∃ X, (X = A ∧ y = x') ∧ Holds w (X ++ L')) v) := fun _ hw => ⟨x, hv, A, ⟨rfl, hx⟩, hw.sub hs⟩
/-- What lies beside is kept. -/
theorem Fp.frame {e : Enc} {P : Program} {f : FuncId} {args : Array Value} {A : List HP} {x : e.α} (h : Fp e P f args A x) (B : List HP) : Fn e P f args (A ++ B) fun y X => X = A ++ B ∧ y = x := fun L w hw =>
  (h (B ++ L) w (by simpa using hw)).mono fun _ _ ⟨y, he, X, ⟨hX, hy⟩, hh⟩ => ⟨y, he, A ++ B, ⟨rfl, hy⟩, by subst hX; simpa using hh⟩
/-- The end of all: the law's call. -/
theorem below_of {w w' : World} {L : List HP} (h : Holds w' (old w :: L)) : RowKit.Below w.heap.size w w' := by
  obtain ⟨h1, h2, h3, h4⟩ := Holds.old h
  refine ⟨h1, h3, h2, ?_, h4⟩
  rcases Nat.lt_or_ge w'.heap.size w.heap.size with hl | hl
  · have h5 := h4 w'.heap.size hl
    simp [hl] at h5
  · exact hl
theorem calls_of_E {P : Program} {f : FuncId} {args : Array Value} {w : World} {b : Bool} (h : Fn eB P f args [old w] fun y X => X = [old w] ∧ y = b) :
    Calls P f args w fun e w' => e = .returned (.bool b) ∧ RowKit.Below w.heap.size w w' := by
  refine (h [] w (by simpa using Holds.start w)).mono ?_
  rintro e w' ⟨y, he, X, ⟨rfl, rfl⟩, hX⟩
  exact ⟨he, below_of (L := []) (by simpa using hX)⟩
end Go.Sp
