/- Texts of a proof, one behind the other: Gze0 Q8. No condition. -/
import Derived.Test.YtaidhghnflnmnaaGreatMd541d382
import Derived.Test.YtaidhghnflnmnaaGreatM759c4650
/- What each region of the Go functions does. Written by my own generator. -/
namespace Go.Sp
open Go
set_option maxRecDepth 100000
set_option linter.unusedVariables false
open Go.Proofs
/-! gharry.gharrylaw10.PoolNobody -/
noncomputable def c13 : Cfg := { P := Tryz.prog, n := 80, T := TT, body := (Tryz.f13.body).getD .skip, res := Tryz.f13.results.toList, li := lk [] [(0, [0, 1]), (1, [0, 1]), (2, [0, 1, 5]), (3, [0, 1, 5, 6]), (4, [0, 1, 5, 6, 8, 9]), (5, [0, 1, 5, 6, 8, 9, 10, 11])], lo := lk [] [(0, [0, 1]), (1, [0, 1, 5]), (2, [0, 1, 5, 6]), (3, [0, 1, 5, 6, 8, 9]), (4, [0, 1, 5, 6, 8, 9, 10, 11]), (5, [4]), (1000000, [4])], ord := lk (false, []) [] }
@[go_sem] theorem c13_i0 : c13.li 0 = [0, 1] := rfl
@[go_sem] theorem c13_i1 : c13.li 1 = [0, 1] := rfl
@[go_sem] theorem c13_i2 : c13.li 2 = [0, 1, 5] := rfl
@[go_sem] theorem c13_i3 : c13.li 3 = [0, 1, 5, 6] := rfl
@[go_sem] theorem c13_i4 : c13.li 4 = [0, 1, 5, 6, 8, 9] := rfl
@[go_sem] theorem c13_i5 : c13.li 5 = [0, 1, 5, 6, 8, 9, 10, 11] := rfl
@[go_sem] theorem c13_r0 (id0 : Int) (text1 : List UInt8) (K : Env → W) : RP c13 0 [(0, .int .i64 id0), (1, str text1)] K =
    (K [(0, .int .i64 id0), (1, str text1)]) := by kernel_rfl
@[go_sem] theorem c13_r1 (id0 : Int) (text1 : List UInt8) (K : Env → W) : RP c13 1 [(0, .int .i64 id0), (1, str text1)] K =
    (K [(0, .int .i64 id0), (1, str text1), (5, .pointer none)]) := by kernel_rfl
@[go_sem] theorem c13_r2 (id0 : Int) (text1 : List UInt8) (p5 : Option Addr) (K : Env → W) : RP c13 2 [(0, .int .i64 id0), (1, str text1), (5, .pointer p5)] K =
    (nwc #[.pointer none, .pointer none, .slice none 0 0, .int .i64 (0 : Int), .int .i64 (0 : Int), .int .i64 (0 : Int)] 96 fun y1_ => (K [(0, .int .i64 id0), (1, str text1), (5, .pointer p5), (6, .pointer (some y1_))])) := by kernel_rfl
@[go_sem] theorem c13_r3 (id0 : Int) (text1 : List UInt8) (p5 : Option Addr) (z6 : Addr) (K : Env → W) : RP c13 3 [(0, .int .i64 id0), (1, str text1), (5, .pointer p5), (6, .pointer (some z6))] K =
    (cal (eT3 eS eI eI) Tryz.prog 49 #[.pointer p5, .int .i64 id0] fun (y1_ : ((List UInt8) × Int × Int)) => (K [(0, .int .i64 id0), (1, str text1), (5, .pointer p5), (6, .pointer (some z6)), (8, .int .i64 y1_.2.1), (9, .int .i64 y1_.2.2)])) := by kernel_rfl
@[go_sem] theorem c13_r4 (id0 : Int) (text1 : List UInt8) (p5 : Option Addr) (z6 : Addr) (n8 : Int) (e9 : Int) (K : Env → W) : RP c13 4 [(0, .int .i64 id0), (1, str text1), (5, .pointer p5), (6, .pointer (some z6)), (8, .int .i64 n8), (9, .int .i64 e9)] K =
    (cal (eT2 eI eI) Tryz.prog 55 #[.pointer (some z6)] fun (y1_ : (Int × Int)) => (K [(0, .int .i64 id0), (1, str text1), (5, .pointer p5), (6, .pointer (some z6)), (8, .int .i64 n8), (9, .int .i64 e9), (10, .int .i64 y1_.1), (11, .int .i64 y1_.2)])) := by kernel_rfl
@[go_sem] theorem c13_r5 (id0 : Int) (text1 : List UInt8) (p5 : Option Addr) (z6 : Addr) (n8 : Int) (e9 : Int) (a10 : Int) (b11 : Int) (K : Env → W) : RP c13 5 [(0, .int .i64 id0), (1, str text1), (5, .pointer p5), (6, .pointer (some z6)), (8, .int .i64 n8), (9, .int .i64 e9), (10, .int .i64 a10), (11, .int .i64 b11)] K =
    (cnd ((n8 == (0 : Int))) (cnd ((e9 == (11 : Int))) (cal eI Tryz.prog 43 #[.pointer (some z6), .int .i64 id0, str text1, .int .i64 (1 : Int)] fun (y1_ : Int) => (cnd ((y1_ == (11 : Int))) (cal eI Tryz.prog 48 #[.pointer p5, .int .i64 id0] fun (y2_ : Int) => (cnd ((y2_ == (11 : Int))) (cal eI Tryz.prog 50 #[.pointer (some z6), .int .i64 id0] fun (y3_ : Int) => (cnd ((y3_ == (11 : Int))) (cal eI Tryz.prog 56 #[.pointer p5, .int .i64 id0] fun (y4_ : Int) => (cnd ((y4_ == (11 : Int))) (cal eI Tryz.prog 57 #[.pointer (some z6)] fun (y5_ : Int) => (cnd ((y5_ == (11 : Int))) (cal eB Tryz.prog 45 #[.pointer p5, .int .i64 id0] fun (y6_ : Bool) => (cnd ((!y6_)) (cal eSl Tryz.prog 58 #[.pointer (some z6)] fun (y7_ : (Option Addr × Nat × Nat)) => (cal eI Tryz.prog 59 #[.pointer p5] fun (y8_ : Int) => (cal eI Tryz.prog 46 #[.pointer p5] fun (y9_ : Int) => (cnd (((IntKind.wrap .i64 ((IntKind.wrap .i64 ((IntKind.wrap .i64 ((IntKind.wrap .i64 ((y7_.2.1 : Int) + y8_)) + y9_)) + a10)) + b11)) == (0 : Int))) (cal eB Tryz.prog 44 #[] fun (y10_ : Bool) => (K [(4, .bool y10_)])) (K [(4, .bool false)]))))) (K [(4, .bool false)]))) (K [(4, .bool false)]))) (K [(4, .bool false)]))) (K [(4, .bool false)]))) (K [(4, .bool false)]))) (K [(4, .bool false)]))) (K [(4, .bool false)])) (K [(4, .bool false)])) := by kernel_rfl
@[go_sem] theorem c13_o : c13.lo 1000000 = [4] := rfl
@[go_sem] theorem c13_e (t4 : Bool) (k : Value → W) : RTp c13 [(4, .bool t4)] k = (k (.bool t4)) := by kernel_rfl
theorem c13_ok : (c13.P.follows .mixedOrders && okc c13 c13.body) = true := by kernel_rfl
theorem c13_fn {e : Enc} {args : Array Value} {G : e.α → W} {L : List HP} {ρ : Env} (hρ : envA 0 args.toList = ρ) (hs : Nat.ble args.size 80 = true) (h : E L (D c13 (.seq (.reg 0) (.seq (.reg 1) (.seq (.reg 2) (.seq (.reg 3) (.seq (.reg 4) (.seq (.reg 5) (.ret))))))) (fnQ c13 e G) ρ)) : E L (cal e Tryz.prog 13 args G) :=
  d_fn (c := c13) Tryz.func13 (by kernel_rfl) (by kernel_rfl) (by kernel_rfl) c13_ok (by kernel_rfl) (by kernel_rfl) hρ hs h
end Go.Sp
/- The pool's law: a pool that nobody made. -/
namespace Go.Sp
open Go Go.Proofs
set_option linter.unusedSimpArgs false
set_option linter.unusedVariables false
set_option maxRecDepth 10000
abbrev zp (b : Nat) : HP := ar b 96 [.pointer none, .pointer none, .slice none 0 0, .int .i64 0, .int .i64 0, .int .i64 0]
theorem g89n : Fp eB Tryz.prog 89 #[.pointer none] [] true := fun L => by
  refine c89_fn rfl rfl ?_
  repeat' ((fail_if_success with_reducible refine nph ?_); first | (with_reducible first | (refine d_seq ?_; intro K hK) | (refine hK _ _ ?_; clear hK K) | (refine SG.p ?_; try intro b)) | ((with_reducible refine SC.p ?_); refine And.intro ?_ ?_) <;> intro hc <;> try simp only [push_cast, Int.reduceEq, Int.reduceLT, Int.reduceLE, Int.reduceNe] at hc | with_reducible refine r_rq (by first | decide | omega) ?_ | ((with_reducible refine SL.p ?_); first | refine ⟨_, rfl, ?_⟩ | refine ⟨_, _, _, rfl, ?_⟩ | (refine ⟨?_, rfl, ?_⟩; focus (simp; done))) | ((with_reducible first | apply i_ldn | apply i_ldnq); exact rfl; exact rfl; exact rfl) | ((try with_reducible refine d_reg ?_); simp only [go_sem, Nat.reduceAdd, Nat.reduceEqDiff, Int.reduceToNat, Nat.reduceMul, Nat.reduceSub]) | clear hK K)
  (with_reducible first | apply i_ret0 | apply i_ret2 | apply i_ret3 | apply i_ret); exact rfl
  rfl
theorem g89z (b : Nat) : Fp eB Tryz.prog 89 #[.pointer (some ⟨b, 0, none⟩)] [zp b] true := fun L => by
  refine c89_fn rfl rfl ?_
  repeat' ((fail_if_success with_reducible refine nph ?_); first | (with_reducible first | (refine d_seq ?_; intro K hK) | (refine hK _ _ ?_; clear hK K) | (refine SG.p ?_; try intro b)) | ((with_reducible refine SC.p ?_); refine And.intro ?_ ?_) <;> intro hc <;> try simp only [push_cast, Int.reduceEq, Int.reduceLT, Int.reduceLE, Int.reduceNe] at hc | with_reducible refine r_rq (by first | decide | omega) ?_ | ((with_reducible refine SL.p ?_); first | refine ⟨_, rfl, ?_⟩ | refine ⟨_, _, _, rfl, ?_⟩ | (refine ⟨?_, rfl, ?_⟩; focus (simp; done))) | ((with_reducible first | apply i_ldn | apply i_ldnq); exact rfl; exact rfl; exact rfl) | ((try with_reducible refine d_reg ?_); simp only [go_sem, Nat.reduceAdd, Nat.reduceEqDiff, Int.reduceToNat, Nat.reduceMul, Nat.reduceSub]) | clear hK K)
  (with_reducible first | apply i_ret0 | apply i_ret2 | apply i_ret3 | apply i_ret); exact rfl
  rfl
theorem g49n (x : Int) : Fp (eT3 eS eI eI) Tryz.prog 49 #[.pointer none, .int .i64 x] [] ([], 0, 11) := fun L => by
  have N := g89n
  refine c49_fn rfl rfl ?_
  repeat' (first | refine i_clp N ?_ | (fail_if_success with_reducible refine nph ?_); first | (with_reducible first | (refine d_seq ?_; intro K hK) | (refine hK _ _ ?_; clear hK K) | (refine SG.p ?_; try intro b)) | ((with_reducible refine SC.p ?_); refine And.intro ?_ ?_) <;> intro hc <;> try simp only [push_cast, Int.reduceEq, Int.reduceLT, Int.reduceLE, Int.reduceNe] at hc | with_reducible refine r_rq (by first | decide | omega) ?_ | ((with_reducible refine SL.p ?_); first | refine ⟨_, rfl, ?_⟩ | refine ⟨_, _, _, rfl, ?_⟩ | (refine ⟨?_, rfl, ?_⟩; focus (simp; done))) | ((with_reducible first | apply i_ldn | apply i_ldnq); exact rfl; exact rfl; exact rfl) | ((try with_reducible refine d_reg ?_); simp only [go_sem, Nat.reduceAdd, Nat.reduceEqDiff, Int.reduceToNat, Nat.reduceMul, Nat.reduceSub]) | clear hK K)
  all_goals try (first | contradiction | (simp only [ reduceCtorEq] at *; done) | (exfalso; omega))
  (with_reducible first | apply i_ret0 | apply i_ret2 | apply i_ret3 | apply i_ret); exact rfl
  rfl
theorem g55z (b : Nat) : Fp (eT2 eI eI) Tryz.prog 55 #[.pointer (some ⟨b, 0, none⟩)] [zp b] (0, 0) := fun L => by
  have N := g89z b
  refine c55_fn rfl rfl ?_
  repeat' (first | refine i_clp N ?_ | (fail_if_success with_reducible refine nph ?_); first | (with_reducible first | (refine d_seq ?_; intro K hK) | (refine hK _ _ ?_; clear hK K) | (refine SG.p ?_; try intro b)) | ((with_reducible refine SC.p ?_); refine And.intro ?_ ?_) <;> intro hc <;> try simp only [push_cast, Int.reduceEq, Int.reduceLT, Int.reduceLE, Int.reduceNe] at hc | with_reducible refine r_rq (by first | decide | omega) ?_ | ((with_reducible refine SL.p ?_); first | refine ⟨_, rfl, ?_⟩ | refine ⟨_, _, _, rfl, ?_⟩ | (refine ⟨?_, rfl, ?_⟩; focus (simp; done))) | ((with_reducible first | apply i_ldn | apply i_ldnq); exact rfl; exact rfl; exact rfl) | ((try with_reducible refine d_reg ?_); simp only [go_sem, Nat.reduceAdd, Nat.reduceEqDiff, Int.reduceToNat, Nat.reduceMul, Nat.reduceSub]) | clear hK K)
  all_goals try (first | contradiction | (simp only [ reduceCtorEq] at *; done) | (exfalso; omega))
  (with_reducible first | apply i_ret0 | apply i_ret2 | apply i_ret3 | apply i_ret); exact rfl
  rfl
theorem g43z (b : Nat) (x y : Int) (t : List UInt8) : Fp eI Tryz.prog 43 #[.pointer (some ⟨b, 0, none⟩), .int .i64 x, str t, .int .i64 y] [zp b] 11 := fun L => by
  have N := g89z b
  refine c43_fn rfl rfl ?_
  repeat' (first | refine i_clp N ?_ | (fail_if_success with_reducible refine nph ?_); first | (with_reducible first | (refine d_seq ?_; intro K hK) | (refine hK _ _ ?_; clear hK K) | (refine SG.p ?_; try intro b)) | ((with_reducible refine SC.p ?_); refine And.intro ?_ ?_) <;> intro hc <;> try simp only [push_cast, Int.reduceEq, Int.reduceLT, Int.reduceLE, Int.reduceNe] at hc | with_reducible refine r_rq (by first | decide | omega) ?_ | ((with_reducible refine SL.p ?_); first | refine ⟨_, rfl, ?_⟩ | refine ⟨_, _, _, rfl, ?_⟩ | (refine ⟨?_, rfl, ?_⟩; focus (simp; done))) | ((with_reducible first | apply i_ldn | apply i_ldnq); exact rfl; exact rfl; exact rfl) | ((try with_reducible refine d_reg ?_); simp only [go_sem, Nat.reduceAdd, Nat.reduceEqDiff, Int.reduceToNat, Nat.reduceMul, Nat.reduceSub]) | clear hK K)
  all_goals try (first | contradiction | (simp only [ reduceCtorEq] at *; done) | (exfalso; omega))
  (with_reducible first | apply i_ret0 | apply i_ret2 | apply i_ret3 | apply i_ret); exact rfl
  rfl
theorem g48n (x : Int) : Fp eI Tryz.prog 48 #[.pointer none, .int .i64 x] [] 11 := fun L => by
  have N := g89n
  refine c48_fn rfl rfl ?_
  repeat' (first | refine i_clp N ?_ | (fail_if_success with_reducible refine nph ?_); first | (with_reducible first | (refine d_seq ?_; intro K hK) | (refine hK _ _ ?_; clear hK K) | (refine SG.p ?_; try intro b)) | ((with_reducible refine SC.p ?_); refine And.intro ?_ ?_) <;> intro hc <;> try simp only [push_cast, Int.reduceEq, Int.reduceLT, Int.reduceLE, Int.reduceNe] at hc | with_reducible refine r_rq (by first | decide | omega) ?_ | ((with_reducible refine SL.p ?_); first | refine ⟨_, rfl, ?_⟩ | refine ⟨_, _, _, rfl, ?_⟩ | (refine ⟨?_, rfl, ?_⟩; focus (simp; done))) | ((with_reducible first | apply i_ldn | apply i_ldnq); exact rfl; exact rfl; exact rfl) | ((try with_reducible refine d_reg ?_); simp only [go_sem, Nat.reduceAdd, Nat.reduceEqDiff, Int.reduceToNat, Nat.reduceMul, Nat.reduceSub]) | clear hK K)
  all_goals try (first | contradiction | (simp only [ reduceCtorEq] at *; done) | (exfalso; omega))
  (with_reducible first | apply i_ret0 | apply i_ret2 | apply i_ret3 | apply i_ret); exact rfl
  rfl
theorem g50z (b : Nat) (x : Int) : Fp eI Tryz.prog 50 #[.pointer (some ⟨b, 0, none⟩), .int .i64 x] [zp b] 11 := fun L => by
  have N := g89z b
  refine c50_fn rfl rfl ?_
  repeat' (first | refine i_clp N ?_ | (fail_if_success with_reducible refine nph ?_); first | (with_reducible first | (refine d_seq ?_; intro K hK) | (refine hK _ _ ?_; clear hK K) | (refine SG.p ?_; try intro b)) | ((with_reducible refine SC.p ?_); refine And.intro ?_ ?_) <;> intro hc <;> try simp only [push_cast, Int.reduceEq, Int.reduceLT, Int.reduceLE, Int.reduceNe] at hc | with_reducible refine r_rq (by first | decide | omega) ?_ | ((with_reducible refine SL.p ?_); first | refine ⟨_, rfl, ?_⟩ | refine ⟨_, _, _, rfl, ?_⟩ | (refine ⟨?_, rfl, ?_⟩; focus (simp; done))) | ((with_reducible first | apply i_ldn | apply i_ldnq); exact rfl; exact rfl; exact rfl) | ((try with_reducible refine d_reg ?_); simp only [go_sem, Nat.reduceAdd, Nat.reduceEqDiff, Int.reduceToNat, Nat.reduceMul, Nat.reduceSub]) | clear hK K)
  all_goals try (first | contradiction | (simp only [ reduceCtorEq] at *; done) | (exfalso; omega))
  (with_reducible first | apply i_ret0 | apply i_ret2 | apply i_ret3 | apply i_ret); exact rfl
  rfl
theorem g56n (x : Int) : Fp eI Tryz.prog 56 #[.pointer none, .int .i64 x] [] 11 := fun L => by
  have N := g89n
  refine c56_fn rfl rfl ?_
  repeat' (first | refine i_clp N ?_ | (fail_if_success with_reducible refine nph ?_); first | (with_reducible first | (refine d_seq ?_; intro K hK) | (refine hK _ _ ?_; clear hK K) | (refine SG.p ?_; try intro b)) | ((with_reducible refine SC.p ?_); refine And.intro ?_ ?_) <;> intro hc <;> try simp only [push_cast, Int.reduceEq, Int.reduceLT, Int.reduceLE, Int.reduceNe] at hc | with_reducible refine r_rq (by first | decide | omega) ?_ | ((with_reducible refine SL.p ?_); first | refine ⟨_, rfl, ?_⟩ | refine ⟨_, _, _, rfl, ?_⟩ | (refine ⟨?_, rfl, ?_⟩; focus (simp; done))) | ((with_reducible first | apply i_ldn | apply i_ldnq); exact rfl; exact rfl; exact rfl) | ((try with_reducible refine d_reg ?_); simp only [go_sem, Nat.reduceAdd, Nat.reduceEqDiff, Int.reduceToNat, Nat.reduceMul, Nat.reduceSub]) | clear hK K)
  all_goals try (first | contradiction | (simp only [ reduceCtorEq] at *; done) | (exfalso; omega))
  (with_reducible first | apply i_ret0 | apply i_ret2 | apply i_ret3 | apply i_ret); exact rfl
  rfl
theorem g57z (b : Nat) : Fp eI Tryz.prog 57 #[.pointer (some ⟨b, 0, none⟩)] [zp b] 11 := fun L => by
  have N := g89z b
  refine c57_fn rfl rfl ?_
  repeat' (first | refine i_clp N ?_ | (fail_if_success with_reducible refine nph ?_); first | (with_reducible first | (refine d_seq ?_; intro K hK) | (refine hK _ _ ?_; clear hK K) | (refine SG.p ?_; try intro b)) | ((with_reducible refine SC.p ?_); refine And.intro ?_ ?_) <;> intro hc <;> try simp only [push_cast, Int.reduceEq, Int.reduceLT, Int.reduceLE, Int.reduceNe] at hc | with_reducible refine r_rq (by first | decide | omega) ?_ | ((with_reducible refine SL.p ?_); first | refine ⟨_, rfl, ?_⟩ | refine ⟨_, _, _, rfl, ?_⟩ | (refine ⟨?_, rfl, ?_⟩; focus (simp; done))) | ((with_reducible first | apply i_ldn | apply i_ldnq); exact rfl; exact rfl; exact rfl) | ((try with_reducible refine d_reg ?_); simp only [go_sem, Nat.reduceAdd, Nat.reduceEqDiff, Int.reduceToNat, Nat.reduceMul, Nat.reduceSub]) | clear hK K)
  all_goals try (first | contradiction | (simp only [ reduceCtorEq] at *; done) | (exfalso; omega))
  (with_reducible first | apply i_ret0 | apply i_ret2 | apply i_ret3 | apply i_ret); exact rfl
  rfl
theorem g45n (x : Int) : Fp eB Tryz.prog 45 #[.pointer none, .int .i64 x] [] false := fun L => by
  have N := g89n
  refine c45_fn rfl rfl ?_
  repeat' (first | refine i_clp N ?_ | (fail_if_success with_reducible refine nph ?_); first | (with_reducible first | (refine d_seq ?_; intro K hK) | (refine hK _ _ ?_; clear hK K) | (refine SG.p ?_; try intro b)) | ((with_reducible refine SC.p ?_); refine And.intro ?_ ?_) <;> intro hc <;> try simp only [push_cast, Int.reduceEq, Int.reduceLT, Int.reduceLE, Int.reduceNe] at hc | with_reducible refine r_rq (by first | decide | omega) ?_ | ((with_reducible refine SL.p ?_); first | refine ⟨_, rfl, ?_⟩ | refine ⟨_, _, _, rfl, ?_⟩ | (refine ⟨?_, rfl, ?_⟩; focus (simp; done))) | ((with_reducible first | apply i_ldn | apply i_ldnq); exact rfl; exact rfl; exact rfl) | ((try with_reducible refine d_reg ?_); simp only [go_sem, Nat.reduceAdd, Nat.reduceEqDiff, Int.reduceToNat, Nat.reduceMul, Nat.reduceSub]) | clear hK K)
  all_goals try (first | contradiction | (simp only [ reduceCtorEq] at *; done) | (exfalso; omega))
  (with_reducible first | apply i_ret0 | apply i_ret2 | apply i_ret3 | apply i_ret); exact rfl
  rfl
theorem g58z (b : Nat) : Fp eSl Tryz.prog 58 #[.pointer (some ⟨b, 0, none⟩)] [zp b] (none, 0, 0) := fun L => by
  have N := g89z b
  refine c58_fn rfl rfl ?_
  repeat' (first | refine i_clp N ?_ | (fail_if_success with_reducible refine nph ?_); first | (with_reducible first | (refine d_seq ?_; intro K hK) | (refine hK _ _ ?_; clear hK K) | (refine SG.p ?_; try intro b)) | ((with_reducible refine SC.p ?_); refine And.intro ?_ ?_) <;> intro hc <;> try simp only [push_cast, Int.reduceEq, Int.reduceLT, Int.reduceLE, Int.reduceNe] at hc | with_reducible refine r_rq (by first | decide | omega) ?_ | ((with_reducible refine SL.p ?_); first | refine ⟨_, rfl, ?_⟩ | refine ⟨_, _, _, rfl, ?_⟩ | (refine ⟨?_, rfl, ?_⟩; focus (simp; done))) | ((with_reducible first | apply i_ldn | apply i_ldnq); exact rfl; exact rfl; exact rfl) | ((try with_reducible refine d_reg ?_); simp only [go_sem, Nat.reduceAdd, Nat.reduceEqDiff, Int.reduceToNat, Nat.reduceMul, Nat.reduceSub]) | clear hK K)
  all_goals try (first | contradiction | (simp only [ reduceCtorEq] at *; done) | (exfalso; omega))
  refine i_ret (e := eSl) (x := (none, 0, 0)) rfl ?_
  rfl
theorem g59n : Fp eI Tryz.prog 59 #[.pointer none] [] 0 := fun L => by
  have N := g89n
  refine c59_fn rfl rfl ?_
  repeat' (first | refine i_clp N ?_ | (fail_if_success with_reducible refine nph ?_); first | (with_reducible first | (refine d_seq ?_; intro K hK) | (refine hK _ _ ?_; clear hK K) | (refine SG.p ?_; try intro b)) | ((with_reducible refine SC.p ?_); refine And.intro ?_ ?_) <;> intro hc <;> try simp only [push_cast, Int.reduceEq, Int.reduceLT, Int.reduceLE, Int.reduceNe] at hc | with_reducible refine r_rq (by first | decide | omega) ?_ | ((with_reducible refine SL.p ?_); first | refine ⟨_, rfl, ?_⟩ | refine ⟨_, _, _, rfl, ?_⟩ | (refine ⟨?_, rfl, ?_⟩; focus (simp; done))) | ((with_reducible first | apply i_ldn | apply i_ldnq); exact rfl; exact rfl; exact rfl) | ((try with_reducible refine d_reg ?_); simp only [go_sem, Nat.reduceAdd, Nat.reduceEqDiff, Int.reduceToNat, Nat.reduceMul, Nat.reduceSub]) | clear hK K)
  all_goals try (first | contradiction | (simp only [ reduceCtorEq] at *; done) | (exfalso; omega))
  (with_reducible first | apply i_ret0 | apply i_ret2 | apply i_ret3 | apply i_ret); exact rfl
  rfl
theorem g46n : Fp eI Tryz.prog 46 #[.pointer none] [] 0 := fun L => by
  have N := g89n
  refine c46_fn rfl rfl ?_
  repeat' (first | refine i_clp N ?_ | (fail_if_success with_reducible refine nph ?_); first | (with_reducible first | (refine d_seq ?_; intro K hK) | (refine hK _ _ ?_; clear hK K) | (refine SG.p ?_; try intro b)) | ((with_reducible refine SC.p ?_); refine And.intro ?_ ?_) <;> intro hc <;> try simp only [push_cast, Int.reduceEq, Int.reduceLT, Int.reduceLE, Int.reduceNe] at hc | with_reducible refine r_rq (by first | decide | omega) ?_ | ((with_reducible refine SL.p ?_); first | refine ⟨_, rfl, ?_⟩ | refine ⟨_, _, _, rfl, ?_⟩ | (refine ⟨?_, rfl, ?_⟩; focus (simp; done))) | ((with_reducible first | apply i_ldn | apply i_ldnq); exact rfl; exact rfl; exact rfl) | ((try with_reducible refine d_reg ?_); simp only [go_sem, Nat.reduceAdd, Nat.reduceEqDiff, Int.reduceToNat, Nat.reduceMul, Nat.reduceSub]) | clear hK K)
  all_goals try (first | contradiction | (simp only [ reduceCtorEq] at *; done) | (exfalso; omega))
  (with_reducible first | apply i_ret0 | apply i_ret2 | apply i_ret3 | apply i_ret); exact rfl
  rfl
set_option maxHeartbeats 1000000 in
theorem g13 (id : Int) (t : List UInt8) : Fp eB Tryz.prog 13 #[.int .i64 id, str t] [] true := fun L => by
  refine c13_fn rfl rfl ?_
  repeat' ((fail_if_success with_reducible refine nph ?_); first | (with_reducible first | (refine d_seq ?_; intro K hK) | (refine hK _ _ ?_; clear hK K) | (refine SG.p ?_; try intro b)) | ((with_reducible refine SC.p ?_); refine And.intro ?_ ?_) <;> intro hc <;> try simp only [push_cast, Int.reduceEq, Int.reduceLT, Int.reduceLE, Int.reduceNe] at hc | with_reducible refine r_rq (by first | decide | omega) ?_ | ((with_reducible refine SL.p ?_); first | refine ⟨_, rfl, ?_⟩ | refine ⟨_, _, _, rfl, ?_⟩ | (refine ⟨?_, rfl, ?_⟩; focus (simp; done))) | ((with_reducible first | apply i_ldn | apply i_ldnq); exact rfl; exact rfl; exact rfl) | ((try with_reducible refine d_reg ?_); simp only [go_sem, Nat.reduceAdd, Nat.reduceEqDiff, Int.reduceToNat, Nat.reduceMul, Nat.reduceSub]) | clear hK K)
  rename Nat => z
  refine i_clp (g49n id) ?_
  repeat' ((fail_if_success with_reducible refine nph ?_); first | (with_reducible first | (refine d_seq ?_; intro K hK) | (refine hK _ _ ?_; clear hK K) | (refine SG.p ?_; try intro b)) | ((with_reducible refine SC.p ?_); refine And.intro ?_ ?_) <;> intro hc <;> try simp only [push_cast, Int.reduceEq, Int.reduceLT, Int.reduceLE, Int.reduceNe] at hc | with_reducible refine r_rq (by first | decide | omega) ?_ | ((with_reducible refine SL.p ?_); first | refine ⟨_, rfl, ?_⟩ | refine ⟨_, _, _, rfl, ?_⟩ | (refine ⟨?_, rfl, ?_⟩; focus (simp; done))) | ((with_reducible first | apply i_ldn | apply i_ldnq); exact rfl; exact rfl; exact rfl) | ((try with_reducible refine d_reg ?_); simp only [go_sem, Nat.reduceAdd, Nat.reduceEqDiff, Int.reduceToNat, Nat.reduceMul, Nat.reduceSub]) | clear hK K)
  refine i_clp (g55z z) ?_
  repeat' ((fail_if_success with_reducible refine nph ?_); first | (with_reducible first | (refine d_seq ?_; intro K hK) | (refine hK _ _ ?_; clear hK K) | (refine SG.p ?_; try intro b)) | ((with_reducible refine SC.p ?_); refine And.intro ?_ ?_) <;> intro hc <;> try simp only [push_cast, Int.reduceEq, Int.reduceLT, Int.reduceLE, Int.reduceNe] at hc | with_reducible refine r_rq (by first | decide | omega) ?_ | ((with_reducible refine SL.p ?_); first | refine ⟨_, rfl, ?_⟩ | refine ⟨_, _, _, rfl, ?_⟩ | (refine ⟨?_, rfl, ?_⟩; focus (simp; done))) | ((with_reducible first | apply i_ldn | apply i_ldnq); exact rfl; exact rfl; exact rfl) | ((try with_reducible refine d_reg ?_); simp only [go_sem, Nat.reduceAdd, Nat.reduceEqDiff, Int.reduceToNat, Nat.reduceMul, Nat.reduceSub]) | clear hK K)
  all_goals try contradiction
  refine i_clp (g43z z id 1 t) ?_
  repeat' ((fail_if_success with_reducible refine nph ?_); first | (with_reducible first | (refine d_seq ?_; intro K hK) | (refine hK _ _ ?_; clear hK K) | (refine SG.p ?_; try intro b)) | ((with_reducible refine SC.p ?_); refine And.intro ?_ ?_) <;> intro hc <;> try simp only [push_cast, Int.reduceEq, Int.reduceLT, Int.reduceLE, Int.reduceNe] at hc | with_reducible refine r_rq (by first | decide | omega) ?_ | ((with_reducible refine SL.p ?_); first | refine ⟨_, rfl, ?_⟩ | refine ⟨_, _, _, rfl, ?_⟩ | (refine ⟨?_, rfl, ?_⟩; focus (simp; done))) | ((with_reducible first | apply i_ldn | apply i_ldnq); exact rfl; exact rfl; exact rfl) | ((try with_reducible refine d_reg ?_); simp only [go_sem, Nat.reduceAdd, Nat.reduceEqDiff, Int.reduceToNat, Nat.reduceMul, Nat.reduceSub]) | clear hK K)
  all_goals try contradiction
  refine i_clp (g48n id) ?_
  repeat' ((fail_if_success with_reducible refine nph ?_); first | (with_reducible first | (refine d_seq ?_; intro K hK) | (refine hK _ _ ?_; clear hK K) | (refine SG.p ?_; try intro b)) | ((with_reducible refine SC.p ?_); refine And.intro ?_ ?_) <;> intro hc <;> try simp only [push_cast, Int.reduceEq, Int.reduceLT, Int.reduceLE, Int.reduceNe] at hc | with_reducible refine r_rq (by first | decide | omega) ?_ | ((with_reducible refine SL.p ?_); first | refine ⟨_, rfl, ?_⟩ | refine ⟨_, _, _, rfl, ?_⟩ | (refine ⟨?_, rfl, ?_⟩; focus (simp; done))) | ((with_reducible first | apply i_ldn | apply i_ldnq); exact rfl; exact rfl; exact rfl) | ((try with_reducible refine d_reg ?_); simp only [go_sem, Nat.reduceAdd, Nat.reduceEqDiff, Int.reduceToNat, Nat.reduceMul, Nat.reduceSub]) | clear hK K)
  all_goals try contradiction
  refine i_clp (g50z z id) ?_
  repeat' ((fail_if_success with_reducible refine nph ?_); first | (with_reducible first | (refine d_seq ?_; intro K hK) | (refine hK _ _ ?_; clear hK K) | (refine SG.p ?_; try intro b)) | ((with_reducible refine SC.p ?_); refine And.intro ?_ ?_) <;> intro hc <;> try simp only [push_cast, Int.reduceEq, Int.reduceLT, Int.reduceLE, Int.reduceNe] at hc | with_reducible refine r_rq (by first | decide | omega) ?_ | ((with_reducible refine SL.p ?_); first | refine ⟨_, rfl, ?_⟩ | refine ⟨_, _, _, rfl, ?_⟩ | (refine ⟨?_, rfl, ?_⟩; focus (simp; done))) | ((with_reducible first | apply i_ldn | apply i_ldnq); exact rfl; exact rfl; exact rfl) | ((try with_reducible refine d_reg ?_); simp only [go_sem, Nat.reduceAdd, Nat.reduceEqDiff, Int.reduceToNat, Nat.reduceMul, Nat.reduceSub]) | clear hK K)
  all_goals try contradiction
  refine i_clp (g56n id) ?_
  repeat' ((fail_if_success with_reducible refine nph ?_); first | (with_reducible first | (refine d_seq ?_; intro K hK) | (refine hK _ _ ?_; clear hK K) | (refine SG.p ?_; try intro b)) | ((with_reducible refine SC.p ?_); refine And.intro ?_ ?_) <;> intro hc <;> try simp only [push_cast, Int.reduceEq, Int.reduceLT, Int.reduceLE, Int.reduceNe] at hc | with_reducible refine r_rq (by first | decide | omega) ?_ | ((with_reducible refine SL.p ?_); first | refine ⟨_, rfl, ?_⟩ | refine ⟨_, _, _, rfl, ?_⟩ | (refine ⟨?_, rfl, ?_⟩; focus (simp; done))) | ((with_reducible first | apply i_ldn | apply i_ldnq); exact rfl; exact rfl; exact rfl) | ((try with_reducible refine d_reg ?_); simp only [go_sem, Nat.reduceAdd, Nat.reduceEqDiff, Int.reduceToNat, Nat.reduceMul, Nat.reduceSub]) | clear hK K)
  all_goals try contradiction
  refine i_clp (g57z z) ?_
  repeat' ((fail_if_success with_reducible refine nph ?_); first | (with_reducible first | (refine d_seq ?_; intro K hK) | (refine hK _ _ ?_; clear hK K) | (refine SG.p ?_; try intro b)) | ((with_reducible refine SC.p ?_); refine And.intro ?_ ?_) <;> intro hc <;> try simp only [push_cast, Int.reduceEq, Int.reduceLT, Int.reduceLE, Int.reduceNe] at hc | with_reducible refine r_rq (by first | decide | omega) ?_ | ((with_reducible refine SL.p ?_); first | refine ⟨_, rfl, ?_⟩ | refine ⟨_, _, _, rfl, ?_⟩ | (refine ⟨?_, rfl, ?_⟩; focus (simp; done))) | ((with_reducible first | apply i_ldn | apply i_ldnq); exact rfl; exact rfl; exact rfl) | ((try with_reducible refine d_reg ?_); simp only [go_sem, Nat.reduceAdd, Nat.reduceEqDiff, Int.reduceToNat, Nat.reduceMul, Nat.reduceSub]) | clear hK K)
  all_goals try contradiction
  refine i_clp (g45n id) ?_
  repeat' ((fail_if_success with_reducible refine nph ?_); first | (with_reducible first | (refine d_seq ?_; intro K hK) | (refine hK _ _ ?_; clear hK K) | (refine SG.p ?_; try intro b)) | ((with_reducible refine SC.p ?_); refine And.intro ?_ ?_) <;> intro hc <;> try simp only [push_cast, Int.reduceEq, Int.reduceLT, Int.reduceLE, Int.reduceNe] at hc | with_reducible refine r_rq (by first | decide | omega) ?_ | ((with_reducible refine SL.p ?_); first | refine ⟨_, rfl, ?_⟩ | refine ⟨_, _, _, rfl, ?_⟩ | (refine ⟨?_, rfl, ?_⟩; focus (simp; done))) | ((with_reducible first | apply i_ldn | apply i_ldnq); exact rfl; exact rfl; exact rfl) | ((try with_reducible refine d_reg ?_); simp only [go_sem, Nat.reduceAdd, Nat.reduceEqDiff, Int.reduceToNat, Nat.reduceMul, Nat.reduceSub]) | clear hK K)
  all_goals try contradiction
  refine i_clp (g58z z) ?_
  refine i_clp g59n ?_
  refine i_clp g46n ?_
  repeat' ((fail_if_success with_reducible refine nph ?_); first | (with_reducible first | (refine d_seq ?_; intro K hK) | (refine hK _ _ ?_; clear hK K) | (refine SG.p ?_; try intro b)) | ((with_reducible refine SC.p ?_); refine And.intro ?_ ?_) <;> intro hc <;> try simp only [push_cast, Int.reduceEq, Int.reduceLT, Int.reduceLE, Int.reduceNe] at hc | with_reducible refine r_rq (by first | decide | omega) ?_ | ((with_reducible refine SL.p ?_); first | refine ⟨_, rfl, ?_⟩ | refine ⟨_, _, _, rfl, ?_⟩ | (refine ⟨?_, rfl, ?_⟩; focus (simp; done))) | ((with_reducible first | apply i_ldn | apply i_ldnq); exact rfl; exact rfl; exact rfl) | ((try with_reducible refine d_reg ?_); simp only [go_sem, Nat.reduceAdd, Nat.reduceEqDiff, Int.reduceToNat, Nat.reduceMul, Nat.reduceSub]) | clear hK K)
  all_goals try contradiction
  refine i_clp g44 ?_
  repeat' ((fail_if_success with_reducible refine nph ?_); first | (with_reducible first | (refine d_seq ?_; intro K hK) | (refine hK _ _ ?_; clear hK K) | (refine SG.p ?_; try intro b)) | ((with_reducible refine SC.p ?_); refine And.intro ?_ ?_) <;> intro hc <;> try simp only [push_cast, Int.reduceEq, Int.reduceLT, Int.reduceLE, Int.reduceNe] at hc | with_reducible refine r_rq (by first | decide | omega) ?_ | ((with_reducible refine SL.p ?_); first | refine ⟨_, rfl, ?_⟩ | refine ⟨_, _, _, rfl, ?_⟩ | (refine ⟨?_, rfl, ?_⟩; focus (simp; done))) | ((with_reducible first | apply i_ldn | apply i_ldnq); exact rfl; exact rfl; exact rfl) | ((try with_reducible refine d_reg ?_); simp only [go_sem, Nat.reduceAdd, Nat.reduceEqDiff, Int.reduceToNat, Nat.reduceMul, Nat.reduceSub]) | clear hK K)
  (with_reducible first | apply i_ret0 | apply i_ret2 | apply i_ret3 | apply i_ret); exact rfl
  rfl
end Go.Sp
