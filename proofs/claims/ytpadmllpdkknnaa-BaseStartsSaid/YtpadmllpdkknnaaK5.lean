/- The theorem on requests; operations in their region; regions. -/
import Derived.Test.YtpadmllpdkknnaaK4
namespace Go.Sp
open Go
section
variable {P : Program} {k : Kr} {w : World}

theorem rds_eq {e : Operand → Value} (xs : Array Operand) : (xs.toList.map e).toArray = xs.map e := by
  apply Array.toList_inj.1; simp
theorem mapM_ok {α β : Type} {P : Program} (f : α → Sem β) (g : α → β) : ∀ (l : List α) (_ : ∀ x ∈ l, ∀ w, (f x).run P w = .ok (g x) w) (w : World), (l.mapM f).run P w = .ok (l.map g) w
  | [], _, w => by simp
  | x :: l, h, w => by simp [h x (by simp), mapM_ok f g l fun y hy => h y (by simp [hy])]
theorem mapMA_ok {α β : Type} {P : Program} (f : α → Sem β) (g : α → β) (a : Array α) (h : ∀ x ∈ a.toList, ∀ w, (f x).run P w = .ok (g x) w) (w : World) : (a.mapM f).run P w = .ok (a.map g) w := by
  rw [Array.mapM_eq_mapM_toList]
  simp [mapM_ok f g a.toList h w]
  apply Array.toList_inj.1; simp
theorem andThen_assoc {α β γ : Type} (r : Result α) (f : α → World → Result β) (g : β → World → Result γ) : (r.andThen f).andThen g = r.andThen fun a w => (f a w).andThen g := by
  cases r <;> rfl

theorem load_is {t : TypeId} {a : Addr} (h : (match aggB P t with
    | true => sz P t fun n => k (.ldn n a)
    | false => match P.underlying t with | some _ => k (.ld1 a) | none => ff) w) : ∃ r, k r w ∧ Is P (do pure (.value (← Instr.loadAt t (.pointer (some a))))) r := by
  cases hb : aggB P t with
  | true =>
    simp only [hb] at h
    obtain ⟨n, hn, _, h⟩ := sz_spec h
    exact ⟨_, h, fun w => by simp [Instr.loadAt, Instr.sureAddr, loadVar, agg_true hb, hn, Rq.sem, andThen_assoc]⟩
  | false =>
    simp only [hb] at h
    cases hu : P.underlying t with
    | none => simp only [hu] at h; exact h.elim
    | some d =>
      simp only [hu] at h
      exact ⟨_, h, fun w => by simp [Instr.loadAt, Instr.sureAddr, loadVar, agg_false hb hu, Rq.sem]⟩
theorem field_is {t : TypeId} {f : Nat} {v : Value} (h : (match v, fieldOf P t f with
    | .agg cs, some g => match aggB P g.type with
      | true => sz P g.type fun n => k (.val (.agg (cs.extract g.offset (g.offset + n))))
      | false => match P.underlying g.type with
        | some _ => match cs[g.offset]? with
          | some u => k (.val u)
          | none => ff
        | none => ff
    | _, _ => ff) w) : ∃ r, k r w ∧ Is P (do pure (.value (← Instr.field t v f))) r := by
  cases v <;> try exact h.elim
  rename_i cs
  unfold fieldOf at h
  cases hu : P.underlying t with
  | none => simp only [hu] at h; exact h.elim
  | some d =>
    simp only [hu] at h
    cases d <;> try exact h.elim
    rename_i fs
    cases hf : fs[f]? with
    | none => simp only [hf] at h; exact h.elim
    | some g =>
      simp only [hf] at h
      cases hb : aggB P g.type with
      | true =>
        simp only [hb] at h
        obtain ⟨n, hn, _, h⟩ := sz_spec h
        exact ⟨_, h, is_val fun w => by simp [Instr.field, und hu, hf, asAgg, part, agg_true hb, hn]⟩
      | false =>
        simp only [hb] at h
        cases hu' : P.underlying g.type with
        | none => simp only [hu'] at h; exact h.elim
        | some d' =>
          simp only [hu'] at h
          cases hc : cs[g.offset]? with
          | none => simp only [hc] at h; exact h.elim
          | some u =>
            simp only [hc] at h
            exact ⟨_, h, is_val fun w => by simp [Instr.field, und hu, hf, asAgg, part, agg_false hb hu', hc]⟩
theorem places_ok {fs : Array Field} (h : fs.all (fun f => (P.info? f.type).isSome) = true) (w : World) :
    (fs.mapM fun f => do pure (f.offset, ← sizeOf f.type) : Sem (Array (Nat × Nat))).run P w = .ok (fs.map fun f => (f.offset, szOf P f.type)) w := by
  refine mapMA_ok _ (fun f => (f.offset, szOf P f.type)) fs (fun f hf w => ?_) w
  have := Array.all_eq_true_iff_forall_mem.1 h f (by simpa using hf)
  obtain ⟨i, hi⟩ := Option.isSome_iff_exists.1 this
  simp [szOf_run hi]

theorem dec_sound {op : Op} {ty : TypeId} {dst : Option Tmp} {pos : String} {after : Array Edge} {g : Option (Nat × Bool)} {ρ : Env} {e : Operand → Value}
    (he : ∀ x v, evO ρ x = some v → e x = v) (h : dec P op ty ρ k w) : ∃ r, k r w ∧ Is P (execOp e ⟨dst, op, ty, pos, after, g⟩) r := by
  cases op <;> try exact h.elim
  case move x => exact ⟨_, rd_spec (k := fun v => k (.val v)) he h, fun _ => rfl⟩
  case assign x => exact ⟨_, rd_spec (k := fun v => k (.val v)) he h, fun _ => rfl⟩
  case pick c x y =>
    simp only [dec] at h
    have h := rd_spec he h
    cases hb : e c <;> simp only [hb] at h <;> try exact h.elim
    rename_i b
    cases b
    · exact ⟨_, rd_spec (k := fun v => k (.val v)) he h, fun w => by simp [execOp, hb, asBool, Rq.sem]⟩
    · exact ⟨_, rd_spec (k := fun v => k (.val v)) he h, fun w => by simp [execOp, hb, asBool, Rq.sem]⟩
  case alloc el =>
    simp only [dec] at h
    obtain ⟨z, hz, h⟩ := zro_spec h
    exact ⟨_, h, fun w => by simp [execOp, Instr.alloc, hz, newVar, newRow, Rq.sem]⟩
  case box el x =>
    exact ⟨_, rd_spec (k := fun v => k (.nw v.cells el fun a => .pointer (some a))) he h, fun w => by simp [execOp, Instr.box, newVar, newRow, Rq.sem]⟩
  case build t ps =>
    simp only [dec] at h
    have h := rdp_spec he h
    obtain ⟨z, hz, h⟩ := zro_spec h
    have hps : (ps.map fun (i, x) => (i, e x)).toList = List.map (fun (i, x) => (i, e x)) ps.toList := by simp
    cases hu : P.underlying t with
    | none => simp only [hu] at h; exact h.elim
    | some d =>
      simp only [hu] at h
      cases d <;> try exact h.elim
      case struct fs =>
        by_cases hall : fs.all (fun f => (P.info? f.type).isSome) = true
        · simp only [hall, if_true] at h
          cases hfl : Instr.fill (fun i => (fs[i]?).map fun f => (f.offset, szOf P f.type)) z.cells (ps.toList.map fun (i, x) => (i, e x)) with
          | none => simp only [hfl] at h; exact h.elim
          | some cs =>
            simp only [hfl] at h
            refine ⟨_, h, is_val fun w => ?_⟩
            have hp := places_ok hall w
            have hg : (fun (i : Nat) => (fs.map fun (f : Field) => (f.offset, szOf P f.type))[i]?) = fun (i : Nat) => (fs[i]?).map fun (f : Field) => (f.offset, szOf P f.type) := by
              funext i; simp
            simp only [Instr.build, Sem.run_bind, hz, Result.andThen_ok, und hu, hp, hps, hg, hfl, Sem.run_pure]
        · simp only [hall] at h; exact h.elim
      case array n el =>
        obtain ⟨m, hm, _, h⟩ := sz_spec h
        cases hfl : Instr.fill (fun i => some (i * m, m)) z.cells (ps.toList.map fun (i, x) => (i, e x)) with
        | none => simp only [hfl] at h; exact h.elim
        | some cs =>
          simp only [hfl] at h
          refine ⟨_, h, is_val fun w => ?_⟩
          simp only [Instr.build, Sem.run_bind, hz, Result.andThen_ok, und hu, hm, hps, hfl, Sem.run_pure]
  case buildSlice t n ps =>
    simp only [dec] at h
    have h := rdp_spec he h
    have hps : (ps.map fun (i, x) => (i, e x)).toList = List.map (fun (i, x) => (i, e x)) ps.toList := by simp
    cases hu : P.underlying t with
    | none => simp only [hu] at h; exact h.elim
    | some d =>
      simp only [hu] at h
      cases d <;> try exact h.elim
      obtain ⟨m, hm, _, h⟩ := sz_spec h
      obtain ⟨z, hz, h⟩ := zro_spec h
      generalize hq : Instr.fill (fun i => some (i * m, m)) ((Array.range (n * m)).map (z.cells[· % z.cells.size]!)) (ps.toList.map fun (i, x) => (i, e x)) = q at h
      cases q with
      | none => exact h.elim
      | some cs =>
        by_cases hc : n * m ≤ 16777216
        · simp only [hc, if_true] at h
          refine ⟨_, h, fun w => ?_⟩
          have h1 : ¬ n * m > 2 ^ 24 := by omega
          by_cases h0 : n * m = 0
          · simp only [h0, Array.range_zero', List.map_toArray, List.map_nil] at hq
            simp only [execOp, Instr.buildSlice, Sem.run_bind, und hu, Result.andThen_ok, hm, h0, hps, Rq.sem, newRow, run_newObj, pure_bind, Array.range_zero', List.map_toArray, List.map_nil, if_true, Sem.run_pure]
            have h2 : ¬ (0 : Nat) > 2 ^ 24 := by omega
            simp only [h2, if_false, Sem.run_bind, Sem.run_pure, Result.andThen_ok, hq, run_newObj]
          · simp only [execOp, Instr.buildSlice, Sem.run_bind, und hu, Result.andThen_ok, hm, h1, if_false, h0, hz, Sem.run_pure, hps, hq, Rq.sem, newRow, run_newObj, pure_bind]
        · simp only [hc, if_false] at h; exact h.elim
  case load t x =>
    simp only [dec] at h
    have h := rd_spec he h
    obtain ⟨a, ha, h⟩ := dr_spec h
    obtain ⟨r, h1, h2⟩ := load_is h
    exact ⟨r, h1, fun w => by simpa [execOp, ha] using h2 w⟩
  case store t x y =>
    simp only [dec] at h
    have h := rd_spec he h
    obtain ⟨a, ha, h⟩ := dr_spec h
    have h := rd_spec he h
    obtain ⟨n, hn, _, h⟩ := sz_spec h
    by_cases hc : (e y).cells.size = n
    · simp only [hc, if_true] at h
      exact ⟨_, h, fun w => by simp [execOp, ha, Instr.storeAt, Instr.sureAddr, storeVar, hn, hc, Rq.sem]⟩
    · simp only [hc, if_false] at h; exact h.elim
  case nilCheck x =>
    simp only [dec] at h
    have h := rd_spec he h
    cases hv : e x <;> simp only [hv] at h <;> try exact h.elim
    case pointer p =>
      obtain ⟨a, rfl, h⟩ := nn_spec h
      exact ⟨_, h, fun w => by simp [execOp, hv, Rq.sem]⟩
    case func fn fi ca =>
      cases fn <;> try exact h.elim
      exact ⟨_, h, fun w => by simp [execOp, hv, Rq.sem]⟩
  case binOp op t x y yt =>
    simp only [dec] at h
    have h := rd_spec he (rd_spec (k := fun vx => rd ρ y fun vy => binR P op t x y vx vy k) he h)
    exact binR_sound h
  case unOp op t x =>
    simp only [dec] at h
    have h := rd_spec he h
    cases hv : e x <;> cases op <;> simp only [hv] at h <;> first
      | exact h.elim
      | exact ⟨_, h, fun w => by simp [execOp, hv, Op.unary, Op.intArith, Rq.sem]⟩
  case convert s d x =>
    simp only [dec] at h
    exact convR_sound (rd_spec he h)
  case makeFunc fn fi ca =>
    simp only [dec] at h
    have h := rds_spec he (rds_spec (k := fun a => rds ρ ca.toList fun b => k (.val (.func fn a.toArray b.toArray))) he h)
    exact ⟨_, h, fun w => by simp [execOp, Instr.makeFunc, Rq.sem, rds_eq]⟩
  case makeMap t r =>
    cases r with
    | some r => exact h.elim
    | none => exact ⟨_, h, fun w => by simp [execOp, Instr.makeMap, Rq.sem]⟩
  case makeSlice t l c =>
    simp only [dec] at h
    exact ⟨_, rd_spec he (rd_spec (k := fun vl => rd ρ c fun vc => k (.sm (Instr.makeSlice t vl vc))) he h), is_sm⟩
  case slice t x lo hi mx =>
    cases mx with
    | some m => exact h.elim
    | none =>
      simp only [dec] at h
      have h := rd_spec he h
      have h := rdo_spec he h
      have h := rdo_spec he h
      exact sliceR_sound h
  case fieldAddr s x f =>
    simp only [dec] at h
    have h := rd_spec he h
    obtain ⟨a, ha, h⟩ := dr_spec h
    unfold fieldOf at h
    cases hu : P.underlying s with
    | none => simp only [hu] at h; exact h.elim
    | some d =>
      simp only [hu] at h
      cases d <;> try exact h.elim
      rename_i fs
      cases hf : fs[f]? with
      | none => simp only [hf] at h; exact h.elim
      | some g =>
        simp only [hf] at h
        obtain ⟨n, hn, _, h⟩ := sz_spec h
        by_cases h0 : n = 0
        · simp only [h0, if_true] at h; exact h.elim
        · simp only [h0, if_false] at h
          exact ⟨_, h, fun w => by simp [execOp, ha, Instr.fieldAt, und hu, hf, Instr.sureAddr, fieldPlace, hn, h0, Rq.sem]⟩
  case field t x f =>
    simp only [dec] at h
    obtain ⟨r, h1, h2⟩ := field_is (rd_spec he h)
    exact ⟨r, h1, h2⟩
  case indexAddr t x i =>
    simp only [dec] at h
    exact idxAddrR_sound (rd_spec he (rd_spec (k := fun v => rd ρ i fun j => idxAddrR P t v j k) he h))
  case index t x i =>
    simp only [dec] at h
    exact idxR_sound (rd_spec he (rd_spec (k := fun v => rd ρ i fun j => idxR P t v j k) he h))
  case lookup t x i b =>
    simp only [dec] at h
    exact ⟨_, rd_spec he (rd_spec (k := fun v => rd ρ i fun j => k (.sm (Instr.lookup t v j b))) he h), is_sm⟩
  case mapUpdate t m i x =>
    simp only [dec] at h
    exact ⟨_, rd_spec he (rd_spec (k := fun j => rd ρ x fun u => k (.um (Instr.mapUpdate t (e m) j u))) he (rd_spec (k := fun v => rd ρ i fun j => rd ρ x fun u => k (.um (Instr.mapUpdate t v j u))) he h)), is_um⟩
  case range t x =>
    simp only [dec] at h
    exact ⟨_, rd_spec he h, is_sm⟩
  case next it b =>
    simp only [dec] at h
    exact ⟨_, rd_spec he h, is_nx⟩
  case entry it =>
    simp only [dec] at h
    exact ⟨_, rd_spec he h, is_sm⟩
  case extract x i =>
    simp only [dec] at h
    have h := rd_spec he h
    cases hv : e x <;> simp only [hv] at h <;> try exact h.elim
    rename_i vs
    cases hi : vs[i]? with
    | none => simp only [hi] at h; exact h.elim
    | some u => simp only [hi] at h; exact ⟨_, h, fun w => by simp [execOp, hv, Instr.extract, hi, Rq.sem]⟩
  case call c =>
    obtain ⟨cal, args, ts⟩ := c
    cases cal with
    | value f =>
      have gen : (rd ρ f fun fv => rds ρ args.toList fun vs => callR P fv vs k) w → ∃ r, k r w ∧ Is P (execOp e ⟨dst, .call ⟨.value f, args, ts⟩, ty, pos, after, g⟩) r := by
        intro h
        have h := rds_spec he (rd_spec (k := fun fv => rds ρ args.toList fun vs => callR P fv vs k) he h)
        unfold callR at h
        cases hf : e f <;> simp only [hf] at h <;> try exact h.elim
        rename_i fn fi ca
        cases fn <;> try exact h.elim
        rename_i f
        simp only [ent] at h
        cases hent : entered P f with
        | false => simp only [hent] at h; exact h.elim
        | true =>
          simp only [hent] at h
          refine ⟨_, h, fun w => ?_⟩
          simp only [execOp, resolve, Deferred.ofValue, hf, Sem.run_pure, pure_bind, invoke, callFunc_entered hent, Rq.sem, rds_eq]
      cases f with
      | tmp t => exact gen h
      | const v => exact gen h
      | global g => exact gen h
      | func f =>
        simp only [dec] at h
        have hf : e (.func f) = .func (.func f) #[] #[] := he (.func f) _ rfl
        have h := rds_spec he h
        unfold callS at h
        cases hent : entered P f with
        | true =>
          simp only [hent] at h
          refine ⟨_, h, fun w => ?_⟩
          simp only [execOp, resolve, Deferred.ofValue, hf, Sem.run_pure, pure_bind, invoke, callFunc_entered hent, Rq.sem, rds_eq, Array.empty_append, Array.append_empty]
        | false =>
          simp only [hent, extR] at h
          cases hfn : P.funcs[f]? with
          | none => simp only [hfn] at h; exact h.elim
          | some fn =>
            simp only [hfn] at h
            cases hn : fn.name == "runtime.NumGoroutine" with
            | true => simp only [hn] at h; exact h.elim
            | false =>
              cases hb : fn.body.isNone with
              | false => simp only [hn, hb] at h; exact h.elim
              | true =>
                cases hx : Extern.findNext fn with
                | some x => simp only [hn, hb, hx] at h; exact h.elim
                | none =>
                  cases he' : Extern.find fn with
                  | none => simp only [hn, hb, hx, he'] at h; exact h.elim
                  | some x =>
                    simp only [hn, hb, hx, he'] at h
                    refine ⟨_, h, fun w => ?_⟩
                    have h1 := run_callFunc_extern (P := P) hfn hn hb hx he' (args.map e) w
                    simp only [execOp, resolve, Deferred.ofValue, hf, Sem.run_pure, pure_bind, invoke, Rq.sem, rds_eq, Array.empty_append, Array.append_empty, h1, Sem.run_bind]
    | invoke r m => exact h.elim
    | builtin b =>
      simp only [dec] at h
      have h := rds_spec he h
      obtain ⟨r, h1, h2⟩ := builtR_sound h
      rw [rds_eq] at h2
      exact ⟨r, h1, fun w => h2 _ w⟩
end
end Go.Sp
