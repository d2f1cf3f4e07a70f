/- Contracts of the kit's shelf, told over parts. -/
import Derived.Test.YtpadmllpdkknnaaK19
import Derived.Sort.Grow
namespace Go.Sp
open Go
section
variable {P : Program} {f : FuncId} {args : Array Value}
theorem Holds.below {w w' : World} {L : List HP} (h : Holds w L) (hb : RowKit.Below w.heap.size w w') : Holds w' L := by
  refine HS.mono h fun n u hu => ?_
  cases n with
  | zero => simpa [hp, hb.os, hb.tape, hb.output] using hu
  | succ n =>
    have hlt : n < w.heap.size := by
      rcases Nat.lt_or_ge n w.heap.size with h | h
      · exact h
      · simp [hp, Array.getElem?_eq_none h] at hu
    rw [hp_s, hb.block n hlt]
    exact hu
/-- A function that turns nothing of what was there. -/
theorem fp_below {e : Enc} {x : e.α} (h : ∀ w, Calls P f args w fun en w' => en = .returned (e.enc x) ∧ RowKit.Below w.heap.size w w') : Fp e P f args [] x := fun L w hw =>
  (h w).mono fun _ w' ⟨he, hb⟩ => ⟨x, he, [], ⟨rfl, rfl⟩, Holds.below (by simpa using hw) hb⟩
/-- slices.Sort of whole numbers that are owned. -/
theorem fq_sort (hS : ∀ (blk off cap : Nat) (zs : List Int) (w : World), Sort.Holds (Value.int .i64) w blk off zs.toArray → blk < w.heap.size → zs.length < 4611686018427387904 →
      Calls P f #[.slice (some ⟨blk, off, none⟩) zs.length cap] w fun e w' => e = .returned (.tuple #[]) ∧ ∃ n os, w' = Sort.grow (Sort.putRow (Value.int .i64) (Sort.ahead w n) blk off (zs.mergeSort fun x y => decide (x ≤ y)).toArray) os)
    (h0 : ∀ (p : Option Addr) (cap : Nat) (w : World), Calls P f #[.slice p 0 cap] w fun e w' => e = .returned (.tuple #[]) ∧ w' = w)
    (t : TypeId) (s : SlV) (zs : List Int) (hl : zs.length < 4611686018427387904) :
    Fq eN P f #[.slice s.1 s.2.1 s.2.2] [ow t 1 s (zs.map fun n => .int .i64 n)] [ow t 1 s ((zs.mergeSort fun x y => decide (x ≤ y)).map fun n => .int .i64 n)] () := fun L w hw => by
  have hw' : Holds w (ow t 1 s (zs.map fun n => .int .i64 n) :: L) := by simpa using hw
  have hw0 := hw'
  obtain ⟨a, r, d, sa, sr, ⟨hx, hc⟩, hz⟩ := hw'
  simp only [List.length_map, Nat.mul_one] at hx
  rcases hc with rfl | ⟨g, cap, cur, hs, hg, hn, hm, hcs, ht⟩
  · have : zs = [] := List.eq_nil_of_length_eq_zero hx
    subst this
    refine (h0 none 0 w).mono ?_
    rintro _ _ ⟨rfl, rfl⟩
    exact ⟨(), rfl, _, ⟨rfl, rfl⟩, by simpa using hw0⟩
  · have hgw : w.heap[g]? = some (.cells cur t (0, 0)) := hp_o.1 (sa _ _ hg)
    have hlt : g < w.heap.size := (Array.getElem?_eq_some_iff.1 hgw).1
    have hH : Sort.Holds (Value.int .i64) w g 0 zs.toArray := by
      intro j hj
      simp only [List.size_toArray] at hj
      have hcur : cur[j]? = some (.int .i64 zs[j]) := by
        have : (cur.toList.take (s.2.1 * 1))[j]? = some (.int .i64 zs[j]) := by rw [ht]; simp [hj]
        rw [List.getElem?_take] at this
        have h1 : j < s.2.1 * 1 := by omega
        exact (by simpa [h1] using this : j < s.2.1 ∧ _).2
      refine ⟨?_, by simp [World.frozen?, hgw]⟩
      simp [World.cell?, hgw, hcur, hj]
    have h1 := hS g 0 s.2.2 zs w hH hlt hl
    have hsz : s = (some ⟨g, 0, none⟩, zs.length, cap) := by rw [hs]; simp [hx]
    rw [hsz] at h1 ⊢
    refine h1.mono ?_
    rintro _ _ ⟨rfl, n, os, rfl⟩
    have hlen : (zs.mergeSort fun x y => decide (x ≤ y)).length = zs.length := List.length_mergeSort _
    generalize hq : zs.mergeSort (fun x y => decide (x ≤ y)) = ys at *
    refine ⟨(), rfl, _, ⟨rfl, rfl⟩, ?_⟩
    have hset : Holds (Sort.putRow (Value.int .i64) (Sort.ahead w n) g 0 ys.toArray) (ow t 1 (some ⟨g, 0, none⟩, zs.length, cap) (ys.map fun n => .int .i64 n) :: L) := by
      let cur' := Sort.putCells (Value.int .i64) 0 ys.toArray cur
      have hheap : ∀ k, (Sort.putRow (Value.int .i64) (Sort.ahead w n) g 0 ys.toArray).heap[k]? = if k = g then some (.cells cur' t (0, 0)) else w.heap[k]? := by
        intro k
        simp only [Sort.putRow, Sort.mapBlock, Sort.heap_ahead, Array.getElem?_modify]
        by_cases hk : k = g
        · subst hk
          simp [hgw, Sort.onCells, cur']
        · simp [hk, Ne.symm hk]
      refine ⟨fun k => if k = g + 1 then some (.inl (.cells cur' t (0, 0))) else a k, r, ?_, ?_, ?_, ⟨by simp [hlen], .inr ⟨g, cap, cur', rfl, by simp, ?_, hm, ?_, ?_⟩⟩, hz⟩
      · intro k
        by_cases hk : k = g + 1
        · subst hk
          rcases d (g + 1) with h | h
          · rw [hg] at h; cases h
          · exact .inr h
        · simp only [hk, if_false]; exact d k
      · intro k u hu
        by_cases hk : k = g + 1
        · subst hk
          simp at hu; subst hu
          exact hp_o.2 (by rw [hheap]; simp)
        · simp only [hk, if_false] at hu
          have := sa k u hu
          cases k with
          | zero => exact this
          | succ k => rw [hp_s] at this ⊢; rw [hheap, if_neg (by omega)]; exact this
      · intro k u hu
        have hk : k ≠ g + 1 := by
          rintro rfl
          rcases d (g + 1) with h | h
          · rw [hg] at h; cases h
          · rw [h] at hu; cases hu
        have := sr k u hu
        cases k with
        | zero => exact this
        | succ k => rw [hp_s] at this ⊢; rw [hheap, if_neg (by omega)]; exact this
      · simp only; omega
      · simpa [cur', Sort.putCells] using hcs
      · have hcl : zs.length ≤ cur.size := by omega
        apply List.ext_getElem?
        intro j
        rw [List.getElem?_take]
        simp only [Nat.mul_one]
        by_cases hj : j < zs.length
        · have h2 : j < cur.size := by omega
          have h3 : j < ys.length := by omega
          simp [cur', Sort.putCells, hj, h2, h3]
        · have h3 : ys.length ≤ j := by omega
          simp [hj, h3]
    have hgrow : Holds (Sort.grow (Sort.putRow (Value.int .i64) (Sort.ahead w n) g 0 ys.toArray) os) (ow t 1 (some ⟨g, 0, none⟩, zs.length, cap) (ys.map fun n => .int .i64 n) :: L) := by
      refine Holds.below hset ⟨rfl, rfl, rfl, by simp [Sort.grow], fun k hk => ?_⟩
      simp only [Sort.grow]
      rw [Array.getElem?_append_left hk]
    simpa using hgrow
end
end Go.Sp
