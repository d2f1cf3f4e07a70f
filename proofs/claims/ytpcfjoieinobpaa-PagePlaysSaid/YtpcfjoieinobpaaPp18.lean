/- The layer page: the law PagePlays. -/
import Derived.Test.YtpcfjoieinobpaaPp14
namespace Go.Sp
open Go Go.Proofs
set_option linter.unusedVariables false
set_option linter.unusedSimpArgs false
set_option maxRecDepth 10000
abbrev cPO (o : gharrylaw05_Op) : List Value := [.int .i64 o.Kind, str o.C.Key, str o.C.Val]
theorem cPO_len (o : gharrylaw05_Op) : (cPO o).length = 3 := rfl
theorem room_pcs {p : List UInt8} (h : isPg p = true) : roomI p = 220 - (tot (pcs p) : Int) := by rw [pcs_t h]; rfl
/-- What is known of a page at play. -/
def play (p : List UInt8) (l : List api_Cell) : Prop := opn p = true ∧ pcs p = l
theorem play_all {p : List UInt8} {l : List api_Cell} (h : play p l) : (∀ c ∈ l, okC c) ∧ l.length ≤ 220 ∧ roomI p = 220 - (tot l : Int) := by
  obtain ⟨h1, rfl⟩ := h
  obtain ⟨hpg, h0⟩ := opn_pg h1
  have hw := pg_wf hpg
  refine ⟨by rw [pcs_t hpg]; exact cel_ok hw.1 (Nat.le_refl _), by rw [pcs_t hpg, cels_len]; exact hw.1.inn.2.1, room_pcs hpg⟩
/-- What the document's list becomes. -/
def nxI (l : List api_Cell) (c : api_Cell) : List api_Cell := if isAt l c.Key = false ∧ wrongC c = 0 ∧ (need c : Int) ≤ 220 - (tot l : Int) then l.take (plc l c.Key) ++ c :: l.drop (plc l c.Key) else l
def nxD (l : List api_Cell) (key : List UInt8) : List api_Cell := if isAt l key then l.take (plc l key) ++ l.drop (plc l key + 1) else l
def nxU (l : List api_Cell) (c : api_Cell) : List api_Cell := if isAt l c.Key ∧ wrongC c = 0 ∧ (need c : Int) ≤ 220 - (tot (nxD l c.Key) : Int) then (nxD l c.Key).take (plc l c.Key) ++ c :: (nxD l c.Key).drop (plc l c.Key) else l
theorem play_y {q p : List UInt8} {l : List api_Cell} {r : List UInt8 × Int} (e : r = (q, 0)) (h : play q l) : play (if r.2 = 0 then r.1 else p) l := by subst e; exact h
theorem play_n {q p : List UInt8} {l : List api_Cell} {r : List UInt8 × Int} {x : Int} (e : r = (q, x)) (hx : x ≠ 0) (h : play p l) : play (if r.2 = 0 then r.1 else p) l := by subst e; rw [if_neg hx]; exact h
theorem play_ins {p : List UInt8} {l : List api_Cell} (h : play p l) (c : api_Cell) : play (if (insP p c).2 = 0 then (insP p c).1 else p) (nxI l c) := by
  have ha := play_all h
  obtain ⟨h1, rfl⟩ := h
  by_cases hw : wrongC c = 0
  · cases hat : isAt (pcs p) c.Key with
    | true =>
      refine play_n (q := []) (x := 19) (by unfold insP; rw [h1, if_pos rfl, if_neg (by simpa using hw), hat, if_pos rfl]) (by decide) ?_
      unfold nxI; rw [hat, if_neg (by simp)]; exact ⟨h1, rfl⟩
    | false =>
      by_cases hr : (need c : Int) ≤ roomI p
      · refine play_y (q := putM p (plc (pcs p) c.Key) c) (by unfold insP; rw [h1, if_pos rfl, if_neg (by simpa using hw), hat, if_neg (by decide), if_pos hr]) ?_
        unfold nxI; rw [if_pos ⟨hat, hw, by rw [← ha.2.2]; exact hr⟩]
        exact pg_put h1 (wrong_0.1 hw) hat hr
      · refine play_n (q := []) (x := 7) (by unfold insP; rw [h1, if_pos rfl, if_neg (by simpa using hw), hat, if_neg (by decide), if_neg hr]) (by decide) ?_
        unfold nxI; rw [if_neg (by rw [← ha.2.2]; exact fun h => hr h.2.2)]; exact ⟨h1, rfl⟩
  · refine play_n (q := []) (x := wrongC c) (by unfold insP; rw [h1, if_pos rfl, if_pos hw]) hw ?_
    unfold nxI; rw [if_neg (fun h => hw h.2.1)]; exact ⟨h1, rfl⟩
theorem play_del {p : List UInt8} {l : List api_Cell} (h : play p l) (key : List UInt8) : play (if (delP p key).2 = 0 then (delP p key).1 else p) (nxD l key) := by
  obtain ⟨h1, rfl⟩ := h
  cases hat : isAt (pcs p) key with
  | true =>
    refine play_y (q := dropB p (plc (pcs p) key)) (by unfold delP; rw [h1, if_pos rfl, hat, if_pos rfl]) ?_
    unfold nxD; rw [if_pos hat]; exact pg_drop h1 (isAt_lt hat)
  | false =>
    refine play_n (q := []) (x := 8) (by unfold delP; rw [h1, if_pos rfl, hat, if_neg (by decide)]) (by decide) ?_
    unfold nxD; rw [hat, if_neg (by decide)]; exact ⟨h1, rfl⟩
theorem play_upd {p : List UInt8} {l : List api_Cell} (h : play p l) (c : api_Cell) : play (if (updP p c).2 = 0 then (updP p c).1 else p) (nxU l c) := by
  have hd := play_del h c.Key
  obtain ⟨h1, rfl⟩ := h
  by_cases hw : wrongC c = 0
  · cases hat : isAt (pcs p) c.Key with
    | false =>
      refine play_n (q := []) (x := 8) (by unfold updP; rw [h1, if_pos rfl, if_neg (by simpa using hw), hat, if_neg (by decide)]) (by decide) ?_
      unfold nxU; rw [hat, if_neg (by simp)]; exact ⟨h1, rfl⟩
    | true =>
      have hdd : delP p c.Key = (dropB p (plc (pcs p) c.Key), 0) := by unfold delP; rw [h1, if_pos rfl, hat]; rfl
      rw [hdd] at hd
      have hd' : play (dropB p (plc (pcs p) c.Key)) (nxD (pcs p) c.Key) := hd
      have ha := play_all hd'
      have hnd : nxD (pcs p) c.Key = (pcs p).take (plc (pcs p) c.Key) ++ (pcs p).drop (plc (pcs p) c.Key + 1) := by unfold nxD; rw [hat]; rfl
      have hrs : rise (pcs p) := by have := pg_wf (opn_pg h1).1; rw [pcs_t (opn_pg h1).1]; exact this.2.2.2.2.1
      have hpd := plc_del hrs hat
      rw [← hnd] at hpd
      by_cases hr : (need c : Int) ≤ roomI (dropB p (plc (pcs p) c.Key))
      · refine play_y (q := putM (dropB p (plc (pcs p) c.Key)) (plc (pcs p) c.Key) c) (by unfold updP; rw [h1, if_pos rfl, if_neg (by simpa using hw), hat, if_pos rfl, if_pos hr]) ?_
        unfold nxU; rw [if_pos ⟨hat, hw, by rw [← ha.2.2]; exact hr⟩]
        have := pg_put hd'.1 (wrong_0.1 hw) (by rw [hd'.2]; exact hpd.2) hr
        rw [hd'.2, hpd.1] at this
        exact this
      · refine play_n (q := []) (x := 7) (by unfold updP; rw [h1, if_pos rfl, if_neg (by simpa using hw), hat, if_pos rfl, if_neg hr]) (by decide) ?_
        unfold nxU; rw [if_neg (by rw [← ha.2.2]; exact fun h => hr h.2.2)]; exact ⟨h1, rfl⟩
  · refine play_n (q := []) (x := wrongC c) (by unfold updP; rw [h1, if_pos rfl, if_pos hw]) hw ?_
    unfold nxU; rw [if_neg (fun h => hw h.2.1)]; exact ⟨h1, rfl⟩
end Go.Sp
