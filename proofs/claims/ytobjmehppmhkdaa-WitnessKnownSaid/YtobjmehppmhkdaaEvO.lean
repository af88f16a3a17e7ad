/- Events in memory of their own. -/
import Derived.Test.YtobjmehppmhkdaaEv
import Derived.Test.YtobjmehppmhkdaaChg
namespace Go.Proofs.Ytobjmehppmhkdaa
open Go Go.RowKit Kf
set_option maxRecDepth 20000
abbrev EvV : Type := Ev × Value × Value
abbrev EvV.c (e : EvV) : List Value := e.1.c e.2.1 e.2.2
theorem EvV.c_len (e : EvV) : (EvV.c e).length = 19 := rfl
/-- the row from B on, the bytes from D on -/
structure EvO (w : World) (D B : Nat) (v : Value) (E : List EvV) : Prop where
  row : w.ownsRow B 42 19 v E.length (E.flatMap EvV.c)
  dc : ∀ e ∈ E, OwnB w D 5 e.2.1 e.1.Call.Data
  da : ∀ e ∈ E, OwnB w D 5 e.2.2 e.1.Answer.Data
  offc : ∀ e ∈ E, Apart e.2.1 v
  offa : ∀ e ∈ E, Apart e.2.2 v
theorem ev_cells_one {w : World} {D : Nat} {e : EvV} (h1 : OwnB w D 5 e.2.1 e.1.Call.Data) (h2 : OwnB w D 5 e.2.2 e.1.Answer.Data) : ∀ u ∈ EvV.c e, u.oneCell' = true := by
  have q1 := own_one h1
  have q2 := own_one h2
  intro u hu
  simp only [EvV.c, Ev.c, List.mem_cons, List.not_mem_nil, or_false] at hu
  rcases hu with rfl | rfl | rfl | rfl | rfl | rfl | rfl | rfl | rfl | rfl | rfl | rfl | rfl | rfl | rfl | rfl | rfl | rfl | rfl <;> first | rfl | assumption
section evo
variable {w w' w1 w2 : World} {D D' B B' B2 : Nat} {v v' v2 : Value} {E F : List EvV}
theorem EvO.ext (h : EvO w D B v E) (g : Ext w w') : EvO w' D B v E := ⟨own_ext h.row g, fun e he => own_ext (h.dc e he) g, fun e he => own_ext (h.da e he) g, h.offc, h.offa⟩
theorem EvO.mono (h : EvO w D B v E) (g : D' ≤ D) (k : B' ≤ B) : EvO w D' B' v E := ⟨own_mono h.row k, fun e he => own_mono (h.dc e he) g, fun e he => own_mono (h.da e he) g, h.offc, h.offa⟩
theorem EvO.ones (h : EvO w D B v E) : ∀ u ∈ E.flatMap EvV.c, u.oneCell' = true := by
  intro u hu
  obtain ⟨e, he, hu⟩ := List.mem_flatMap.1 hu
  exact ev_cells_one (h.dc e he) (h.da e he) u hu
theorem EvO.evs (h : EvO w D B v E) : Evs w v (E.map Prod.fst) := by
  refine ⟨E.flatMap EvV.c, by rw [List.length_map]; exact Row.of_own h.row, fun k hk => ?_⟩
  have hk' : k < E.length := by simpa using hk
  have e : el (E.flatMap EvV.c) 19 k = EvV.c E[k] := flat_el EvV.c_len hk'
  rw [e, List.getElem_map]
  exact ⟨_, _, rfl, Bytes.of_own (h.dc _ (List.getElem_mem hk')), Bytes.of_own (h.da _ (List.getElem_mem hk'))⟩
theorem EvO.evsE {l : List Ev} (h : EvO w D B v E) (e : E.map Prod.fst = l) : Evs w v l := e ▸ h.evs
theorem EvO.nil (w : World) (D B : Nat) : EvO w D B (.slice none 0 0) [] := ⟨World.ownsRow_nil w B 42 19, (fun e he => by cases he), (fun e he => by cases he), (fun e he => by cases he), (fun e he => by cases he)⟩
/-- the blocks of its bytes lie below T -/
theorem EvO.below (h : EvO w D B v E) : ∀ e ∈ E, (∀ b, e.2.1.ownBlock = some b → b < w.heap.size) ∧ ∀ b, e.2.2.ownBlock = some b → b < w.heap.size := fun e he => ⟨fun b hb => ((h.dc e he).lt b hb).2, fun b hb => ((h.da e he).lt b hb).2⟩
theorem EvO.apart_new {n : Nat} {cs : List Value} (h : EvO w D B v E) (ho : w1.ownsRow w.heap.size 42 19 v2 n cs) : ∀ e ∈ E, Apart e.2.1 v2 ∧ Apart e.2.2 v2 := fun e he =>
  ⟨fun b h1 h2 => by have := (h.below e he).1 b h1; have := (ho.lt b h2).1; omega, fun b h1 h2 => by have := (h.below e he).2 b h1; have := (ho.lt b h2).1; omega⟩
/-- events behind others -/
theorem EvO.app (h : EvO w D B v E) (hc : ∀ e ∈ F, OwnB w D 5 e.2.1 e.1.Call.Data) (ha : ∀ e ∈ F, OwnB w D 5 e.2.2 e.1.Answer.Data) (hF : ∀ e ∈ F, Apart e.2.1 v ∧ Apart e.2.2 v)
    (hr : w'.ownsRow B' 42 19 v' (E.length + F.length) (E.flatMap EvV.c ++ F.flatMap EvV.c)) (k : w.grownBy w' v.ownBlock) (hm : Moved w v v') : EvO w' D B' v' (E ++ F) := by
  have all : ∀ e ∈ E ++ F, OwnB w D 5 e.2.1 e.1.Call.Data ∧ OwnB w D 5 e.2.2 e.1.Answer.Data ∧ Apart e.2.1 v ∧ Apart e.2.2 v := fun e he => by
    rcases List.mem_append.1 he with he | he
    · exact ⟨h.dc e he, h.da e he, h.offc e he, h.offa e he⟩
    · exact ⟨hc e he, ha e he, (hF e he).1, (hF e he).2⟩
  refine ⟨by rw [List.length_append, List.flatMap_append]; exact hr, fun e he => ?_, fun e he => ?_, fun e he => ?_, fun e he => ?_⟩
  · obtain ⟨q1, q2, q3, q4⟩ := all e he; exact q1.kept k q3.ne
  · obtain ⟨q1, q2, q3, q4⟩ := all e he; exact q2.kept k q4.ne
  · obtain ⟨q1, q2, q3, q4⟩ := all e he; exact Apart.moved q3 q1 hm
  · obtain ⟨q1, q2, q3, q4⟩ := all e he; exact Apart.moved q4 q2 hm
theorem EvO.lay (h : EvO w D B v E) (hr : w'.ownsRow B' 42 19 v' F.length (F.flatMap EvV.c)) (k : Ext w w') (hB : w.heap.size ≤ B') (hF : ∀ e ∈ F, e ∈ E ∨ (OwnB w D 5 e.2.1 e.1.Call.Data ∧ OwnB w D 5 e.2.2 e.1.Answer.Data)) : EvO w' D B' v' F := by
  have all : ∀ e ∈ F, OwnB w D 5 e.2.1 e.1.Call.Data ∧ OwnB w D 5 e.2.2 e.1.Answer.Data := fun e he => by
    rcases hF e he with q | q
    · exact ⟨h.dc e q, h.da e q⟩
    · exact q
  refine ⟨hr, fun e he => own_ext (all e he).1 k, fun e he => own_ext (all e he).2 k, fun e he b h1 h2 => ?_, fun e he b h1 h2 => ?_⟩
  · have := ((all e he).1.lt b h1).2; have := (hr.lt b h2).1; omega
  · have := ((all e he).2.lt b h1).2; have := (hr.lt b h2).1; omega
theorem EvO.new {E : List EvV} (hc : ∀ e ∈ E, OwnB w D 5 e.2.1 e.1.Call.Data) (ha : ∀ e ∈ E, OwnB w D 5 e.2.2 e.1.Answer.Data) (hr : w'.ownsRow B' 42 19 v' E.length (E.flatMap EvV.c)) (k : Ext w w') (hB : w.heap.size ≤ B') : EvO w' D B' v' E :=
  (EvO.nil w D B').lay hr k hB fun e he => .inr ⟨hc e he, ha e he⟩
theorem two_len {α : Type} : ∀ {l : List α}, l.length = 2 → ∃ a b, l = [a, b]
  | [a, b], _ => ⟨a, b, rfl⟩
theorem two_of {e0 e1 : Ev} (h : E.map Prod.fst = [e0, e1]) : ∃ d0 c0 d1 c1, E = [(e0, d0, c0), (e1, d1, c1)] := by
  have hl : E.length = 2 := by have := congrArg List.length h; rwa [List.length_map] at this
  obtain ⟨a, b, hE⟩ := two_len hl
  rw [hE, List.map_cons, List.map_cons, List.map_nil] at h
  have h1 : a.1 = e0 := List.head_eq_of_cons_eq h
  have h2 : b.1 = e1 := List.head_eq_of_cons_eq (List.tail_eq_of_cons_eq h)
  refine ⟨a.2.1, a.2.2, b.2.1, b.2.2, hE.trans ?_⟩
  rw [← h1, ← h2]
end evo
end Go.Proofs.Ytobjmehppmhkdaa
