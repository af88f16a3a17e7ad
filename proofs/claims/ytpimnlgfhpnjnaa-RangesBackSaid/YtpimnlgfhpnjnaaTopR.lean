/- From the arguments' readings to the words of the walks: maps and moves. -/
import Derived.Test.YtpimnlgfhpnjnaaOpen
import Derived.Test.YtpimnlgfhpnjnaaIn
import Derived.Test.YtpimnlgfhpnjnaaRnE
namespace Go.Proofs.Ytpimnlgfhpnjnaa
open Go Go.ChangeShapes Go.WideShapes Go.ChangeAt Go.RowKit Kf
set_option maxRecDepth 20000

theorem in64_cons {x : Int} {l : List Int} : In64 (x :: l) ↔ (-9223372036854775808 ≤ x ∧ x ≤ 9223372036854775807) ∧ In64 l := by
  simp [In64]
theorem in64_nil' : In64 [] := fun x h => by cases h
-- OPEN T27 1
-- OPEN S26 m,v b,e
section
variable {H : Type} {enc : TypeId × Value → H} {W : World} {fuel : Nat} {cs : List Value} {x : DataW H × List MemPlace}
theorem rg_in (h : DataW.trod enc Try.prog W 0 (fun _ => true) true fuel 41 cs = some x) (hlen : cs.length = 4) : ∃ a : Rg, cs = a.c ∧ In64 a.ints := by
  obtain ⟨_, _, q0⟩ := field_in Try.underlying41 h 0 rfl rfl rfl (c := 1) (by kernel_rfl)
  obtain ⟨_, _, q1⟩ := field_in Try.underlying41 h 1 rfl rfl rfl (c := 1) (by kernel_rfl)
  obtain ⟨_, _, q2⟩ := field_in Try.underlying41 h 2 rfl rfl rfl (c := 1) (by kernel_rfl)
  obtain ⟨_, _, q3⟩ := field_in Try.underlying41 h 3 rfl rfl rfl (c := 1) (by kernel_rfl)
  match cs, hlen with
  | [a0, a1, a2, a3], _ =>
    obtain ⟨n0, h0, w0⟩ := int_in Try.underlying3 q0
    obtain ⟨n1, h1, w1⟩ := int_in Try.underlying3 q1
    obtain ⟨n2, h2, w2⟩ := int_in Try.underlying3 q2
    obtain ⟨n3, h3, w3⟩ := int_in Try.underlying3 q3
    simp at h0 h1 h2 h3
    subst h0 h1 h2 h3
    refine ⟨⟨n0, n1, n2, n3⟩, rfl, ?_⟩
    simp only [Rg.ints, in64_cons]
    exact ⟨w0, w1, w2, w3, in64_nil'⟩
theorem mv_in (h : DataW.trod enc Try.prog W 0 (fun _ => true) true fuel 24 cs = some x) (hlen : cs.length = 5) : ∃ a : Mv, cs = a.c ∧ In64 a.ints := by
  obtain ⟨_, _, q0⟩ := field_in Try.underlying24 h 0 rfl rfl rfl (c := 1) (by kernel_rfl)
  obtain ⟨_, _, q1⟩ := field_in Try.underlying24 h 1 rfl rfl rfl (c := 1) (by kernel_rfl)
  obtain ⟨_, _, q2⟩ := field_in Try.underlying24 h 2 rfl rfl rfl (c := 1) (by kernel_rfl)
  obtain ⟨_, _, q3⟩ := field_in Try.underlying24 h 3 rfl rfl rfl (c := 1) (by kernel_rfl)
  obtain ⟨_, _, q4⟩ := field_in Try.underlying24 h 4 rfl rfl rfl (c := 1) (by kernel_rfl)
  match cs, hlen with
  | [a0, a1, a2, a3, a4], _ =>
    obtain ⟨n0, h0, w0⟩ := int_in Try.underlying3 q0
    obtain ⟨n1, h1, w1⟩ := int_in Try.underlying3 q1
    obtain ⟨n2, h2, w2⟩ := int_in Try.underlying3 q2
    obtain ⟨n3, h3, w3⟩ := int_in Try.underlying3 q3
    obtain ⟨n4, h4, w4⟩ := int_in Try.underlying3 q4
    simp at h0 h1 h2 h3 h4
    subst h0 h1 h2 h3 h4
    refine ⟨⟨n0, n1, n2, n3, n4⟩, rfl, ?_⟩
    simp only [Mv.ints, in64_cons]
    exact ⟨w0, w1, w2, w3, w4, in64_nil'⟩
theorem rgs_in (h : DataW.trod enc Try.prog W 0 (fun _ => true) true fuel 22 cs = some x) : ∃ v l, cs = [v] ∧ Rgs W v l ∧ ∀ r ∈ l, In64 r.ints := by
  obtain ⟨v', l, hv, ⟨cs, hr, h⟩, _⟩ := slice_in (R := fun _ cs (e : Rg) => cs = e.c ∧ In64 e.ints) (fun _ _ _ h hl => rg_in h hl) Try.underlying22 (by kernel_rfl) (by decide) h
  refine ⟨v', l, hv, ?_, fun r hr => ?_⟩
  · rw [flat_of_el Rg.c_len hr.len (fun k hk => (h k hk).1)] at hr
    exact hr
  · obtain ⟨k, hk, rfl⟩ := List.getElem_of_mem hr
    exact (h k hk).2
theorem mp_in (h : DataW.trod enc Try.prog W 0 (fun _ => true) true fuel 26 cs = some x) (hlen : cs.length = 7) : ∃ (m : Mp) (v : Value), cs = m.c v ∧ Rgs W v m.R ∧ MpIn m := by
  obtain ⟨_, _, q0⟩ := field_in Try.underlying26 h 0 rfl rfl rfl (c := 1) (by kernel_rfl)
  obtain ⟨_, _, q1⟩ := field_in Try.underlying26 h 1 rfl rfl rfl (c := 1) (by kernel_rfl)
  obtain ⟨_, _, q2⟩ := field_in Try.underlying26 h 2 rfl rfl rfl (c := 5) (by kernel_rfl)
  match cs, hlen with
  | [a0, a1, a2, a3, a4, a5, a6], _ =>
    obtain ⟨v, l, h0, hr, hi⟩ := rgs_in q0
    obtain ⟨n1, h1, w1⟩ := int_in Try.underlying3 q1
    obtain ⟨mv, h2, w2⟩ := mv_in q2 rfl
    simp [Mv.c] at h0 h1 h2
    obtain ⟨rfl, rfl, rfl, rfl, rfl⟩ := h2
    subst h0 h1
    exact ⟨⟨l, n1, mv⟩, _, rfl, hr, w1, w2, hi⟩
end
section
variable {H : Type} {enc : TypeId × Value → H} {W : World} {v : Value} {d : DataW H} {p : List MemPlace}
theorem open_T27 (h : DataW.Trod enc Try.prog W 0 (fun _ => true) true 27 v d p) (hw : ∃ a n c, v = .slice a n c) : ∃ l, Mvs W v l := by
  obtain ⟨fuel, hf⟩ := h
  obtain ⟨a, n, c, rfl⟩ := hw
  obtain ⟨v', l, hv, ⟨cs, hr, h⟩, _⟩ := slice_in (R := fun _ cs (e : Mv) => cs = e.c ∧ In64 e.ints) (fun _ _ _ h hl => mv_in h hl) Try.underlying27 (by kernel_rfl) (by decide) hf
  simp [Value.cells] at hv
  subst hv
  refine ⟨l, ?_⟩
  rw [flat_of_el Mv.c_len hr.len (fun k hk => (h k hk).1)] at hr
  exact hr
theorem open_S26 {cs : Array Value} (h : DataW.Trod enc Try.prog W 0 (fun _ => true) true 26 (.agg cs) d p) (hc : cs.size = Try.prog.cellsOf 26) : ∃ (m : Mp) (v : Value), cs = (m.c v).toArray ∧ Rgs W v m.R ∧ MpIn m := by
  obtain ⟨fuel, hf⟩ := h
  obtain ⟨cl, rfl⟩ : ∃ cl : List Value, cs = cl.toArray := ⟨cs.toList, by simp⟩
  have h7 : Try.prog.cellsOf 26 = 7 := by kernel_rfl
  obtain ⟨m, v, e, h1, h2⟩ := mp_in (cs := cl) (by simpa [Value.cells] using hf) (by simpa [h7] using hc)
  subst e
  exact ⟨m, v, rfl, h1, h2⟩
end
end Go.Proofs.Ytpimnlgfhpnjnaa
