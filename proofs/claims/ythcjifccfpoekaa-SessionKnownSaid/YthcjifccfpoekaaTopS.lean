/- From the arguments' readings to the words of the walks: sessions, results, operations. -/
import Derived.Test.YthcjifccfpoekaaIn
import Derived.Test.YthcjifccfpoekaaSesT
namespace Go.Proofs.Ythcjifccfpoekaa
open Go Go.ChangeShapes Go.WideShapes Go.ChangeAt Go.RowKit Kf

-- OPEN S29 m,e,q b
-- OPEN T22 1
section
variable {H : Type} {enc : TypeId × Value → H} {W : World} {fuel : Nat} {cs : List Value} {x : DataW H × List MemPlace}
theorem res_in (h : DataW.trod enc Try.prog W 0 (fun _ => true) true fuel 29 cs = some x) (hlen : cs.length = 2) : ∃ (m : Int) (e : Value) (q : List UInt8), cs = [i64 m, e] ∧ Bytes W e q := by
  obtain ⟨_, _, q0⟩ := field_in Try.underlying29 h 0 rfl rfl rfl (c := 1) (by kernel_rfl)
  obtain ⟨_, _, q1⟩ := field_in Try.underlying29 h 1 rfl rfl rfl (c := 1) (by kernel_rfl)
  match cs, hlen with
  | [a, b], _ =>
    obtain ⟨_, h0, _⟩ := int_in Try.underlying26 q0
    obtain ⟨v, l, h1, hb⟩ := bytes_in Try.underlying27 Try.underlying5 (by kernel_rfl) q1
    simp at h0 h1
    subst h0 h1
    exact ⟨_, _, l, rfl, hb⟩
theorem ses_in (h : DataW.trod enc Try.prog W 0 (fun _ => true) true fuel 45 cs = some x) (hlen : cs.length = 4) : ∃ e : SV, cs = SV.c e ∧ Bytes W e.2 e.1.Data := by
  obtain ⟨_, _, q0⟩ := field_in Try.underlying45 h 0 rfl rfl rfl (c := 1) (by kernel_rfl)
  obtain ⟨_, _, q1⟩ := field_in Try.underlying45 h 1 rfl rfl rfl (c := 1) (by kernel_rfl)
  obtain ⟨_, _, q2⟩ := field_in Try.underlying45 h 2 rfl rfl rfl (c := 2) (by kernel_rfl)
  match cs, hlen with
  | [a, b, c, d], _ =>
    obtain ⟨_, h0, _⟩ := int_in Try.underlying3 q0
    obtain ⟨_, h1, _⟩ := int_in Try.underlying3 q1
    obtain ⟨m, e, q, h2, hb⟩ := res_in q2 rfl
    simp at h0 h1 h2
    obtain ⟨h2, h3⟩ := h2
    subst h0 h1 h2 h3
    exact ⟨(⟨_, _, _, q⟩, _), rfl, hb⟩
end
section
variable {H : Type} {enc : TypeId × Value → H} {W : World} {v : Value} {d : DataW H} {p : List MemPlace}
theorem open_T22 (h : DataW.Trod enc Try.prog W 0 (fun _ => true) true 22 v d p) (hw : ∃ a n c, v = .slice a n c) : ∃ l, Sess W v l := by
  obtain ⟨fuel, hf⟩ := h
  obtain ⟨a, n, c, rfl⟩ := hw
  obtain ⟨v', l, hv, ⟨cs, hr, h⟩, _⟩ := slice_in (R := fun w cs (e : SV) => cs = SV.c e ∧ Bytes w e.2 e.1.Data) (fun _ _ _ h hl => ses_in h hl) Try.underlying22 (by kernel_rfl) (by decide) hf
  simp [Value.cells] at hv
  subst hv
  refine ⟨l.map Prod.fst, l, rfl, ?_, fun e he => ?_⟩
  · rw [flat_of_el (fun e => (SV.c_len e).2) hr.len (fun k hk => (h k hk).1)] at hr
    exact hr
  · obtain ⟨k, hk, rfl⟩ := List.getElem_of_mem he
    exact (h k hk).2
theorem open_S29 {cs : Array Value} (h : DataW.Trod enc Try.prog W 0 (fun _ => true) true 29 (.agg cs) d p) (hc : cs.size = Try.prog.cellsOf 29) : ∃ (m : Int) (e : Value) (q : List UInt8), cs = [i64 m, e].toArray ∧ Bytes W e q := by
  obtain ⟨fuel, hf⟩ := h
  have h2 : Try.prog.cellsOf 29 = 2 := by kernel_rfl
  obtain ⟨m, e, q, h1, hb⟩ := res_in hf (by simp [Value.cells]; omega)
  refine ⟨m, e, q, ?_, hb⟩
  rw [← h1]; simp [Value.cells]
end
end Go.Proofs.Ythcjifccfpoekaa
