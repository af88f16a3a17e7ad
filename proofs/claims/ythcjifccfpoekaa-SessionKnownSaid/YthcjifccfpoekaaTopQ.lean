/- The opening of a list of operations; words for SessionKnown. -/
import Derived.Test.YthcjifccfpoekaaTopS
import Derived.Test.YthcjifccfpoekaaSesP
namespace Go.Proofs.Ythcjifccfpoekaa
open Go Go.ChangeShapes Go.WideShapes Go.ChangeAt Go.RowKit Kf
-- OPEN T40 1
section
variable {H : Type} {enc : TypeId × Value → H} {W : World} {fuel : Nat} {cs : List Value} {x : DataW H × List MemPlace} {v : Value} {d : DataW H} {p : List MemPlace}
theorem tr_in (h : DataW.trod enc Try.prog W 0 (fun _ => true) true fuel 42 cs = some x) (hlen : cs.length = 2) : ∃ a : Tr, cs = Tr.c a := by
  obtain ⟨_, _, q0⟩ := field_in Try.underlying42 h 0 rfl rfl rfl (c := 1) (by kernel_rfl)
  obtain ⟨_, _, q1⟩ := field_in Try.underlying42 h 1 rfl rfl rfl (c := 1) (by kernel_rfl)
  match cs, hlen with
  | [a, b], _ =>
    obtain ⟨_, h0, _⟩ := int_in Try.underlying3 q0
    obtain ⟨_, h1, _⟩ := int_in Try.underlying3 q1
    simp at h0 h1
    subst h0 h1
    exact ⟨(_, _), rfl⟩
theorem open_T40 (h : DataW.Trod enc Try.prog W 0 (fun _ => true) true 40 v d p) (hw : ∃ a n c, v = .slice a n c) : ∃ l, Trs W v l := by
  obtain ⟨fuel, hf⟩ := h
  obtain ⟨a, n, c, rfl⟩ := hw
  obtain ⟨v', l, hv, ⟨cs, hr, h⟩, _⟩ := slice_in (R := fun _ cs (e : Tr) => cs = Tr.c e) (fun _ _ _ h hl => tr_in h hl) Try.underlying40 (by kernel_rfl) (by decide) hf
  simp [Value.cells] at hv
  subst hv
  refine ⟨l, ?_⟩
  rw [flat_of_el Tr.c_len hr.len (fun k hk => h k hk)] at hr
  exact hr
end
abbrev nums : List Int := [-9223372036854775808, -1, 0, 1, 2, 3, 4, 5, 6, 9223372036854775807]
theorem nums_in (j : Nat) : -9223372036854775808 ≤ nums.getD j 0 ∧ nums.getD j 0 ≤ 9223372036854775807 := by
  by_cases h : j < nums.length
  · have hm : nums.getD j 0 ∈ nums := by rw [List.getD_eq_getElem?_getD, List.getElem?_eq_getElem h]; exact List.getElem_mem h
    have : ∀ x ∈ nums, -9223372036854775808 ≤ x ∧ x ≤ 9223372036854775807 := by decide
    exact this _ hm
  · rw [List.getD_eq_getElem?_getD, List.getElem?_eq_none (by omega)]; decide
abbrev nilS : Value := .slice none 0 0
abbrev tries : List Tr := [(2, 5), (2, 5), (1, 7), (2, 4), (2, 6), (0, 9), (0, 9), (2, 5), (1, 7), (3, -4), (3, -5)]
end Go.Proofs.Ythcjifccfpoekaa
