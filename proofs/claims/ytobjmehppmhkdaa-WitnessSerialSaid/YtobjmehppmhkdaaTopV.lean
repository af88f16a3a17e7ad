/- From the arguments' readings to the words of the walks: deeds, bools. -/
import Derived.Test.YtobjmehppmhkdaaOpen
import Derived.Test.YtobjmehppmhkdaaIn
import Derived.Test.YtobjmehppmhkdaaTop
import Derived.Test.YtobjmehppmhkdaaSerT
namespace Go.Proofs.Ytobjmehppmhkdaa
open Go Go.ChangeShapes Go.WideShapes Go.ChangeAt Go.RowKit Kf
set_option maxRecDepth 20000

-- OPEN T22 2
-- OPEN T23 1
theorem bools_map : ∀ l : List Bool, (l.flatMap fun b => [Value.bool b]) = l.map Value.bool
  | [] => rfl
  | b :: l => by rw [List.flatMap_cons, bools_map l]; rfl
def Rg64 (n : Int) : Prop := -9223372036854775808 ≤ n ∧ n ≤ 9223372036854775807
section
variable {H : Type} {enc : TypeId × Value → H} {W : World} {fuel : Nat} {cs : List Value} {x : DataW H × List MemPlace}
theorem u8_in {t : TypeId} (ht : Try.prog.underlying t = some (.int .u8)) (h : DataW.trod enc Try.prog W 0 (fun _ => true) true fuel t cs = some x) : ∃ b : UInt8, cs = [u8 b] := by
  obtain ⟨k, hk, _, hw⟩ := DataW.trod_int ht h
  exact ⟨UInt8.ofNat k.toNat, by rw [hk]; show [Value.int .u8 k] = [Value.int .u8 _]; rw [u8_of_wf hw]⟩
theorem deed_in (h : DataW.trod enc Try.prog W 0 (fun _ => true) true fuel 54 cs = some x) (hlen : cs.length = 4) : ∃ d : Dd, cs = d.c ∧ Rg64 d.Block := by
  obtain ⟨_, _, q0⟩ := field_in Try.underlying54 h 0 rfl rfl rfl (c := 1) (by kernel_rfl)
  obtain ⟨_, _, q1⟩ := field_in Try.underlying54 h 1 rfl rfl rfl (c := 1) (by kernel_rfl)
  obtain ⟨_, _, q2⟩ := field_in Try.underlying54 h 2 rfl rfl rfl (c := 1) (by kernel_rfl)
  obtain ⟨_, _, q3⟩ := field_in Try.underlying54 h 3 rfl rfl rfl (c := 1) (by kernel_rfl)
  match cs, hlen with
  | [a, b, c, d], _ =>
    obtain ⟨n0, h0, r0⟩ := int_in Try.underlying3 q0
    obtain ⟨b1, h1⟩ := bool_in Try.underlying4 q1
    obtain ⟨b2, h2⟩ := bool_in Try.underlying4 q2
    obtain ⟨n3, h3⟩ := u8_in Try.underlying5 q3
    simp at h0 h1 h2 h3
    subst h0 h1 h2 h3
    exact ⟨⟨n0, b1, b2, n3⟩, rfl, r0⟩
theorem deeds_in (h : DataW.trod enc Try.prog W 0 (fun _ => true) true fuel 51 cs = some x) : ∃ ds : List Dd, (∃ v, cs = [v] ∧ Dds W v ds) ∧ ∀ d ∈ ds, Rg64 d.Block := by
  obtain ⟨v, l, hv, ⟨cs', hr, h⟩, _⟩ := slice_in (R := fun _ cs (d : Dd) => cs = d.c ∧ Rg64 d.Block) (fun _ _ _ h hl => deed_in h hl) Try.underlying51 (by kernel_rfl) (by decide) h
  refine ⟨l, ⟨v, hv, ?_⟩, fun d hd => ?_⟩
  · have e : cs' = l.flatMap Dd.c := flat_of_el Dd.c_len hr.len fun k hk => (h k hk).1
    rw [e] at hr
    exact hr
  · obtain ⟨i, hi, rfl⟩ := List.mem_iff_getElem.1 hd
    exact (h i hi).2
end
section
variable {H : Type} {enc : TypeId × Value → H} {W : World} {v : Value} {d : DataW H} {p : List MemPlace}
theorem open_T22 (h : DataW.Trod enc Try.prog W 0 (fun _ => true) true 22 v d p) (hw : ∃ a n c, v = .slice a n c) : ∃ l, Ddss W v l ∧ ∀ i (hi : i < l.length), ∀ d ∈ l[i], -9223372036854775808 ≤ d.Block ∧ d.Block ≤ 9223372036854775807 := by
  obtain ⟨fuel, hf⟩ := h
  obtain ⟨a, n, c, rfl⟩ := hw
  obtain ⟨v', l, hv, ⟨cs, hr, h⟩, _⟩ := slice_in (sz := 1) (R := fun W cs (ds : List Dd) => (∃ v, cs = [v] ∧ Dds W v ds) ∧ ∀ d ∈ ds, Rg64 d.Block) (fun _ _ _ h _ => deeds_in h) Try.underlying22 (by kernel_rfl) (by decide) hf
  simp [Value.cells] at hv
  subst hv
  refine ⟨l, ⟨cs, hr, fun i hi => ?_⟩, fun i hi => (h i hi).2⟩
  obtain ⟨⟨v, e, hd⟩, _⟩ := h i hi
  have := el_get e 0 (by decide)
  simp only [Nat.mul_one, Nat.add_zero, List.getElem?_cons_zero] at this
  rw [List.getD_eq_getElem?_getD, this]
  exact hd
theorem open_T23 (h : DataW.Trod enc Try.prog W 0 (fun _ => true) true 23 v d p) (hw : ∃ a n c, v = .slice a n c) : ∃ l : List Bool, Row W v l.length 1 (l.map Value.bool) := by
  obtain ⟨fuel, hf⟩ := h
  obtain ⟨a, n, c, rfl⟩ := hw
  obtain ⟨v', l, hv, ⟨cs, hr, h⟩, _⟩ := slice_in (sz := 1) (R := fun _ cs (b : Bool) => cs = [.bool b]) (fun _ _ _ h _ => bool_in Try.underlying4 h) Try.underlying23 (by kernel_rfl) (by decide) hf
  simp [Value.cells] at hv
  subst hv
  refine ⟨l, ?_⟩
  have e : cs = l.flatMap fun b => [Value.bool b] := flat_of_el (fun _ => rfl) hr.len h
  rw [e, bools_map] at hr
  exact hr
end
end Go.Proofs.Ytobjmehppmhkdaa
