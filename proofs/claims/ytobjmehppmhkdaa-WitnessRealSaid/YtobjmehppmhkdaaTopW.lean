/- From the arguments' readings to the words of the walks: events. -/
import Derived.Test.YtobjmehppmhkdaaOpen
import Derived.Test.YtobjmehppmhkdaaIn
import Derived.Test.YtobjmehppmhkdaaWitQ
namespace Go.Proofs.Ytobjmehppmhkdaa
open Go Go.ChangeShapes Go.WideShapes Go.ChangeAt Go.RowKit Kf
set_option maxRecDepth 20000

-- OPEN T26 1
section
variable {H : Type} {enc : TypeId × Value → H} {W : World} {fuel : Nat} {cs : List Value} {x : DataW H × List MemPlace}
theorem call_in (h : DataW.trod enc Try.prog W 0 (fun _ => true) true fuel 38 cs = some x) (hlen : cs.length = 13) : ∃ (c : Ca) (d : Value), cs = c.c d ∧ Bytes W d c.Data := by
  obtain ⟨_, _, q0⟩ := field_in Try.underlying38 h 0 rfl rfl rfl (c := 1) (by kernel_rfl)
  obtain ⟨_, _, q1⟩ := field_in Try.underlying38 h 1 rfl rfl rfl (c := 1) (by kernel_rfl)
  obtain ⟨_, _, q2⟩ := field_in Try.underlying38 h 2 rfl rfl rfl (c := 1) (by kernel_rfl)
  obtain ⟨_, _, q3⟩ := field_in Try.underlying38 h 3 rfl rfl rfl (c := 1) (by kernel_rfl)
  obtain ⟨_, _, q4⟩ := field_in Try.underlying38 h 4 rfl rfl rfl (c := 1) (by kernel_rfl)
  obtain ⟨_, _, q5⟩ := field_in Try.underlying38 h 5 rfl rfl rfl (c := 1) (by kernel_rfl)
  obtain ⟨_, _, q6⟩ := field_in Try.underlying38 h 6 rfl rfl rfl (c := 1) (by kernel_rfl)
  obtain ⟨_, _, q7⟩ := field_in Try.underlying38 h 7 rfl rfl rfl (c := 1) (by kernel_rfl)
  obtain ⟨_, _, q8⟩ := field_in Try.underlying38 h 8 rfl rfl rfl (c := 1) (by kernel_rfl)
  obtain ⟨_, _, q9⟩ := field_in Try.underlying38 h 9 rfl rfl rfl (c := 1) (by kernel_rfl)
  obtain ⟨_, _, q10⟩ := field_in Try.underlying38 h 10 rfl rfl rfl (c := 1) (by kernel_rfl)
  obtain ⟨_, _, q11⟩ := field_in Try.underlying38 h 11 rfl rfl rfl (c := 1) (by kernel_rfl)
  obtain ⟨_, _, q12⟩ := field_in Try.underlying38 h 12 rfl rfl rfl (c := 1) (by kernel_rfl)
  match cs, hlen with
  | [a0, a1, a2, a3, a4, a5, a6, a7, a8, a9, a10, a11, a12], _ =>
    obtain ⟨n0, h0, _⟩ := int_in Try.underlying3 q0
    obtain ⟨n1, h1, _⟩ := int_in Try.underlying3 q1
    obtain ⟨n2, h2, _⟩ := int_in Try.underlying3 q2
    obtain ⟨n3, h3, _⟩ := int_in Try.underlying3 q3
    obtain ⟨n4, h4, _⟩ := int_in Try.underlying3 q4
    obtain ⟨n5, h5, _⟩ := int_in Try.underlying3 q5
    obtain ⟨n6, h6, _⟩ := int_in Try.underlying3 q6
    obtain ⟨n7, h7, _⟩ := int_in Try.underlying3 q7
    obtain ⟨n8, h8, _⟩ := int_in Try.underlying3 q8
    obtain ⟨n9, h9, _⟩ := int_in Try.underlying3 q9
    obtain ⟨n10, h10, _⟩ := int_in Try.underlying3 q10
    obtain ⟨n11, h11, _⟩ := int_in Try.underlying3 q11
    obtain ⟨v12, l12, h12, b12⟩ := bytes_in Try.underlying36 Try.underlying5 (by kernel_rfl) q12
    simp at h0 h1 h2 h3 h4 h5 h6 h7 h8 h9 h10 h11 h12
    subst h0 h1 h2 h3 h4 h5 h6 h7 h8 h9 h10 h11 h12
    exact ⟨⟨n0, n1, n2, n3, n4, n5, n6, n7, n8, n9, n10, n11, l12⟩, a12, rfl, b12⟩
theorem answer_in (h : DataW.trod enc Try.prog W 0 (fun _ => true) true fuel 40 cs = some x) (hlen : cs.length = 3) : ∃ (a : An) (d : Value), cs = a.c d ∧ Bytes W d a.Data := by
  obtain ⟨_, _, q0⟩ := field_in Try.underlying40 h 0 rfl rfl rfl (c := 1) (by kernel_rfl)
  obtain ⟨_, _, q1⟩ := field_in Try.underlying40 h 1 rfl rfl rfl (c := 1) (by kernel_rfl)
  obtain ⟨_, _, q2⟩ := field_in Try.underlying40 h 2 rfl rfl rfl (c := 1) (by kernel_rfl)
  match cs, hlen with
  | [a0, a1, a2], _ =>
    obtain ⟨n0, h0, _⟩ := int_in Try.underlying29 q0
    obtain ⟨n1, h1, _⟩ := int_in Try.underlying3 q1
    obtain ⟨v2, l2, h2, b2⟩ := bytes_in Try.underlying36 Try.underlying5 (by kernel_rfl) q2
    simp at h0 h1 h2
    subst h0 h1 h2
    exact ⟨⟨n0, n1, l2⟩, a2, rfl, b2⟩
theorem ev_in (h : DataW.trod enc Try.prog W 0 (fun _ => true) true fuel 42 cs = some x) (hlen : cs.length = 19) : ∃ e : Ev, EvR W cs e := by
  obtain ⟨_, _, q0⟩ := field_in Try.underlying42 h 0 rfl rfl rfl (c := 1) (by kernel_rfl)
  obtain ⟨_, _, q1⟩ := field_in Try.underlying42 h 1 rfl rfl rfl (c := 1) (by kernel_rfl)
  obtain ⟨_, _, q2⟩ := field_in Try.underlying42 h 2 rfl rfl rfl (c := 1) (by kernel_rfl)
  obtain ⟨_, _, q3⟩ := field_in Try.underlying42 h 3 rfl rfl rfl (c := 13) (by kernel_rfl)
  obtain ⟨_, _, q4⟩ := field_in Try.underlying42 h 4 rfl rfl rfl (c := 3) (by kernel_rfl)
  obtain ⟨c, dc, hc, bc⟩ := call_in q3 (by simp; omega)
  obtain ⟨a, da, ha, ba⟩ := answer_in q4 (by simp; omega)
  obtain ⟨n0, h0, _⟩ := int_in Try.underlying3 q0
  obtain ⟨n1, h1, _⟩ := int_in Try.underlying3 q1
  obtain ⟨n2, h2, _⟩ := int_in Try.underlying3 q2
  have hcs : cs = (((cs.drop 0).take 1 ++ (cs.drop 1).take 1) ++ ((cs.drop 2).take 1 ++ (cs.drop 3).take 13)) ++ (cs.drop 16).take 3 := by
    match cs, hlen with
    | [a0, a1, a2, a3, a4, a5, a6, a7, a8, a9, a10, a11, a12, a13, a14, a15, a16, a17, a18], _ => rfl
  change (cs.drop 0).take 1 = _ at h0
  change (cs.drop 1).take 1 = _ at h1
  change (cs.drop 2).take 1 = _ at h2
  change (cs.drop 3).take 13 = _ at hc
  change (cs.drop 16).take 3 = _ at ha
  rw [h0, h1, h2, hc, ha] at hcs
  exact ⟨⟨n0, n1, n2, c, a⟩, dc, da, hcs, bc, ba⟩
end
section
variable {H : Type} {enc : TypeId × Value → H} {W : World} {v : Value} {d : DataW H} {p : List MemPlace}
theorem open_T26 (h : DataW.Trod enc Try.prog W 0 (fun _ => true) true 26 v d p) (hw : ∃ a n c, v = .slice a n c) : ∃ l, Evs W v l := by
  obtain ⟨fuel, hf⟩ := h
  obtain ⟨a, n, c, rfl⟩ := hw
  obtain ⟨v', l, hv, hr, _⟩ := slice_in (R := EvR) (fun _ _ _ h hl => ev_in h hl) Try.underlying26 (by kernel_rfl) (by decide) hf
  simp [Value.cells] at hv
  subst hv
  exact ⟨l, hr⟩
end
end Go.Proofs.Ytobjmehppmhkdaa
