/- From the arguments' readings to the words of the walks: operations, results. -/
import Derived.Test.YthaojdpeimlngaaIn
import Derived.Test.YthaojdpeimlngaaOpT
namespace Go.Proofs.Ythaojdpeimlngaa
open Go Go.ChangeShapes Go.WideShapes Go.ChangeAt Go.RowKit Kf
set_option maxRecDepth 20000

-- OPEN S26 vP,vR,vW,vD,o f
-- OPEN S44 c,v,l f,g
section
variable {H : Type} {enc : TypeId × Value → H} {W : World} {fuel : Nat} {cs : List Value} {x : DataW H × List MemPlace}
theorem wr_in (h : DataW.trod enc Try.prog W 0 (fun _ => true) true fuel 52 cs = some x) (hlen : cs.length = 2) : ∃ e : WV, cs = WV.c e ∧ Bytes W e.2 e.1.Data := by
  obtain ⟨_, _, q0⟩ := field_in Try.underlying52 h 0 rfl rfl rfl (c := 1) (by kernel_rfl)
  obtain ⟨_, _, q1⟩ := field_in Try.underlying52 h 1 rfl rfl rfl (c := 1) (by kernel_rfl)
  match cs, hlen with
  | [a, b], _ =>
    obtain ⟨_, h0, _⟩ := int_in Try.underlying3 q0
    obtain ⟨v, l, h1, hb⟩ := bytes_in Try.underlying24 Try.underlying5 (by kernel_rfl) q1
    simp at h0 h1
    subst h0 h1
    exact ⟨(⟨_, l⟩, _), rfl, hb⟩
theorem wrs_in (h : DataW.trod enc Try.prog W 0 (fun _ => true) true fuel 23 cs = some x) : ∃ v l, cs = [v] ∧ Wrs W v l := by
  obtain ⟨v', l, hv, ⟨ds, hr, h⟩, _⟩ := slice_in (R := fun w cs (e : WV) => cs = WV.c e ∧ Bytes w e.2 e.1.Data) (fun _ _ _ h hl => wr_in h hl) Try.underlying23 (by kernel_rfl) (by decide) h
  refine ⟨v', l.map Prod.fst, hv, l, rfl, ?_, fun e he => ?_⟩
  · rw [flat_of_el (fun e => (WV.c_len e).2) hr.len (fun k hk => (h k hk).1)] at hr
    exact hr
  · obtain ⟨k, hk, rfl⟩ := List.getElem_of_mem he
    exact (h k hk).2
end
section
variable {H : Type} {enc : TypeId × Value → H} {W : World} {v : Value} {d : DataW H} {p : List MemPlace}
theorem rng13 {n0 n1 n2 n3 n4 n5 n6 n7 n8 n9 n10 n11 n12 : Int} (h : ∀ k, k < 13 → -9223372036854775808 ≤ [n0, n1, n2, n3, n4, n5, n6, n7, n8, n9, n10, n11, n12].getD k 0 ∧ [n0, n1, n2, n3, n4, n5, n6, n7, n8, n9, n10, n11, n12].getD k 0 ≤ 9223372036854775807) (k : Nat) : -9223372036854775808 ≤ [n0, n1, n2, n3, n4, n5, n6, n7, n8, n9, n10, n11, n12].getD k 0 ∧ [n0, n1, n2, n3, n4, n5, n6, n7, n8, n9, n10, n11, n12].getD k 0 ≤ 9223372036854775807 := by
  by_cases hk : k < 13
  · exact h k hk
  · rw [List.getD_eq_getElem?_getD, List.getElem?_eq_none (by simp; omega)]
    exact ⟨by decide, by decide⟩
theorem open_S26 {cs : Array Value} (h : DataW.Trod enc Try.prog W 0 (fun _ => true) true 26 (.agg cs) d p) (hc : cs.size = Try.prog.cellsOf 26) : ∃ (vP vR vW vD : Value) (o : Od), cs = (oc o.n vP vR vW vD).toArray ∧ OpAt W vP vR vW vD o := by
  obtain ⟨fuel, h⟩ := h
  have h2 : Try.prog.cellsOf 26 = 17 := by kernel_rfl
  obtain ⟨_, _, q0⟩ := field_in Try.underlying26 h 0 rfl rfl rfl (c := 1) (by kernel_rfl)
  obtain ⟨_, _, q1⟩ := field_in Try.underlying26 h 1 rfl rfl rfl (c := 1) (by kernel_rfl)
  obtain ⟨_, _, q2⟩ := field_in Try.underlying26 h 2 rfl rfl rfl (c := 1) (by kernel_rfl)
  obtain ⟨_, _, q3⟩ := field_in Try.underlying26 h 3 rfl rfl rfl (c := 1) (by kernel_rfl)
  obtain ⟨_, _, q4⟩ := field_in Try.underlying26 h 4 rfl rfl rfl (c := 1) (by kernel_rfl)
  obtain ⟨_, _, q5⟩ := field_in Try.underlying26 h 5 rfl rfl rfl (c := 1) (by kernel_rfl)
  obtain ⟨_, _, q6⟩ := field_in Try.underlying26 h 6 rfl rfl rfl (c := 1) (by kernel_rfl)
  obtain ⟨_, _, q7⟩ := field_in Try.underlying26 h 7 rfl rfl rfl (c := 1) (by kernel_rfl)
  obtain ⟨_, _, q8⟩ := field_in Try.underlying26 h 8 rfl rfl rfl (c := 1) (by kernel_rfl)
  obtain ⟨_, _, q9⟩ := field_in Try.underlying26 h 9 rfl rfl rfl (c := 1) (by kernel_rfl)
  obtain ⟨_, _, q10⟩ := field_in Try.underlying26 h 10 rfl rfl rfl (c := 1) (by kernel_rfl)
  obtain ⟨_, _, q11⟩ := field_in Try.underlying26 h 11 rfl rfl rfl (c := 1) (by kernel_rfl)
  obtain ⟨_, _, q12⟩ := field_in Try.underlying26 h 12 rfl rfl rfl (c := 1) (by kernel_rfl)
  obtain ⟨_, _, q13⟩ := field_in Try.underlying26 h 13 rfl rfl rfl (c := 1) (by kernel_rfl)
  obtain ⟨_, _, q14⟩ := field_in Try.underlying26 h 14 rfl rfl rfl (c := 1) (by kernel_rfl)
  obtain ⟨_, _, q15⟩ := field_in Try.underlying26 h 15 rfl rfl rfl (c := 1) (by kernel_rfl)
  obtain ⟨_, _, q16⟩ := field_in Try.underlying26 h 16 rfl rfl rfl (c := 1) (by kernel_rfl)
  obtain ⟨cl, rfl⟩ : ∃ cl : List Value, cs = cl.toArray := ⟨cs.toList, by simp⟩
  match cl, (show cl.length = 17 by simpa [h2] using hc) with
  | [a0, a1, a2, a3, a4, a5, a6, a7, a8, a9, a10, a11, a12, a13, a14, a15, a16], _ =>
    obtain ⟨n0, h0, w0⟩ := int_in Try.underlying3 q0
    obtain ⟨n1, h1, w1⟩ := int_in Try.underlying3 q1
    obtain ⟨n2, h2, w2⟩ := int_in Try.underlying3 q2
    obtain ⟨n3, h3, w3⟩ := int_in Try.underlying3 q3
    obtain ⟨n4, h4, w4⟩ := int_in Try.underlying3 q4
    obtain ⟨n5, h5, w5⟩ := int_in Try.underlying3 q5
    obtain ⟨n6, h6, w6⟩ := int_in Try.underlying3 q6
    obtain ⟨n7, h7, w7⟩ := int_in Try.underlying3 q7
    obtain ⟨n8, h8, w8⟩ := int_in Try.underlying3 q8
    obtain ⟨n9, h9, w9⟩ := int_in Try.underlying3 q9
    obtain ⟨n10, h10, w10⟩ := int_in Try.underlying3 q10
    obtain ⟨n11, h11, w11⟩ := int_in Try.underlying3 q11
    obtain ⟨n12, h12, w12⟩ := int_in Try.underlying3 q12
    obtain ⟨vP, lP, h13, hP, _⟩ := ints_in Try.underlying22 Try.underlying3 (by kernel_rfl) q13
    obtain ⟨vR, lR, h14, hR, _⟩ := ints_in Try.underlying22 Try.underlying3 (by kernel_rfl) q14
    obtain ⟨vW, lW, h15, hW⟩ := wrs_in q15
    obtain ⟨vD, lD, h16, hD⟩ := bytes_in Try.underlying24 Try.underlying5 (by kernel_rfl) q16
    simp [Value.cells] at h0 h1 h2 h3 h4 h5 h6 h7 h8 h9 h10 h11 h12 h13 h14 h15 h16
    subst h0 h1 h2 h3 h4 h5 h6 h7 h8 h9 h10 h11 h12 h13 h14 h15 h16
    refine ⟨_, _, _, _, ⟨[n0, n1, n2, n3, n4, n5, n6, n7, n8, n9, n10, n11, n12], lP, lR, lW, lD⟩, rfl, ⟨rfl, rng13 fun k hk => ?_, hP, hR, hW, hD⟩⟩
    match k, hk with
    | 0, _ => exact w0
    | 1, _ => exact w1
    | 2, _ => exact w2
    | 3, _ => exact w3
    | 4, _ => exact w4
    | 5, _ => exact w5
    | 6, _ => exact w6
    | 7, _ => exact w7
    | 8, _ => exact w8
    | 9, _ => exact w9
    | 10, _ => exact w10
    | 11, _ => exact w11
    | 12, _ => exact w12
theorem open_S44 {cs : Array Value} (h : DataW.Trod enc Try.prog W 0 (fun _ => true) true 44 (.agg cs) d p) (hc : cs.size = Try.prog.cellsOf 44) : ∃ (c : Int) (v : Value) (l : List UInt8), cs = [i64 c, v].toArray ∧ (-9223372036854775808 ≤ c ∧ c ≤ 9223372036854775807) ∧ Bytes W v l := by
  obtain ⟨fuel, h⟩ := h
  have h2 : Try.prog.cellsOf 44 = 2 := by kernel_rfl
  obtain ⟨_, _, q0⟩ := field_in Try.underlying44 h 0 rfl rfl rfl (c := 1) (by kernel_rfl)
  obtain ⟨_, _, q1⟩ := field_in Try.underlying44 h 1 rfl rfl rfl (c := 1) (by kernel_rfl)
  obtain ⟨cl, rfl⟩ : ∃ cl : List Value, cs = cl.toArray := ⟨cs.toList, by simp⟩
  match cl, (show cl.length = 2 by simpa [h2] using hc) with
  | [a, b], _ =>
    obtain ⟨n, h0, w0⟩ := int_in Try.underlying30 q0
    obtain ⟨v, l, h1, hb⟩ := bytes_in Try.underlying24 Try.underlying5 (by kernel_rfl) q1
    simp [Value.cells] at h0 h1
    subst h0 h1
    exact ⟨n, _, l, rfl, w0, hb⟩
end
end Go.Proofs.Ythaojdpeimlngaa
