/- From the arguments' readings to the words of the walks: messages. -/
import Derived.Test.YtccbpfbcaogcnaaIn
import Derived.Test.YtccbpfbcaogcnaaMgT
namespace Go.Proofs.Ytccbpfbcaogcnaa
open Go Go.ChangeShapes Go.WideShapes Go.ChangeAt Go.RowKit Kf
set_option maxRecDepth 20000

-- OPEN S25 vE,vD,m f
section
variable {H : Type} {enc : TypeId × Value → H} {W : World} {fuel : Nat} {cs : List Value} {x : DataW H × List MemPlace}
theorem en_in (h : DataW.trod enc Try.prog W 0 (fun _ => true) true fuel 57 cs = some x) (hlen : cs.length = 3) : ∃ e : EV, cs = EV.c e ∧ Bytes W e.2 e.1.Data ∧ rng e.1.Term ∧ rng e.1.Kind := by
  obtain ⟨_, _, q0⟩ := field_in Try.underlying57 h 0 rfl rfl rfl (c := 1) (by kernel_rfl)
  obtain ⟨_, _, q1⟩ := field_in Try.underlying57 h 1 rfl rfl rfl (c := 1) (by kernel_rfl)
  obtain ⟨_, _, q2⟩ := field_in Try.underlying57 h 2 rfl rfl rfl (c := 1) (by kernel_rfl)
  match cs, hlen with
  | [a, b, d], _ =>
    obtain ⟨n0, h0, w0⟩ := int_in Try.underlying3 q0
    obtain ⟨n1, h1, w1⟩ := int_in Try.underlying3 q1
    obtain ⟨v, l, h2, hb⟩ := bytes_in Try.underlying23 Try.underlying5 (by kernel_rfl) q2
    simp at h0 h1 h2
    subst h0 h1 h2
    exact ⟨(⟨n0, n1, l⟩, _), rfl, hb, w0, w1⟩
theorem ens_in (h : DataW.trod enc Try.prog W 0 (fun _ => true) true fuel 22 cs = some x) : ∃ v l, cs = [v] ∧ Ens W v l ∧ ∀ e ∈ l, rng e.Term ∧ rng e.Kind := by
  obtain ⟨v', l, hv, ⟨ds, hr, h⟩, _⟩ := slice_in (R := fun w cs (e : EV) => cs = EV.c e ∧ Bytes w e.2 e.1.Data ∧ rng e.1.Term ∧ rng e.1.Kind) (fun _ _ _ h hl => en_in h hl) Try.underlying22 (by kernel_rfl) (by decide) h
  refine ⟨v', l.map Prod.fst, hv, ⟨l, rfl, ?_, fun e he => ?_⟩, fun s hs => ?_⟩
  · rw [flat_of_el (fun e => (EV.c_len e).2) hr.len (fun k hk => (h k hk).1)] at hr
    exact hr
  · obtain ⟨k, hk, rfl⟩ := List.getElem_of_mem he
    exact (h k hk).2.1
  · obtain ⟨e, he, rfl⟩ := List.mem_map.1 hs
    obtain ⟨k, hk, rfl⟩ := List.getElem_of_mem he
    exact (h k hk).2.2
end
section
variable {H : Type} {enc : TypeId × Value → H} {W : World} {v : Value} {d : DataW H} {p : List MemPlace}
theorem rng14 {n0 n1 n2 n3 n4 n5 n6 n7 n8 n9 n10 n11 n12 n13 : Int} (h : ∀ k, k < 14 → rng ([n0, n1, n2, n3, n4, n5, n6, n7, n8, n9, n10, n11, n12, n13].getD k 0)) (k : Nat) : rng ([n0, n1, n2, n3, n4, n5, n6, n7, n8, n9, n10, n11, n12, n13].getD k 0) := by
  by_cases hk : k < 14
  · exact h k hk
  · rw [List.getD_eq_getElem?_getD, List.getElem?_eq_none (by simp; omega)]
    exact ⟨by decide, by decide⟩
theorem open_S25 {cs : Array Value} (h : DataW.Trod enc Try.prog W 0 (fun _ => true) true 25 (.agg cs) d p) (hc : cs.size = Try.prog.cellsOf 25) : ∃ (vE vD : Value) (m : Mg), cs = (mc m.n m.ok vE vD).toArray ∧ MgAt W vE vD m := by
  obtain ⟨fuel, h⟩ := h
  have h2 : Try.prog.cellsOf 25 = 17 := by kernel_rfl
  obtain ⟨_, _, q0⟩ := field_in Try.underlying25 h 0 rfl rfl rfl (c := 1) (by kernel_rfl)
  obtain ⟨_, _, q1⟩ := field_in Try.underlying25 h 1 rfl rfl rfl (c := 1) (by kernel_rfl)
  obtain ⟨_, _, q2⟩ := field_in Try.underlying25 h 2 rfl rfl rfl (c := 1) (by kernel_rfl)
  obtain ⟨_, _, q3⟩ := field_in Try.underlying25 h 3 rfl rfl rfl (c := 1) (by kernel_rfl)
  obtain ⟨_, _, q4⟩ := field_in Try.underlying25 h 4 rfl rfl rfl (c := 1) (by kernel_rfl)
  obtain ⟨_, _, q5⟩ := field_in Try.underlying25 h 5 rfl rfl rfl (c := 1) (by kernel_rfl)
  obtain ⟨_, _, q6⟩ := field_in Try.underlying25 h 6 rfl rfl rfl (c := 1) (by kernel_rfl)
  obtain ⟨_, _, q7⟩ := field_in Try.underlying25 h 7 rfl rfl rfl (c := 1) (by kernel_rfl)
  obtain ⟨_, _, q8⟩ := field_in Try.underlying25 h 8 rfl rfl rfl (c := 1) (by kernel_rfl)
  obtain ⟨_, _, q9⟩ := field_in Try.underlying25 h 9 rfl rfl rfl (c := 1) (by kernel_rfl)
  obtain ⟨_, _, q10⟩ := field_in Try.underlying25 h 10 rfl rfl rfl (c := 1) (by kernel_rfl)
  obtain ⟨_, _, q11⟩ := field_in Try.underlying25 h 11 rfl rfl rfl (c := 1) (by kernel_rfl)
  obtain ⟨_, _, q12⟩ := field_in Try.underlying25 h 12 rfl rfl rfl (c := 1) (by kernel_rfl)
  obtain ⟨_, _, q13⟩ := field_in Try.underlying25 h 13 rfl rfl rfl (c := 1) (by kernel_rfl)
  obtain ⟨_, _, q14⟩ := field_in Try.underlying25 h 14 rfl rfl rfl (c := 1) (by kernel_rfl)
  obtain ⟨_, _, q15⟩ := field_in Try.underlying25 h 15 rfl rfl rfl (c := 1) (by kernel_rfl)
  obtain ⟨_, _, q16⟩ := field_in Try.underlying25 h 16 rfl rfl rfl (c := 1) (by kernel_rfl)
  obtain ⟨cl, rfl⟩ : ∃ cl : List Value, cs = cl.toArray := ⟨cs.toList, by simp⟩
  match cl, (show cl.length = 17 by simpa [h2] using hc) with
  | [a0, a1, a2, a3, a4, a5, a6, a7, a8, a9, a10, a11, a12, a13, a14, a15, a16], _ =>
    obtain ⟨n0, h0, w0⟩ := int_in Try.underlying3 q0
    obtain ⟨n1, h1, w1⟩ := int_in Try.underlying3 q1
    obtain ⟨n2, h2, w2⟩ := int_in Try.underlying3 q2
    obtain ⟨n3, h3, w3⟩ := int_in Try.underlying3 q3
    obtain ⟨n4, h4, w4⟩ := int_in Try.underlying3 q4
    obtain ⟨n5, h5, w5⟩ := int_in Try.underlying3 q5
    obtain ⟨n6, h6, w6⟩ := int_in Try.underlying3 q6
    obtain ⟨n7, h7, w7⟩ := int_in Try.underlying3 q7
    obtain ⟨n8, h8, w8⟩ := int_in Try.underlying3 q8
    obtain ⟨n9, h9, w9⟩ := int_in Try.underlying3 q9
    obtain ⟨n10, h10, w10⟩ := int_in Try.underlying3 q10
    obtain ⟨n11, h11, w11⟩ := int_in Try.underlying3 q11
    obtain ⟨n12, h12, w12⟩ := int_in Try.underlying3 q12
    obtain ⟨n13, h13, w13⟩ := int_in Try.underlying3 q13
    obtain ⟨ok, h14⟩ := bool_in Try.underlying4 q14
    obtain ⟨vE, lE, h15, hE, rE⟩ := ens_in q15
    obtain ⟨vD, lD, h16, hD⟩ := bytes_in Try.underlying23 Try.underlying5 (by kernel_rfl) q16
    simp [Value.cells] at h0 h1 h2 h3 h4 h5 h6 h7 h8 h9 h10 h11 h12 h13 h14 h15 h16
    subst h0 h1 h2 h3 h4 h5 h6 h7 h8 h9 h10 h11 h12 h13 h14 h15 h16
    refine ⟨_, _, ⟨[n0, n1, n2, n3, n4, n5, n6, n7, n8, n9, n10, n11, n12, n13], ok, lE, lD⟩, rfl, ⟨rfl, rng14 fun k hk => ?_, rE, hE, hD⟩⟩
    match k, hk with
    | 0, _ => exact w0
    | 1, _ => exact w1
    | 2, _ => exact w2
    | 3, _ => exact w3
    | 4, _ => exact w4
    | 5, _ => exact w5
    | 6, _ => exact w6
    | 7, _ => exact w7
    | 8, _ => exact w8
    | 9, _ => exact w9
    | 10, _ => exact w10
    | 11, _ => exact w11
    | 12, _ => exact w12
    | 13, _ => exact w13
end
end Go.Proofs.Ytccbpfbcaogcnaa
