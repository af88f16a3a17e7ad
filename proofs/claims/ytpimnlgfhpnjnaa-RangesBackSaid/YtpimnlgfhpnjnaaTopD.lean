/- From the arguments' readings to the words of the walks: directories and operations. -/
import Derived.Test.YtpimnlgfhpnjnaaTopR
import Derived.Test.YtpimnlgfhpnjnaaDir
namespace Go.Proofs.Ytpimnlgfhpnjnaa
open Go Go.ChangeShapes Go.WideShapes Go.ChangeAt Go.RowKit Kf
set_option maxRecDepth 20000

-- OPEN T67 1
-- OPEN S51 d,v,u b,e
-- OPEN S72 o,vP,vR,vW,vD b
section
variable {H : Type} {enc : TypeId × Value → H} {W : World} {fuel : Nat} {cs : List Value} {x : DataW H × List MemPlace}
theorem res_in (h : DataW.trod enc Try.prog W 0 (fun _ => true) true fuel 53 cs = some x) (hlen : cs.length = 2) : ∃ (m : Int) (e : Value) (q : List UInt8), cs = [i64 m, e] ∧ Bytes W e q ∧ In1 m := by
  obtain ⟨_, _, q0⟩ := field_in Try.underlying53 h 0 rfl rfl rfl (c := 1) (by kernel_rfl)
  obtain ⟨_, _, q1⟩ := field_in Try.underlying53 h 1 rfl rfl rfl (c := 1) (by kernel_rfl)
  match cs, hlen with
  | [a, b], _ =>
    obtain ⟨_, h0, w0⟩ := int_in Try.underlying28 q0
    obtain ⟨v, l, h1, hb⟩ := bytes_in Try.underlying46 Try.underlying5 (by kernel_rfl) q1
    simp at h0 h1
    subst h0 h1
    exact ⟨_, _, l, rfl, hb, w0⟩
theorem ses_in (h : DataW.trod enc Try.prog W 0 (fun _ => true) true fuel 55 cs = some x) (hlen : cs.length = 4) : ∃ e : Se.SV, cs = Se.SV.c e ∧ Bytes W e.2 e.1.Data ∧ In1 e.1.Client ∧ In1 e.1.Seq ∧ In1 e.1.Code := by
  obtain ⟨_, _, q0⟩ := field_in Try.underlying55 h 0 rfl rfl rfl (c := 1) (by kernel_rfl)
  obtain ⟨_, _, q1⟩ := field_in Try.underlying55 h 1 rfl rfl rfl (c := 1) (by kernel_rfl)
  obtain ⟨_, _, q2⟩ := field_in Try.underlying55 h 2 rfl rfl rfl (c := 2) (by kernel_rfl)
  match cs, hlen with
  | [a, b, c, d], _ =>
    obtain ⟨_, h0, w0⟩ := int_in Try.underlying3 q0
    obtain ⟨_, h1, w1⟩ := int_in Try.underlying3 q1
    obtain ⟨m, e, q, h2, hb, w2⟩ := res_in q2 rfl
    simp at h0 h1 h2
    obtain ⟨h2, h3⟩ := h2
    subst h0 h1 h2 h3
    exact ⟨(⟨_, _, _, q⟩, _), rfl, hb, w0, w1, w2⟩
theorem wr_in (h : DataW.trod enc Try.prog W 0 (fun _ => true) true fuel 113 cs = some x) (hlen : cs.length = 2) : ∃ e : Op.WV, cs = Op.WV.c e ∧ Bytes W e.2 e.1.Data := by
  obtain ⟨_, _, q0⟩ := field_in Try.underlying113 h 0 rfl rfl rfl (c := 1) (by kernel_rfl)
  obtain ⟨_, _, q1⟩ := field_in Try.underlying113 h 1 rfl rfl rfl (c := 1) (by kernel_rfl)
  match cs, hlen with
  | [a, b], _ =>
    obtain ⟨_, h0, _⟩ := int_in Try.underlying3 q0
    obtain ⟨v, l, h1, hb⟩ := bytes_in Try.underlying46 Try.underlying5 (by kernel_rfl) q1
    simp at h0 h1
    subst h0 h1
    exact ⟨(⟨_, l⟩, _), rfl, hb⟩
theorem wrs_in (h : DataW.trod enc Try.prog W 0 (fun _ => true) true fuel 70 cs = some x) : ∃ v l, cs = [v] ∧ Op.Wrs W v l := by
  obtain ⟨v', l, hv, ⟨ds, hr, h⟩, _⟩ := slice_in (R := fun w cs (e : Op.WV) => cs = Op.WV.c e ∧ Bytes w e.2 e.1.Data) (fun _ _ _ h hl => wr_in h hl) Try.underlying70 (by kernel_rfl) (by decide) h
  refine ⟨v', l.map Prod.fst, hv, l, rfl, ?_, fun e he => ?_⟩
  · rw [flat_of_el (fun e => (Op.WV.c_len e).2) hr.len (fun k hk => (h k hk).1)] at hr
    exact hr
  · obtain ⟨k, hk, rfl⟩ := List.getElem_of_mem he
    exact (h k hk).2
theorem rng13 {n0 n1 n2 n3 n4 n5 n6 n7 n8 n9 n10 n11 n12 : Int} (h : ∀ k, k < 13 → -9223372036854775808 ≤ [n0, n1, n2, n3, n4, n5, n6, n7, n8, n9, n10, n11, n12].getD k 0 ∧ [n0, n1, n2, n3, n4, n5, n6, n7, n8, n9, n10, n11, n12].getD k 0 ≤ 9223372036854775807) (k : Nat) : -9223372036854775808 ≤ [n0, n1, n2, n3, n4, n5, n6, n7, n8, n9, n10, n11, n12].getD k 0 ∧ [n0, n1, n2, n3, n4, n5, n6, n7, n8, n9, n10, n11, n12].getD k 0 ≤ 9223372036854775807 := by
  by_cases hk : k < 13
  · exact h k hk
  · rw [List.getD_eq_getElem?_getD, List.getElem?_eq_none (by simp; omega)]
    exact ⟨by decide, by decide⟩
theorem op_in (h : DataW.trod enc Try.prog W 0 (fun _ => true) true fuel 72 cs = some x) (hlen : cs.length = 17) : ∃ (o : Op.Od), OpR W cs o := by
  obtain ⟨_, _, q0⟩ := field_in Try.underlying72 h 0 rfl rfl rfl (c := 1) (by kernel_rfl)
  obtain ⟨_, _, q1⟩ := field_in Try.underlying72 h 1 rfl rfl rfl (c := 1) (by kernel_rfl)
  obtain ⟨_, _, q2⟩ := field_in Try.underlying72 h 2 rfl rfl rfl (c := 1) (by kernel_rfl)
  obtain ⟨_, _, q3⟩ := field_in Try.underlying72 h 3 rfl rfl rfl (c := 1) (by kernel_rfl)
  obtain ⟨_, _, q4⟩ := field_in Try.underlying72 h 4 rfl rfl rfl (c := 1) (by kernel_rfl)
  obtain ⟨_, _, q5⟩ := field_in Try.underlying72 h 5 rfl rfl rfl (c := 1) (by kernel_rfl)
  obtain ⟨_, _, q6⟩ := field_in Try.underlying72 h 6 rfl rfl rfl (c := 1) (by kernel_rfl)
  obtain ⟨_, _, q7⟩ := field_in Try.underlying72 h 7 rfl rfl rfl (c := 1) (by kernel_rfl)
  obtain ⟨_, _, q8⟩ := field_in Try.underlying72 h 8 rfl rfl rfl (c := 1) (by kernel_rfl)
  obtain ⟨_, _, q9⟩ := field_in Try.underlying72 h 9 rfl rfl rfl (c := 1) (by kernel_rfl)
  obtain ⟨_, _, q10⟩ := field_in Try.underlying72 h 10 rfl rfl rfl (c := 1) (by kernel_rfl)
  obtain ⟨_, _, q11⟩ := field_in Try.underlying72 h 11 rfl rfl rfl (c := 1) (by kernel_rfl)
  obtain ⟨_, _, q12⟩ := field_in Try.underlying72 h 12 rfl rfl rfl (c := 1) (by kernel_rfl)
  obtain ⟨_, _, q13⟩ := field_in Try.underlying72 h 13 rfl rfl rfl (c := 1) (by kernel_rfl)
  obtain ⟨_, _, q14⟩ := field_in Try.underlying72 h 14 rfl rfl rfl (c := 1) (by kernel_rfl)
  obtain ⟨_, _, q15⟩ := field_in Try.underlying72 h 15 rfl rfl rfl (c := 1) (by kernel_rfl)
  obtain ⟨_, _, q16⟩ := field_in Try.underlying72 h 16 rfl rfl rfl (c := 1) (by kernel_rfl)
  match cs, hlen with
  | [a0, a1, a2, a3, a4, a5, a6, a7, a8, a9, a10, a11, a12, a13, a14, a15, a16], _ =>
    obtain ⟨n0, h0, w0⟩ := int_in Try.underlying3 q0
    obtain ⟨n1, h1, w1⟩ := int_in Try.underlying3 q1
    obtain ⟨n2, h2, w2⟩ := int_in Try.underlying3 q2
    obtain ⟨n3, h3, w3⟩ := int_in Try.underlying3 q3
    obtain ⟨n4, h4, w4⟩ := int_in Try.underlying3 q4
    obtain ⟨n5, h5, w5⟩ := int_in Try.underlying3 q5
    obtain ⟨n6, h6, w6⟩ := int_in Try.underlying3 q6
    obtain ⟨n7, h7, w7⟩ := int_in Try.underlying3 q7
    obtain ⟨n8, h8, w8⟩ := int_in Try.underlying3 q8
    obtain ⟨n9, h9, w9⟩ := int_in Try.underlying3 q9
    obtain ⟨n10, h10, w10⟩ := int_in Try.underlying3 q10
    obtain ⟨n11, h11, w11⟩ := int_in Try.underlying3 q11
    obtain ⟨n12, h12, w12⟩ := int_in Try.underlying3 q12
    obtain ⟨vP, lP, h13, hP, _⟩ := ints_in Try.underlying69 Try.underlying3 (by kernel_rfl) q13
    obtain ⟨vR, lR, h14, hR, _⟩ := ints_in Try.underlying69 Try.underlying3 (by kernel_rfl) q14
    obtain ⟨vW, lW, h15, hW⟩ := wrs_in q15
    obtain ⟨vD, lD, h16, hD⟩ := bytes_in Try.underlying46 Try.underlying5 (by kernel_rfl) q16
    simp [Value.cells] at h0 h1 h2 h3 h4 h5 h6 h7 h8 h9 h10 h11 h12 h13 h14 h15 h16
    subst h0 h1 h2 h3 h4 h5 h6 h7 h8 h9 h10 h11 h12 h13 h14 h15 h16
    refine ⟨⟨[n0, n1, n2, n3, n4, n5, n6, n7, n8, n9, n10, n11, n12], lP, lR, lW, lD⟩, _, _, _, _, rfl, ⟨rfl, rng13 fun k hk => ?_, hP, hR, hW, hD⟩⟩
    match k, hk with
    | 0, _ => exact w0
    | 1, _ => exact w1
    | 2, _ => exact w2
    | 3, _ => exact w3
    | 4, _ => exact w4
    | 5, _ => exact w5
    | 6, _ => exact w6
    | 7, _ => exact w7
    | 8, _ => exact w8
    | 9, _ => exact w9
    | 10, _ => exact w10
    | 11, _ => exact w11
    | 12, _ => exact w12
theorem sess_in (h : DataW.trod enc Try.prog W 0 (fun _ => true) true fuel 49 cs = some x) : ∃ v l, cs = [v] ∧ Se.Sess W v l ∧ ∀ s ∈ l, In1 s.Client ∧ In1 s.Seq ∧ In1 s.Code := by
  obtain ⟨v', l, hv, ⟨ds, hr, h⟩, _⟩ := slice_in (R := fun w cs (e : Se.SV) => cs = Se.SV.c e ∧ Bytes w e.2 e.1.Data ∧ In1 e.1.Client ∧ In1 e.1.Seq ∧ In1 e.1.Code) (fun _ _ _ h hl => ses_in h hl) Try.underlying49 (by kernel_rfl) (by decide) h
  refine ⟨v', l.map Prod.fst, hv, ⟨l, rfl, ?_, fun e he => ?_⟩, fun s hs => ?_⟩
  · rw [flat_of_el (fun e => (Se.SV.c_len e).2) hr.len (fun k hk => (h k hk).1)] at hr
    exact hr
  · obtain ⟨k, hk, rfl⟩ := List.getElem_of_mem he
    exact (h k hk).2.1
  · obtain ⟨e, he, rfl⟩ := List.mem_map.1 hs
    obtain ⟨k, hk, rfl⟩ := List.getElem_of_mem he
    exact (h k hk).2.2
end
section
variable {H : Type} {enc : TypeId × Value → H} {W : World} {v : Value} {d : DataW H} {p : List MemPlace}
theorem open_T67 (h : DataW.Trod enc Try.prog W 0 (fun _ => true) true 67 v d p) (hw : ∃ a n c, v = .slice a n c) : ∃ l, Ops W v l := by
  obtain ⟨fuel, hf⟩ := h
  obtain ⟨a, n, c, rfl⟩ := hw
  obtain ⟨v', l, hv, hr, _⟩ := slice_in (R := OpR) (fun _ _ _ h hl => op_in h hl) Try.underlying67 (by kernel_rfl) (by decide) hf
  simp [Value.cells] at hv
  subst hv
  exact ⟨l, hr⟩
theorem open_S72 {cs : Array Value} (h : DataW.Trod enc Try.prog W 0 (fun _ => true) true 72 (.agg cs) d p) (hc : cs.size = Try.prog.cellsOf 72) : ∃ (o : Op.Od) (vP vR vW vD : Value), cs = (Op.oc o.n vP vR vW vD).toArray ∧ Op.OpAt W vP vR vW vD o := by
  obtain ⟨fuel, hf⟩ := h
  obtain ⟨cl, rfl⟩ : ∃ cl : List Value, cs = cl.toArray := ⟨cs.toList, by simp⟩
  have h17 : Try.prog.cellsOf 72 = 17 := by kernel_rfl
  obtain ⟨o, vP, vR, vW, vD, e, ho⟩ := op_in (cs := cl) (by simpa [Value.cells] using hf) (by simpa [h17] using hc)
  subst e
  exact ⟨o, vP, vR, vW, vD, rfl, ho⟩
theorem open_S51 {cs : Array Value} (h : DataW.Trod enc Try.prog W 0 (fun _ => true) true 51 (.agg cs) d p) (hc : cs.size = Try.prog.cellsOf 51) : ∃ (d : Dr) (v u : Value), cs = (d.c v u).toArray ∧ DAt W v u d ∧ DrIn d := by
  obtain ⟨fuel, hf⟩ := h
  obtain ⟨cl, rfl⟩ : ∃ cl : List Value, cs = cl.toArray := ⟨cs.toList, by simp⟩
  have h8 : Try.prog.cellsOf 51 = 8 := by kernel_rfl
  have hf2 : DataW.trod enc Try.prog W 0 (fun _ => true) true fuel 51 cl = some (d, p) := by simpa [Value.cells] using hf
  obtain ⟨_, _, q0⟩ := field_in Try.underlying51 hf2 0 rfl rfl rfl (c := 7) (by kernel_rfl)
  obtain ⟨_, _, q1⟩ := field_in Try.underlying51 hf2 1 rfl rfl rfl (c := 1) (by kernel_rfl)
  match cl, (show cl.length = 8 by simpa [h8] using hc) with
  | [a0, a1, a2, a3, a4, a5, a6, a7], _ =>
    obtain ⟨m, v, e0, hR, hI⟩ := mp_in q0 rfl
    obtain ⟨u, S, e1, hS, hJ⟩ := sess_in q1
    simp at e0 e1
    obtain ⟨rfl, rfl, rfl, rfl, rfl, rfl, rfl⟩ := e0
    subst e1
    exact ⟨⟨m, S⟩, _, _, rfl, ⟨hR, hS⟩, ⟨hI, hJ⟩⟩
end
end Go.Proofs.Ytpimnlgfhpnjnaa
