/- From the arguments' readings to the words of the walks: votes, messages, rounds. -/
import Derived.Test.YtgbkgkicgaikdaaOpen
import Derived.Test.YtgbkgkicgaikdaaAccL
namespace Go.Proofs.Ytgbkgkicgaikdaa
open Go Go.ChangeShapes Go.WideShapes Go.ChangeAt Go.RowKit Kf

-- OPEN S26 m,e,q a,b,c
-- OPEN T30 2
section
variable {H : Type} {enc : TypeId × Value → H} {W : World} {fuel : Nat} {cs : List Value} {x : DataW H × List MemPlace}
theorem int_in {t : TypeId} (ht : Try.prog.underlying t = some (.int .i64)) (h : DataW.trod enc Try.prog W 0 (fun _ => true) true fuel t cs = some x) : ∃ n : Int, cs = [i64 n] ∧ (-9223372036854775808 ≤ n ∧ n ≤ 9223372036854775807) := by
  obtain ⟨k, hk, _, hw⟩ := DataW.trod_int ht h
  exact ⟨k, hk, i64_of_wf hw⟩
theorem acc_in (h : DataW.trod enc Try.prog W 0 (fun _ => true) true fuel 37 cs = some x) (hlen : cs.length = 5) : ∃ a : Acc, cs = a.c := by
  obtain ⟨_, _, q0⟩ := field_in Try.underlying37 h 0 rfl rfl rfl (c := 1) (by kernel_rfl)
  obtain ⟨_, _, q1⟩ := field_in Try.underlying37 h 1 rfl rfl rfl (c := 1) (by kernel_rfl)
  obtain ⟨_, _, q2⟩ := field_in Try.underlying37 h 2 rfl rfl rfl (c := 1) (by kernel_rfl)
  obtain ⟨_, _, q3⟩ := field_in Try.underlying37 h 3 rfl rfl rfl (c := 1) (by kernel_rfl)
  obtain ⟨_, _, q4⟩ := field_in Try.underlying37 h 4 rfl rfl rfl (c := 1) (by kernel_rfl)
  match cs, hlen with
  | [a, b, c, d, e], _ =>
    obtain ⟨_, h0, _⟩ := int_in Try.underlying3 q0
    obtain ⟨_, h1, _⟩ := int_in Try.underlying3 q1
    obtain ⟨_, h2, _⟩ := int_in Try.underlying3 q2
    obtain ⟨_, h3, _⟩ := int_in Try.underlying3 q3
    obtain ⟨_, h4, _⟩ := int_in Try.underlying3 q4
    simp at h0 h1 h2 h3 h4
    subst h0 h1 h2 h3 h4
    exact ⟨⟨_, _, _, _, _⟩, rfl⟩
theorem ent_in (h : DataW.trod enc Try.prog W 0 (fun _ => true) true fuel 66 cs = some x) (hlen : cs.length = 3) : ∃ e : Ent, EntR W cs e := by
  obtain ⟨_, _, q0⟩ := field_in Try.underlying66 h 0 rfl rfl rfl (c := 1) (by kernel_rfl)
  obtain ⟨_, _, q1⟩ := field_in Try.underlying66 h 1 rfl rfl rfl (c := 1) (by kernel_rfl)
  obtain ⟨_, _, q2⟩ := field_in Try.underlying66 h 2 rfl rfl rfl (c := 1) (by kernel_rfl)
  match cs, hlen with
  | [a, b, c], _ =>
    obtain ⟨_, h0, _⟩ := int_in Try.underlying3 q0
    obtain ⟨_, h1, _⟩ := int_in Try.underlying3 q1
    obtain ⟨v, l, h2, hb⟩ := bytes_in Try.underlying24 Try.underlying5 (by kernel_rfl) q2
    simp at h0 h1 h2
    subst h0 h1 h2
    exact ⟨⟨_, _, l⟩, c, rfl, hb⟩
theorem bool_in {t : TypeId} (ht : Try.prog.underlying t = some .bool) (h : DataW.trod enc Try.prog W 0 (fun _ => true) true fuel t cs = some x) : ∃ b : Bool, cs = [.bool b] := by
  obtain ⟨k, hk, _⟩ := DataW.trod_bool ht h
  exact ⟨k, hk⟩
theorem msg_in (h : DataW.trod enc Try.prog W 0 (fun _ => true) true fuel 26 cs = some x) (hlen : cs.length = 17) : ∃ m : Msg, MsgR W cs m ∧ In64 m.ints := by
  obtain ⟨_, _, q0⟩ := field_in Try.underlying26 h 0 rfl rfl rfl (c := 1) (by kernel_rfl)
  obtain ⟨_, _, q1⟩ := field_in Try.underlying26 h 1 rfl rfl rfl (c := 1) (by kernel_rfl)
  obtain ⟨_, _, q2⟩ := field_in Try.underlying26 h 2 rfl rfl rfl (c := 1) (by kernel_rfl)
  obtain ⟨_, _, q3⟩ := field_in Try.underlying26 h 3 rfl rfl rfl (c := 1) (by kernel_rfl)
  obtain ⟨_, _, q4⟩ := field_in Try.underlying26 h 4 rfl rfl rfl (c := 1) (by kernel_rfl)
  obtain ⟨_, _, q5⟩ := field_in Try.underlying26 h 5 rfl rfl rfl (c := 1) (by kernel_rfl)
  obtain ⟨_, _, q6⟩ := field_in Try.underlying26 h 6 rfl rfl rfl (c := 1) (by kernel_rfl)
  obtain ⟨_, _, q7⟩ := field_in Try.underlying26 h 7 rfl rfl rfl (c := 1) (by kernel_rfl)
  obtain ⟨_, _, q8⟩ := field_in Try.underlying26 h 8 rfl rfl rfl (c := 1) (by kernel_rfl)
  obtain ⟨_, _, q9⟩ := field_in Try.underlying26 h 9 rfl rfl rfl (c := 1) (by kernel_rfl)
  obtain ⟨_, _, q10⟩ := field_in Try.underlying26 h 10 rfl rfl rfl (c := 1) (by kernel_rfl)
  obtain ⟨_, _, q11⟩ := field_in Try.underlying26 h 11 rfl rfl rfl (c := 1) (by kernel_rfl)
  obtain ⟨_, _, q12⟩ := field_in Try.underlying26 h 12 rfl rfl rfl (c := 1) (by kernel_rfl)
  obtain ⟨_, _, q13⟩ := field_in Try.underlying26 h 13 rfl rfl rfl (c := 1) (by kernel_rfl)
  obtain ⟨_, _, q14⟩ := field_in Try.underlying26 h 14 rfl rfl rfl (c := 1) (by kernel_rfl)
  obtain ⟨_, _, q15⟩ := field_in Try.underlying26 h 15 rfl rfl rfl (c := 1) (by kernel_rfl)
  obtain ⟨_, _, q16⟩ := field_in Try.underlying26 h 16 rfl rfl rfl (c := 1) (by kernel_rfl)
  match cs, hlen with
  | [a0, a1, a2, a3, a4, a5, a6, a7, a8, a9, a10, a11, a12, a13, a14, a15, a16], _ =>
    obtain ⟨n0, h0, w0⟩ := int_in Try.underlying3 q0
    obtain ⟨n1, h1, w1⟩ := int_in Try.underlying3 q1
    obtain ⟨n2, h2, w2⟩ := int_in Try.underlying3 q2
    obtain ⟨n3, h3, w3⟩ := int_in Try.underlying3 q3
    obtain ⟨n4, h4, w4⟩ := int_in Try.underlying3 q4
    obtain ⟨n5, h5, w5⟩ := int_in Try.underlying3 q5
    obtain ⟨n6, h6, w6⟩ := int_in Try.underlying3 q6
    obtain ⟨n7, h7, w7⟩ := int_in Try.underlying3 q7
    obtain ⟨n8, h8, w8⟩ := int_in Try.underlying3 q8
    obtain ⟨n9, h9, w9⟩ := int_in Try.underlying3 q9
    obtain ⟨n10, h10, w10⟩ := int_in Try.underlying3 q10
    obtain ⟨n11, h11, w11⟩ := int_in Try.underlying3 q11
    obtain ⟨n12, h12, w12⟩ := int_in Try.underlying3 q12
    obtain ⟨n13, h13, w13⟩ := int_in Try.underlying3 q13
    obtain ⟨b, h14⟩ := bool_in Try.underlying4 q14
    obtain ⟨ve, le, h15, he, _⟩ := slice_in (R := EntR) (fun _ _ _ h hl => ent_in h hl) Try.underlying23 (by kernel_rfl) (by decide) q15
    obtain ⟨vd, ld, h16, hd⟩ := bytes_in Try.underlying24 Try.underlying5 (by kernel_rfl) q16
    simp at h0 h1 h2 h3 h4 h5 h6 h7 h8 h9 h10 h11 h12 h13 h14 h15 h16
    subst h0 h1 h2 h3 h4 h5 h6 h7 h8 h9 h10 h11 h12 h13 h14 h15 h16
    refine ⟨⟨n0, n1, n2, n3, n4, n5, n6, n7, n8, n9, n10, n11, n12, n13, b, le, ld⟩, ⟨a15, a16, rfl, he, hd⟩, ?_⟩
    simp only [Msg.ints, in64_cons]
    exact ⟨w0, w1, w2, w3, w4, w5, w6, w7, w8, w9, w10, w11, w12, w13, in64_nil'⟩
end
section
variable {H : Type} {enc : TypeId × Value → H} {W : World} {v : Value} {d : DataW H} {p : List MemPlace}
theorem open_T22 (h : DataW.Trod enc Try.prog W 0 (fun _ => true) true 22 v d p) (hw : ∃ a n c, v = .slice a n c) : ∃ l, Votes W v l := by
  obtain ⟨fuel, hf⟩ := h
  obtain ⟨a, n, c, rfl⟩ := hw
  obtain ⟨v', l, hv, ⟨cs, hr, h⟩, _⟩ := slice_in (R := fun _ cs (a : Acc) => cs = a.c) (fun _ _ _ h hl => acc_in h hl) Try.underlying22 (by kernel_rfl) (by decide) hf
  simp [Value.cells] at hv
  subst hv
  refine ⟨l, ?_⟩
  have e : cs = l.flatMap Acc.c := by
    have hl := hr.len
    apply List.ext_getElem?
    intro i
    by_cases hi : i < l.length * 5
    · have hk : i / 5 < l.length := by omega
      have e1 := el_get (h (i / 5) hk) (i % 5) (by omega)
      have e2 := Votes.get hk (off := i % 5) (by omega)
      rw [show i / 5 * 5 + i % 5 = i by omega] at e1 e2
      rw [e1, e2]
    · rw [List.getElem?_eq_none (by omega), List.getElem?_eq_none (by rw [flat_len Acc.c_len]; omega)]
  rw [e] at hr
  exact hr
theorem open_T30 (h : DataW.Trod enc Try.prog W 0 (fun _ => true) true 30 v d p) (hw : ∃ a n c, v = .slice a n c) : ∃ l, Msgs W v l ∧ ∀ m ∈ l, In64 m.ints := by
  obtain ⟨fuel, hf⟩ := h
  obtain ⟨a, n, c, rfl⟩ := hw
  obtain ⟨v', l, hv, ⟨cs, hr, h⟩, _⟩ := slice_in (R := fun w cs (m : Msg) => MsgR w cs m ∧ In64 m.ints) (fun _ _ _ h hl => msg_in h hl) Try.underlying30 (by kernel_rfl) (by decide) hf
  simp [Value.cells] at hv
  subst hv
  refine ⟨l, ⟨cs, hr, fun k hk => (h k hk).1⟩, fun m hm => ?_⟩
  obtain ⟨k, hk, rfl⟩ := List.getElem_of_mem hm
  exact (h k hk).2
theorem open_S26 {cs : Array Value} (h : DataW.Trod enc Try.prog W 0 (fun _ => true) true 26 (.agg cs) d p) (hc : cs.size = Try.prog.cellsOf 26) : ∃ (m : Msg) (e d : Value), cs = (m.c e d).toArray ∧ Ents W e m.Entries ∧ Bytes W d m.Data ∧ In64 m.ints := by
  obtain ⟨fuel, hf⟩ := h
  have h17 : Try.prog.cellsOf 26 = 17 := by kernel_rfl
  obtain ⟨m, ⟨e, d, h1, h2, h3⟩, h4⟩ := msg_in hf (by simp [Value.cells]; omega)
  refine ⟨m, e, d, ?_, h2, h3, h4⟩
  rw [← h1]; simp [Value.cells]
end
end Go.Proofs.Ytgbkgkicgaikdaa
