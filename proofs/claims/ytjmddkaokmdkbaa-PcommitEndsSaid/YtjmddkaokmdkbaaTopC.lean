/- From the arguments' readings to the words of the walks: deals and moves. -/
import Derived.Test.YtjmddkaokmdkbaaOpen
import Derived.Test.YtjmddkaokmdkbaaIn
import Derived.Test.YtjmddkaokmdkbaaLo
namespace Go.Proofs.Ytjmddkaokmdkbaa
open Go Go.ChangeShapes Go.WideShapes Go.ChangeAt Go.RowKit Kf
set_option maxRecDepth 20000

-- OPEN T56 1
-- OPEN S55 a,b,c u
def Rg64 (n : Int) : Prop := -9223372036854775808 ≤ n ∧ n ≤ 9223372036854775807
section
variable {H : Type} {enc : TypeId × Value → H} {W : World} {fuel : Nat} {cs : List Value} {x : DataW H × List MemPlace}
theorem mq_in (h : DataW.trod enc Try.prog W 0 (fun _ => true) true fuel 66 cs = some x) (hlen : cs.length = 2) : ∃ a : Mq, cs = a.c ∧ Rg64 a.K ∧ Rg64 a.A := by
  obtain ⟨_, _, q0⟩ := field_in Try.underlying66 h 0 rfl rfl rfl (c := 1) (by kernel_rfl)
  obtain ⟨_, _, q1⟩ := field_in Try.underlying66 h 1 rfl rfl rfl (c := 1) (by kernel_rfl)
  match cs, hlen with
  | [a, b], _ =>
    obtain ⟨n0, h0, r0⟩ := int_in Try.underlying3 q0
    obtain ⟨n1, h1, r1⟩ := int_in Try.underlying3 q1
    simp at h0 h1
    subst h0 h1
    exact ⟨⟨n0, n1⟩, rfl, r0, r1⟩
end
section
variable {H : Type} {enc : TypeId × Value → H} {W : World} {v : Value} {d : DataW H} {p : List MemPlace}
theorem open_T56 (h : DataW.Trod enc Try.prog W 0 (fun _ => true) true 56 v d p) (hw : ∃ a n c, v = .slice a n c) : ∃ l, Mqs W v l ∧ MqIn l := by
  obtain ⟨fuel, hf⟩ := h
  obtain ⟨a, n, c, rfl⟩ := hw
  obtain ⟨v', l, hv, ⟨cs, hr, h⟩, _⟩ := slice_in (R := fun _ cs (a : Mq) => cs = a.c ∧ Rg64 a.K ∧ Rg64 a.A) (fun _ _ _ h hl => mq_in h hl) Try.underlying56 (by kernel_rfl) (by decide) hf
  simp [Value.cells] at hv
  subst hv
  refine ⟨l, ?_, fun m hm => ?_⟩
  · have e : cs = l.flatMap Mq.c := by
      have hl := hr.len
      apply List.ext_getElem?
      intro i
      by_cases hi : i < l.length * 2
      · have hk : i / 2 < l.length := by omega
        have e1 := el_get (h (i / 2) hk).1 (i % 2) (by omega)
        have e2 := flat_get Mq.c_len hk (off := i % 2) (by omega)
        rw [show i / 2 * 2 + i % 2 = i by omega] at e1 e2
        rw [e1, e2]
      · rw [List.getElem?_eq_none (by omega), List.getElem?_eq_none (by rw [flat_len Mq.c_len]; omega)]
    rw [e] at hr
    exact hr
  · obtain ⟨i, hi, rfl⟩ := List.mem_iff_getElem.1 hm
    exact (h i hi).2
theorem open_S55 {cs : Array Value} (h : DataW.Trod enc Try.prog W 0 (fun _ => true) true 55 (.agg cs) d p) (hc : cs.size = Try.prog.cellsOf 55) : ∃ (a b c : Int), cs = [i64 a, i64 b, i64 c].toArray ∧ Rg64 a ∧ Rg64 b ∧ Rg64 c := by
  obtain ⟨fuel, h⟩ := h
  have h4 : Try.prog.cellsOf 55 = 3 := by kernel_rfl
  have hc3 : Try.prog.cellsOf 3 = 1 := by kernel_rfl
  obtain ⟨xs, n, _, hx, _, hxl, hf⟩ := DataW.trod_struct Try.underlying55 h
  obtain ⟨cl, rfl⟩ : ∃ cl : List Value, cs = cl.toArray := ⟨cs.toList, by simp⟩
  match cl, (show cl.length = 3 by simpa [h4] using hc), xs, (show xs.length = 3 from hxl) with
  | [a, b, c], _, [y0, y1, y2], _ =>
    have q0 := hf 0 _ rfl
    have q1 := hf 1 _ rfl
    have q2 := hf 2 _ rfl
    obtain ⟨n0, h0, r0⟩ := int_in Try.underlying3 q0
    obtain ⟨n1, h1, r1⟩ := int_in Try.underlying3 q1
    obtain ⟨n2, h2, r2⟩ := int_in Try.underlying3 q2
    simp [Value.cells, hc3] at h0 h1 h2
    subst h0 h1 h2
    exact ⟨n0, n1, n2, rfl, r0, r1, r2⟩
end
theorem pcommitOne_walk (a b c : Int) (vl : Value) (l : List Mq) (w : World) (r : Rg64 a ∧ Rg64 b ∧ Rg64 c) (h : Mqs w vl l ∧ MqIn l) : FnOk Try.prog 5 [agg [i64 a, i64 b, i64 c], vl] w (fun r w' => r = .bool true ∧ Ext w w') :=
  one_walk lawOne a b c vl l w r.1 r.2.1 r.2.2 h.1 h.2
end Go.Proofs.Ytjmddkaokmdkbaa
