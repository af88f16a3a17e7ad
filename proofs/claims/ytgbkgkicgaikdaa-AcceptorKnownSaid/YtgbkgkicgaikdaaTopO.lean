/- From the arguments' readings to the words of the walks: rounds. -/
import Derived.Test.YtgbkgkicgaikdaaTopA
import Derived.Test.YtgbkgkicgaikdaaOne
namespace Go.Proofs.Ytgbkgkicgaikdaa
open Go Go.ChangeShapes Go.WideShapes Go.ChangeAt Go.RowKit Kf

theorem u8_bounds {n : Int} (h : (Lit.int .u8 n).wf = true) : 0 ≤ n ∧ n ≤ 255 := by
  have h1 : IntKind.u8.min = 0 := rfl
  have h2 : IntKind.u8.max = 255 := rfl
  simp only [Lit.wf, Bool.and_eq_true, decide_eq_true_eq] at h
  omega
-- OPEN T42 1
section
variable {H : Type} {enc : TypeId × Value → H} {W : World} {fuel : Nat} {cs : List Value} {x : DataW H × List MemPlace}
theorem u8_in {t : TypeId} (ht : Try.prog.underlying t = some (.int .u8)) (h : DataW.trod enc Try.prog W 0 (fun _ => true) true fuel t cs = some x) : ∃ n : Int, cs = [.int .u8 n] := by
  obtain ⟨k, hk, _, hw⟩ := DataW.trod_int ht h
  exact ⟨k, hk⟩
theorem rnd_in (h : DataW.trod enc Try.prog W 0 (fun _ => true) true fuel 49 cs = some x) (hlen : cs.length = 3) : ∃ a : Rnd, cs = a.c := by
  obtain ⟨_, _, q0⟩ := field_in Try.underlying49 h 0 rfl rfl rfl (c := 1) (by kernel_rfl)
  obtain ⟨_, _, q1⟩ := field_in Try.underlying49 h 1 rfl rfl rfl (c := 1) (by kernel_rfl)
  obtain ⟨_, _, q2⟩ := field_in Try.underlying49 h 2 rfl rfl rfl (c := 1) (by kernel_rfl)
  match cs, hlen with
  | [a, b, c], _ =>
    obtain ⟨_, h0⟩ := u8_in Try.underlying5 q0
    obtain ⟨_, h1⟩ := u8_in Try.underlying5 q1
    obtain ⟨_, h2⟩ := bool_in Try.underlying4 q2
    simp at h0 h1 h2
    subst h0 h1 h2
    exact ⟨⟨_, _, _⟩, rfl⟩
end
section
variable {H : Type} {enc : TypeId × Value → H} {W : World} {v : Value} {d : DataW H} {p : List MemPlace}
theorem open_T42 (h : DataW.Trod enc Try.prog W 0 (fun _ => true) true 42 v d p) (hw : ∃ a n c, v = .slice a n c) : ∃ l, Rnds W v l := by
  obtain ⟨fuel, hf⟩ := h
  obtain ⟨a, n, c, rfl⟩ := hw
  obtain ⟨v', l, hv, ⟨cs, hr, h⟩, _⟩ := slice_in (R := fun _ cs (a : Rnd) => cs = a.c) (fun _ _ _ h hl => rnd_in h hl) Try.underlying42 (by kernel_rfl) (by decide) hf
  simp [Value.cells] at hv
  subst hv
  refine ⟨l, ?_⟩
  have e : cs = l.flatMap Rnd.c := by
    have hl := hr.len
    apply List.ext_getElem?
    intro i
    by_cases hi : i < l.length * 3
    · have hk : i / 3 < l.length := by omega
      have e1 := el_get (h (i / 3) hk) (i % 3) (by omega)
      have e2 := Rnds.get hk (off := i % 3) (by omega)
      rw [show i / 3 * 3 + i % 3 = i by omega] at e1 e2
      rw [e1, e2]
    · rw [List.getElem?_eq_none (by omega), List.getElem?_eq_none (by rw [flat_len Rnd.c_len]; omega)]
  rw [e] at hr
  exact hr
end
end Go.Proofs.Ytgbkgkicgaikdaa
