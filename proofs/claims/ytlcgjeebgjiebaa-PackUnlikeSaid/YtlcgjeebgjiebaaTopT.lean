/- From the arguments' readings to the words of the walks: lists of things. -/
import Derived.Test.YtlcgjeebgjiebaaOpen
import Derived.Test.YtlcgjeebgjiebaaThg
import Derived.Test.YtlcgjeebgjiebaaPackL
namespace Go.Proofs.Ytlcgjeebgjiebaa
open Go Go.ChangeShapes Go.WideShapes Go.ChangeAt Go.RowKit Kf

/-- one thing's four cells -/
theorem thing_in {H : Type} {enc : TypeId × Value → H} {W : World} {fuel : Nat} {cs : List Value} {x : DataW H × List MemPlace}
    (h : DataW.trod enc Try.prog W 0 (fun _ => true) true fuel 55 cs = some x) (hlen : cs.length = 4) :
    ∃ (t : Thing) , ∃ vp vl, cs = [i64 t.kind, i64 t.v, vp, vl] ∧ Bytes W vp t.p ∧ Ints W vl t.l ∧ (-9223372036854775808 ≤ t.v ∧ t.v ≤ 9223372036854775807) ∧ In64 t.l := by
  obtain ⟨_, _, q0⟩ := field_in Try.underlying55 h 0 rfl rfl rfl (c := 1) (by kernel_rfl)
  obtain ⟨_, _, q1⟩ := field_in Try.underlying55 h 1 rfl rfl rfl (c := 1) (by kernel_rfl)
  obtain ⟨_, _, q2⟩ := field_in Try.underlying55 h 2 rfl rfl rfl (c := 1) (by kernel_rfl)
  obtain ⟨_, _, q3⟩ := field_in Try.underlying55 h 3 rfl rfl rfl (c := 1) (by kernel_rfl)
  match cs, hlen with
  | [a, b, c, d], _ =>
    obtain ⟨k, hk, _, _⟩ := DataW.trod_int Try.underlying3 q0
    obtain ⟨v, hv, _, hw⟩ := DataW.trod_int Try.underlying3 q1
    obtain ⟨vp, p, hp, hpb⟩ := bytes_in Try.underlying22 Try.underlying5 (by kernel_rfl) q2
    obtain ⟨vl, l, hl', hlb, hin⟩ := ints_in Try.underlying23 Try.underlying3 (by kernel_rfl) q3
    simp at hk hv hp hl'
    subst hk hv hp hl'
    exact ⟨⟨k, v, p, l⟩, c, d, rfl, hpb, hlb, i64_of_wf hw, hin⟩
theorem open_T45 {H : Type} {enc : TypeId × Value → H} {W : World} {v : Value} {d : DataW H} {p : List MemPlace} (h : DataW.Trod enc Try.prog W 0 (fun _ => true) true 45 v d p) (hw : ∃ a n c, v = .slice a n c) : ∃ l, Things W v l := by
  obtain ⟨fuel, hf⟩ := h
  obtain ⟨a, n, c, rfl⟩ := hw
  obtain ⟨v', l, hv, ⟨cs, hr, h⟩, _⟩ := slice_in (R := fun w cs (t : Thing) => ∃ vp vl, cs = [i64 t.kind, i64 t.v, vp, vl] ∧ Bytes w vp t.p ∧ Ints w vl t.l ∧ (-9223372036854775808 ≤ t.v ∧ t.v ≤ 9223372036854775807) ∧ In64 t.l)
    (fun _ _ _ h hl => thing_in h hl) Try.underlying45 (by kernel_rfl) (by decide) hf
  simp [Value.cells] at hv
  subst hv
  refine ⟨l, cs, hr, fun k hk => ?_⟩
  obtain ⟨vp, vl, he, h1, h2, h3, h4⟩ := h k hk
  exact ⟨vp, vl, by rw [el_get he 0 (by decide)]; rfl, by rw [el_get he 1 (by decide)]; rfl, by rw [el_get he 2 (by decide)]; rfl, by rw [el_get he 3 (by decide)]; rfl, h1, h2, h3, h4⟩
end Go.Proofs.Ytlcgjeebgjiebaa
