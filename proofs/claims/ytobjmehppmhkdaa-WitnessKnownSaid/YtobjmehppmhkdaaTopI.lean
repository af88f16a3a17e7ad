/- From the arguments' readings to the words of the walks: lists of numbers. -/
import Derived.Test.YtobjmehppmhkdaaTop
import Derived.Test.YtobjmehppmhkdaaStr
namespace Go.Proofs.Ytobjmehppmhkdaa.Kf
open Go Go.ChangeShapes Go.WideShapes Go.ChangeAt Go.RowKit

/-- A slice of numbers that came in. -/
theorem open_i64s {H : Type} {enc : TypeId × Value → H} {P : Program} {W : World} {T e : TypeId} {a : Option Addr} {len cap : Nat} {d : DataW H} {p : List MemPlace} {ts : List TypeId} {ds : List (DataW H)} {j : Nat}
    (ht : P.underlying T = some (.slice e)) (he : P.underlying e = some (.int .i64)) (hc : P.cellsOf e = 1) (hb : P.bytesOf e = 8) (h : DataW.Trod enc P W 0 (fun _ => true) true T (.slice a len cap) d p)
    (hsz : (DataW.weightsEach P ts ds).all (· ≤ reachBytes) = true) (hts : ts[j]? = some T) (hds : ds[j]? = some d) : ∃ l : List Int, Ints W (.slice a len cap) l ∧ In64 l ∧ l.length ≤ 17592186043904 := by
  obtain ⟨fuel, hf⟩ := h
  rcases open_ints ht he hc hf with ⟨hcs, _⟩ | ⟨x, l, c, zs, hcs, _, hl, hm, hz, hx, hcell, hwz⟩
  · simp [Value.cells] at hcs
    obtain ⟨rfl, rfl, rfl⟩ := hcs
    exact ⟨[], Ints.nil W, fun x hx => by simp at hx, by simp⟩
  · simp [Value.cells] at hcs
    obtain ⟨rfl, rfl, rfl⟩ := hcs
    simp only [Prod.mk.injEq] at hx
    obtain ⟨rfl, _⟩ := hx
    simp only [if_true] at hz
    have hr := sized_slice hsz hts hds ht
    rw [hb] at hr
    simp only [lits, List.length_map, List.length_take, List.length_drop, reachBytes] at hr
    refine ⟨zs.take len, ?_, fun x hx => i64_of_wf (hwz x (List.mem_of_mem_take hx)), by simp; omega⟩
    have hlen : (zs.take len).length = len := by simp; omega
    refine ⟨⟨_, _, by rw [hlen], by omega, hm, fun h0 => ?_⟩, by simp, ?_⟩
    · obtain ⟨b, o, spot⟩ := x
      have hc0 := hcell 0 (by omega)
      have : spot = none := by simpa [Addr.add] using World.cell?_spot hc0
      subst this
      exact ⟨b, o, rfl⟩
    · intro i u hu
      have hi : i < len := by
        have := (List.getElem?_eq_some_iff.1 hu).1
        simp at this; omega
      have hz' : i < zs.length := by omega
      simp only [List.getElem?_map, List.getElem?_take, if_pos hi, List.getElem?_eq_getElem hz', Option.map_some, Option.some.injEq] at hu
      rw [← hu]
      have hc' := hcell i hz'
      simp only [base]
      rw [hc']
      simp only [List.getD_eq_getElem?_getD, List.getElem?_eq_getElem hz', Option.getD_some, i64]
end Go.Proofs.Ytobjmehppmhkdaa.Kf
