/- From the arguments' readings to the words of the walks: blocks, what is kept, writes, spans, snapshots. -/
import Derived.Test.YtcaimmbhdfoniaaIn
import Derived.Test.YtcaimmbhdfoniaaBlkT
import Derived.ChangeSame
namespace Go.Proofs.Ytcaimmbhdfoniaa
open Go Go.ChangeShapes Go.WideShapes Go.ChangeAt Go.RowKit Kf

-- OPEN S24 m,e,f,g,i b
-- OPEN S30 m,e b
-- OPEN S46 m,e,f b,g sized
-- OPEN T25 1
-- OPEN T22 1
-- OPEN T43 1
section
variable {H : Type} {enc : TypeId × Value → H} {W : World} {fuel : Nat} {cs : List Value} {x : DataW H × List MemPlace}
theorem blk_in (h : DataW.trod enc Try.prog W 0 (fun _ => true) true fuel 58 cs = some x) (hlen : cs.length = 2) : ∃ e : BV, cs = BV.c e ∧ Bytes W e.2 e.1.Data := by
  obtain ⟨_, _, q0⟩ := field_in Try.underlying58 h 0 rfl rfl rfl (c := 1) (by kernel_rfl)
  obtain ⟨_, _, q1⟩ := field_in Try.underlying58 h 1 rfl rfl rfl (c := 1) (by kernel_rfl)
  match cs, hlen with
  | [a, b], _ =>
    obtain ⟨_, h0, _⟩ := int_in Try.underlying3 q0
    obtain ⟨v, l, h1, hb⟩ := bytes_in Try.underlying34 Try.underlying5 (by kernel_rfl) q1
    simp at h0 h1
    subst h0 h1
    exact ⟨(⟨_, l⟩, _), rfl, hb⟩
theorem wr_in (h : DataW.trod enc Try.prog W 0 (fun _ => true) true fuel 46 cs = some x) (hlen : cs.length = 2) : ∃ e : BV, cs = BV.c e ∧ Bytes W e.2 e.1.Data := by
  obtain ⟨_, _, q0⟩ := field_in Try.underlying46 h 0 rfl rfl rfl (c := 1) (by kernel_rfl)
  obtain ⟨_, _, q1⟩ := field_in Try.underlying46 h 1 rfl rfl rfl (c := 1) (by kernel_rfl)
  match cs, hlen with
  | [a, b], _ =>
    obtain ⟨_, h0, _⟩ := int_in Try.underlying3 q0
    obtain ⟨v, l, h1, hb⟩ := bytes_in Try.underlying34 Try.underlying5 (by kernel_rfl) q1
    simp at h0 h1
    subst h0 h1
    exact ⟨(⟨_, l⟩, _), rfl, hb⟩
theorem kep_in (h : DataW.trod enc Try.prog W 0 (fun _ => true) true fuel 61 cs = some x) (hlen : cs.length = 3) : ∃ e : KV, cs = KV.c e ∧ Bytes W e.2 e.1.Data := by
  obtain ⟨_, _, q0⟩ := field_in Try.underlying61 h 0 rfl rfl rfl (c := 1) (by kernel_rfl)
  obtain ⟨_, _, q1⟩ := field_in Try.underlying61 h 1 rfl rfl rfl (c := 1) (by kernel_rfl)
  obtain ⟨_, _, q2⟩ := field_in Try.underlying61 h 2 rfl rfl rfl (c := 1) (by kernel_rfl)
  match cs, hlen with
  | [a, b, c], _ =>
    obtain ⟨_, h0, _⟩ := int_in Try.underlying3 q0
    obtain ⟨_, h1, _⟩ := int_in Try.underlying3 q1
    obtain ⟨v, l, h2, hb⟩ := bytes_in Try.underlying34 Try.underlying5 (by kernel_rfl) q2
    simp at h0 h1 h2
    subst h0 h1 h2
    exact ⟨(⟨_, _, l⟩, _), rfl, hb⟩
end
section
variable {H : Type} {enc : TypeId × Value → H} {W : World} {v : Value} {d : DataW H} {p : List MemPlace}
theorem open_T25 (h : DataW.Trod enc Try.prog W 0 (fun _ => true) true 25 v d p) (hw : ∃ a n c, v = .slice a n c) : ∃ l, Bls W v l := by
  obtain ⟨fuel, hf⟩ := h
  obtain ⟨a, n, c, rfl⟩ := hw
  obtain ⟨v', l, hv, ⟨cs, hr, h⟩, _⟩ := slice_in (R := fun w cs (e : BV) => cs = BV.c e ∧ Bytes w e.2 e.1.Data) (fun _ _ _ h hl => blk_in h hl) Try.underlying25 (by kernel_rfl) (by decide) hf
  simp [Value.cells] at hv
  subst hv
  refine ⟨l.map Prod.fst, l, rfl, ?_, fun e he => ?_⟩
  · rw [flat_of_el (fun e => (BV.c_len e).2) hr.len (fun k hk => (h k hk).1)] at hr
    exact hr
  · obtain ⟨k, hk, rfl⟩ := List.getElem_of_mem he
    exact (h k hk).2
theorem open_T43 (h : DataW.Trod enc Try.prog W 0 (fun _ => true) true 43 v d p) (hw : ∃ a n c, v = .slice a n c) : ∃ l, Bls W v l := by
  obtain ⟨fuel, hf⟩ := h
  obtain ⟨a, n, c, rfl⟩ := hw
  obtain ⟨v', l, hv, ⟨cs, hr, h⟩, _⟩ := slice_in (R := fun w cs (e : BV) => cs = BV.c e ∧ Bytes w e.2 e.1.Data) (fun _ _ _ h hl => wr_in h hl) Try.underlying43 (by kernel_rfl) (by decide) hf
  simp [Value.cells] at hv
  subst hv
  refine ⟨l.map Prod.fst, l, rfl, ?_, fun e he => ?_⟩
  · rw [flat_of_el (fun e => (BV.c_len e).2) hr.len (fun k hk => (h k hk).1)] at hr
    exact hr
  · obtain ⟨k, hk, rfl⟩ := List.getElem_of_mem he
    exact (h k hk).2
theorem open_T22 (h : DataW.Trod enc Try.prog W 0 (fun _ => true) true 22 v d p) (hw : ∃ a n c, v = .slice a n c) : ∃ l, Kps W v l := by
  obtain ⟨fuel, hf⟩ := h
  obtain ⟨a, n, c, rfl⟩ := hw
  obtain ⟨v', l, hv, ⟨cs, hr, h⟩, _⟩ := slice_in (R := fun w cs (e : KV) => cs = KV.c e ∧ Bytes w e.2 e.1.Data) (fun _ _ _ h hl => kep_in h hl) Try.underlying22 (by kernel_rfl) (by decide) hf
  simp [Value.cells] at hv
  subst hv
  refine ⟨l.map Prod.fst, l, rfl, ?_, fun e he => ?_⟩
  · rw [flat_of_el (fun e => (KV.c_len e).2) hr.len (fun k hk => (h k hk).1)] at hr
    exact hr
  · obtain ⟨k, hk, rfl⟩ := List.getElem_of_mem he
    exact (h k hk).2
theorem open_S30 {cs : Array Value} (h : DataW.Trod enc Try.prog W 0 (fun _ => true) true 30 (.agg cs) d p) (hc : cs.size = Try.prog.cellsOf 30) : ∃ (m e : Int), cs = [i64 m, i64 e].toArray ∧ True := by
  obtain ⟨fuel, h⟩ := h
  have h2 : Try.prog.cellsOf 30 = 2 := by kernel_rfl
  obtain ⟨_, _, q0⟩ := field_in Try.underlying30 h 0 rfl rfl rfl (c := 1) (by kernel_rfl)
  obtain ⟨_, _, q1⟩ := field_in Try.underlying30 h 1 rfl rfl rfl (c := 1) (by kernel_rfl)
  obtain ⟨cl, rfl⟩ : ∃ cl : List Value, cs = cl.toArray := ⟨cs.toList, by simp⟩
  match cl, (show cl.length = 2 by simpa [h2] using hc) with
  | [a, b], _ =>
    obtain ⟨_, h0, _⟩ := int_in Try.underlying3 q0
    obtain ⟨_, h1, _⟩ := int_in Try.underlying3 q1
    simp [Value.cells] at h0 h1
    subst h0 h1
    exact ⟨_, _, rfl, trivial⟩
theorem open_S24 {cs : Array Value} (h : DataW.Trod enc Try.prog W 0 (fun _ => true) true 24 (.agg cs) d p) (hc : cs.size = Try.prog.cellsOf 24) : ∃ (m e f g i : Int), cs = [i64 m, i64 e, i64 f, i64 g, i64 i].toArray ∧ True := by
  obtain ⟨fuel, h⟩ := h
  have h2 : Try.prog.cellsOf 24 = 5 := by kernel_rfl
  obtain ⟨_, _, q0⟩ := field_in Try.underlying24 h 0 rfl rfl rfl (c := 1) (by kernel_rfl)
  obtain ⟨_, _, q1⟩ := field_in Try.underlying24 h 1 rfl rfl rfl (c := 1) (by kernel_rfl)
  obtain ⟨_, _, q2⟩ := field_in Try.underlying24 h 2 rfl rfl rfl (c := 1) (by kernel_rfl)
  obtain ⟨_, _, q3⟩ := field_in Try.underlying24 h 3 rfl rfl rfl (c := 1) (by kernel_rfl)
  obtain ⟨_, _, q4⟩ := field_in Try.underlying24 h 4 rfl rfl rfl (c := 1) (by kernel_rfl)
  obtain ⟨cl, rfl⟩ : ∃ cl : List Value, cs = cl.toArray := ⟨cs.toList, by simp⟩
  match cl, (show cl.length = 5 by simpa [h2] using hc) with
  | [a, b, c, d, e], _ =>
    obtain ⟨_, h0, _⟩ := int_in Try.underlying3 q0
    obtain ⟨_, h1, _⟩ := int_in Try.underlying3 q1
    obtain ⟨_, h2, _⟩ := int_in Try.underlying3 q2
    obtain ⟨_, h3, _⟩ := int_in Try.underlying3 q3
    obtain ⟨_, h4, _⟩ := int_in Try.underlying3 q4
    simp [Value.cells] at h0 h1 h2 h3 h4
    subst h0 h1 h2 h3 h4
    exact ⟨_, _, _, _, _, rfl, trivial⟩
theorem open_S46 {cs : Array Value} (h : DataW.Trod enc Try.prog W 0 (fun _ => true) true 46 (.agg cs) d p) (hc : cs.size = Try.prog.cellsOf 46) (hs : ∀ n ∈ d.weights Try.prog 46, n ≤ reachBytes) : ∃ (m : Int) (e : Value) (f : List UInt8), cs = [i64 m, e].toArray ∧ Bytes W e f ∧ f.length ≤ 140737488351232 := by
  obtain ⟨fuel, h⟩ := h
  have h2 : Try.prog.cellsOf 46 = 2 := by kernel_rfl
  have hc34 : Try.prog.cellsOf 34 = 1 := by kernel_rfl
  have hc3 : Try.prog.cellsOf 3 = 1 := by kernel_rfl
  obtain ⟨y0, y1, n, hx, _, q0, q1⟩ := Go.ChangeShapes.trod_struct2 Try.underlying46 h
  obtain ⟨cl, rfl⟩ : ∃ cl : List Value, cs = cl.toArray := ⟨cs.toList, by simp⟩
  match cl, (show cl.length = 2 by simpa [h2] using hc) with
  | [a, b], _ =>
    obtain ⟨_, h0, _⟩ := int_in Try.underlying3 q0
    obtain ⟨v, l, h1, hb, hw⟩ := bytes_inS Try.underlying34 Try.underlying5 (by kernel_rfl) (by kernel_rfl) q1
    simp [Value.cells, hc3, hc34] at h0 h1
    subst h0 h1
    refine ⟨_, _, l, rfl, hb, Nat.le_trans (hw reachBytes fun n hn => hs n ?_) (by decide)⟩
    have hd : d = .agg [y0.1, y1.1] := congrArg Prod.fst hx
    rw [hd]
    simp only [DataW.weights, Try.underlying46]
    exact DataW.weights_mem_each (j := 1) rfl rfl n hn
end
end Go.Proofs.Ytcaimmbhdfoniaa
