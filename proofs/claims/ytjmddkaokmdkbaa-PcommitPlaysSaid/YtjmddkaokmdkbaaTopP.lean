/- From the arguments' readings to the words of the walks: what a coordinator is made of, and what it is told. -/
import Derived.Test.YtjmddkaokmdkbaaOpen
import Derived.Test.YtjmddkaokmdkbaaIn
import Derived.Test.YtjmddkaokmdkbaaPcoP
namespace Go.Proofs.Ytjmddkaokmdkbaa
open Go Go.ChangeShapes Go.WideShapes Go.ChangeAt Go.RowKit Kf
set_option maxRecDepth 20000

-- OPEN T25 1
-- OPEN S24 m,t,a,v,l b,g sized
section
variable {H : Type} {enc : TypeId × Value → H} {W : World} {fuel : Nat} {cs : List Value} {x : DataW H × List MemPlace}
theorem ints_inS {P : Program} {T e : TypeId} (ht : P.underlying T = some (.slice e)) (he : P.underlying e = some (.int .i64)) (hc : P.cellsOf e = 1) (hb : P.bytesOf e = 8)
    (h : DataW.trod enc P W 0 (fun _ => true) true fuel T cs = some x) : ∃ (v : Value) (l : List Int), cs = [v] ∧ Ints W v l ∧ ∀ M, (∀ n ∈ x.1.weights P T, n ≤ M) → l.length * 8 ≤ M := by
  rcases open_ints ht he hc h with ⟨hcs, _⟩ | ⟨a, len, cap, zs, hcs, _, hl, hm, hz, hx, hcell, hwz⟩
  · exact ⟨_, [], hcs, Ints.nil W, fun M _ => Nat.zero_le _⟩
  · simp only [if_true] at hz
    have hlen : (zs.take len).length = len := by simp; omega
    refine ⟨_, zs.take len, hcs, ⟨⟨_, _, by rw [hlen], by omega, hm, fun h0 => ?_⟩, by simp, ?_⟩, fun M hM => ?_⟩
    · obtain ⟨b, o, spot⟩ := a
      have hc0 := hcell 0 (by omega)
      have : spot = none := by simpa [Addr.add] using World.cell?_spot hc0
      subst this
      exact ⟨b, o, rfl⟩
    · intro i u hu
      have hi : i < len := by
        have := (List.getElem?_eq_some_iff.1 hu).1
        simp at this; omega
      have hz' : i < zs.length := by omega
      simp only [List.getElem?_map, List.getElem?_take, if_pos hi, List.getElem?_eq_getElem hz', Option.map_some, Option.some.injEq] at hu
      rw [← hu]
      have hc' := hcell i hz'
      simp only [base]
      rw [hc']
      simp only [List.getD_eq_getElem?_getD, List.getElem?_eq_getElem hz', Option.getD_some, i64]
    · have h1 : x.1 = _ := congrArg Prod.fst hx
      have hq : ∀ n ∈ x.1.weights P T, n ≤ M := hM
      rw [h1] at hq
      simp only [DataW.weights, ht, hb] at hq
      have := hq _ (List.mem_cons_self)
      simp only [lits, List.length_map, List.length_take, List.length_drop] at this
      rw [hlen]
      omega
theorem msg_in (h : DataW.trod enc Try.prog W 0 (fun _ => true) true fuel 40 cs = some x) (hlen : cs.length = 17) : ∃ (m : Msg) (e d : Value), cs = m.c e d := by
  obtain ⟨_, _, q0⟩ := field_in Try.underlying40 h 0 rfl rfl rfl (c := 1) (by kernel_rfl)
  obtain ⟨_, _, q1⟩ := field_in Try.underlying40 h 1 rfl rfl rfl (c := 1) (by kernel_rfl)
  obtain ⟨_, _, q2⟩ := field_in Try.underlying40 h 2 rfl rfl rfl (c := 1) (by kernel_rfl)
  obtain ⟨_, _, q3⟩ := field_in Try.underlying40 h 3 rfl rfl rfl (c := 1) (by kernel_rfl)
  obtain ⟨_, _, q4⟩ := field_in Try.underlying40 h 4 rfl rfl rfl (c := 1) (by kernel_rfl)
  obtain ⟨_, _, q5⟩ := field_in Try.underlying40 h 5 rfl rfl rfl (c := 1) (by kernel_rfl)
  obtain ⟨_, _, q6⟩ := field_in Try.underlying40 h 6 rfl rfl rfl (c := 1) (by kernel_rfl)
  obtain ⟨_, _, q7⟩ := field_in Try.underlying40 h 7 rfl rfl rfl (c := 1) (by kernel_rfl)
  obtain ⟨_, _, q8⟩ := field_in Try.underlying40 h 8 rfl rfl rfl (c := 1) (by kernel_rfl)
  obtain ⟨_, _, q9⟩ := field_in Try.underlying40 h 9 rfl rfl rfl (c := 1) (by kernel_rfl)
  obtain ⟨_, _, q10⟩ := field_in Try.underlying40 h 10 rfl rfl rfl (c := 1) (by kernel_rfl)
  obtain ⟨_, _, q11⟩ := field_in Try.underlying40 h 11 rfl rfl rfl (c := 1) (by kernel_rfl)
  obtain ⟨_, _, q12⟩ := field_in Try.underlying40 h 12 rfl rfl rfl (c := 1) (by kernel_rfl)
  obtain ⟨_, _, q13⟩ := field_in Try.underlying40 h 13 rfl rfl rfl (c := 1) (by kernel_rfl)
  obtain ⟨_, _, q14⟩ := field_in Try.underlying40 h 14 rfl rfl rfl (c := 1) (by kernel_rfl)
  match cs, hlen with
  | [a0, a1, a2, a3, a4, a5, a6, a7, a8, a9, a10, a11, a12, a13, a14, a15, a16], _ =>
    obtain ⟨n0, h0, _⟩ := int_in Try.underlying3 q0
    obtain ⟨n1, h1, _⟩ := int_in Try.underlying3 q1
    obtain ⟨n2, h2, _⟩ := int_in Try.underlying3 q2
    obtain ⟨n3, h3, _⟩ := int_in Try.underlying3 q3
    obtain ⟨n4, h4, _⟩ := int_in Try.underlying3 q4
    obtain ⟨n5, h5, _⟩ := int_in Try.underlying3 q5
    obtain ⟨n6, h6, _⟩ := int_in Try.underlying3 q6
    obtain ⟨n7, h7, _⟩ := int_in Try.underlying3 q7
    obtain ⟨n8, h8, _⟩ := int_in Try.underlying3 q8
    obtain ⟨n9, h9, _⟩ := int_in Try.underlying3 q9
    obtain ⟨n10, h10, _⟩ := int_in Try.underlying3 q10
    obtain ⟨n11, h11, _⟩ := int_in Try.underlying3 q11
    obtain ⟨n12, h12, _⟩ := int_in Try.underlying3 q12
    obtain ⟨n13, h13, _⟩ := int_in Try.underlying3 q13
    obtain ⟨b, h14⟩ := bool_in Try.underlying4 q14
    simp at h0 h1 h2 h3 h4 h5 h6 h7 h8 h9 h10 h11 h12 h13 h14
    subst h0 h1 h2 h3 h4 h5 h6 h7 h8 h9 h10 h11 h12 h13 h14
    exact ⟨⟨n0, n1, n2, n3, n4, n5, n6, n7, n8, n9, n10, n11, n12, n13, b, [], []⟩, a15, a16, rfl⟩
theorem act_in (h : DataW.trod enc Try.prog W 0 (fun _ => true) true fuel 42 cs = some x) (hlen : cs.length = 19) : ∃ a : Act, ActR W cs a := by
  obtain ⟨_, _, q0⟩ := field_in Try.underlying42 h 0 rfl rfl rfl (c := 1) (by kernel_rfl)
  obtain ⟨_, _, q1⟩ := field_in Try.underlying42 h 1 rfl rfl rfl (c := 1) (by kernel_rfl)
  obtain ⟨_, _, q2⟩ := field_in Try.underlying42 h 2 rfl rfl rfl (c := 17) (by kernel_rfl)
  match cs, hlen with
  | a0 :: a1 :: l, hl =>
    obtain ⟨b, h0⟩ := bool_in Try.underlying4 q0
    obtain ⟨n, h1, _⟩ := int_in Try.underlying3 q1
    simp only [List.length_cons] at hl
    have e2 : ((a0 :: a1 :: l).drop 2).take 17 = l := List.take_of_length_le (by simp; omega)
    obtain ⟨m, e, d, hm⟩ := msg_in q2 (by show (((a0 :: a1 :: l).drop 2).take 17).length = 17; rw [e2]; omega)
    obtain rfl : l = m.c e d := e2.symm.trans hm
    simp at h0 h1
    subst h0 h1
    exact ⟨⟨b, n, m⟩, e, d, rfl⟩
end
section
variable {H : Type} {enc : TypeId × Value → H} {W : World} {v : Value} {d : DataW H} {p : List MemPlace}
theorem open_T25 (h : DataW.Trod enc Try.prog W 0 (fun _ => true) true 25 v d p) (hw : ∃ a n c, v = .slice a n c) : ∃ l, Acts W v l := by
  obtain ⟨fuel, hf⟩ := h
  obtain ⟨a, n, c, rfl⟩ := hw
  obtain ⟨v', l, hv, hr, _⟩ := slice_in (R := ActR) (fun _ _ _ h hl => act_in h hl) Try.underlying25 (by kernel_rfl) (by decide) hf
  simp [Value.cells] at hv
  subst hv
  exact ⟨l, hr⟩
theorem open_S24 {cs : Array Value} (h : DataW.Trod enc Try.prog W 0 (fun _ => true) true 24 (.agg cs) d p) (hc : cs.size = Try.prog.cellsOf 24) (hs : ∀ n ∈ d.weights Try.prog 24, n ≤ reachBytes) : ∃ (m t a : Int) (v : Value) (l : List Int), cs = [i64 m, i64 t, i64 a, v].toArray ∧ Ints W v l ∧ l.length ≤ 17592186043904 := by
  obtain ⟨fuel, h⟩ := h
  have h4 : Try.prog.cellsOf 24 = 4 := by kernel_rfl
  have hc22 : Try.prog.cellsOf 22 = 1 := by kernel_rfl
  have hc3 : Try.prog.cellsOf 3 = 1 := by kernel_rfl
  obtain ⟨xs, n, _, hx, _, hxl, hf⟩ := DataW.trod_struct Try.underlying24 h
  obtain ⟨cl, rfl⟩ : ∃ cl : List Value, cs = cl.toArray := ⟨cs.toList, by simp⟩
  match cl, (show cl.length = 4 by simpa [h4] using hc), xs, (show xs.length = 4 from hxl) with
  | [a, b, c, e], _, [y0, y1, y2, y3], _ =>
    have q0 := hf 0 _ rfl
    have q1 := hf 1 _ rfl
    have q2 := hf 2 _ rfl
    have q3 := hf 3 _ rfl
    obtain ⟨_, h0, _⟩ := int_in Try.underlying3 q0
    obtain ⟨_, h1, _⟩ := int_in Try.underlying3 q1
    obtain ⟨_, h2, _⟩ := int_in Try.underlying3 q2
    obtain ⟨v, l, h3, hb, hw⟩ := ints_inS Try.underlying22 Try.underlying3 (by kernel_rfl) (by kernel_rfl) q3
    simp [Value.cells, hc3, hc22] at h0 h1 h2 h3
    subst h0 h1 h2 h3
    have hr : reachBytes ≤ 140737488351232 := by decide
    refine ⟨_, _, _, e, l, rfl, hb, ?_⟩
    have h8 := hw reachBytes fun n hn => hs n (by
      have hd : d = .agg [y0.1, y1.1, y2.1, y3.1] := congrArg Prod.fst hx
      rw [hd]
      simp only [DataW.weights, Try.underlying24]
      exact DataW.weights_mem_each (j := 3) rfl rfl n hn)
    omega
end
end Go.Proofs.Ytjmddkaokmdkbaa
