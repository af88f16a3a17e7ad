/- Words for the openings of arguments. -/
import Derived.Test.YtobjmehppmhkdaaOpen
import Derived.Test.YtobjmehppmhkdaaFlat
namespace Go.Proofs.Ytobjmehppmhkdaa.Kf
open Go Go.ChangeShapes Go.WideShapes Go.ChangeAt Go.RowKit
section
variable {H : Type} {enc : TypeId × Value → H} {P : Program} {W : World} {fuel : Nat} {cs : List Value} {x : DataW H × List MemPlace}
theorem int_in {t : TypeId} (ht : P.underlying t = some (.int .i64)) (h : DataW.trod enc P W 0 (fun _ => true) true fuel t cs = some x) : ∃ n : Int, cs = [i64 n] ∧ (-9223372036854775808 ≤ n ∧ n ≤ 9223372036854775807) := by
  obtain ⟨k, hk, _, hw⟩ := DataW.trod_int ht h
  exact ⟨k, hk, i64_of_wf hw⟩
theorem bool_in {t : TypeId} (ht : P.underlying t = some .bool) (h : DataW.trod enc P W 0 (fun _ => true) true fuel t cs = some x) : ∃ b : Bool, cs = [.bool b] := by
  obtain ⟨k, hk, _⟩ := DataW.trod_bool ht h
  exact ⟨k, hk⟩
end
theorem flat_of_el {α : Type} {c : α → List Value} {sz : Nat} {l : List α} {cs : List Value} (hc : ∀ a, (c a).length = sz) (hl : cs.length = l.length * sz) (h : ∀ k (hk : k < l.length), el cs sz k = c l[k]) : cs = l.flatMap c := by
  by_cases hs : sz = 0
  · subst hs
    rw [List.eq_nil_of_length_eq_zero (l := cs) (by simpa using hl), List.eq_nil_of_length_eq_zero (l := l.flatMap c) (by rw [flat_len hc]; simp)]
  have hp : 0 < sz := Nat.pos_of_ne_zero hs
  apply List.ext_getElem?
  intro i
  by_cases hi : i < l.length * sz
  · have hk : i / sz < l.length := by rw [Nat.div_lt_iff_lt_mul hp]; exact hi
    have e1 := el_get (h (i / sz) hk) (i % sz) (Nat.mod_lt _ hp)
    have e2 := flat_get hc hk (off := i % sz) (Nat.mod_lt _ hp)
    rw [show i / sz * sz + i % sz = i from by rw [Nat.mul_comm]; exact Nat.div_add_mod i sz] at e1 e2
    rw [e1, e2]
  · rw [List.getElem?_eq_none (by omega), List.getElem?_eq_none (by rw [flat_len hc]; omega)]
theorem X.load1 {P : Program} {f : Fr} {w w0 : World} {dst : Option Tmp} {ty t : TypeId} {pos : String} {aft : Array Edge} {g : Option (Nat × Bool)} {x : Operand} {v : Value} {k n : Nat} {cs : List Value}
    (h : Row w0 v n 1 cs) (hE : Ext w0 w) (hx : ev f x = .pointer (some ((base v).add (k * 1)))) (hk : k < n) (ht : ∀ w, (isAgg t).run P w = .ok false w) :
    (execOp (ev f) ⟨dst, .load t x, ty, pos, aft, g⟩).run P w = .ok (.value (cs.getD k undef)) w := by
  have hl := h.len
  exact X.load hx (by rw [Nat.mul_one]; exact (Row.ext h hE).cell k _ (by rw [List.getD_eq_getElem?_getD, List.getElem?_eq_getElem (by omega)]; rfl)) ht
theorem own_sz {w : World} {B sz n : Nat} {e : TypeId} {v : Value} {xs : List Value} (h : w.ownsRow B e sz v n xs) : v.cells.size = 1 := by
  rcases h.2 with ⟨rfl, _⟩ | ⟨g, cap, cur, rfl, _⟩ <;> rfl
theorem flat_ones {vs : List Value} (h : ∀ v ∈ vs, v.oneCell' = true) : (vs.flatMap fun v => v.cells.toList) = vs := by
  induction vs with
  | nil => rfl
  | cons v vs ih =>
    rw [List.flatMap_cons, ih fun u hu => h u (List.mem_cons_of_mem _ hu), cells_one (h v (by simp))]; rfl
/-- like bytes_in; and no longer than what the data weighs -/
theorem bytes_inS {H : Type} {enc : TypeId × Value → H} {P : Program} {W : World} {T e : TypeId} {fuel : Nat} {cs : List Value} {x : DataW H × List MemPlace} (ht : P.underlying T = some (.slice e)) (he : P.underlying e = some (.int .u8)) (hc : P.cellsOf e = 1) (hb : P.bytesOf e = 1)
    (h : DataW.trod enc P W 0 (fun _ => true) true fuel T cs = some x) : ∃ (v : Value) (l : List UInt8), cs = [v] ∧ Bytes W v l ∧ ∀ M, (∀ n ∈ x.1.weights P T, n ≤ M) → l.length ≤ M := by
  rcases open_ints ht he hc h with ⟨hcs, _⟩ | ⟨a, len, cap, zs, hcs, _, hl, hm, hz, hx, hcell, hwz⟩
  · exact ⟨_, [], hcs, Bytes.nil W, fun M _ => Nat.zero_le _⟩
  · simp only [if_true] at hz
    have hlen : ((zs.take len).map fun n => UInt8.ofNat n.toNat).length = len := by simp; omega
    refine ⟨_, (zs.take len).map fun n => UInt8.ofNat n.toNat, hcs, ⟨⟨_, _, by rw [hlen], by omega, hm, fun h0 => ?_⟩, by simp, ?_⟩, fun M hM => ?_⟩
    · obtain ⟨b, o, spot⟩ := a
      have hc0 := hcell 0 (by omega)
      have : spot = none := by simpa [Addr.add] using World.cell?_spot hc0
      subst this
      exact ⟨b, o, rfl⟩
    · intro i u hu
      have hi : i < len := by
        have := (List.getElem?_eq_some_iff.1 hu).1
        simp at this; omega
      have hz' : i < zs.length := by omega
      simp only [List.map_map, List.getElem?_map, List.getElem?_take, if_pos hi, List.getElem?_eq_getElem hz', Option.map_some, Option.some.injEq, Function.comp] at hu
      rw [← hu]
      have hw := hwz zs[i] (List.getElem_mem hz')
      have hc' := hcell i hz'
      simp only [base]
      rw [hc']
      simp only [List.getD_eq_getElem?_getD, List.getElem?_eq_getElem hz', Option.getD_some, u8]
      rw [u8_of_wf hw]
    · have h1 : x.1 = _ := congrArg Prod.fst hx
      have hq : ∀ n ∈ x.1.weights P T, n ≤ M := hM
      rw [h1] at hq
      simp only [DataW.weights, ht, hb] at hq
      have := hq _ (List.mem_cons_self)
      simp only [lits, List.length_map, List.length_take, List.length_drop] at this
      rw [hlen]
      omega
end Go.Proofs.Ytobjmehppmhkdaa.Kf
