/- Lists of anything that came in: from the arguments' readings to the words of the walks. -/
import Derived.Test.YtobjmehppmhkdaaTopI
import Derived.Test.YtobjmehppmhkdaaRec
import Derived.ChangeArms
namespace Go.Proofs.Ytobjmehppmhkdaa.Kf
open Go Go.ChangeShapes Go.WideShapes Go.ChangeAt Go.RowKit

/-- the cells of element k -/
abbrev el (cs : List Value) (sz k : Nat) : List Value := (cs.drop (k * sz)).take sz
theorem el_get {cs : List Value} {sz k : Nat} {l : List Value} (h : el cs sz k = l) (j : Nat) (hj : j < sz) : cs[k * sz + j]? = l[j]? := by
  rw [← h, el, List.getElem?_take, if_pos hj, List.getElem?_drop]
/-- A list of things of sz cells each, each of which R says. -/
def Recs {α : Type} (R : World → List Value → α → Prop) (sz : Nat) (w : World) (x : Value) (l : List α) : Prop :=
  ∃ cs, Row w x l.length sz cs ∧ ∀ k (hk : k < l.length), R w (el cs sz k) l[k]
theorem Recs.ext {α : Type} {R : World → List Value → α → Prop} (hR : ∀ {w w' cs a}, R w cs a → Ext w w' → R w' cs a) {sz : Nat} {w w' : World} {x : Value} {l : List α} (h : Recs R sz w x l) (g : Ext w w') : Recs R sz w' x l := by
  obtain ⟨cs, hr, h⟩ := h
  exact ⟨cs, hr.ext g, fun k hk => hR (h k hk) g⟩
theorem Recs.le {α : Type} {R : World → List Value → α → Prop} {sz : Nat} {w : World} {x : Value} {l : List α} (h : Recs R sz w x l) : (l.length : Int) ≤ 9223372036854775807 := by
  obtain ⟨cs, hr, _⟩ := h
  obtain ⟨_, c, _, h1, h2, _⟩ := hr.shape; unfold maxLen at h2; omega
theorem Recs.nil {α : Type} {R : World → List Value → α → Prop} {sz : Nat} {w : World} : Recs R sz w (.slice none 0 0) [] := ⟨[], Row.nil w sz, fun k hk => by simp at hk⟩

/-- a list of bytes somewhere in what came in -/
theorem bytes_in {H : Type} {enc : TypeId × Value → H} {P : Program} {W : World} {T e : TypeId} {fuel : Nat} {cs : List Value} {x : DataW H × List MemPlace} (ht : P.underlying T = some (.slice e)) (he : P.underlying e = some (.int .u8)) (hc : P.cellsOf e = 1)
    (h : DataW.trod enc P W 0 (fun _ => true) true fuel T cs = some x) : ∃ (v : Value) (l : List UInt8), cs = [v] ∧ Bytes W v l := by
  rcases open_ints ht he hc h with ⟨hcs, _⟩ | ⟨a, len, cap, zs, hcs, _, hl, hm, hz, hx, hcell, hwz⟩
  · exact ⟨_, [], hcs, Bytes.nil W⟩
  · simp only [if_true] at hz
    refine ⟨_, (zs.take len).map fun n => UInt8.ofNat n.toNat, hcs, ?_⟩
    have hlen : ((zs.take len).map fun n => UInt8.ofNat n.toNat).length = len := by simp; omega
    refine ⟨⟨_, _, by rw [hlen], by omega, hm, fun h0 => ?_⟩, by simp, ?_⟩
    · obtain ⟨b, o, spot⟩ := a
      have hc0 := hcell 0 (by omega)
      have : spot = none := by simpa [Addr.add] using World.cell?_spot hc0
      subst this
      exact ⟨b, o, rfl⟩
    · intro i u hu
      have hi : i < len := by
        have := (List.getElem?_eq_some_iff.1 hu).1
        simp at this; omega
      have hz' : i < zs.length := by omega
      simp only [List.map_map, List.getElem?_map, List.getElem?_take, if_pos hi, List.getElem?_eq_getElem hz', Option.map_some, Option.some.injEq, Function.comp] at hu
      rw [← hu]
      have hw := hwz zs[i] (List.getElem_mem hz')
      have hc' := hcell i hz'
      simp only [base]
      rw [hc']
      simp only [List.getD_eq_getElem?_getD, List.getElem?_eq_getElem hz', Option.getD_some, u8]
      rw [u8_of_wf hw]
/-- a list of numbers somewhere in what came in -/
theorem ints_in {H : Type} {enc : TypeId × Value → H} {P : Program} {W : World} {T e : TypeId} {fuel : Nat} {cs : List Value} {x : DataW H × List MemPlace} (ht : P.underlying T = some (.slice e)) (he : P.underlying e = some (.int .i64)) (hc : P.cellsOf e = 1)
    (h : DataW.trod enc P W 0 (fun _ => true) true fuel T cs = some x) : ∃ (v : Value) (l : List Int), cs = [v] ∧ Ints W v l ∧ In64 l := by
  rcases open_ints ht he hc h with ⟨hcs, _⟩ | ⟨a, len, cap, zs, hcs, _, hl, hm, hz, hx, hcell, hwz⟩
  · exact ⟨_, [], hcs, Ints.nil W, fun x hx => by simp at hx⟩
  · simp only [if_true] at hz
    refine ⟨_, zs.take len, hcs, ?_, fun x hx => i64_of_wf (hwz x (List.mem_of_mem_take hx))⟩
    have hlen : (zs.take len).length = len := by simp; omega
    refine ⟨⟨_, _, by rw [hlen], by omega, hm, fun h0 => ?_⟩, by simp, ?_⟩
    · obtain ⟨b, o, spot⟩ := a
      have hc0 := hcell 0 (by omega)
      have : spot = none := by simpa [Addr.add] using World.cell?_spot hc0
      subst this
      exact ⟨b, o, rfl⟩
    · intro i u hu
      have hi : i < len := by
        have := (List.getElem?_eq_some_iff.1 hu).1
        simp at this; omega
      have hz' : i < zs.length := by omega
      simp only [List.getElem?_map, List.getElem?_take, if_pos hi, List.getElem?_eq_getElem hz', Option.map_some, Option.some.injEq] at hu
      rw [← hu]
      have hc' := hcell i hz'
      simp only [base]
      rw [hc']
      simp only [List.getD_eq_getElem?_getD, List.getElem?_eq_getElem hz', Option.getD_some, i64]

/-- one field of a struct that came in -/
theorem field_in {H : Type} {enc : TypeId × Value → H} {P : Program} {W : World} {E : TypeId} {fs : Array Field} {f : Field} {fuel : Nat} {cs : List Value} {x : DataW H × List MemPlace} (hs : P.underlying E = some (.struct fs))
    (h : DataW.trod enc P W 0 (fun _ => true) true fuel E cs = some x) (i : Nat) {t : TypeId} {o c : Nat} (hf : fs[i]? = some f) (ht : f.type = t) (ho : f.offset = o) (hc : P.cellsOf t = c) :
    ∃ n y, DataW.trod enc P W 0 (fun _ => true) true n t ((cs.drop o).take c) = some y := by
  obtain ⟨xs, n, _, _, _, hxl, hf'⟩ := DataW.trod_struct hs h
  have q := hf' i f hf
  rw [ht, ho, hc] at q
  have hi : i < xs.length := by rw [hxl]; exact (Array.getElem?_eq_some_iff.1 hf).1
  exact ⟨n, xs[i], by rw [q, List.getElem?_eq_getElem hi]⟩
theorem struct_len {H : Type} {enc : TypeId × Value → H} {P : Program} {W : World} {E : TypeId} {fs : Array Field} {fuel : Nat} {cs : List Value} {x : DataW H × List MemPlace} (hs : P.underlying E = some (.struct fs))
    (h : DataW.trod enc P W 0 (fun _ => true) true fuel E cs = some x) : cs.length = P.cellsOf E := (DataW.trod_struct hs h).choose_spec.choose_spec.2.2.1

theorem slice_in {H : Type} {enc : TypeId × Value → H} {P : Program} {W : World} {T e : TypeId} {sz fuel : Nat} {cs : List Value} {x : DataW H × List MemPlace} {α : Type} {R : World → List Value → α → Prop}
    (hR : ∀ fuel cs x, DataW.trod enc P W 0 (fun _ => true) true fuel e cs = some x → cs.length = sz → ∃ a, R W cs a)
    (ht : P.underlying T = some (.slice e)) (hc : P.cellsOf e = sz) (h0 : 0 < sz) (h : DataW.trod enc P W 0 (fun _ => true) true fuel T cs = some x) :
    ∃ (v : Value) (l : List α), cs = [v] ∧ Recs R sz W v l ∧ (v = .slice none 0 0 ∧ l = [] ∨ ∃ (elems rest : List (DataW H)) (pl : List MemPlace), x = (.slice elems rest, pl) ∧ elems.length = l.length) := by
  rcases DataW.trod_slice ht h with ⟨rfl, rfl⟩ | ⟨a, len, cap, elems, rest, n, _, rfl, rfl, _, hlc, hcm, hel, hall, _⟩
  · exact ⟨_, [], rfl, Recs.nil, .inl ⟨rfl, rfl⟩⟩
  have key : ∀ i, i < len → ∃ ds, (∀ j, j < sz → W.cell? ((a.add (i * sz)).add j) = ds[j]?) ∧ ds.length = sz ∧ ∃ b, R W ds b := by
    intro i hi
    have h1 := hall i hi
    rw [hc] at h1
    have he : elems[i]? = some elems[i] := List.getElem?_eq_getElem (by omega)
    rw [he] at h1
    obtain ⟨ds, hds, h2⟩ := Option.bind_eq_some_iff.1 h1
    obtain ⟨_, hl, hcell⟩ := World.cells?_some hds
    exact ⟨ds, hcell, hl, hR _ _ _ h2 hl⟩
  have hspot : 0 < len → a.spot = none := by
    intro hp
    obtain ⟨ds, h1, h2, _⟩ := key 0 hp
    have := h1 0 h0
    rw [List.getElem?_eq_getElem (by omega)] at this
    have := World.cell?_spot this
    simpa [Addr.add] using this
  classical
  let cs := (List.range (len * sz)).map fun m => (W.cell? (a.add m)).getD undef
  have hcs : ∀ m, m < len * sz → cs[m]? = W.cell? (a.add m) := by
    intro m hm
    have hp : 0 < len := by cases len with | zero => simp at hm | succ => omega
    obtain ⟨b, o, sp⟩ := a
    obtain rfl : sp = none := hspot hp
    have hd : m = m / sz * sz + m % sz := by rw [Nat.mul_comm]; exact (Nat.div_add_mod m sz).symm
    have hq : m / sz < len := by rw [Nat.div_lt_iff_lt_mul h0]; exact hm
    obtain ⟨ds, h1, h2, _⟩ := key (m / sz) hq
    have h3 := h1 (m % sz) (Nat.mod_lt _ h0)
    rw [Kf.Addr.add_add, ← hd, List.getElem?_eq_getElem (by rw [h2]; exact Nat.mod_lt _ h0)] at h3
    simp only [cs, List.getElem?_map, List.getElem?_range hm, Option.map_some, h3, Option.getD_some]
  have hlen : cs.length = len * sz := by simp [cs]
  have key2 : ∀ i : Fin len, ∃ b, R W (el cs sz i) b := by
    intro ⟨i, hi⟩
    obtain ⟨ds, h1, h2, b, hb⟩ := key i hi
    have : el cs sz i = ds := by
      have hle : i * sz + sz ≤ len * sz := by rw [← Nat.succ_mul]; exact Nat.mul_le_mul_right _ hi
      apply List.ext_getElem?
      intro j
      by_cases hj : j < sz
      · rw [← el_get rfl j hj, hcs _ (by omega), ← h1 j hj]
        obtain ⟨b, o, sp⟩ := a
        obtain rfl : sp = none := hspot (by omega)
        rw [Kf.Addr.add_add]
      · rw [List.getElem?_eq_none (by simp [el]; omega), List.getElem?_eq_none (by omega)]
    exact ⟨b, this ▸ hb⟩
  let l : List α := List.ofFn fun i => Classical.choose (key2 i)
  have hl : l.length = len := by simp [l]
  refine ⟨_, l, rfl, ⟨cs, ⟨⟨_, _, by rw [hl], by omega, hcm, fun hp => ?_⟩, by rw [hl]; exact hlen, ?_⟩, ?_⟩, .inr ⟨_, _, _, rfl, by simp [hl, hel]⟩⟩
  · obtain ⟨b, o, sp⟩ := a
    obtain rfl : sp = none := hspot (by omega)
    exact ⟨b, o, rfl⟩
  · intro i u hu
    have hi : i < len * sz := by have := (List.getElem?_eq_some_iff.1 hu).1; omega
    rw [hcs i hi] at hu
    exact hu
  · intro k hk
    have hk' : k < len := by omega
    have := Classical.choose_spec (key2 ⟨k, hk'⟩)
    simpa [l] using this
end Go.Proofs.Ytobjmehppmhkdaa.Kf
