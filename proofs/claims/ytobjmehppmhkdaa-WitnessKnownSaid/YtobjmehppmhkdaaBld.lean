/- A struct of parts that may be structs: its cells, told on lists. -/
import Derived.Test.YtobjmehppmhkdaaFlat
namespace Go.Proofs.Ytobjmehppmhkdaa.Kf
open Go Go.RowKit
def fillG (pl : List (Nat × Nat)) (cs : List Value) : List (Nat × List Value) → Option (List Value)
  | [] => some cs
  | (i, us) :: rest =>
    match pl[i]? with
    | some (off, size) => bif us.length == size && Nat.ble (off + us.length) cs.length then fillG pl (cs.take off ++ us ++ cs.drop (off + us.length)) rest else none
    | none => none
/-- the cells of each part -/
def CellsOf : List (Nat × Value) → List (Nat × List Value) → Prop
  | [], [] => True
  | (i, v) :: vs, (j, us) :: ws => (i = j ∧ v.cells = us.toArray) ∧ CellsOf vs ws
  | _, _ => False
theorem set_run : ∀ (us : List Value) (k off : Nat) (cs : List Value), off + k + us.length ≤ cs.length →
    (us.zipIdx k).foldl (fun (cs : Array Value) (p : Value × Nat) => cs.setIfInBounds (off + p.2) p.1) cs.toArray = (cs.take (off + k) ++ us ++ cs.drop (off + k + us.length)).toArray
  | [], k, off, cs, h => by simp
  | u :: us, k, off, cs, h => by
    have h' : off + k + us.length + 1 ≤ cs.length := by simpa [Nat.add_assoc] using h
    rw [List.zipIdx_cons, List.foldl_cons]
    have e : cs.toArray.setIfInBounds (off + k) u = (cs.set (off + k) u).toArray := by simp
    show List.foldl _ (cs.toArray.setIfInBounds (off + k) u) _ = _
    rw [e, set_run us (k + 1) off (cs.set (off + k) u) (by simp; omega)]
    congr 1
    have h1 : (cs.set (off + k) u).take (off + (k + 1)) = cs.take (off + k) ++ [u] := by
      rw [List.set_eq_take_append_cons_drop, if_pos (by omega), show off + (k + 1) = (cs.take (off + k)).length + 1 from by rw [List.length_take]; omega, List.take_length_add_append]; rfl
    have h2 : (cs.set (off + k) u).drop (off + (k + 1) + us.length) = cs.drop (off + k + (us.length + 1)) := by
      rw [List.drop_set_of_lt (by omega)]; congr 1; omega
    rw [h1, h2, List.length_cons, List.append_assoc, List.append_assoc, List.append_assoc]; rfl
theorem fillG_eq (pl : List (Nat × Nat)) : ∀ (vs : List (Nat × Value)) (ws : List (Nat × List Value)) (cs out : List Value), CellsOf vs ws → fillG pl cs ws = some out → Instr.fill (pl.toArray[·]?) cs.toArray vs = some out.toArray
  | [], [], cs, out, _, h => by injection h with h; subst h; rfl
  | (i, v) :: vs, (j, us) :: ws, cs, out, hc, h => by
    obtain ⟨⟨rfl, hv⟩, hc⟩ := hc
    unfold fillG at h
    unfold Instr.fill
    simp only [List.getElem?_toArray]
    cases hp : pl[i]? with
    | none => rw [hp] at h; cases h
    | some q =>
      obtain ⟨off, size⟩ := q
      rw [hp] at h
      simp only at h ⊢
      cases hb : (us.length == size && Nat.ble (off + us.length) cs.length) with
      | false => rw [hb] at h; cases h
      | true =>
        rw [hb] at h
        simp only [Bool.and_eq_true, beq_iff_eq, Nat.ble_eq] at hb
        have hz : ¬ ((v.cells.size ≠ size) || (off + v.cells.size > cs.toArray.size)) = true := by rw [hv]; simp; omega
        rw [if_neg (by rw [hv]; simp; omega), hv]
        have e : (us.toArray.zipIdx.foldl (fun cs (c, j) => cs.setIfInBounds (off + j) c) cs.toArray) = (cs.take off ++ us ++ cs.drop (off + us.length)).toArray := by
          have := set_run us 0 off cs (by omega)
          simpa using this
        rw [e]
        have := fillG_eq pl vs ws _ out hc h
        simpa using this
  | [], _ :: _, _, _, h, _ => h.elim
  | _ :: _, [], _, _, h, _ => h.elim
theorem X.buildG {P : Program} {f : Fr} {w : World} {dst : Option Tmp} {ty t : TypeId} {pos : String} {aft : Array Edge} {g : Option (Nat × Bool)} {parts : List (Nat × Operand)} {vs : List (Nat × Value)} {ws : List (Nat × List Value)} {it : TypeInfo} {fs : Array Field} {z : Value} {places : List (Nat × Nat)} {cs zs : List Value}
    (hp : evp f parts = vs) (hi : P.info? t = some it) (hu : P.underlying t = some (.struct fs)) (hz : it.zero = some z) (hm : fs.toList.mapM (fun f => (P.info? f.type).map fun i => (f.offset, i.size)) = some places)
    (hzs : z.cells = zs.toArray) (hw : CellsOf vs ws) (hc : fillG places zs ws = some cs) :
    (execOp (ev f) ⟨dst, .build t parts.toArray, ty, pos, aft, g⟩).run P w = .ok (.value (agg cs)) w :=
  X.buildF hp hi hu hz hm (by rw [hzs]; exact fillG_eq _ _ _ _ _ hw hc)
end Go.Proofs.Ytobjmehppmhkdaa.Kf
