/- Rows of structs: the places and the loads of an element's fields. -/
import Derived.Test.YtobjmehppmhkdaaStr
namespace Go.Proofs.Ytobjmehppmhkdaa.Kf
open Go Go.RowKit

theorem Row.fld {w : World} {v : Value} {n sz k off : Nat} {cs : List Value} {u : Value} (h : Row w v n sz cs) (hk : k < n) (hu : cs[k * sz + off]? = some u) : w.cell? (((base v).add (k * sz)).add off) = some u := by
  have hc := h.cell _ _ hu
  obtain ⟨a, c, rfl, _, _, h4⟩ := h.shape
  obtain ⟨b, o, rfl⟩ := h4 (by omega)
  rw [show base (.slice (some ⟨b, o, none⟩) n c) = ⟨b, o, none⟩ from rfl] at *
  rw [Addr.add_add]
  exact hc
namespace X
variable {P : Program} {f : Fr} {w w0 : World} {dst : Option Tmp} {ty t e s : TypeId} {pos : String} {aft : Array Edge} {g : Option (Nat × Bool)} {x : Operand} {v u : Value} {n sz k off q : Nat} {cs : List Value}
theorem fieldAddrA {a : Addr} {fs : Array Field} {fl : Field} {i : Nat} (hx : ev f x = .pointer (some a)) (hs : P.underlying s = some (.struct fs)) (hf : fs[i]? = some fl) (ho : fl.offset = off) (hz : ∀ w, (sizeOf fl.type).run P w = .ok (q + 1) w) :
    (execOp (ev f) ⟨dst, .fieldAddr s x i, ty, pos, aft, g⟩).run P w = .ok (.value (.pointer (some (a.add off)))) w := by
  subst ho
  simp [execOp, hx, Instr.fieldAt, Instr.sureAddr, run_underlying hs, hf, fieldPlace, hz]
theorem loadE (h : Row w0 v n sz cs) (hE : Ext w0 w) (hx : ev f x = .pointer (some (((base v).add (k * sz)).add off))) (hk : k < n) (hu : cs[k * sz + off]? = some u) (ht : ∀ w, (isAgg t).run P w = .ok false w) :
    (execOp (ev f) ⟨dst, .load t x, ty, pos, aft, g⟩).run P w = .ok (.value u) w := X.load hx ((h.ext hE).fld hk hu) ht
end X
end Go.Proofs.Ytobjmehppmhkdaa.Kf
