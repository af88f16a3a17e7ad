/- A map's lookup that tells whether it is there. -/
import Derived.Test.YtobjmehppmhkdaaMap
namespace Go.Proofs.Ytobjmehppmhkdaa.Kf
open Go Go.RowKit
section
variable {κ : Type} [DecidableEq κ] {enc : κ → Value} {P : Program} {w : World} {g : Nat} {l : List (κ × Value)} {a : κ} {kt et t ty : TypeId} {z u : Value} {f : Fr} {x y : Operand} {dst : Option Tmp} {pos : String} {aft : Array Edge} {gd : Option (Nat × Bool)} {b : Bool}
theorem run_lookM2 (K : KeyK P kt enc) (hm : MapB enc w g l) (ht : P.underlying t = some (.map kt et)) (hz : ∀ w, (zeroValue et).run P w = .ok z w) : (Instr.lookup t (mp_ g) (enc a) true).run P w = .ok (.tuple #[(getM l a).getD z, .bool (getM l a).isSome]) w := by
  obtain ⟨es, c, h1, h2⟩ := hm.heap
  have hf := K.find a l es.toList w h2
  have hg : (getObj g).run P w = .ok (.map es c) w := by simp [getObj, Sem.run, h1]
  simp only [Instr.lookup, Sem.run_bind, run_underlying ht, Result.andThen_ok, hg, Sem.run_pure, K.check]
  rw [hf]
  simp only [Result.andThen_ok]
  cases hi : idxK a (l.map Prod.fst) with
  | none =>
    rw [idxK_none hi]
    simp [hz]
  | some i =>
    obtain ⟨_, _, v, hv⟩ := idxK_some l a i hi
    rw [hv]
    simp
theorem X.lookM2 (K : KeyK P kt enc) (hm : MapB enc w g l) (ht : P.underlying t = some (.map kt et)) (hz : ∀ w, (zeroValue et).run P w = .ok z w) (hx : ev f x = mp_ g) (hy : ev f y = enc a) (hr : (getM l a).getD z = u) (hb : (getM l a).isSome = b) :
    (execOp (ev f) ⟨dst, .lookup t x y true, ty, pos, aft, gd⟩).run P w = .ok (.value (.tuple #[u, .bool b])) w := by
  subst hr hb
  simp only [execOp, hx, hy]
  rw [Sem.run_bind, run_lookM2 K hm ht hz]
  rfl
end
end Go.Proofs.Ytobjmehppmhkdaa.Kf
