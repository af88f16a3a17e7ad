/- method values. -/
import Derived.Test.YtobjmehppmhkdaaFlat
namespace Go.Proofs.Ytobjmehppmhkdaa.Kf
open Go Go.RowKit
section met
variable {P : Program} {N : Nat} {Q : Post} {f : Fr} {w : World} {k : Fr → World → Prop} {d : Nat} {dst : Option Tmp} {ty t e : TypeId} {pos : String} {aft : Array Edge} {g gd : Option (Nat × Bool)} {x : Operand} {v : Value}
theorem X.makeFuncM {K : FuncId} {firsts : List Operand} {vs : List Value} (hc : evl f firsts = vs) : (execOp (ev f) ⟨dst, .makeFunc (.func K) firsts.toArray #[], ty, pos, aft, gd⟩).run P w = .ok (.value (.func (.func K) vs.toArray #[])) w := by
  have : firsts.toArray.map (ev f) = vs.toArray := by rw [← hc, evl_eq]; simp
  simp [execOp, Instr.makeFunc, this]
theorem X.callM {K : FuncId} {at_ : Array TypeId} {vs : List Value} (hv : ev f x = .func (.func K) vs.toArray #[]) (hc : ∀ (as : Array Value) (w : World), (callFunc K as).run P w = .ok (.enter K as) w) :
    (execOp (ev f) ⟨dst, .call ⟨.value x, #[], at_⟩, ty, pos, aft, gd⟩).run P w = .ok (.enter K vs.toArray) w := by
  simp only [execOp, resolve, hv]
  simp [Deferred.ofValue, invoke, hc]
/-- a call of a method's value -/
def MetOk (P : Program) (v : Value) (w : World) (R : Value → World → Prop) : Prop :=
  ∃ K vs, v = .func (.func K) (List.toArray vs) #[] ∧ (∀ (as : Array Value) (w : World), (callFunc K as).run P w = .ok (.enter K as) w) ∧ FnOk P K vs w R
theorem OW.callM {ats : Array TypeId} {R : Value → World → Prop} (hx : ev f x = v) (hc : MetOk P v w R) (h : ∀ v w'', R v w'' → k (put f d v) w'') (hd : d < N) :
    OW P N ⟨some d, .call ⟨.value x, #[], ats⟩, ty, pos, aft, gd⟩ Q k f w := by
  obtain ⟨K, vs, h1, h2, h3⟩ := hc
  exact OW.enter rfl hd (X.callM (hx.trans h1) h2) h3 h
end met
end Go.Proofs.Ytobjmehppmhkdaa.Kf
