/- Strings of plain letters: ranges over them, their lengths. -/
import Derived.Test.YtccbpfbcaogcnaaFlat
import Derived.Laws.Strings
namespace Go.Proofs.Ytccbpfbcaogcnaa.Kf
open Go Go.RowKit
/-- an iterator over a string stands at a place -/
structure It (w : World) (g : Nat) (s : ByteArray) (p : Nat) : Prop where
  heap : w.heap[g]? = some (.stringIter s p)
section it
variable {w w' : World} {g g' : Nat} {s : ByteArray} {p : Nat} {row : Option Nat}
theorem It.lt (h : It w g s p) : g < w.heap.size := (Array.getElem?_eq_some_iff.1 h.heap).1
theorem It.kept (h : It w g s p) (k : w.grownBy w' row) (hne : ∀ b, row = some b → b ≠ g) : It w' g s p := ⟨(k.block g h.lt (fun e => hne g e.symm rfl)).trans h.heap⟩
theorem It.ext (h : It w g s p) (k : Ext w w') : It w' g s p := h.kept k (fun b e => by cases e)
theorem It.keptO (h : It w g s p) (k : w.grownBy w' (some g')) (hne : g' ≠ g) : It w' g s p := h.kept k (fun b e => by injection e with e; omega)
end it
/-- the string of some letters -/
def strL (l : List UInt8) : ByteArray := ⟨l.toArray⟩
theorem strL_size (l : List UInt8) : (strL l).size = l.length := by simp [strL, ByteArray.size]
theorem strL_dec {l : List UInt8} {k : Nat} (hk : k < l.length) (h : l[k].toNat < 128) : Utf8.decode (strL l) k = (l[k].toNat, 1) := by
  have hg : (strL l).get! k = l[k] := by
    simp [strL, ByteArray.get!, getElem!_pos, hk]
  unfold Utf8.decode
  simp only [Nat.add_zero, hg]
  rw [if_pos h]
section ops
variable {P : Program} {N : Nat} {Q : Post} {f : Fr} {w : World} {k : Fr → World → Prop} {d : Nat} {ty t : TypeId} {pos : String} {aft : Array Edge} {gd : Option (Nat × Bool)} {x : Operand} {g p c wd : Nat} {s : ByteArray}
theorem OW.range (hx : ev f x = .string s) (ht : P.underlying t = some .string) (h : ∀ g w', g = w.heap.size → g < w'.heap.size → It w' g s 0 → Ext w w' → k (put f d (at_ g)) w') (hd : d < N) :
    OW P N ⟨some d, .range t x, ty, pos, aft, gd⟩ Q k f w := by
  refine OW.val rfl hd (v := at_ w.heap.size) (w' := w.alloc (.stringIter s 0)) ?_ (h _ _ rfl (by simp) ⟨by show (w.heap.push _)[w.heap.size]? = _; simp⟩ (Ext.alloc _ _))
  simp [execOp, hx, Instr.range, run_underlying ht, newObj, Sem.run, Result.andThen]
theorem grown_setObj {w : World} {g : Nat} {o : Obj} : w.grownBy { w with heap := w.heap.setIfInBounds g o } (some g) := by
  refine ⟨rfl, rfl, rfl, by simp, fun i hi hn => ?_⟩
  simp only [Array.getElem?_setIfInBounds]
  rw [if_neg (fun e => hn (by rw [e]))]
theorem OW.next (hI : It w g s p) (hx : ev f x = at_ g) (hp : p < s.size) (hc : Utf8.decode s p = (c, wd)) (h : ∀ w', It w' g s (p + wd) → w.grownBy w' (some g) → k (put f d (.tuple #[.bool true, i64 p, .int .i32 c])) w') (hd : d < N) :
    OW P N ⟨some d, .next x true, ty, pos, aft, gd⟩ Q k f w := by
  refine OW.val rfl hd (v := .tuple #[.bool true, i64 p, .int .i32 c]) (w' := { w with heap := w.heap.setIfInBounds g (.stringIter s (p + wd)) }) ?_ (h _ ⟨?_⟩ grown_setObj)
  · simp [execOp, hx, Instr.next, getObj, setObj, Sem.run, hI.heap, hp, hc, Result.andThen, goInt]
  · simp only [Array.getElem?_setIfInBounds]
    simp [hI.lt]
theorem OW.nextEnd (hI : It w g s p) (hx : ev f x = at_ g) (hp : ¬ p < s.size) (h : k (put f d (.tuple #[.bool false])) w) (hd : d < N) :
    OW P N ⟨some d, .next x true, ty, pos, aft, gd⟩ Q k f w := by
  refine OW.val rfl hd (v := .tuple #[.bool false]) (w' := w) ?_ h
  simp [execOp, hx, Instr.next, getObj, Sem.run, hI.heap, hp, Result.andThen]
end ops
namespace X
variable {P : Program} {f : Fr} {w : World} {dst : Option Tmp} {ty t t' : TypeId} {pos : String} {aft : Array Edge} {x y : Operand} {g : Option (Nat × Bool)} {l m : List UInt8}
theorem eqlS (hx : ev f x = .string (strL l)) (hy : ev f y = .string (strL [])) (ht : P.underlying t = some .string) : (execOp (ev f) ⟨dst, .binOp .eql t x y t', ty, pos, aft, g⟩).run P w = .ok (.value (.bool (decide (l = [])))) w := by
  have e : ((strL l).toList == (strL []).toList) = decide (l = []) := by
    simp only [strL, ByteArray.toList_mk]
    cases l <;> simp
  simp only [execOp, hx, hy]
  simp [eqGuard, binOp, Op.stringOp, e]
theorem lenS {ats : Array TypeId} (hx : ev f x = .string (strL l)) (ht : P.underlying t = some .string) (ha : ats = #[t]) : (execOp (ev f) ⟨dst, .call ⟨.builtin .len, #[x], ats⟩, ty, pos, aft, g⟩).run P w = .ok (.value (i64 (l.length : Int))) w := by
  subst ha
  simp [execOp, resolve, invoke, builtin, hx, Go.run_len_string _ _ _ _ ht, strL_size, goInt]
end X
end Go.Proofs.Ytccbpfbcaogcnaa.Kf
