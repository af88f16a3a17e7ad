/- bytes as strings: conversion and equality (bytes.Equal). -/
import Derived.Test.YtobjmehppmhkdaaFlat
import Derived.Laws.Strings
import Derived.Laws.BytesArg
import Derived.Laws.IdiomStrings
namespace Go.Proofs.Ytobjmehppmhkdaa.Kf
open Go Go.RowKit
def strE (l : List UInt8) : ByteArray := ⟨l.toArray⟩
namespace X
variable {P : Program} {f : Fr} {w0 w : World} {dst : Option Tmp} {ty t t' e : TypeId} {pos : String} {aft : Array Edge} {x y : Operand} {g : Option (Nat × Bool)} {v : Value} {l m : List UInt8}
theorem convS (h : Bytes w0 v l) (hE : Ext w0 w) (hx : ev f x = v) (ht : P.underlying t = some (.slice e)) (he : P.underlying e = some (.int .u8)) (hd : P.underlying t' = some .string) :
    (execOp (ev f) ⟨dst, .convert t t' x, ty, pos, aft, g⟩).run P w = .ok (.value (.string (strE l))) w := by
  have hb := h.ext hE
  obtain ⟨a, c, rfl, _, _, ha⟩ := hb.shape
  have key : (convert t t' (.slice a l.length c)).run P w = .ok (.string (strE l)) w := by
    cases a with
    | none =>
      cases l with
      | nil => exact run_convert_bytes_nil w t e ht he _ _ t' hd
      | cons u us => obtain ⟨b, o, hh⟩ := ha (by simp); cases hh
    | some a =>
      refine run_convert_bytes_back w t t' e a c l ht he hd fun j hj => ?_
      have := Bytes.at h hE hj
      obtain ⟨b, o, hh⟩ := ha (by omega)
      injection hh with hh
      subst hh
      simpa [Kf.base] using this
  simp only [execOp, hx]
  simp [key, Result.andThen]
theorem eqlSS (hx : ev f x = .string (strE l)) (hy : ev f y = .string (strE m)) (ht : P.underlying t = some .string) : (execOp (ev f) ⟨dst, .binOp .eql t x y t', ty, pos, aft, g⟩).run P w = .ok (.value (.bool (decide (l = m)))) w := by
  have e : ((strE l).toList == (strE m).toList) = decide (l = m) := by
    simp only [strE, ByteArray.toList_mk]
    rw [Bool.eq_iff_iff]
    simp
  simp only [execOp, hx, hy]
  simp [eqGuard, binOp, Op.stringOp, e]
end X
end Go.Proofs.Ytobjmehppmhkdaa.Kf
