/- The walks of layer 30: answered, isBlock. -/
import Derived.Test.YtobjmehppmhkdaaChecked
import Derived.Test.YtobjmehppmhkdaaWr
import Derived.Test.YtobjmehppmhkdaaMap
import Derived.Test.YtobjmehppmhkdaaChg
namespace Go.Proofs.Ytobjmehppmhkdaa
open Go Go.RowKit Kf
set_option maxRecDepth 20000

section
variable {e : Ev} {kind code : Int}
theorem ans_a (k1 : e.Kind = 2) (k2 : e.Call.Kind = kind) : decide (e.Answer.Code = code) = ans e kind code := by simp [ans, k1, k2]
theorem ans_b (k1 : ¬ e.Kind = 2) : false = ans e kind code := by simp [ans, k1]
theorem ans_c (k1 : e.Kind = 2) (k2 : ¬ e.Call.Kind = kind) : false = ans e kind code := by simp [ans, k1, k2]
end
def isBlk (no : Int) (b : List UInt8) : Bool := decide (0 ≤ no) && (decide (no < 64) && decide (b.length = 4))
section
variable {no : Int} {b : List UInt8}
theorem blk_a (k1 : 0 ≤ no) (k2 : no < 64) : decide ((b.length : Int) = 4) = isBlk no b := by unfold isBlk; simp [k1, k2]; omega
theorem blk_b (k1 : ¬ 0 ≤ no) : false = isBlk no b := by simp [isBlk, k1]
theorem blk_c (k2 : ¬ no < 64) : false = isBlk no b := by simp [isBlk, k2]
end
set_option maxHeartbeats 1000000 in
theorem answered_ok (e : Ev) (d d2 : Value) (kind code : Int) (w : World) : FnOk Try.prog 51 [agg (e.c d d2), i64 kind, i64 code] w (fun r w' => r = .bool (ans e kind code) ∧ Ext w w') := by
  refine FnOk.enter (rs := [6]) Try.func51 rfl Try.ntmps51 Try.results51 rfl rfl ?_
  refine WF.seq ?_
  refine WF.region ?_
  refine WL.op rfl (OW.boxA (cs := (e.c d d2)) rfl ?_ (by decide))
  intro g3 w1 heg3 hlg3 hO3 hx3
  have := World.grownBy.size hx3
  refine WL.va rfl rfl rfl (X.assignB rfl) ?_
  refine WL.nil ?_
  refine thn_n ?_
  refine WF.seq ?_
  refine WF.region ?_
  refine WL.va rfl rfl rfl (X.fieldAddrO (off := 0) rfl Try.underlying42 rfl rfl Try.sizeOf3) ?_
  refine WL.va rfl rfl rfl (X.loadO hO3 (Ext.refl _) rfl rfl Try.isAgg3) ?_
  refine WL.va rfl rfl rfl (X.eql rfl rfl) ?_
  refine WL.va rfl rfl rfl (X.moveB rfl) ?_
  refine WL.split (j := 3) rfl (fun h7 => ?_) (fun h7 => ?_)
  · have gh7 := (of_decide_eq_true h7)
    have k1 : e.Kind = 2 := gh7
    refine WL.vg rfl (congrArg some h7) rfl rfl (X.fieldAddrO (off := 3) rfl Try.underlying42 rfl rfl Try.sizeOf38) ?_
    refine WL.vg rfl (congrArg some h7) rfl rfl (X.fieldAddrP (off := 0) rfl Try.underlying38 rfl rfl Try.sizeOf3) ?_
    refine WL.vg rfl (congrArg some h7) rfl rfl (X.loadO hO3 (Ext.refl _) rfl rfl Try.isAgg3) ?_
    refine WL.vg rfl (congrArg some h7) rfl rfl (X.moveI rfl) ?_
    refine WL.vg rfl (congrArg some h7) rfl rfl (X.eql rfl rfl) ?_
    refine WL.va rfl rfl rfl (X.pickT rfl h7 rfl) ?_
    refine WL.va rfl rfl rfl (X.moveB rfl) ?_
    refine WL.split (j := 10) rfl (fun h9 => ?_) (fun h9 => ?_)
    · have gh9 := (of_decide_eq_true h9)
      have k2 : e.Call.Kind = kind := gh9
      refine WL.vg rfl (congrArg some h9) rfl rfl (X.fieldAddrO (off := 16) rfl Try.underlying42 rfl rfl Try.sizeOf40) ?_
      refine WL.vg rfl (congrArg some h9) rfl rfl (X.fieldAddrP (off := 0) rfl Try.underlying40 rfl rfl Try.sizeOf29) ?_
      refine WL.vg rfl (congrArg some h9) rfl rfl (X.loadO hO3 (Ext.refl _) rfl rfl Try.isAgg29) ?_
      refine WL.vg rfl (congrArg some h9) rfl rfl (X.moveI rfl) ?_
      refine WL.vg rfl (congrArg some h9) rfl rfl (X.eql rfl rfl) ?_
      refine WL.va rfl rfl rfl (X.pickT rfl h9 rfl) ?_
      refine WL.va rfl rfl rfl (X.assignB rfl) ?_
      refine WL.nil ?_
      refine thn_n ?_
      refine WF.ret ?_
      refine fin_r ?_
      exact ⟨by first | exact congrArg Value.bool (ans_a k1 k2) | exact congrArg Value.bool (ans_b k1) | exact congrArg Value.bool (ans_c k1 k2), hx3⟩
    · have gh9 := (of_decide_eq_false h9)
      have k2 : ¬ e.Call.Kind = kind := gh9
      refine WL.p rfl rfl rfl (congrArg some h9) ?_
      refine WL.p rfl rfl rfl (congrArg some h9) ?_
      refine WL.p rfl rfl rfl (congrArg some h9) ?_
      refine WL.p rfl rfl rfl (congrArg some h9) ?_
      refine WL.p rfl rfl rfl (congrArg some h9) ?_
      refine WL.va rfl rfl rfl (X.pickF rfl h9 rfl) ?_
      refine WL.va rfl rfl rfl (X.assignB rfl) ?_
      refine WL.nil ?_
      refine thn_n ?_
      refine WF.ret ?_
      refine fin_r ?_
      exact ⟨by first | exact congrArg Value.bool (ans_a k1 k2) | exact congrArg Value.bool (ans_b k1) | exact congrArg Value.bool (ans_c k1 k2), hx3⟩
  · have gh7 := (of_decide_eq_false h7)
    have k1 : ¬ e.Kind = 2 := gh7
    refine WL.p rfl rfl rfl (congrArg some h7) ?_
    refine WL.p rfl rfl rfl (congrArg some h7) ?_
    refine WL.p rfl rfl rfl (congrArg some h7) ?_
    refine WL.p rfl rfl rfl (congrArg some h7) ?_
    refine WL.p rfl rfl rfl (congrArg some h7) ?_
    refine WL.va rfl rfl rfl (X.pickF rfl h7 rfl) ?_
    refine WL.va rfl rfl rfl (X.moveB rfl) ?_
    refine WL.p rfl rfl rfl rfl ?_
    refine WL.p rfl rfl rfl rfl ?_
    refine WL.p rfl rfl rfl rfl ?_
    refine WL.p rfl rfl rfl rfl ?_
    refine WL.p rfl rfl rfl rfl ?_
    refine WL.va rfl rfl rfl (X.pickF rfl rfl rfl) ?_
    refine WL.va rfl rfl rfl (X.assignB rfl) ?_
    refine WL.nil ?_
    refine thn_n ?_
    refine WF.ret ?_
    refine fin_r ?_
    exact ⟨by first | exact congrArg Value.bool (ans_a k1 k2) | exact congrArg Value.bool (ans_b k1) | exact congrArg Value.bool (ans_c k1 k2), hx3⟩

set_option maxHeartbeats 1000000 in
theorem isBlock_ok (no : Int) (v : Value) (b : List UInt8) (w : World) (hb : Bytes w v b) : FnOk Try.prog 52 [i64 no, v] w (fun r w' => r = .bool (isBlk no b) ∧ w = w') := by
  refine FnOk.enter (rs := [4]) Try.func52 rfl Try.ntmps52 Try.results52 rfl rfl ?_
  refine WF.seq ?_
  refine WF.region ?_
  refine WL.va rfl rfl rfl (X.assignB rfl) ?_
  refine WL.nil ?_
  refine thn_n ?_
  refine WF.seq ?_
  refine WF.region ?_
  refine WL.va rfl rfl rfl (X.moveI rfl) ?_
  refine WL.va rfl rfl rfl (X.geq rfl rfl) ?_
  refine WL.va rfl rfl rfl (X.moveB rfl) ?_
  refine WL.split (j := 2) rfl (fun h3 => ?_) (fun h3 => ?_)
  · have gh3 := (of_decide_eq_true h3)
    have k1 : 0 ≤ no := by have := gh3; omega
    refine WL.vg rfl (congrArg some h3) rfl rfl (X.moveI rfl) ?_
    refine WL.vg rfl (congrArg some h3) rfl rfl (X.lss rfl rfl) ?_
    refine WL.va rfl rfl rfl (X.pickT rfl h3 rfl) ?_
    refine WL.va rfl rfl rfl (X.moveB rfl) ?_
    refine WL.split (j := 6) rfl (fun h5 => ?_) (fun h5 => ?_)
    · have gh5 := (of_decide_eq_true h5)
      have k2 : no < 64 := gh5
      refine WL.vg rfl (congrArg some h5) rfl rfl (X.move rfl) ?_
      refine WL.vg rfl (congrArg some h5) rfl rfl (X.len hb rfl Try.underlying36) ?_
      refine WL.vg rfl (congrArg some h5) rfl rfl (X.eql rfl rfl) ?_
      refine WL.va rfl rfl rfl (X.pickT rfl h5 rfl) ?_
      refine WL.va rfl rfl rfl (X.assignB rfl) ?_
      refine WL.nil ?_
      refine thn_n ?_
      refine WF.ret ?_
      refine fin_r ?_
      exact ⟨by first | exact congrArg Value.bool (blk_a k1 k2) | exact congrArg Value.bool (blk_b k1) | exact congrArg Value.bool (blk_c k2), rfl⟩
    · have gh5 := (of_decide_eq_false h5)
      have k2 : ¬ no < 64 := gh5
      refine WL.p rfl rfl rfl (congrArg some h5) ?_
      refine WL.p rfl rfl rfl (congrArg some h5) ?_
      refine WL.p rfl rfl rfl (congrArg some h5) ?_
      refine WL.va rfl rfl rfl (X.pickF rfl h5 rfl) ?_
      refine WL.va rfl rfl rfl (X.assignB rfl) ?_
      refine WL.nil ?_
      refine thn_n ?_
      refine WF.ret ?_
      refine fin_r ?_
      exact ⟨by first | exact congrArg Value.bool (blk_a k1 k2) | exact congrArg Value.bool (blk_b k1) | exact congrArg Value.bool (blk_c k2), rfl⟩
  · have gh3 := (of_decide_eq_false h3)
    have k1 : ¬ 0 ≤ no := by have := gh3; omega
    refine WL.p rfl rfl rfl (congrArg some h3) ?_
    refine WL.p rfl rfl rfl (congrArg some h3) ?_
    refine WL.va rfl rfl rfl (X.pickF rfl h3 rfl) ?_
    refine WL.va rfl rfl rfl (X.moveB rfl) ?_
    refine WL.p rfl rfl rfl rfl ?_
    refine WL.p rfl rfl rfl rfl ?_
    refine WL.p rfl rfl rfl rfl ?_
    refine WL.va rfl rfl rfl (X.pickF rfl rfl rfl) ?_
    refine WL.va rfl rfl rfl (X.assignB rfl) ?_
    refine WL.nil ?_
    refine thn_n ?_
    refine WF.ret ?_
    refine fin_r ?_
    exact ⟨by first | exact congrArg Value.bool (blk_a k1 k2) | exact congrArg Value.bool (blk_b k1) | exact congrArg Value.bool (blk_c k2), rfl⟩

end Go.Proofs.Ytobjmehppmhkdaa
