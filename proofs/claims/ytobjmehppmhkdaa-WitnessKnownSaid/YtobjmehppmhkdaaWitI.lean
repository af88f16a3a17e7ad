/- The walk of denied. -/
import Derived.Test.YtobjmehppmhkdaaWitH
namespace Go.Proofs.Ytobjmehppmhkdaa
open Go Go.RowKit Kf
set_option maxRecDepth 20000

def deB (l : List Ev) (e : Ev) : Bool := deniesB e && chosenB l e.Txn l.length
section
variable {l : List Ev} {e : Ev}
theorem de_a (k1 : deniesB e = true) : chosenB l e.Txn l.length = deB l e := by simp [deB, k1]
theorem de_b (k1 : deniesB e = false) : false = deB l e := by simp [deB, k1]
end
set_option maxHeartbeats 2000000 in
theorem deniedLit_ok (e : Ev) (d d2 : Value) (g1 g : Nat) (l : List Ev) (w : World) (h1 : Blk w g1 58 [at_ g]) (h : HAt w g l) : FnOk Try.prog 55 [agg (e.c d d2), at_ g1] w (fun r w' => r = .bool (deB l e) ∧ Ext w w') := by
  have hH := h
  obtain ⟨vl, gm, L, hI⟩ := h
  have hx := hI.obj
  have t1 := h1.lt
  have tg := hx.lt
  obtain ⟨cs, hr, hel⟩ := hI.evs
  refine FnOk.enter (rs := [3]) Try.func55 rfl Try.ntmps55 Try.results55 rfl rfl ?_
  refine WF.seq ?_
  refine WF.region ?_
  refine WL.op rfl (OW.boxA (cs := (e.c d d2)) rfl ?_ (by decide))
  intro g2 w1 heg2 hlg2 hO2 hx2
  have := World.grownBy.size hx2
  refine WL.va rfl rfl rfl (X.assignB rfl) ?_
  refine WL.nil ?_
  refine thn_n ?_
  refine WF.seq ?_
  refine WF.drawn (.q 0 (.l 1 (.q 2 (.q 3 (.q 4 (.q 5 (.q 6 (.q 7 (.q 8 (.q 9 (.q 10 (.l 11 (.q 12 (.q 13 .nil)))))))))))))) (fun w' => Ext w1 w') 14 (by kernel_rfl) (by kernel_rfl) (Ext.drew _) ?_
  have := World.grownBy.size (Ext.drew w1)
  refine WO.q rfl rfl rfl rfl (fun w' hE5 => (X.loadOA hO2 hE5 rfl rfl Try.isAgg42 Try.sizeOf42)) ?_
  refine WO.l ?_
  refine LO.go rfl rfl (OW.enter rfl (by decide) (X.call Try.call56 (evl_cons (v := (agg (e.c d d2))) rfl evl_nil)) (denies_ok e d d2 _) ?_)
  rintro v7 w6 ⟨rfl, hx8⟩
  have := World.grownBy.size hx8
  refine ⟨(Ext.trans (Ext.drew _) hx8), ?_⟩
  refine WO.q rfl rfl rfl rfl (fun w' hE5 => (X.moveB rfl)) ?_
  refine WO.split (j := 2) rfl (fun h10 => ?_) (fun h10 => ?_)
  · have gh10 := h10
    have k1 : deniesB e = true := gh10
    refine WO.qg rfl rfl (congrArg some h10) rfl rfl (fun w' hE5 => (X.loadO h1 (Ext.trans hx2 hE5) rfl rfl Try.isAgg58)) ?_
    refine WO.qg rfl rfl (congrArg some h10) rfl rfl (fun w' hE5 => (X.fieldAddrO (off := 2) rfl Try.underlying42 rfl rfl Try.sizeOf3)) ?_
    refine WO.qg rfl rfl (congrArg some h10) rfl rfl (fun w' hE5 => (X.loadO hO2 hE5 rfl rfl Try.isAgg3)) ?_
    refine WO.qg rfl rfl (congrArg some h10) rfl rfl (fun w' hE5 => (X.loadO h1 (Ext.trans (show Ext w w1 from hx2) hE5) rfl rfl Try.isAgg58)) ?_
    refine WO.qg rfl rfl (congrArg some h10) rfl rfl (fun w' hE5 => (X.nilCheck rfl)) ?_
    refine WO.qg rfl rfl (congrArg some h10) rfl rfl (fun w' hE5 => (X.fieldAddrP (off := 0) rfl Try.underlying81 rfl rfl Try.sizeOf26)) ?_
    refine WO.qg rfl rfl (congrArg some h10) rfl rfl (fun w' hE5 => (X.loadO hx (Ext.trans hx2 hE5) rfl rfl Try.isAgg26)) ?_
    refine WO.qg rfl rfl (congrArg some h10) rfl rfl (fun w' hE5 => (X.len hr rfl Try.underlying26)) ?_
    refine WO.l ?_
    refine LO.gog rfl rfl (congrArg some h10) (OW.enter rfl (by decide) (X.call Try.call53 (evl_cons (v := (at_ g)) rfl (evl_cons (v := (i64 e.Txn)) rfl (evl_cons (v := (i64 (l.length : Int))) rfl evl_nil)))) (chosen_ok g l e.Txn (l.length : Int) _ (hH.ext (show Ext w w6 from (Ext.trans (Ext.trans hx2 (Ext.drew _)) hx8)))) ?_)
    rintro v12 w11 ⟨rfl, rfl⟩
    refine ⟨(Ext.trans (Ext.drew _) hx8), ?_⟩
    refine WO.q rfl rfl rfl rfl (fun w' hE5 => (X.pickT rfl h10 rfl)) ?_
    refine WO.q rfl rfl rfl rfl (fun w' hE5 => (X.assignB rfl)) ?_
    refine WO.nil ?_
    refine WL.nil ?_
    refine thn_n ?_
    refine WF.ret ?_
    refine fin_r ?_
    exact ⟨by first | exact congrArg Value.bool (de_a k1) | exact congrArg Value.bool (de_b k1), (Ext.trans (Ext.trans hx2 (Ext.drew _)) hx8)⟩
  · have gh10 := h10
    have k1 : deniesB e = false := gh10
    refine WO.qp rfl rfl rfl rfl (congrArg some h10) ?_
    refine WO.qp rfl rfl rfl rfl (congrArg some h10) ?_
    refine WO.qp rfl rfl rfl rfl (congrArg some h10) ?_
    refine WO.qp rfl rfl rfl rfl (congrArg some h10) ?_
    refine WO.qp rfl rfl rfl rfl (congrArg some h10) ?_
    refine WO.qp rfl rfl rfl rfl (congrArg some h10) ?_
    refine WO.qp rfl rfl rfl rfl (congrArg some h10) ?_
    refine WO.qp rfl rfl rfl rfl (congrArg some h10) ?_
    refine WO.l ?_
    refine LO.pass rfl (Ext.trans (Ext.drew _) hx8) rfl rfl rfl (congrArg some h10) ?_
    refine WO.q rfl rfl rfl rfl (fun w' hE5 => (X.pickF rfl h10 rfl)) ?_
    refine WO.q rfl rfl rfl rfl (fun w' hE5 => (X.assignB rfl)) ?_
    refine WO.nil ?_
    refine WL.nil ?_
    refine thn_n ?_
    refine WF.ret ?_
    refine fin_r ?_
    exact ⟨by first | exact congrArg Value.bool (de_a k1) | exact congrArg Value.bool (de_b k1), (Ext.trans (Ext.trans hx2 (Ext.drew _)) hx8)⟩

set_option maxHeartbeats 2000000 in
theorem denied_ok (g : Nat) (l : List Ev) (w : World) (h : HAt w g l) : FnOk Try.prog 30 [at_ g] w (fun r w' => r = .bool (deniedB l) ∧ Ext w w') := by
  have hH := h
  obtain ⟨vl, gm, L, hI⟩ := h
  have hx := hI.obj
  have tg := hx.lt
  obtain ⟨cs, hr, hel⟩ := hI.evs
  refine FnOk.enter (rs := [2]) Try.func30 rfl Try.ntmps30 Try.results30 rfl rfl ?_
  refine WF.seq ?_
  refine WF.region ?_
  refine WL.op rfl (OW.box1 rfl rfl ?_ (by decide))
  intro g1 w1 heg1 hlg1 hO1 hx3
  have := World.grownBy.size hx3
  refine WL.va rfl rfl rfl (X.assignB rfl) ?_
  refine WL.nil ?_
  refine thn_n ?_
  refine WF.seq ?_
  refine WF.region ?_
  refine WL.va rfl rfl rfl (X.loadO hO1 (Ext.refl _) rfl rfl Try.isAgg58) ?_
  refine WL.va rfl rfl rfl (X.nilCheck rfl) ?_
  refine WL.va rfl rfl rfl (X.fieldAddrP (off := 0) rfl Try.underlying81 rfl rfl Try.sizeOf26) ?_
  refine WL.va rfl rfl rfl (X.loadO hx hx3 rfl rfl Try.isAgg26) ?_
  refine WL.va rfl rfl rfl (X.makeFunc (evl_cons rfl evl_nil)) ?_
  have hclo : ∀ k wq, k < l.length → Ext w1 wq → CloOk Try.prog (.func (.func 55) #[] [at_ g1].toArray) [agg (el cs 19 k)] wq (fun r w2 => r = .bool (deB l (l.getD k Ev.zero)) ∧ Ext wq w2) := fun k wq hk hxq => by
    obtain ⟨d, d2, hcs, _, _⟩ := hel k hk
    exact ⟨_, _, rfl, Try.call55, (by rw [hcs, show l.getD k Ev.zero = l[k]'hk from by rw [List.getD_eq_getElem?_getD, List.getElem?_eq_getElem hk]; rfl]; exact deniedLit_ok _ _ _ _ g _ _ (hO1.ext hxq) (hH.ext (Ext.trans (show Ext w w1 from hx3) hxq)))⟩
  refine WL.c rfl rfl rfl (X.call Try.call54 (evl_cons rfl (evl_cons rfl evl_nil))) (containsE_ok _ _ cs l.length (fun k => deB l (l.getD k Ev.zero)) _ (Row.ext hr (show Ext w w1 from hx3)) hclo) ?_
  rintro v7 w6 ⟨rfl, hx8⟩
  have := World.grownBy.size hx8
  refine WL.va rfl rfl rfl (X.assignB rfl) ?_
  refine WL.nil ?_
  refine thn_n ?_
  refine WF.ret ?_
  refine fin_r ?_
  exact ⟨congrArg Value.bool (any_dec (f := fun e => deB l e)), (Ext.trans hx3 hx8)⟩

end Go.Proofs.Ytobjmehppmhkdaa
