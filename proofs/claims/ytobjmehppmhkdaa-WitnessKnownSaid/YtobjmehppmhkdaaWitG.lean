/- The walks of ContainsFunc over events, and of touches. -/
import Derived.Test.YtobjmehppmhkdaaWitF
namespace Go.Proofs.Ytobjmehppmhkdaa
open Go Go.RowKit Kf
set_option maxRecDepth 20000

theorem indexE_ok (v vf : Value) (cs : List Value) (n : Nat) (p : Nat → Bool) (w : World) (hb : Row w v n 19 cs) (hf : ∀ k w1, k < n → Ext w w1 → CloOk Try.prog vf [agg (el cs 19 k)] w1 (fun r w2 => r = .bool (p k) ∧ Ext w1 w2)) : FnOk Try.prog 73 [v, vf] w (fun r w' => Idx p n r ∧ Ext w w') := by
  have hl : (n : Int) ≤ 9223372036854775807 := by obtain ⟨_, c, _, h1, h2, _⟩ := hb.shape; unfold maxLen at h2; omega
  refine FnOk.enter (rs := [4]) Try.func73 rfl Try.ntmps73 Try.results73 rfl rfl ?_
  refine WF.seq ?_
  refine WF.region ?_
  refine WL.va rfl rfl rfl (X.assignI rfl) ?_
  refine WL.nil ?_
  refine thn_n ?_
  refine WF.seq ?_
  refine WF.seq ?_
  refine WF.region ?_
  refine WL.va rfl rfl rfl (X.move rfl) ?_
  refine WL.va rfl rfl rfl (X.len hb rfl Try.underlying26) ?_
  refine WL.va rfl rfl rfl (X.moveI rfl) ?_
  refine WL.nil ?_
  refine thn_n ?_
  refine WF.block ?_
  refine WF.named (fun F1 hF2 => ?_)
  refine WF.loopN (fun mL0 f' w' => ∃ (k : Nat), mL0 = n - k ∧ f' 8 = .int .i64 (k : Int) ∧ Agree [0, 1, 6, 7] f' F1 ∧ Ext w w' ∧ k ≤ n ∧ ∀ j, j < k → p j = false) ?_ ?_
  · exact ⟨_, 0, rfl, (congrFun hF2 8), (Agree.refl _ _), (Ext.refl _), ⟨Nat.zero_le _, fun j hj => by omega⟩⟩
  · rintro mL0 fL0 wL0 ⟨k, hmL0, e8_L0, hAL0, hwL0, ⟨hk, hno⟩⟩
    refine WF.seq ?_
    refine WF.region ?_
    refine WL.va rfl rfl rfl (X.lss e8_L0 ((hAL0.eq 7).trans (congrFun hF2 7))) ?_
    refine WL.nil ?_
    refine thn_n ?_
    refine WF.seq ?_
    refine WF.cond rfl (fun h0_3 => ?_) (fun h0_3 => ?_)
    · have gh0_3 := (of_decide_eq_true h0_3)
      have hka : k < n := by omega
      refine WF.skip ?_
      refine thn_n ?_
      refine WF.seq ?_
      refine WF.block ?_
      refine WF.seq ?_
      refine WF.region ?_
      refine WL.va rfl rfl rfl (X.moveI e8_L0) ?_
      refine WL.va rfl rfl rfl (X.assignI rfl) ?_
      refine WL.nil ?_
      refine thn_n ?_
      refine WF.seq ?_
      refine WF.region ?_
      refine WL.va rfl rfl rfl (X.move ((hAL0.eq 1).trans (congrFun hF2 1))) ?_
      refine WL.va rfl rfl rfl (X.move ((hAL0.eq 0).trans (congrFun hF2 0))) ?_
      refine WL.va rfl rfl rfl (X.moveI rfl) ?_
      refine WL.va rfl rfl rfl (X.idx hb rfl rfl (by omega) Try.underlying26 Try.sizeOf42) ?_
      refine WL.va rfl rfl rfl (X.loadEl hb hwL0 rfl (by omega) rfl Try.isAgg42 Try.sizeOf42) ?_
      refine WL.op rfl (OW.callV rfl (evl_cons rfl evl_nil) (hf k _ hka hwL0) ?_ (by decide))
      rintro v6 w5 ⟨rfl, hx7⟩
      refine WL.nil ?_
      refine thn_n ?_
      refine WF.cond rfl (fun h1_8 => ?_) (fun h1_8 => ?_)
      · have gh1_8 := h1_8
        have hpk := gh1_8
        refine WF.seq ?_
        refine WF.region ?_
        refine WL.va rfl rfl rfl (X.moveI rfl) ?_
        refine WL.va rfl rfl rfl (X.assignI rfl) ?_
        refine WL.nil ?_
        refine thn_n ?_
        refine WF.ret ?_
        refine blk_r ?_
        refine thn_r ?_
        refine thn_r ?_
        refine blk_r ?_
        refine thn_r ?_
        refine fin_r ?_
        exact ⟨⟨_, rfl, .inl ⟨k, hka, rfl, hpk, hno⟩⟩, (Ext.trans hwL0 hx7)⟩
      · have gh1_8 := h1_8
        have hpk := gh1_8
        refine WF.skip ?_
        refine blk_n ?_
        refine thn_n ?_
        refine WF.region ?_
        refine WL.va rfl rfl rfl (X.add e8_L0 rfl (w64 (by omega))) ?_
        refine WL.va rfl rfl rfl (X.moveI rfl) ?_
        refine WL.nil ?_
        exact thn_n ⟨_, (by omega), k + 1, rfl, rfl, (by repeat (first | exact hAL0 | refine Agree.put ?_ rfl | refine Agree.named hF2 ?_)), (Ext.trans hwL0 hx7), ⟨by omega, fun j hj => by rcases Nat.lt_succ_iff_lt_or_eq.1 hj with h | rfl; exact hno j h; exact hpk⟩⟩
    · have gh0_3 := (of_decide_eq_false h0_3)
      refine WF.exit ?_
      refine thn_x ?_
      refine thn_x ?_
      refine blk_eq ?_
      refine thn_n ?_
      refine WF.seq ?_
      refine WF.region ?_
      refine WL.va rfl rfl rfl (X.assignI rfl) ?_
      refine WL.nil ?_
      refine thn_n ?_
      refine WF.ret ?_
      refine fin_r ?_
      exact ⟨⟨_, rfl, .inr ⟨rfl, fun j hj => hno j (by omega)⟩⟩, hwL0⟩

theorem containsE_ok (v vf : Value) (cs : List Value) (n : Nat) (p : Nat → Bool) (w : World) (hb : Row w v n 19 cs) (hf : ∀ k w1, k < n → Ext w w1 → CloOk Try.prog vf [agg (el cs 19 k)] w1 (fun r w2 => r = .bool (p k) ∧ Ext w1 w2)) : FnOk Try.prog 54 [v, vf] w (fun r w' => r = .bool (decide (∃ k, k < n ∧ p k = true)) ∧ Ext w w') := by
  refine FnOk.enter (rs := [4]) Try.func54 rfl Try.ntmps54 Try.results54 rfl rfl ?_
  refine WF.seq ?_
  refine WF.region ?_
  refine WL.va rfl rfl rfl (X.assignB rfl) ?_
  refine WL.nil ?_
  refine thn_n ?_
  refine WF.seq ?_
  refine WF.region ?_
  refine WL.va rfl rfl rfl (X.move rfl) ?_
  refine WL.va rfl rfl rfl (X.move rfl) ?_
  refine WL.c rfl rfl rfl (X.call Try.call73 (evl_cons rfl (evl_cons rfl evl_nil))) (indexE_ok _ _ cs n p _ (Row.ext hb (Ext.refl w)) (fun k w1 hk hx => hf k w1 hk (Ext.trans (Ext.refl w) hx))) ?_
  rintro v3 w2 ⟨⟨z, rfl, hz⟩, hx4⟩
  refine WL.va rfl rfl rfl (X.geq rfl rfl) ?_
  refine WL.va rfl rfl rfl (X.assignB rfl) ?_
  refine WL.nil ?_
  refine thn_n ?_
  refine WF.ret ?_
  refine fin_r ?_
  exact ⟨congrArg Value.bool (idxZ_mem hz), hx4⟩

def toB (e : Ev) (t : Int) : Bool := decide (e.Txn = t) && (ans e 3 0 || ans e 2 0)
section
variable {e : Ev} {t : Int} {l : List Ev}
theorem to_a (k1 : e.Txn = t) (k2 : ans e 3 0 = true) : true = toB e t := by simp [toB, k1, k2]
theorem to_b (k1 : e.Txn = t) (k2 : ans e 3 0 = false) : ans e 2 0 = toB e t := by simp [toB, k1, k2]
theorem to_c (k1 : ¬ e.Txn = t) : false = toB e t := by simp [toB, k1]
theorem any_dec {f : Ev → Bool} : decide (∃ k, k < l.length ∧ f (l.getD k Ev.zero) = true) = l.any f := by
  rw [Bool.eq_iff_iff, decide_eq_true_iff, List.any_eq_true]
  constructor
  · rintro ⟨k, hk, h⟩
    rw [List.getD_eq_getElem?_getD, List.getElem?_eq_getElem hk] at h
    exact ⟨_, List.getElem_mem hk, h⟩
  · rintro ⟨e, he, h⟩
    obtain ⟨k, hk, rfl⟩ := List.mem_iff_getElem.1 he
    exact ⟨k, hk, by rw [List.getD_eq_getElem?_getD, List.getElem?_eq_getElem hk]; exact h⟩
end
set_option maxHeartbeats 1000000 in
theorem touchLit_ok (e : Ev) (d d2 : Value) (g1 : Nat) (t : Int) (w : World) (h1 : Blk w g1 3 [i64 t]) : FnOk Try.prog 74 [agg (e.c d d2), at_ g1] w (fun r w' => r = .bool (toB e t) ∧ Ext w w') := by
  have t1 := h1.lt
  refine FnOk.enter (rs := [3]) Try.func74 rfl Try.ntmps74 Try.results74 rfl rfl ?_
  refine WF.seq ?_
  refine WF.region ?_
  refine WL.op rfl (OW.boxA (cs := (e.c d d2)) rfl ?_ (by decide))
  intro g2 w1 heg2 hlg2 hO2 hx3
  have := World.grownBy.size hx3
  refine WL.va rfl rfl rfl (X.assignB rfl) ?_
  refine WL.nil ?_
  refine thn_n ?_
  refine WF.seq ?_
  refine WF.region ?_
  refine WL.va rfl rfl rfl (X.fieldAddrO (off := 2) rfl Try.underlying42 rfl rfl Try.sizeOf3) ?_
  refine WL.va rfl rfl rfl (X.loadO hO2 (Ext.refl _) rfl rfl Try.isAgg3) ?_
  refine WL.va rfl rfl rfl (X.loadO h1 hx3 rfl rfl Try.isAgg3) ?_
  refine WL.va rfl rfl rfl (X.eql rfl rfl) ?_
  refine WL.va rfl rfl rfl (X.moveB rfl) ?_
  refine WL.split (j := 4) rfl (fun h7 => ?_) (fun h7 => ?_)
  · have gh7 := (of_decide_eq_true h7)
    have k1 : e.Txn = t := gh7
    refine WL.vg rfl (congrArg some h7) rfl rfl (X.loadOA hO2 (Ext.refl _) rfl rfl Try.isAgg42 Try.sizeOf42) ?_
    refine WL.cg rfl (congrArg some h7) rfl rfl (X.call Try.call51 (evl_cons (v := (agg (e.c d d2))) rfl (evl_cons (v := (i64 3)) rfl (evl_cons (v := (i64 0)) rfl evl_nil)))) (answered_ok e d d2 3 0 _) ?_
    rintro v9 w8 ⟨rfl, hx10⟩
    have := World.grownBy.size hx10
    refine WL.vg rfl (congrArg some h7) rfl rfl (X.moveB rfl) ?_
    refine WL.split (j := 7) rfl (fun h12 => ?_) (fun h12 => ?_)
    · have gh12 := h12
      have k2 : ans e 3 0 = true := gh12
      refine WL.p rfl rfl rfl (congrArg some h12) ?_
      refine WL.p rfl rfl rfl (congrArg some h12) ?_
      refine WL.vg rfl (congrArg some h7) rfl rfl (X.pickT rfl h12 rfl) ?_
      refine WL.va rfl rfl rfl (X.pickT rfl h7 rfl) ?_
      refine WL.va rfl rfl rfl (X.assignB rfl) ?_
      refine WL.nil ?_
      refine thn_n ?_
      refine WF.ret ?_
      refine fin_r ?_
      exact ⟨by first | exact congrArg Value.bool (to_a k1 k2) | exact congrArg Value.bool (to_b k1 k2) | exact congrArg Value.bool (to_c k1), (Ext.trans hx3 hx10)⟩
    · have gh12 := h12
      have k2 : ans e 3 0 = false := gh12
      refine WL.vg rfl (congrArg some h12) rfl rfl (X.loadOA hO2 hx10 rfl rfl Try.isAgg42 Try.sizeOf42) ?_
      refine WL.cg rfl (congrArg some h12) rfl rfl (X.call Try.call51 (evl_cons (v := (agg (e.c d d2))) rfl (evl_cons (v := (i64 2)) rfl (evl_cons (v := (i64 0)) rfl evl_nil)))) (answered_ok e d d2 2 0 _) ?_
      rintro v15 w14 ⟨rfl, hx16⟩
      have := World.grownBy.size hx16
      refine WL.vg rfl (congrArg some h7) rfl rfl (X.pickF rfl h12 rfl) ?_
      refine WL.va rfl rfl rfl (X.pickT rfl h7 rfl) ?_
      refine WL.va rfl rfl rfl (X.assignB rfl) ?_
      refine WL.nil ?_
      refine thn_n ?_
      refine WF.ret ?_
      refine fin_r ?_
      exact ⟨by first | exact congrArg Value.bool (to_a k1 k2) | exact congrArg Value.bool (to_b k1 k2) | exact congrArg Value.bool (to_c k1), (Ext.trans (Ext.trans hx3 hx10) hx16)⟩
  · have gh7 := (of_decide_eq_false h7)
    have k1 : ¬ e.Txn = t := gh7
    refine WL.p rfl rfl rfl (congrArg some h7) ?_
    refine WL.p rfl rfl rfl (congrArg some h7) ?_
    refine WL.p rfl rfl rfl (congrArg some h7) ?_
    refine WL.pn rfl rfl rfl rfl ?_
    refine WL.pn rfl rfl rfl rfl ?_
    refine WL.p rfl rfl rfl (congrArg some h7) ?_
    refine WL.va rfl rfl rfl (X.pickF rfl h7 rfl) ?_
    refine WL.va rfl rfl rfl (X.assignB rfl) ?_
    refine WL.nil ?_
    refine thn_n ?_
    refine WF.ret ?_
    refine fin_r ?_
    exact ⟨by first | exact congrArg Value.bool (to_a k1 k2) | exact congrArg Value.bool (to_b k1 k2) | exact congrArg Value.bool (to_c k1), hx3⟩

set_option maxHeartbeats 2000000 in
theorem touches_ok (g : Nat) (l : List Ev) (t : Int) (w : World) (h : HAt w g l) : FnOk Try.prog 57 [at_ g, i64 t] w (fun r w' => r = .bool (touchesB l t) ∧ Ext w w') := by
  obtain ⟨vl, gm, L, hI⟩ := h
  have hx := hI.obj
  have tg := hx.lt
  obtain ⟨cs, hr, hel⟩ := hI.evs
  refine FnOk.enter (rs := [4]) Try.func57 rfl Try.ntmps57 Try.results57 rfl rfl ?_
  refine WF.seq ?_
  refine WF.region ?_
  refine WL.op rfl (OW.box1 rfl rfl ?_ (by decide))
  intro g3 w1 heg3 hlg3 hO3 hx3
  have := World.grownBy.size hx3
  refine WL.va rfl rfl rfl (X.assignB rfl) ?_
  refine WL.nil ?_
  refine thn_n ?_
  refine WF.seq ?_
  refine WF.region ?_
  refine WL.va rfl rfl rfl (X.move rfl) ?_
  refine WL.va rfl rfl rfl (X.nilCheck rfl) ?_
  refine WL.va rfl rfl rfl (X.fieldAddrO (off := 0) rfl Try.underlying81 rfl rfl Try.sizeOf26) ?_
  refine WL.va rfl rfl rfl (X.loadO hx hx3 rfl rfl Try.isAgg26) ?_
  refine WL.va rfl rfl rfl (X.makeFunc (evl_cons rfl evl_nil)) ?_
  have hclo : ∀ k wq, k < l.length → Ext w1 wq → CloOk Try.prog (.func (.func 74) #[] [at_ g3].toArray) [agg (el cs 19 k)] wq (fun r w2 => r = .bool (toB (l.getD k Ev.zero) t) ∧ Ext wq w2) := fun k wq hk hxq => by
    obtain ⟨d, d2, hcs, _, _⟩ := hel k hk
    exact ⟨_, _, rfl, Try.call74, (by rw [hcs, show l.getD k Ev.zero = l[k]'hk from by rw [List.getD_eq_getElem?_getD, List.getElem?_eq_getElem hk]; rfl]; exact touchLit_ok _ _ _ _ _ _ (hO3.ext hxq))⟩
  refine WL.c rfl rfl rfl (X.call Try.call54 (evl_cons rfl (evl_cons rfl evl_nil))) (containsE_ok _ _ cs l.length (fun k => toB (l.getD k Ev.zero) t) _ (Row.ext hr (show Ext w w1 from hx3)) hclo) ?_
  rintro v7 w6 ⟨rfl, hx8⟩
  have := World.grownBy.size hx8
  refine WL.va rfl rfl rfl (X.assignB rfl) ?_
  refine WL.nil ?_
  refine thn_n ?_
  refine WF.ret ?_
  refine fin_r ?_
  exact ⟨congrArg Value.bool (any_dec (f := fun e => toB e t)), (Ext.trans hx3 hx8)⟩

end Go.Proofs.Ytobjmehppmhkdaa
