/- The walk of denies. -/
import Derived.Test.YtobjmehppmhkdaaWitE
namespace Go.Proofs.Ytobjmehppmhkdaa
open Go Go.RowKit Kf
set_option maxRecDepth 20000

def LK : List Int := [4, 7, 9, 2]
theorem den_t {e : Ev} : ∀ {k : Nat}, k < 4 → ans e (LK.getD k 0) 24 = true → deniesB e = true
  | 0, _, h => by have h : ans e 4 24 = true := h; simp [deniesB, h]
  | 1, _, h => by have h : ans e 7 24 = true := h; simp [deniesB, h]
  | 2, _, h => by have h : ans e 9 24 = true := h; simp [deniesB, h]
  | 3, _, h => by have h : ans e 2 24 = true := h; simp [deniesB, h]
theorem den_f {e : Ev} (h : ∀ j, j < 4 → ans e (LK.getD j 0) 24 = false) : ans e 5 0 = deniesB e := by
  have h0 : ans e 4 24 = false := h 0 (by omega)
  have h1 : ans e 7 24 = false := h 1 (by omega)
  have h2 : ans e 9 24 = false := h 2 (by omega)
  have h3 : ans e 2 24 = false := h 3 (by omega)
  simp [deniesB, h0, h1, h2, h3]
set_option maxHeartbeats 4000000 in
theorem denies_ok (e : Ev) (d d2 : Value) (w : World) : FnOk Try.prog 56 [agg (e.c d d2)] w (fun r w' => r = .bool (deniesB e) ∧ Ext w w') := by
  have hLK : LK.length = 4 := rfl
  refine FnOk.enter (rs := [2]) Try.func56 rfl Try.ntmps56 Try.results56 rfl rfl ?_
  refine WF.seq ?_
  refine WF.region ?_
  refine WL.op rfl (OW.boxA (cs := (e.c d d2)) rfl ?_ (by decide))
  intro g1 w1 heg1 hlg1 hO1 hx2
  have := World.grownBy.size hx2
  refine WL.va rfl rfl rfl (X.assignB rfl) ?_
  refine WL.nil ?_
  refine thn_n ?_
  refine WF.seq ?_
  refine WF.seq ?_
  refine WF.region ?_
  refine WL.op rfl (OW.lits (vs := [_, _, _, _]) (evp_cons rfl (evp_cons rfl (evp_cons rfl (evp_cons rfl evp_nil)))) Try.underlying34 Try.sizeOf3 Try.zeroValue3 ⟨rfl, rfl, rfl, rfl, trivial⟩ rfl rfl rfl ?_ (by decide))
  intro v5 wLit ho7 hx6
  have := World.grownBy.size hx6
  have oL : OwnI wLit _ 3 v5 LK := ho7
  refine WL.va rfl rfl rfl (X.len (show Ints _ _ LK from Row.of_own ho7) rfl Try.underlying34) ?_
  refine WL.va rfl rfl rfl (X.moveI rfl) ?_
  refine WL.nil ?_
  refine thn_n ?_
  refine WF.block ?_
  refine WF.named (fun F8 hF9 => ?_)
  refine WF.loopN (fun mL0 f' w' => ∃ (k : Nat), mL0 = 4 - k ∧ f' 7 = .int .i64 (k : Int) ∧ Agree [0, 1, 5, 6] f' F8 ∧ Ext wLit w' ∧ k ≤ 4 ∧ (∀ j, j < k → ans e (LK.getD j 0) 24 = false) ∧ Blk w' g1 42 (e.c d d2)) ?_ ?_
  · exact ⟨_, 0, rfl, (congrFun hF9 7), (Agree.refl _ _), (Ext.refl _), ⟨Nat.zero_le _, (fun j h => absurd h (by omega)), (hO1.ext hx6)⟩⟩
  · rintro mL0 fL0 wL0 ⟨k, hmL0, e7_L0, hAL0, hwL0, ⟨hk0, hno, hO1⟩⟩
    have := World.grownBy.size hwL0
    refine WF.seq ?_
    refine WF.region ?_
    refine WL.va rfl rfl rfl (X.lss e7_L0 ((hAL0.eq 6).trans (congrFun hF9 6))) ?_
    refine WL.nil ?_
    refine thn_n ?_
    refine WF.seq ?_
    refine WF.cond rfl (fun h0_10 => ?_) (fun h0_10 => ?_)
    · have gh0_10 := (of_decide_eq_true h0_10)
      have hk : k < 4 := by have := gh0_10; omega
      refine WF.skip ?_
      refine thn_n ?_
      refine WF.seq ?_
      refine WF.block ?_
      refine WF.seq ?_
      refine WF.region ?_
      refine WL.va rfl rfl rfl (X.idx (show Ints _ _ LK from Row.of_own ho7) ((hAL0.eq 5).trans (congrFun hF9 5)) e7_L0 (show k < LK.length from hk) Try.underlying34 Try.sizeOf3) ?_
      refine WL.va rfl rfl rfl (X.loadI (show Ints _ _ LK from Row.of_own ho7) hwL0 rfl (show k < LK.length from hk) Try.isAgg3) ?_
      refine WL.va rfl rfl rfl (X.assignI rfl) ?_
      refine WL.nil ?_
      refine thn_n ?_
      refine WF.seq ?_
      refine WF.region ?_
      refine WL.va rfl rfl rfl (X.loadOA hO1 (Ext.refl _) ((hAL0.eq 1).trans (congrFun hF9 1)) rfl Try.isAgg42 Try.sizeOf42) ?_
      refine WL.va rfl rfl rfl (X.moveI rfl) ?_
      refine WL.c rfl rfl rfl (X.call Try.call51 (evl_cons (v := (agg (e.c d d2))) rfl (evl_cons (v := (i64 (LK.getD k 0))) rfl (evl_cons (v := (i64 24)) rfl evl_nil)))) (answered_ok e d d2 (LK.getD k 0) 24 _) ?_
      rintro v13 w12 ⟨rfl, hx14⟩
      have := World.grownBy.size hx14
      refine WL.nil ?_
      refine thn_n ?_
      refine WF.cond rfl (fun h1_15 => ?_) (fun h1_15 => ?_)
      · have gh1_15 := h1_15
        have hy : ans e (LK.getD k 0) 24 = true := gh1_15
        refine WF.seq ?_
        refine WF.region ?_
        refine WL.va rfl rfl rfl (X.assignB rfl) ?_
        refine WL.nil ?_
        refine thn_n ?_
        refine WF.ret ?_
        refine blk_r ?_
        refine thn_r ?_
        refine thn_r ?_
        refine blk_r ?_
        refine thn_r ?_
        refine fin_r ?_
        exact ⟨congrArg Value.bool (den_t hk hy).symm, (Ext.trans (Ext.trans (Ext.trans hx2 hx6) hwL0) hx14)⟩
      · have gh1_15 := h1_15
        have hy : ans e (LK.getD k 0) 24 = false := gh1_15
        refine WF.skip ?_
        refine blk_n ?_
        refine thn_n ?_
        refine WF.region ?_
        refine WL.va rfl rfl rfl (X.add e7_L0 rfl (w64 (by omega))) ?_
        refine WL.va rfl rfl rfl (X.moveI rfl) ?_
        refine WL.nil ?_
        exact thn_n ⟨_, (by omega), k + 1, rfl, rfl, (by repeat (first | exact hAL0 | refine Agree.put ?_ rfl | refine Agree.named hF9 ?_)), (Ext.trans hwL0 hx14), ⟨by omega, (fun j h => by by_cases q : j = k; (subst q; exact hy); exact hno j (by omega)), (hO1.ext hx14)⟩⟩
    · have gh0_10 := (of_decide_eq_false h0_10)
      have hk : 4 ≤ k := by have := gh0_10; omega
      refine WF.exit ?_
      refine thn_x ?_
      refine thn_x ?_
      refine blk_eq ?_
      refine thn_n ?_
      refine WF.seq ?_
      refine WF.region ?_
      refine WL.va rfl rfl rfl (X.loadOA hO1 (Ext.refl _) ((hAL0.eq 1).trans (congrFun hF9 1)) rfl Try.isAgg42 Try.sizeOf42) ?_
      refine WL.c rfl rfl rfl (X.call Try.call51 (evl_cons (v := (agg (e.c d d2))) rfl (evl_cons (v := (i64 5)) rfl (evl_cons (v := (i64 0)) rfl evl_nil)))) (answered_ok e d d2 5 0 _) ?_
      rintro v19 w18 ⟨rfl, hx20⟩
      have := World.grownBy.size hx20
      refine WL.va rfl rfl rfl (X.assignB rfl) ?_
      refine WL.nil ?_
      refine thn_n ?_
      refine WF.ret ?_
      refine fin_r ?_
      exact ⟨congrArg Value.bool (den_f fun j h => hno j (by omega)), (Ext.trans (Ext.trans (Ext.trans hx2 hx6) hwL0) hx20)⟩

end Go.Proofs.Ytobjmehppmhkdaa
