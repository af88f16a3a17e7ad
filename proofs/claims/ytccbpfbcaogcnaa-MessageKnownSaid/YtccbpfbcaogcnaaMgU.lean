/- The walks of MessageGets, MessageTurned and MessageUnlike. -/
import Derived.Test.YtccbpfbcaogcnaaMgT
namespace Go.Proofs.Ytccbpfbcaogcnaa
open Go Go.RowKit Kf
set_option maxRecDepth 20000

set_option maxHeartbeats 4000000 in
theorem messageGets_walk (v : Value) (l : List UInt8) (w : World) (hb : Bytes w v l) (_hz : l.length ≤ 140737488351232) : FnOk Try.prog 5 [v] w (fun r w' => r = .bool true ∧ Ext w w') := by
  refine FnOk.enter (rs := [2]) Try.func5 rfl Try.ntmps5 Try.results5 rfl rfl ?_
  refine WF.seq ?_
  refine WF.region ?_
  refine WL.va rfl rfl rfl (X.assignB rfl) ?_
  refine WL.nil ?_
  refine thn_n ?_
  refine WF.seq ?_
  refine WF.seq ?_
  refine WF.region ?_
  refine WL.va rfl rfl rfl (X.move rfl) ?_
  refine WL.va rfl rfl rfl (X.len hb rfl Try.underlying23) ?_
  refine WL.va rfl rfl rfl (X.gtr rfl rfl) ?_
  refine WL.nil ?_
  refine thn_n ?_
  refine WF.cond rfl (fun h0_2 => ?_) (fun h0_2 => ?_)
  · have gh0_2 := (of_decide_eq_true h0_2)
    refine WF.seq ?_
    refine WF.region ?_
    refine WL.c rfl rfl rfl (X.call Try.call12 evl_nil) (works_ok _) ?_
    rintro v5 w4 ⟨rfl, hx6⟩
    refine WL.va rfl rfl rfl (X.assignB rfl) ?_
    refine WL.nil ?_
    refine thn_n ?_
    refine WF.ret ?_
    refine thn_r ?_
    refine fin_r ?_
    exact ⟨rfl, hx6⟩
  · have gh0_2 := (of_decide_eq_false h0_2)
    refine WF.skip ?_
    refine thn_n ?_
    refine WF.seq ?_
    refine WF.region ?_
    refine WL.va rfl rfl rfl (X.move rfl) ?_
    refine WL.c rfl rfl rfl (X.call Try.call21 (evl_cons rfl evl_nil)) (lentBytes_ok v l _ (Row.ext hb (Ext.refl w)) (by omega)) ?_
    rintro va wa ⟨oa, hx8⟩
    have hza := World.grownBy.size hx8
    refine WL.va rfl rfl rfl (X.assign rfl) ?_
    refine WL.nil ?_
    refine thn_n ?_
    refine WF.seq ?_
    refine WF.region ?_
    refine WL.va rfl rfl rfl (X.move rfl) ?_
    refine WL.va rfl rfl rfl (X.move rfl) ?_
    refine WL.va rfl rfl rfl (X.len hb rfl Try.underlying23) ?_
    refine WL.va rfl rfl rfl (X.slH (Bytes.of_own oa) rfl rfl (by simp) Try.underlying23 Try.sizeOf5) ?_
    have hzb := World.grownBy.size (show Ext wa wa from (Ext.refl _))
    refine WL.c rfl rfl rfl (X.call Try.call22 (evl_cons rfl evl_nil)) (get_ok _ l _ (Row.ext (lent_part oa) (Ext.refl wa)) (by omega)) ?_
    rintro v9 wG ⟨⟨p1, p2, rfl, DG, LG, EG, hG⟩, hx10⟩
    have hzG := World.grownBy.size hx10
    refine WL.va rfl rfl rfl (X.move rfl) ?_
    refine WL.va rfl rfl rfl (X.extract rfl rfl) ?_
    refine WL.va rfl rfl rfl (X.extract rfl rfl) ?_
    refine WL.op rfl (OW.allocO (cs := [i64 0, i64 0, i64 0, i64 0, i64 0, i64 0, i64 0, i64 0, i64 0, i64 0, i64 0, i64 0, i64 0, i64 0, .bool false, .slice none 0 0, .slice none 0 0]) Try.zeroValue25 rfl ?_ (by decide))
    intro g4 w11 heg4 hlg4 hO4 hx13
    have := World.grownBy.size hx13
    refine WL.op rfl (OW.storeOA hO4 rfl rfl rfl hG.at.ones Try.sizeOf25 ?_)
    intro w15 hO4 hx17
    have := World.grownBy.size hx17
    refine WL.va rfl rfl rfl (X.assignI rfl) ?_
    refine WL.nil ?_
    refine thn_n ?_
    refine WF.seq ?_
    refine WF.region ?_
    refine WL.va rfl rfl rfl (X.move rfl) ?_
    refine WL.va rfl rfl rfl (X.move rfl) ?_
    refine WL.va rfl rfl rfl (X.len hb rfl Try.underlying23) ?_
    refine WL.va rfl rfl rfl (X.slH (Bytes.of_own oa) rfl rfl (by simp) Try.underlying23 Try.sizeOf5) ?_
    have hzc := World.grownBy.size (show Ext wG w15 from (Ext.store hx13 hx17 (by omega)))
    refine WL.c rfl rfl rfl (X.call Try.call22 (evl_cons rfl evl_nil)) (get_ok _ l _ (Row.ext (lent_part oa) (Ext.trans hx10 (Ext.store hx13 hx17 (by omega)))) (by omega)) ?_
    rintro v19 wH ⟨⟨q1, q2, rfl, DH, LH, EH, hH⟩, hx20⟩
    have := World.grownBy.size hx20
    have hzH := World.grownBy.size hx20
    refine WL.va rfl rfl rfl (X.move rfl) ?_
    refine WL.va rfl rfl rfl (X.extract rfl rfl) ?_
    refine WL.va rfl rfl rfl (X.extract rfl rfl) ?_
    refine WL.op rfl (OW.allocO (cs := [i64 0, i64 0, i64 0, i64 0, i64 0, i64 0, i64 0, i64 0, i64 0, i64 0, i64 0, i64 0, i64 0, i64 0, .bool false, .slice none 0 0, .slice none 0 0]) Try.zeroValue25 rfl ?_ (by decide))
    intro g6 w21 heg6 hlg6 hO6 hx23
    have := World.grownBy.size hx23
    refine WL.op rfl (OW.storeOA hO6 rfl rfl rfl hH.at.ones Try.sizeOf25 ?_)
    intro w25 hO6 hx27
    have := World.grownBy.size hx27
    replace hO4 := (hO4.ext (Ext.trans hx20 hx23)).keptO hx27 (by omega)
    refine WL.va rfl rfl rfl (X.assignI rfl) ?_
    refine WL.nil ?_
    refine thn_n ?_
    refine WF.seq ?_
    refine WF.region ?_
    refine WL.va rfl rfl rfl (X.move rfl) ?_
    have hzd := World.grownBy.size (show Ext wG w25 from (Ext.trans (Ext.trans (Ext.store hx13 hx17 (by omega)) hx20) (Ext.store hx23 hx27 (by omega))))
    refine WL.c rfl rfl rfl (X.call Try.call23 (evl_cons rfl evl_nil)) (getR_ok _ l _ (Row.ext hb (Ext.trans (Ext.trans (Ext.trans (Ext.trans hx8 hx10) (Ext.store hx13 hx17 (by omega))) hx20) (Ext.store hx23 hx27 (by omega))))) ?_
    rintro v29 wR ⟨⟨r1, r2, rfl, hR⟩, hx30⟩
    have := World.grownBy.size hx30
    have hzR := World.grownBy.size hx30
    refine WL.va rfl rfl rfl (X.move rfl) ?_
    refine WL.va rfl rfl rfl (X.extract rfl rfl) ?_
    refine WL.va rfl rfl rfl (X.extract rfl rfl) ?_
    refine WL.op rfl (OW.allocO (cs := [i64 0, i64 0, i64 0, i64 0, i64 0, i64 0, i64 0, i64 0, i64 0, i64 0, i64 0, i64 0, i64 0, i64 0, .bool false, .slice none 0 0, .slice none 0 0]) Try.zeroValue25 rfl ?_ (by decide))
    intro g8 w31 heg8 hlg8 hO8 hx33
    have := World.grownBy.size hx33
    refine WL.op rfl (OW.storeOA hO8 rfl rfl rfl hR.ones Try.sizeOf25 ?_)
    intro wK hO8 hx36
    have := World.grownBy.size hx36
    replace hO4 := (hO4.ext (Ext.trans hx30 hx33)).keptO hx36 (by omega)
    replace hO6 := (hO6.ext (Ext.trans hx30 hx33)).keptO hx36 (by omega)
    refine WL.va rfl rfl rfl (X.assignI rfl) ?_
    refine WL.nil ?_
    refine thn_n ?_
    refine WF.seq ?_
    refine WF.seq ?_
    refine WF.region ?_
    refine WL.va rfl rfl rfl (X.moveI rfl) ?_
    refine WL.va rfl rfl rfl (X.moveI rfl) ?_
    refine WL.va rfl rfl rfl (X.neq rfl rfl) ?_
    refine WL.va rfl rfl rfl (X.moveB rfl) ?_
    refine WL.split (j := 3) rfl (fun h39 => ?_) (fun h39 => ?_)
    · have gh39 := (of_decide_eq_true h39)
      exact absurd rfl gh39
    · have gh39 := (Decidable.of_not_not (of_decide_eq_false h39))
      refine WL.vg rfl (congrArg some h39) rfl rfl (X.moveI rfl) ?_
      refine WL.vg rfl (congrArg some h39) rfl rfl (X.moveI rfl) ?_
      refine WL.vg rfl (congrArg some h39) rfl rfl (X.neq rfl rfl) ?_
      refine WL.va rfl rfl rfl (X.pickF rfl h39 rfl) ?_
      refine WL.va rfl rfl rfl (X.moveB rfl) ?_
      refine WL.split (j := 8) rfl (fun h41 => ?_) (fun h41 => ?_)
      · have gh41 := (of_decide_eq_true h41)
        exact absurd rfl gh41
      · have gh41 := (Decidable.of_not_not (of_decide_eq_false h41))
        refine WL.vg rfl (congrArg some h41) rfl rfl (X.loadOA hO4 (Ext.refl _) rfl rfl Try.isAgg25 Try.sizeOf25) ?_
        refine WL.vg rfl (congrArg some h41) rfl rfl (X.loadOA hO8 (Ext.refl _) rfl rfl Try.isAgg25 Try.sizeOf25) ?_
        refine WL.cg rfl (congrArg some h41) rfl rfl (X.call Try.call20 (evl_cons rfl (evl_cons rfl evl_nil))) (sameMsg_eq (hG.at.ext (Ext.trans (Ext.trans (Ext.trans (Ext.trans (Ext.store hx13 hx17 (by omega)) hx20) (Ext.store hx23 hx27 (by omega))) hx30) (Ext.store hx33 hx36 (by omega)))) (hR.at.ext (Ext.store hx33 hx36 (by omega))) rfl) ?_
        rintro v43 w42 ⟨rfl, hx44⟩
        have := World.grownBy.size hx44
        refine WL.vg rfl (congrArg some h41) rfl rfl (X.not rfl) ?_
        refine WL.va rfl rfl rfl (X.pickF rfl h41 rfl) ?_
        refine WL.va rfl rfl rfl (X.moveB rfl) ?_
        refine WL.vg rfl rfl rfl rfl (X.move rfl) ?_
        refine WL.vg rfl rfl rfl rfl (X.move rfl) ?_
        refine WL.cg rfl rfl rfl rfl (X.call Try.call24 (evl_cons rfl (evl_cons rfl evl_nil))) (kept_self (Row.ext (Bytes.of_own oa) (Ext.trans (Ext.trans (Ext.trans (Ext.trans (Ext.trans (Ext.trans hx10 (Ext.store hx13 hx17 (by omega))) hx20) (Ext.store hx23 hx27 (by omega))) hx30) (Ext.store hx33 hx36 (by omega))) hx44)) (Row.ext hb (Ext.trans (Ext.trans (Ext.trans (Ext.trans (Ext.trans (Ext.trans (Ext.trans hx8 hx10) (Ext.store hx13 hx17 (by omega))) hx20) (Ext.store hx23 hx27 (by omega))) hx30) (Ext.store hx33 hx36 (by omega))) hx44)) (by omega)) ?_
        rintro v47 wL ⟨rfl, hx48⟩
        have := World.grownBy.size hx48
        refine WL.vg rfl rfl rfl rfl (X.not rfl) ?_
        refine WL.va rfl rfl rfl (X.pickF rfl rfl rfl) ?_
        refine WL.nil ?_
        refine thn_n ?_
        refine WF.cond_f rfl ?_
        refine WF.skip ?_
        refine thn_n ?_
        refine WF.seq ?_
        refine WF.region ?_
        have hGL := hG.ext (Ext.trans (Ext.trans (Ext.trans (Ext.trans (Ext.trans (Ext.trans (Ext.store hx13 hx17 (by omega)) hx20) (Ext.store hx23 hx27 (by omega))) hx30) (Ext.store hx33 hx36 (by omega))) hx44) hx48)
        have hHL := hH.ext (Ext.trans (Ext.trans (Ext.trans (Ext.trans (Ext.store hx23 hx27 (by omega)) hx30) (Ext.store hx33 hx36 (by omega))) hx44) hx48)
        have hRL := hR.ext (Ext.trans (Ext.trans (Ext.store hx33 hx36 (by omega)) hx44) hx48)
        have oaL := own_ext oa (Ext.trans (Ext.trans (Ext.trans (Ext.trans (Ext.trans (Ext.trans (Ext.trans hx10 (Ext.store hx13 hx17 (by omega))) hx20) (Ext.store hx23 hx27 (by omega))) hx30) (Ext.store hx33 hx36 (by omega))) hx44) hx48)
        have hO6L := (hO6.ext (Ext.trans hx44 hx48))
        have hO8L := (hO8.ext (Ext.trans hx44 hx48))
        have gGL := (show Ext wG wL from (Ext.trans (Ext.trans (Ext.trans (Ext.trans (Ext.trans (Ext.trans (Ext.store hx13 hx17 (by omega)) hx20) (Ext.store hx23 hx27 (by omega))) hx30) (Ext.store hx33 hx36 (by omega))) hx44) hx48))
        have gwL := (show Ext w wL from (Ext.trans (Ext.trans (Ext.trans (Ext.trans (Ext.trans (Ext.trans (Ext.trans (Ext.trans hx8 hx10) (Ext.store hx13 hx17 (by omega))) hx20) (Ext.store hx23 hx27 (by omega))) hx30) (Ext.store hx33 hx36 (by omega))) hx44) hx48))
        have hzL := World.grownBy.size gGL
        refine WL.va rfl rfl rfl (X.loadOA hO4 (Ext.trans hx44 hx48) rfl rfl Try.isAgg25 Try.sizeOf25) ?_
        refine WL.op rfl (OW.lits (vs := [agg (mc (got l).1.n (got l).1.ok p1 p2)]) (evp_cons rfl evp_nil) Try.underlying40 Try.sizeOf25 Try.zeroValue25 ⟨rfl, trivial⟩ rfl rfl rfl ?_ (by decide))
        intro v52 w51 ho54 hx53
        have := World.grownBy.size hx53
        have hlr : World.ownsRow w51 wL.heap.size 25 17 v52 1 (mc (got l).1.n (got l).1.ok p1 p2) := ho54
        have gL : Ext wL w51 := hx53
        have hzM := World.grownBy.size gL
        refine WL.c rfl rfl rfl (X.call Try.call25 (evl_cons rfl evl_nil)) (spoilMsgs_ok _ p1 p2 DG _ LG EG wG wL _ _ hlr hG gGL gL) ?_
        rintro v55 wS hcS
        have := hcS.size
        have hO6 := hO6L.chg hcS (.inr (by omega))
        have hO8 := hO8L.chg hcS (.inr (by omega))
        have hH2 := hHL.chg hcS (by omega)
        have hR2 := hRL.chg hcS (by omega)
        have oa2 := own_chg oaL hcS (fun b hb => .inl (by have := (oa.lt b hb).2; omega))
        refine WL.nil ?_
        refine thn_n ?_
        refine WF.seq ?_
        refine WF.region ?_
        refine WL.va rfl rfl rfl (X.move rfl) ?_
        have oa3 := own_ext oa2 (Ext.refl wS)
        have hH3 := hH2.ext (Ext.refl wS)
        have hR3 := hR2.ext (Ext.refl wS)
        refine WL.c rfl rfl rfl (X.call Try.call19 (evl_cons rfl evl_nil)) (spoilBytes_ok _ _ _ _ oa3) ?_
        rintro v57 wT ⟨_, hx58⟩
        have := World.grownBy.size hx58
        replace hO6 := hO6.keptR hx58 (fun b hb => by have := (oa.lt b hb).2; omega)
        replace hO8 := hO8.keptR hx58 (fun b hb => by have := (oa.lt b hb).2; omega)
        have hH4 := hH3.keptR hx58 (fun b hb => by have := (oa.lt b hb).2; omega)
        have hR4 := hR3.keptR hx58 (fun b hb => by have := (oa.lt b hb).2; omega)
        refine WL.nil ?_
        refine thn_n ?_
        refine WF.seq ?_
        refine WF.region ?_
        refine WL.va rfl rfl rfl (X.loadOA hO6 (Ext.refl _) rfl rfl Try.isAgg25 Try.sizeOf25) ?_
        refine WL.va rfl rfl rfl (X.loadOA hO8 (Ext.refl _) rfl rfl Try.isAgg25 Try.sizeOf25) ?_
        refine WL.c rfl rfl rfl (X.call Try.call20 (evl_cons rfl (evl_cons rfl evl_nil))) (sameMsg_eq (hH4.at.ext (Ext.refl wT)) (hR4.at.ext (Ext.refl wT)) rfl) ?_
        rintro v60 w59 ⟨rfl, hx61⟩
        have := World.grownBy.size hx61
        refine WL.va rfl rfl rfl (X.moveB rfl) ?_
        refine WL.cg rfl rfl rfl rfl (X.call Try.call12 evl_nil) (works_ok _) ?_
        rintro v65 w63 ⟨rfl, hx66⟩
        have := World.grownBy.size hx66
        refine WL.va rfl rfl rfl (X.pickT rfl rfl rfl) ?_
        refine WL.va rfl rfl rfl (X.assignB rfl) ?_
        refine WL.nil ?_
        refine thn_n ?_
        refine WF.ret ?_
        refine fin_r ?_
        exact ⟨rfl, (Ext.trans (Ext.trans (grown_trans (Chg.ext gwL hcS (by omega)) hx58 (fun i hi => by have := (oa.lt i hi).1; omega)) hx61) hx66)⟩

end Go.Proofs.Ytccbpfbcaogcnaa
