/- The walk of RangesKnown. -/
import Derived.Test.YtpimnlgfhpnjnaaRnI
namespace Go.Proofs.Ytpimnlgfhpnjnaa
open Go Go.RowKit Kf
set_option maxRecDepth 20000

set_option maxHeartbeats 16000000 in
theorem rangesKnown_walk (w : World) : FnOk Try.prog 10 [] w (fun r w' => r = .bool true ∧ Ext w w') := by
  have hMl : (LM.length : Int) = 13 := rfl
  have hMn : LM.length = 13 := rfl
  refine FnOk.enter (rs := [0]) Try.func10 rfl Try.ntmps10 Try.results10 rfl rfl ?_
  refine WF.seq ?_
  refine WF.region ?_
  refine WL.va rfl rfl rfl (X.assignB rfl) ?_
  refine WL.nil ?_
  refine thn_n ?_
  refine WF.seq ?_
  refine WF.region ?_
  refine WL.va rfl rfl rfl (X.buildL (P := Try.prog) (t := 24) (cs := (Mv.c ⟨0, 1, 2, 0, 8⟩)) (evp_cons rfl (evp_cons rfl (evp_cons rfl (evp_cons rfl evp_nil)))) Try.type24 Try.underlying24 rfl rfl ⟨rfl, rfl, rfl, rfl, trivial⟩ rfl) ?_
  refine WL.va rfl rfl rfl (X.buildL (P := Try.prog) (t := 24) (cs := (Mv.c ⟨0, 1, 3, 0, 8⟩)) (evp_cons rfl (evp_cons rfl (evp_cons rfl (evp_cons rfl evp_nil)))) Try.type24 Try.underlying24 rfl rfl ⟨rfl, rfl, rfl, rfl, trivial⟩ rfl) ?_
  refine WL.va rfl rfl rfl (X.buildL (P := Try.prog) (t := 24) (cs := (Mv.c ⟨0, 1, 3, 4, 8⟩)) (evp_cons rfl (evp_cons rfl (evp_cons rfl (evp_cons rfl evp_nil)))) Try.type24 Try.underlying24 rfl rfl ⟨rfl, rfl, rfl, rfl, trivial⟩ rfl) ?_
  refine WL.va rfl rfl rfl (X.buildL (P := Try.prog) (t := 24) (cs := (Mv.c ⟨0, 3, 1, 0, 8⟩)) (evp_cons rfl (evp_cons rfl (evp_cons rfl (evp_cons rfl evp_nil)))) Try.type24 Try.underlying24 rfl rfl ⟨rfl, rfl, rfl, rfl, trivial⟩ rfl) ?_
  refine WL.va rfl rfl rfl (X.buildL (P := Try.prog) (t := 24) (cs := (Mv.c ⟨0, 1, 1, 0, 8⟩)) (evp_cons rfl (evp_cons rfl (evp_cons rfl (evp_cons rfl evp_nil)))) Try.type24 Try.underlying24 rfl rfl ⟨rfl, rfl, rfl, rfl, trivial⟩ rfl) ?_
  refine WL.va rfl rfl rfl (X.buildL (P := Try.prog) (t := 24) (cs := (Mv.c ⟨0, 1, 5, 0, 8⟩)) (evp_cons rfl (evp_cons rfl (evp_cons rfl (evp_cons rfl evp_nil)))) Try.type24 Try.underlying24 rfl rfl ⟨rfl, rfl, rfl, rfl, trivial⟩ rfl) ?_
  refine WL.va rfl rfl rfl (X.buildL (P := Try.prog) (t := 24) (cs := (Mv.c ⟨0, 1, 0, 0, 8⟩)) (evp_cons rfl (evp_cons rfl (evp_cons rfl (evp_cons rfl evp_nil)))) Try.type24 Try.underlying24 rfl rfl ⟨rfl, rfl, rfl, rfl, trivial⟩ rfl) ?_
  refine WL.va rfl rfl rfl (X.buildL (P := Try.prog) (t := 24) (cs := (Mv.c ⟨0, 1, 3, 8, 8⟩)) (evp_cons rfl (evp_cons rfl (evp_cons rfl (evp_cons rfl evp_nil)))) Try.type24 Try.underlying24 rfl rfl ⟨rfl, rfl, rfl, rfl, trivial⟩ rfl) ?_
  refine WL.va rfl rfl rfl (X.buildL (P := Try.prog) (t := 24) (cs := (Mv.c ⟨0, 1, 3, 0, 33⟩)) (evp_cons rfl (evp_cons rfl (evp_cons rfl (evp_cons rfl evp_nil)))) Try.type24 Try.underlying24 rfl rfl ⟨rfl, rfl, rfl, rfl, trivial⟩ rfl) ?_
  refine WL.va rfl rfl rfl (X.buildL (P := Try.prog) (t := 24) (cs := (Mv.c ⟨0, 1, 3, -1, 32⟩)) (evp_cons rfl (evp_cons rfl (evp_cons rfl (evp_cons rfl evp_nil)))) Try.type24 Try.underlying24 rfl rfl ⟨rfl, rfl, rfl, rfl, trivial⟩ rfl) ?_
  refine WL.va rfl rfl rfl (X.buildL (P := Try.prog) (t := 24) (cs := (Mv.c ⟨0, 2, 1, 32, 64⟩)) (evp_cons rfl (evp_cons rfl (evp_cons rfl (evp_cons rfl evp_nil)))) Try.type24 Try.underlying24 rfl rfl ⟨rfl, rfl, rfl, rfl, trivial⟩ rfl) ?_
  refine WL.va rfl rfl rfl (X.buildL (P := Try.prog) (t := 24) (cs := (Mv.c ⟨0, 1, 3, 0, 32⟩)) (evp_cons rfl (evp_cons rfl (evp_cons rfl (evp_cons rfl evp_nil)))) Try.type24 Try.underlying24 rfl rfl ⟨rfl, rfl, rfl, rfl, trivial⟩ rfl) ?_
  refine WL.va rfl rfl rfl (X.buildL (P := Try.prog) (t := 24) (cs := (Mv.c ⟨0, 2, 1, 40, 64⟩)) (evp_cons rfl (evp_cons rfl (evp_cons rfl (evp_cons rfl evp_nil)))) Try.type24 Try.underlying24 rfl rfl ⟨rfl, rfl, rfl, rfl, trivial⟩ rfl) ?_
  refine WL.op rfl (OW.lits (vs := [agg (Mv.c ⟨0, 1, 2, 0, 8⟩), agg (Mv.c ⟨0, 1, 3, 0, 8⟩), agg (Mv.c ⟨0, 1, 3, 4, 8⟩), agg (Mv.c ⟨0, 3, 1, 0, 8⟩), agg (Mv.c ⟨0, 1, 1, 0, 8⟩), agg (Mv.c ⟨0, 1, 5, 0, 8⟩), agg (Mv.c ⟨0, 1, 0, 0, 8⟩), agg (Mv.c ⟨0, 1, 3, 8, 8⟩), agg (Mv.c ⟨0, 1, 3, 0, 33⟩), agg (Mv.c ⟨0, 1, 3, -1, 32⟩), agg (Mv.c ⟨0, 2, 1, 32, 64⟩), agg (Mv.c ⟨0, 1, 3, 0, 32⟩), agg (Mv.c ⟨0, 2, 1, 40, 64⟩)]) (evp_cons rfl (evp_cons rfl (evp_cons rfl (evp_cons rfl (evp_cons rfl (evp_cons rfl (evp_cons rfl (evp_cons rfl (evp_cons rfl (evp_cons rfl (evp_cons rfl (evp_cons rfl (evp_cons rfl evp_nil))))))))))))) Try.underlying27 Try.sizeOf24 Try.zeroValue24 ⟨rfl, rfl, rfl, rfl, rfl, rfl, rfl, rfl, rfl, rfl, rfl, rfl, rfl, trivial⟩ rfl rfl rfl ?_ (by decide))
  intro v3 w2 ho5 hx4
  have := World.grownBy.size hx4
  have ol : World.ownsRow w2 _ 24 5 v3 LM.length (LM.flatMap Mv.c) := ho5
  have olT := OwnT.of ol
  refine WL.va rfl rfl rfl (X.assign rfl) ?_
  refine WL.nil ?_
  refine thn_n ?_
  refine WF.seq ?_
  refine WF.region ?_
  refine WL.op rfl (OW.lits (vs := [_, _, _, _, _, _, _, _, _, _, _, _, _]) (evp_cons rfl (evp_cons rfl (evp_cons rfl (evp_cons rfl (evp_cons rfl (evp_cons rfl (evp_cons rfl (evp_cons rfl (evp_cons rfl (evp_cons rfl (evp_cons rfl (evp_cons rfl (evp_cons rfl evp_nil))))))))))))) Try.underlying69 Try.sizeOf3 Try.zeroValue3 ⟨rfl, rfl, rfl, rfl, rfl, rfl, rfl, rfl, rfl, rfl, rfl, rfl, rfl, trivial⟩ rfl rfl rfl ?_ (by decide))
  intro v6 wz ho8 hx7
  have := World.grownBy.size hx7
  have oz : OwnI wz _ 3 v6 WN := ho8
  have ozT := OwnT.of oz
  refine WL.va rfl rfl rfl (X.assign rfl) ?_
  refine WL.nil ?_
  refine thn_n ?_
  refine WF.seq ?_
  refine WF.seq ?_
  refine WF.region ?_
  refine WL.va rfl rfl rfl (X.assignI rfl) ?_
  refine WL.nil ?_
  refine thn_n ?_
  refine WF.block ?_
  refine WF.named (fun F9 hF10 => ?_)
  refine WF.loopN (fun mL0 f' w' => ∃ (i : Nat), mL0 = LM.length - i ∧ f' 3 = .int .i64 (i : Int) ∧ Agree [1, 2, 42, 43, 44, 45, 46, 47, 48, 49, 50, 51, 52, 53, 54, 55, 56] f' F9 ∧ Ext wz w' ∧ i ≤ LM.length) ?_ ?_
  · exact ⟨_, 0, rfl, (congrFun hF10 3), (Agree.refl _ _), (Ext.refl _), (Nat.zero_le _)⟩
  · rintro mL0 fL0 wL0 ⟨i, hmL0, e3_L0, hAL0, hwL0, hiL0⟩
    have := World.grownBy.size hwL0
    refine WF.seq ?_
    refine WF.seq ?_
    refine WF.region ?_
    refine WL.va rfl rfl rfl (X.moveI e3_L0) ?_
    refine WL.va rfl rfl rfl (X.move ((hAL0.eq 1).trans (congrFun hF10 1))) ?_
    refine WL.va rfl rfl rfl (X.len (olT.rd) rfl Try.underlying27) ?_
    refine WL.va rfl rfl rfl (X.lss rfl rfl) ?_
    refine WL.nil ?_
    refine thn_n ?_
    refine WF.cond rfl (fun h0_11 => ?_) (fun h0_11 => ?_)
    · have gh0_11 := (of_decide_eq_true h0_11)
      have hi : i < LM.length := by have := gh0_11; omega
      refine WF.skip ?_
      refine thn_n ?_
      refine WF.seq ?_
      refine WF.block ?_
      refine WF.named (fun F13 hF14 => ?_)
      refine WF.cut (fun f' w' => ∃ (g4 : Nat) (v4 : Value), f' 4 = at_ g4 ∧ f' 5 = i64 (planM twoM (LM[i]'hi)).2 ∧ Agree [1, 2, 3, 42, 43, 44, 45, 46, 47, 48, 49, 50, 51, 52, 53, 54, 55, 56, 57, 58, 59, 60] f' F13 ∧ Ext wL0 w' ∧ Blk w' g4 26 ((planM twoM (LM[i]'hi)).1.c v4) ∧ OwnT w' w.heap.size w'.heap.size 41 4 v4 ((planM twoM (LM[i]'hi)).1.R).length (((planM twoM (LM[i]'hi)).1.R).flatMap Rg.c) ∧ w.heap.size ≤ g4) ?_ ?_
      · refine WF.drawn (.q 1 (.q 2 (.q 3 (.q 4 (.b 0 9 (.b 5 9 (.q 6 (.q 7 (.q 8 (.l 9 (.l 10 (.q 11 .nil)))))) (.l 5 (.q 6 (.q 7 (.q 8 (.l 10 (.q 11 .nil))))))) (.l 0 (.l 5 (.q 6 (.q 7 (.q 8 (.l 10 (.q 11 .nil)))))))))))) (fun w' => Ext wL0 w') 12 (by kernel_rfl) (by kernel_rfl) (Ext.drew _) ?_
        have := World.grownBy.size (Ext.drew wL0)
        refine WO.q rfl rfl rfl rfl (fun w' hE15 => (X.move ((congrFun hF14 1).trans ((hAL0.eq 1).trans (congrFun hF10 1))))) ?_
        refine WO.q rfl rfl rfl rfl (fun w' hE15 => (X.moveI ((congrFun hF14 3).trans e3_L0))) ?_
        refine WO.q rfl rfl rfl rfl (fun w' hE15 => (X.idx (olT.rd) rfl rfl hi Try.underlying27 Try.sizeOf24)) ?_
        refine WO.q rfl rfl rfl rfl (fun w' hE15 => (X.loadEl (olT.rd) (Ext.trans (Ext.trans hx7 hwL0) hE15) rfl hi (Mvs.el hi) Try.isAgg24 Try.sizeOf24)) ?_
        refine WO.b2 ?_ ?_
        · refine LO.go rfl rfl (OW.enter rfl (by decide) (X.call Try.call50 evl_nil) (two_ok _) ?_)
          rintro v17 w16 ⟨⟨v0, rfl, o0⟩, hx18⟩
          have := World.grownBy.size hx18
          refine ⟨(Ext.trans (Ext.drew _) hx18), ?_⟩
          have o0T := OwnT.of o0
          refine WO.b2 ?_ ?_
          · have hzpp := ((show Ext w w16 from (Ext.trans (Ext.trans (Ext.trans (Ext.trans hx4 hx7) hwL0) (Ext.drew _)) hx18))).size
            refine LO.go rfl rfl (OW.enter rfl (by decide) (X.call Try.call15 (evl_cons rfl (evl_cons rfl evl_nil))) (plan_ok twoM v0 (LM[i]'hi) _ (o0T).rd (by decide) (by decide)) ?_)
            rintro v20 w19 ⟨⟨vp, rfl, op⟩, hx21⟩
            have := World.grownBy.size hx21
            refine ⟨(Ext.trans (Ext.trans (Ext.drew _) hx18) hx21), ?_⟩
            have opT := OwnT.of op
            refine WO.q rfl rfl rfl rfl (fun w' hE15 => (X.move rfl)) ?_
            refine WO.q rfl rfl rfl rfl (fun w' hE15 => (X.extract rfl rfl)) ?_
            refine WO.q rfl rfl rfl rfl (fun w' hE15 => (X.extract rfl rfl)) ?_
            refine WO.l ?_
            refine LO.go rfl rfl (OW.allocO (cs := [.slice none 0 0, i64 0, i64 0, i64 0, i64 0, i64 0, i64 0]) Try.zeroValue26 rfl ?_ (by decide))
            intro g4 w22 heg4 hlg4 hO4 hx24
            have := World.grownBy.size hx24
            refine ⟨(Ext.trans (Ext.trans (Ext.trans (Ext.drew _) hx18) hx21) hx24), ?_⟩
            refine WO.l ?_
            refine LO.go rfl rfl (OW.storeOA hO4 rfl rfl rfl (Mp.c_one ((opT.ext hx24)).rd _) Try.sizeOf26 ?_)
            intro w26 hO4 hx28
            have := World.grownBy.size hx28
            replace olT := (olT.ext (Ext.trans (Ext.trans (Ext.trans (Ext.trans (Ext.trans hx7 hwL0) (Ext.drew _)) hx18) hx21) hx24)).keptO hx28 (by omega)
            replace ozT := (ozT.ext (Ext.trans (Ext.trans (Ext.trans (Ext.trans hwL0 (Ext.drew _)) hx18) hx21) hx24)).keptO hx28 (by omega)
            replace o0T := (o0T.ext (Ext.trans hx21 hx24)).keptO hx28 (by omega)
            replace opT := (opT.ext hx24).keptO hx28 (by omega)
            replace hO4 : Blk _ _ _ ((planM twoM (LM[i]'hi)).1.c vp) := hO4
            refine ⟨(Ext.trans (Ext.trans (Ext.trans (Ext.drew _) hx18) hx21) (Ext.store hx24 hx28 (by omega))), ?_⟩
            refine WO.q rfl rfl rfl rfl (fun w' hE15 => (X.assignI rfl)) ?_
            refine WO.nil ?_
            refine WL.nil ?_
            refine thn_n ?_
            exact ⟨_, _, rfl, rfl, (by repeat (first | exact (Agree.refl _ F13) | refine Agree.put ?_ rfl | refine Agree.sub hAL0 rfl ?_ | refine Agree.named hF14 ?_ | refine Agree.named hF10 ?_)), (Ext.trans (Ext.trans (Ext.trans (Ext.drew _) hx18) hx21) (Ext.store hx24 hx28 (by omega))), ⟨hO4, ⟨own_mono (opT).own (by omega), fun b hb => ((opT).own.lt b hb).2⟩, by omega⟩⟩
          · refine LO.go rfl rfl (OW.allocO (cs := [.slice none 0 0, i64 0, i64 0, i64 0, i64 0, i64 0, i64 0]) Try.zeroValue26 rfl ?_ (by decide))
            intro g4 w30 heg4 hlg4 hO4 hx32
            have := World.grownBy.size hx32
            refine ⟨(Ext.trans (Ext.trans (Ext.drew _) hx18) hx32), ?_⟩
            refine WO.l ?_
            have hzpp := ((show Ext w w30 from (Ext.trans (Ext.trans (Ext.trans (Ext.trans (Ext.trans hx4 hx7) hwL0) (Ext.drew _)) hx18) hx32))).size
            refine LO.go rfl rfl (OW.enter rfl (by decide) (X.call Try.call15 (evl_cons rfl (evl_cons rfl evl_nil))) (plan_ok twoM v0 (LM[i]'hi) _ ((o0T.ext hx32)).rd (by decide) (by decide)) ?_)
            rintro v35 w34 ⟨⟨vp, rfl, op⟩, hx36⟩
            have := World.grownBy.size hx36
            refine ⟨(Ext.trans (Ext.trans (Ext.trans (Ext.drew _) hx18) hx32) hx36), ?_⟩
            have opT := OwnT.of op
            refine WO.q rfl rfl rfl rfl (fun w' hE15 => (X.move rfl)) ?_
            refine WO.q rfl rfl rfl rfl (fun w' hE15 => (X.extract rfl rfl)) ?_
            refine WO.q rfl rfl rfl rfl (fun w' hE15 => (X.extract rfl rfl)) ?_
            refine WO.l ?_
            refine LO.go rfl rfl (OW.storeOA (hO4.ext hx36) rfl rfl rfl (Mp.c_one (opT).rd _) Try.sizeOf26 ?_)
            intro w37 hO4 hx39
            have := World.grownBy.size hx39
            replace olT := (olT.ext (Ext.trans (Ext.trans (Ext.trans (Ext.trans (Ext.trans hx7 hwL0) (Ext.drew _)) hx18) hx32) hx36)).keptO hx39 (by omega)
            replace ozT := (ozT.ext (Ext.trans (Ext.trans (Ext.trans (Ext.trans hwL0 (Ext.drew _)) hx18) hx32) hx36)).keptO hx39 (by omega)
            replace o0T := (o0T.ext (Ext.trans hx32 hx36)).keptO hx39 (by omega)
            replace opT := opT.keptO hx39 (by omega)
            replace hO4 : Blk _ _ _ ((planM twoM (LM[i]'hi)).1.c vp) := hO4
            refine ⟨(Ext.trans (Ext.trans (Ext.drew _) hx18) (Ext.store (Ext.trans hx32 hx36) hx39 (by omega))), ?_⟩
            refine WO.q rfl rfl rfl rfl (fun w' hE15 => (X.assignI rfl)) ?_
            refine WO.nil ?_
            refine WL.nil ?_
            refine thn_n ?_
            exact ⟨_, _, rfl, rfl, (by repeat (first | exact (Agree.refl _ F13) | refine Agree.put ?_ rfl | refine Agree.sub hAL0 rfl ?_ | refine Agree.named hF14 ?_ | refine Agree.named hF10 ?_)), (Ext.trans (Ext.trans (Ext.drew _) hx18) (Ext.store (Ext.trans hx32 hx36) hx39 (by omega))), ⟨hO4, ⟨own_mono (opT).own (by omega), fun b hb => ((opT).own.lt b hb).2⟩, by omega⟩⟩
        · refine LO.go rfl rfl (OW.allocO (cs := [.slice none 0 0, i64 0, i64 0, i64 0, i64 0, i64 0, i64 0]) Try.zeroValue26 rfl ?_ (by decide))
          intro g4 w41 heg4 hlg4 hO4 hx43
          have := World.grownBy.size hx43
          refine ⟨(Ext.trans (Ext.drew _) hx43), ?_⟩
          refine WO.l ?_
          refine LO.go rfl rfl (OW.enter rfl (by decide) (X.call Try.call50 evl_nil) (two_ok _) ?_)
          rintro v46 w45 ⟨⟨v0, rfl, o0⟩, hx47⟩
          have := World.grownBy.size hx47
          refine ⟨(Ext.trans (Ext.trans (Ext.drew _) hx43) hx47), ?_⟩
          have o0T := OwnT.of o0
          refine WO.l ?_
          have hzpp := ((show Ext w w45 from (Ext.trans (Ext.trans (Ext.trans (Ext.trans (Ext.trans hx4 hx7) hwL0) (Ext.drew _)) hx43) hx47))).size
          refine LO.go rfl rfl (OW.enter rfl (by decide) (X.call Try.call15 (evl_cons rfl (evl_cons rfl evl_nil))) (plan_ok twoM v0 (LM[i]'hi) _ (o0T).rd (by decide) (by decide)) ?_)
          rintro v49 w48 ⟨⟨vp, rfl, op⟩, hx50⟩
          have := World.grownBy.size hx50
          refine ⟨(Ext.trans (Ext.trans (Ext.trans (Ext.drew _) hx43) hx47) hx50), ?_⟩
          have opT := OwnT.of op
          refine WO.q rfl rfl rfl rfl (fun w' hE15 => (X.move rfl)) ?_
          refine WO.q rfl rfl rfl rfl (fun w' hE15 => (X.extract rfl rfl)) ?_
          refine WO.q rfl rfl rfl rfl (fun w' hE15 => (X.extract rfl rfl)) ?_
          refine WO.l ?_
          refine LO.go rfl rfl (OW.storeOA (hO4.ext (Ext.trans hx47 hx50)) rfl rfl rfl (Mp.c_one (opT).rd _) Try.sizeOf26 ?_)
          intro w51 hO4 hx53
          have := World.grownBy.size hx53
          replace olT := (olT.ext (Ext.trans (Ext.trans (Ext.trans (Ext.trans (Ext.trans hx7 hwL0) (Ext.drew _)) hx43) hx47) hx50)).keptO hx53 (by omega)
          replace ozT := (ozT.ext (Ext.trans (Ext.trans (Ext.trans (Ext.trans hwL0 (Ext.drew _)) hx43) hx47) hx50)).keptO hx53 (by omega)
          replace o0T := (o0T.ext hx50).keptO hx53 (by omega)
          replace opT := opT.keptO hx53 (by omega)
          replace hO4 : Blk _ _ _ ((planM twoM (LM[i]'hi)).1.c vp) := hO4
          refine ⟨(Ext.trans (Ext.drew _) (Ext.store (Ext.trans (Ext.trans hx43 hx47) hx50) hx53 (by omega))), ?_⟩
          refine WO.q rfl rfl rfl rfl (fun w' hE15 => (X.assignI rfl)) ?_
          refine WO.nil ?_
          refine WL.nil ?_
          refine thn_n ?_
          exact ⟨_, _, rfl, rfl, (by repeat (first | exact (Agree.refl _ F13) | refine Agree.put ?_ rfl | refine Agree.sub hAL0 rfl ?_ | refine Agree.named hF14 ?_ | refine Agree.named hF10 ?_)), (Ext.trans (Ext.drew _) (Ext.store (Ext.trans (Ext.trans hx43 hx47) hx50) hx53 (by omega))), ⟨hO4, ⟨own_mono (opT).own (by omega), fun b hb => ((opT).own.lt b hb).2⟩, by omega⟩⟩
      · rintro fCr6 wCr6 ⟨g4, v4, e4_Cr6, e5_Cr6, hACr6, hwCr6, ⟨hO4, o4T, hg4⟩⟩
        have := World.grownBy.size hwCr6
        have qqhO4 := hO4.lt
        refine WF.seq ?_
        refine WF.seq ?_
        refine WF.region ?_
        refine WL.va rfl rfl rfl (X.moveI e5_Cr6) ?_
        refine WL.va rfl rfl rfl (X.move ((hACr6.eq 2).trans ((congrFun hF14 2).trans ((hAL0.eq 2).trans (congrFun hF10 2))))) ?_
        refine WL.va rfl rfl rfl (X.moveI ((hACr6.eq 3).trans ((congrFun hF14 3).trans e3_L0))) ?_
        refine WL.va rfl rfl rfl (X.idx (ozT.rd) rfl rfl (show i < WN.length from hi) Try.underlying69 Try.sizeOf3) ?_
        refine WL.va rfl rfl rfl (X.loadI (ozT.rd) (Ext.trans hwL0 hwCr6) rfl (show i < WN.length from hi) Try.isAgg3) ?_
        refine WL.va rfl rfl rfl (X.neq rfl rfl) ?_
        refine WL.va rfl rfl rfl (X.moveB rfl) ?_
        refine WL.split (j := 6) rfl (fun h56 => ?_) (fun h56 => ?_)
        · have gh56 := (of_decide_eq_true h56)
          exact absurd (hP i hi).1 gh56
        · have gh56 := (Decidable.of_not_not (of_decide_eq_false h56))
          refine WL.vg rfl (congrArg some h56) rfl rfl (X.moveI e5_Cr6) ?_
          refine WL.vg rfl (congrArg some h56) rfl rfl (X.eql rfl rfl) ?_
          refine WL.vg rfl (congrArg some h56) rfl rfl (X.moveB rfl) ?_
          refine WL.split (j := 9) rfl (fun h58 => ?_) (fun h58 => ?_)
          · have gh58 := (of_decide_eq_true h58)
            have hz0 := gh58
            refine WL.vg rfl (congrArg some h58) rfl rfl (X.fieldAddrO (off := 1) e4_Cr6 Try.underlying26 rfl rfl Try.sizeOf3) ?_
            refine WL.vg rfl (congrArg some h58) rfl rfl (X.loadO hO4 (Ext.refl _) rfl rfl Try.isAgg3) ?_
            refine WL.vg rfl (congrArg some h58) rfl rfl (X.neq rfl rfl) ?_
            refine WL.vg rfl (congrArg some h58) rfl rfl (X.moveB rfl) ?_
            refine WL.split (j := 13) rfl (fun h60 => ?_) (fun h60 => ?_)
            · have gh60 := (of_decide_eq_true h60)
              exact absurd ((hP i hi).2.1 hz0).1 gh60
            · have gh60 := (Decidable.of_not_not (of_decide_eq_false h60))
              refine WL.vg rfl (congrArg some h60) rfl rfl (X.loadOA hO4 (Ext.refl _) e4_Cr6 rfl Try.isAgg26 Try.sizeOf26) ?_
              refine WL.cg rfl (congrArg some h60) rfl rfl (X.call Try.call11 (evl_cons rfl evl_nil)) (checkC_ok (planM twoM (LM[i]'hi)).1 v4 _ (o4T).rd (hP i hi).2.2.2) ?_
              rintro v62 w61 ⟨rfl, hx63⟩
              have := World.grownBy.size hx63
              refine WL.vg rfl (congrArg some h60) rfl rfl (X.neq rfl rfl) ?_
              refine WL.vg rfl (congrArg some h58) rfl rfl (X.pickF rfl h60 rfl) ?_
              refine WL.vg rfl (congrArg some h56) rfl rfl (X.pickT rfl h58 rfl) ?_
              refine WL.va rfl rfl rfl (X.pickF rfl h56 rfl) ?_
              refine WL.nil ?_
              refine thn_n ?_
              refine WF.cond rfl (fun h1_65 => ?_) (fun h1_65 => ?_)
              · have gh1_65 := (of_decide_eq_true h1_65)
                exact absurd (by rw [((hP i hi).2.1 hz0).2.1]; rfl) gh1_65
              · have gh1_65 := (Decidable.of_not_not (of_decide_eq_false h1_65))
                refine WF.skip ?_
                refine thn_n ?_
                refine WF.named (fun F67 hF68 => ?_)
                refine WF.cut (fun f' w' => f' 7 = i64 (planM (planM twoM (LM[i]'hi)).1 (LM[i]'hi)).2 ∧ Agree [1, 2, 3, 4, 5, 42, 43, 44, 45, 46, 47, 48, 49, 50, 51, 52, 53, 54, 55, 56, 57, 58, 59, 60, 72, 73, 74, 75, 76, 77, 78, 79, 80, 81, 82, 83, 84, 85, 86, 87, 88, 89, 90, 91] f' F67 ∧ Ext w61 w') ?_ ?_
                · refine WF.drawn (.q 0 (.q 1 (.q 2 (.q 3 (.q 4 (.b 5 9 (.q 6 (.q 7 (.q 8 (.l 9 (.l 10 (.q 11 .nil)))))) (.l 5 (.q 6 (.q 7 (.q 8 (.l 10 (.q 11 .nil)))))))))))) (fun w' => Ext w61 w') 12 (by kernel_rfl) (by kernel_rfl) (Ext.drew _) ?_
                  have := World.grownBy.size (Ext.drew w61)
                  refine WO.q rfl rfl rfl rfl (fun w' hE69 => (X.loadOA hO4 (Ext.trans hx63 hE69) ((congrFun hF68 4).trans e4_Cr6) rfl Try.isAgg26 Try.sizeOf26)) ?_
                  refine WO.q rfl rfl rfl rfl (fun w' hE69 => (X.move ((congrFun hF68 1).trans ((hACr6.eq 1).trans ((congrFun hF14 1).trans ((hAL0.eq 1).trans (congrFun hF10 1))))))) ?_
                  refine WO.q rfl rfl rfl rfl (fun w' hE69 => (X.moveI ((congrFun hF68 3).trans ((hACr6.eq 3).trans ((congrFun hF14 3).trans e3_L0))))) ?_
                  refine WO.q rfl rfl rfl rfl (fun w' hE69 => (X.idx (olT.rd) rfl rfl hi Try.underlying27 Try.sizeOf24)) ?_
                  refine WO.q rfl rfl rfl rfl (fun w' hE69 => (X.loadEl (olT.rd) (Ext.trans (Ext.trans (Ext.trans (Ext.trans hx7 hwL0) hwCr6) hx63) hE69) rfl hi (Mvs.el hi) Try.isAgg24 Try.sizeOf24)) ?_
                  refine WO.b2 ?_ ?_
                  · have hzpq := ((show Ext w w61.drew from (Ext.trans (Ext.trans (Ext.trans (Ext.trans (Ext.trans hx4 hx7) hwL0) hwCr6) hx63) (Ext.drew _)))).size
                    refine LO.go rfl rfl (OW.enter rfl (by decide) (X.call Try.call15 (evl_cons rfl (evl_cons rfl evl_nil))) (plan_ok (planM twoM (LM[i]'hi)).1 v4 (LM[i]'hi) _ ((o4T.ext (Ext.trans hx63 (Ext.drew _)))).rd (Nat.le_trans (hP i hi).2.2.1 (by decide)) (hP i hi).2.2.2.1) ?_)
                    rintro v71 w70 ⟨⟨vq, rfl, oq⟩, hx72⟩
                    have := World.grownBy.size hx72
                    refine ⟨(Ext.trans (Ext.drew _) hx72), ?_⟩
                    have oqT := OwnT.of oq
                    refine WO.q rfl rfl rfl rfl (fun w' hE69 => (X.move rfl)) ?_
                    refine WO.q rfl rfl rfl rfl (fun w' hE69 => (X.extract rfl rfl)) ?_
                    refine WO.q rfl rfl rfl rfl (fun w' hE69 => (X.extract rfl rfl)) ?_
                    refine WO.l ?_
                    refine LO.go rfl rfl (OW.allocO (cs := [.slice none 0 0, i64 0, i64 0, i64 0, i64 0, i64 0, i64 0]) Try.zeroValue26 rfl ?_ (by decide))
                    intro g6 w73 heg6 hlg6 hO6 hx75
                    have := World.grownBy.size hx75
                    refine ⟨(Ext.trans (Ext.trans (Ext.drew _) hx72) hx75), ?_⟩
                    refine WO.l ?_
                    refine LO.go rfl rfl (OW.storeOA hO6 rfl rfl rfl (Mp.c_one (Row.of_own oq) _) Try.sizeOf26 ?_)
                    intro w77 hO6 hx79
                    have := World.grownBy.size hx79
                    replace olT := (olT.ext (Ext.trans (Ext.trans (Ext.trans (Ext.trans (Ext.trans (Ext.trans hx7 hwL0) hwCr6) hx63) (Ext.drew _)) hx72) hx75)).keptO hx79 (by omega)
                    replace ozT := (ozT.ext (Ext.trans (Ext.trans (Ext.trans (Ext.trans (Ext.trans hwL0 hwCr6) hx63) (Ext.drew _)) hx72) hx75)).keptO hx79 (by omega)
                    replace hO4 := (hO4.ext (Ext.trans (Ext.trans (Ext.trans hx63 (Ext.drew _)) hx72) hx75)).keptO hx79 (by omega)
                    replace o4T := (o4T.ext (Ext.trans (Ext.trans (Ext.trans hx63 (Ext.drew _)) hx72) hx75)).keptO hx79 (by omega)
                    replace oqT := (oqT.ext hx75).keptO hx79 (by omega)
                    refine ⟨(Ext.trans (Ext.trans (Ext.drew _) hx72) (Ext.store hx75 hx79 (by omega))), ?_⟩
                    refine WO.q rfl rfl rfl rfl (fun w' hE69 => (X.assignI rfl)) ?_
                    refine WO.nil ?_
                    refine WL.nil ?_
                    refine thn_n ?_
                    exact ⟨rfl, (by repeat (first | exact (Agree.refl _ F67) | refine Agree.put ?_ rfl | refine Agree.sub hACr6 rfl ?_ | refine Agree.sub hAL0 rfl ?_ | refine Agree.named hF68 ?_ | refine Agree.named hF14 ?_ | refine Agree.named hF10 ?_)), (Ext.trans (Ext.trans (Ext.drew _) hx72) (Ext.store hx75 hx79 (by omega)))⟩
                  · refine LO.go rfl rfl (OW.allocO (cs := [.slice none 0 0, i64 0, i64 0, i64 0, i64 0, i64 0, i64 0]) Try.zeroValue26 rfl ?_ (by decide))
                    intro g6 w81 heg6 hlg6 hO6 hx83
                    have := World.grownBy.size hx83
                    refine ⟨(Ext.trans (Ext.drew _) hx83), ?_⟩
                    refine WO.l ?_
                    have hzpq := ((show Ext w w81 from (Ext.trans (Ext.trans (Ext.trans (Ext.trans (Ext.trans (Ext.trans hx4 hx7) hwL0) hwCr6) hx63) (Ext.drew _)) hx83))).size
                    refine LO.go rfl rfl (OW.enter rfl (by decide) (X.call Try.call15 (evl_cons rfl (evl_cons rfl evl_nil))) (plan_ok (planM twoM (LM[i]'hi)).1 v4 (LM[i]'hi) _ ((o4T.ext (Ext.trans (Ext.trans hx63 (Ext.drew _)) hx83))).rd (Nat.le_trans (hP i hi).2.2.1 (by decide)) (hP i hi).2.2.2.1) ?_)
                    rintro v86 w85 ⟨⟨vq, rfl, oq⟩, hx87⟩
                    have := World.grownBy.size hx87
                    refine ⟨(Ext.trans (Ext.trans (Ext.drew _) hx83) hx87), ?_⟩
                    have oqT := OwnT.of oq
                    refine WO.q rfl rfl rfl rfl (fun w' hE69 => (X.move rfl)) ?_
                    refine WO.q rfl rfl rfl rfl (fun w' hE69 => (X.extract rfl rfl)) ?_
                    refine WO.q rfl rfl rfl rfl (fun w' hE69 => (X.extract rfl rfl)) ?_
                    refine WO.l ?_
                    refine LO.go rfl rfl (OW.storeOA (hO6.ext hx87) rfl rfl rfl (Mp.c_one (Row.of_own oq) _) Try.sizeOf26 ?_)
                    intro w88 hO6 hx90
                    have := World.grownBy.size hx90
                    replace olT := (olT.ext (Ext.trans (Ext.trans (Ext.trans (Ext.trans (Ext.trans (Ext.trans hx7 hwL0) hwCr6) hx63) (Ext.drew _)) hx83) hx87)).keptO hx90 (by omega)
                    replace ozT := (ozT.ext (Ext.trans (Ext.trans (Ext.trans (Ext.trans (Ext.trans hwL0 hwCr6) hx63) (Ext.drew _)) hx83) hx87)).keptO hx90 (by omega)
                    replace hO4 := (hO4.ext (Ext.trans (Ext.trans (Ext.trans hx63 (Ext.drew _)) hx83) hx87)).keptO hx90 (by omega)
                    replace o4T := (o4T.ext (Ext.trans (Ext.trans (Ext.trans hx63 (Ext.drew _)) hx83) hx87)).keptO hx90 (by omega)
                    replace oqT := oqT.keptO hx90 (by omega)
                    refine ⟨(Ext.trans (Ext.drew _) (Ext.store (Ext.trans hx83 hx87) hx90 (by omega))), ?_⟩
                    refine WO.q rfl rfl rfl rfl (fun w' hE69 => (X.assignI rfl)) ?_
                    refine WO.nil ?_
                    refine WL.nil ?_
                    refine thn_n ?_
                    exact ⟨rfl, (by repeat (first | exact (Agree.refl _ F67) | refine Agree.put ?_ rfl | refine Agree.sub hACr6 rfl ?_ | refine Agree.sub hAL0 rfl ?_ | refine Agree.named hF68 ?_ | refine Agree.named hF14 ?_ | refine Agree.named hF10 ?_)), (Ext.trans (Ext.drew _) (Ext.store (Ext.trans hx83 hx87) hx90 (by omega)))⟩
                · rintro fCr9 wCr9 ⟨e7_Cr9, hACr9, hwCr9⟩
                  have := World.grownBy.size hwCr9
                  refine WF.seq ?_
                  refine WF.region ?_
                  refine WL.va rfl rfl rfl (X.moveI ((hACr9.eq 5).trans ((congrFun hF68 5).trans e5_Cr6))) ?_
                  refine WL.va rfl rfl rfl (X.eql rfl rfl) ?_
                  refine WL.va rfl rfl rfl (X.moveB rfl) ?_
                  refine WL.split (j := 2) rfl (fun h93 => ?_) (fun h93 => ?_)
                  · have gh93 := (of_decide_eq_true h93)
                    have hz2 := gh93
                    refine WL.vg rfl (congrArg some h93) rfl rfl (X.moveI e7_Cr9) ?_
                    refine WL.vg rfl (congrArg some h93) rfl rfl (X.neq rfl rfl) ?_
                    refine WL.va rfl rfl rfl (X.pickT rfl h93 rfl) ?_
                    refine WL.nil ?_
                    refine thn_n ?_
                    refine WF.cond rfl (fun h2_94 => ?_) (fun h2_94 => ?_)
                    · have gh2_94 := (of_decide_eq_true h2_94)
                      exact absurd ((hP i hi).2.1 hz2).2.2 gh2_94
                    · have gh2_94 := (Decidable.of_not_not (of_decide_eq_false h2_94))
                      refine WF.skip ?_
                      refine blk_n ?_
                      refine thn_n ?_
                      refine WF.region ?_
                      refine WL.va rfl rfl rfl (X.moveI ((hACr9.eq 3).trans ((congrFun hF68 3).trans ((hACr6.eq 3).trans ((congrFun hF14 3).trans e3_L0))))) ?_
                      refine WL.va rfl rfl rfl (X.add rfl rfl (w64 (by omega))) ?_
                      refine WL.va rfl rfl rfl (X.assignI rfl) ?_
                      refine WL.nil ?_
                      exact thn_n ⟨_, (by omega), i + 1, rfl, rfl, (by repeat (first | exact hAL0 | refine Agree.put ?_ rfl | refine Agree.sub hACr9 rfl ?_ | refine Agree.sub hACr6 rfl ?_ | refine Agree.named hF68 ?_ | refine Agree.named hF14 ?_ | refine Agree.named hF10 ?_)), (Ext.trans (Ext.trans (Ext.trans hwL0 hwCr6) hx63) hwCr9), (by omega)⟩
                  · have gh93 := (of_decide_eq_false h93)
                    refine WL.p rfl rfl rfl (congrArg some h93) ?_
                    refine WL.p rfl rfl rfl (congrArg some h93) ?_
                    refine WL.va rfl rfl rfl (X.pickF rfl h93 rfl) ?_
                    refine WL.nil ?_
                    refine thn_n ?_
                    refine WF.cond_f rfl ?_
                    refine WF.skip ?_
                    refine blk_n ?_
                    refine thn_n ?_
                    refine WF.region ?_
                    refine WL.va rfl rfl rfl (X.moveI ((hACr9.eq 3).trans ((congrFun hF68 3).trans ((hACr6.eq 3).trans ((congrFun hF14 3).trans e3_L0))))) ?_
                    refine WL.va rfl rfl rfl (X.add rfl rfl (w64 (by omega))) ?_
                    refine WL.va rfl rfl rfl (X.assignI rfl) ?_
                    refine WL.nil ?_
                    exact thn_n ⟨_, (by omega), i + 1, rfl, rfl, (by repeat (first | exact hAL0 | refine Agree.put ?_ rfl | refine Agree.sub hACr9 rfl ?_ | refine Agree.sub hACr6 rfl ?_ | refine Agree.named hF68 ?_ | refine Agree.named hF14 ?_ | refine Agree.named hF10 ?_)), (Ext.trans (Ext.trans (Ext.trans hwL0 hwCr6) hx63) hwCr9), (by omega)⟩
          · have gh58 := (of_decide_eq_false h58)
            refine WL.p rfl rfl rfl (congrArg some h58) ?_
            refine WL.p rfl rfl rfl (congrArg some h58) ?_
            refine WL.p rfl rfl rfl (congrArg some h58) ?_
            refine WL.p rfl rfl rfl (congrArg some h58) ?_
            refine WL.pn rfl rfl rfl rfl ?_
            refine WL.pn rfl rfl rfl rfl ?_
            refine WL.pn rfl rfl rfl rfl ?_
            refine WL.p rfl rfl rfl (congrArg some h58) ?_
            refine WL.vg rfl (congrArg some h56) rfl rfl (X.pickF rfl h58 rfl) ?_
            refine WL.va rfl rfl rfl (X.pickF rfl h56 rfl) ?_
            refine WL.nil ?_
            refine thn_n ?_
            refine WF.cond_f rfl ?_
            refine WF.skip ?_
            refine thn_n ?_
            refine WF.named (fun F98 hF99 => ?_)
            refine WF.cut (fun f' w' => f' 7 = i64 (planM (planM twoM (LM[i]'hi)).1 (LM[i]'hi)).2 ∧ Agree [1, 2, 3, 4, 5, 42, 43, 44, 45, 46, 47, 48, 49, 50, 51, 52, 53, 54, 55, 56, 57, 58, 59, 60, 72, 73, 74, 75, 76, 77, 78, 79, 80, 81, 82, 83, 84, 85, 86, 87, 88, 89, 90, 91] f' F98 ∧ Ext wCr6 w') ?_ ?_
            · refine WF.drawn (.q 0 (.q 1 (.q 2 (.q 3 (.q 4 (.b 5 9 (.q 6 (.q 7 (.q 8 (.l 9 (.l 10 (.q 11 .nil)))))) (.l 5 (.q 6 (.q 7 (.q 8 (.l 10 (.q 11 .nil)))))))))))) (fun w' => Ext wCr6 w') 12 (by kernel_rfl) (by kernel_rfl) (Ext.drew _) ?_
              have := World.grownBy.size (Ext.drew wCr6)
              refine WO.q rfl rfl rfl rfl (fun w' hE100 => (X.loadOA hO4 hE100 ((congrFun hF99 4).trans e4_Cr6) rfl Try.isAgg26 Try.sizeOf26)) ?_
              refine WO.q rfl rfl rfl rfl (fun w' hE100 => (X.move ((congrFun hF99 1).trans ((hACr6.eq 1).trans ((congrFun hF14 1).trans ((hAL0.eq 1).trans (congrFun hF10 1))))))) ?_
              refine WO.q rfl rfl rfl rfl (fun w' hE100 => (X.moveI ((congrFun hF99 3).trans ((hACr6.eq 3).trans ((congrFun hF14 3).trans e3_L0))))) ?_
              refine WO.q rfl rfl rfl rfl (fun w' hE100 => (X.idx (olT.rd) rfl rfl hi Try.underlying27 Try.sizeOf24)) ?_
              refine WO.q rfl rfl rfl rfl (fun w' hE100 => (X.loadEl (olT.rd) (Ext.trans (Ext.trans (Ext.trans hx7 hwL0) hwCr6) hE100) rfl hi (Mvs.el hi) Try.isAgg24 Try.sizeOf24)) ?_
              refine WO.b2 ?_ ?_
              · have hzpq := ((show Ext w wCr6.drew from (Ext.trans (Ext.trans (Ext.trans (Ext.trans hx4 hx7) hwL0) hwCr6) (Ext.drew _)))).size
                refine LO.go rfl rfl (OW.enter rfl (by decide) (X.call Try.call15 (evl_cons rfl (evl_cons rfl evl_nil))) (plan_ok (planM twoM (LM[i]'hi)).1 v4 (LM[i]'hi) _ ((o4T.ext (Ext.drew _))).rd (Nat.le_trans (hP i hi).2.2.1 (by decide)) (hP i hi).2.2.2.1) ?_)
                rintro v102 w101 ⟨⟨vq, rfl, oq⟩, hx103⟩
                have := World.grownBy.size hx103
                refine ⟨(Ext.trans (Ext.drew _) hx103), ?_⟩
                have oqT := OwnT.of oq
                refine WO.q rfl rfl rfl rfl (fun w' hE100 => (X.move rfl)) ?_
                refine WO.q rfl rfl rfl rfl (fun w' hE100 => (X.extract rfl rfl)) ?_
                refine WO.q rfl rfl rfl rfl (fun w' hE100 => (X.extract rfl rfl)) ?_
                refine WO.l ?_
                refine LO.go rfl rfl (OW.allocO (cs := [.slice none 0 0, i64 0, i64 0, i64 0, i64 0, i64 0, i64 0]) Try.zeroValue26 rfl ?_ (by decide))
                intro g6 w104 heg6 hlg6 hO6 hx106
                have := World.grownBy.size hx106
                refine ⟨(Ext.trans (Ext.trans (Ext.drew _) hx103) hx106), ?_⟩
                refine WO.l ?_
                refine LO.go rfl rfl (OW.storeOA hO6 rfl rfl rfl (Mp.c_one (Row.of_own oq) _) Try.sizeOf26 ?_)
                intro w108 hO6 hx110
                have := World.grownBy.size hx110
                replace olT := (olT.ext (Ext.trans (Ext.trans (Ext.trans (Ext.trans (Ext.trans hx7 hwL0) hwCr6) (Ext.drew _)) hx103) hx106)).keptO hx110 (by omega)
                replace ozT := (ozT.ext (Ext.trans (Ext.trans (Ext.trans (Ext.trans hwL0 hwCr6) (Ext.drew _)) hx103) hx106)).keptO hx110 (by omega)
                replace hO4 := (hO4.ext (Ext.trans (Ext.trans (Ext.drew _) hx103) hx106)).keptO hx110 (by omega)
                replace o4T := (o4T.ext (Ext.trans (Ext.trans (Ext.drew _) hx103) hx106)).keptO hx110 (by omega)
                replace oqT := (oqT.ext hx106).keptO hx110 (by omega)
                refine ⟨(Ext.trans (Ext.trans (Ext.drew _) hx103) (Ext.store hx106 hx110 (by omega))), ?_⟩
                refine WO.q rfl rfl rfl rfl (fun w' hE100 => (X.assignI rfl)) ?_
                refine WO.nil ?_
                refine WL.nil ?_
                refine thn_n ?_
                exact ⟨rfl, (by repeat (first | exact (Agree.refl _ F98) | refine Agree.put ?_ rfl | refine Agree.sub hACr6 rfl ?_ | refine Agree.sub hAL0 rfl ?_ | refine Agree.named hF99 ?_ | refine Agree.named hF14 ?_ | refine Agree.named hF10 ?_)), (Ext.trans (Ext.trans (Ext.drew _) hx103) (Ext.store hx106 hx110 (by omega)))⟩
              · refine LO.go rfl rfl (OW.allocO (cs := [.slice none 0 0, i64 0, i64 0, i64 0, i64 0, i64 0, i64 0]) Try.zeroValue26 rfl ?_ (by decide))
                intro g6 w112 heg6 hlg6 hO6 hx114
                have := World.grownBy.size hx114
                refine ⟨(Ext.trans (Ext.drew _) hx114), ?_⟩
                refine WO.l ?_
                have hzpq := ((show Ext w w112 from (Ext.trans (Ext.trans (Ext.trans (Ext.trans (Ext.trans hx4 hx7) hwL0) hwCr6) (Ext.drew _)) hx114))).size
                refine LO.go rfl rfl (OW.enter rfl (by decide) (X.call Try.call15 (evl_cons rfl (evl_cons rfl evl_nil))) (plan_ok (planM twoM (LM[i]'hi)).1 v4 (LM[i]'hi) _ ((o4T.ext (Ext.trans (Ext.drew _) hx114))).rd (Nat.le_trans (hP i hi).2.2.1 (by decide)) (hP i hi).2.2.2.1) ?_)
                rintro v117 w116 ⟨⟨vq, rfl, oq⟩, hx118⟩
                have := World.grownBy.size hx118
                refine ⟨(Ext.trans (Ext.trans (Ext.drew _) hx114) hx118), ?_⟩
                have oqT := OwnT.of oq
                refine WO.q rfl rfl rfl rfl (fun w' hE100 => (X.move rfl)) ?_
                refine WO.q rfl rfl rfl rfl (fun w' hE100 => (X.extract rfl rfl)) ?_
                refine WO.q rfl rfl rfl rfl (fun w' hE100 => (X.extract rfl rfl)) ?_
                refine WO.l ?_
                refine LO.go rfl rfl (OW.storeOA (hO6.ext hx118) rfl rfl rfl (Mp.c_one (Row.of_own oq) _) Try.sizeOf26 ?_)
                intro w119 hO6 hx121
                have := World.grownBy.size hx121
                replace olT := (olT.ext (Ext.trans (Ext.trans (Ext.trans (Ext.trans (Ext.trans hx7 hwL0) hwCr6) (Ext.drew _)) hx114) hx118)).keptO hx121 (by omega)
                replace ozT := (ozT.ext (Ext.trans (Ext.trans (Ext.trans (Ext.trans hwL0 hwCr6) (Ext.drew _)) hx114) hx118)).keptO hx121 (by omega)
                replace hO4 := (hO4.ext (Ext.trans (Ext.trans (Ext.drew _) hx114) hx118)).keptO hx121 (by omega)
                replace o4T := (o4T.ext (Ext.trans (Ext.trans (Ext.drew _) hx114) hx118)).keptO hx121 (by omega)
                replace oqT := oqT.keptO hx121 (by omega)
                refine ⟨(Ext.trans (Ext.drew _) (Ext.store (Ext.trans hx114 hx118) hx121 (by omega))), ?_⟩
                refine WO.q rfl rfl rfl rfl (fun w' hE100 => (X.assignI rfl)) ?_
                refine WO.nil ?_
                refine WL.nil ?_
                refine thn_n ?_
                exact ⟨rfl, (by repeat (first | exact (Agree.refl _ F98) | refine Agree.put ?_ rfl | refine Agree.sub hACr6 rfl ?_ | refine Agree.sub hAL0 rfl ?_ | refine Agree.named hF99 ?_ | refine Agree.named hF14 ?_ | refine Agree.named hF10 ?_)), (Ext.trans (Ext.drew _) (Ext.store (Ext.trans hx114 hx118) hx121 (by omega)))⟩
            · rintro fCr9 wCr9 ⟨e7_Cr9, hACr9, hwCr9⟩
              have := World.grownBy.size hwCr9
              refine WF.seq ?_
              refine WF.region ?_
              refine WL.va rfl rfl rfl (X.moveI ((hACr9.eq 5).trans ((congrFun hF99 5).trans e5_Cr6))) ?_
              refine WL.va rfl rfl rfl (X.eql rfl rfl) ?_
              refine WL.va rfl rfl rfl (X.moveB rfl) ?_
              refine WL.split (j := 2) rfl (fun h124 => ?_) (fun h124 => ?_)
              · have gh124 := (of_decide_eq_true h124)
                have hz2 := gh124
                refine WL.vg rfl (congrArg some h124) rfl rfl (X.moveI e7_Cr9) ?_
                refine WL.vg rfl (congrArg some h124) rfl rfl (X.neq rfl rfl) ?_
                refine WL.va rfl rfl rfl (X.pickT rfl h124 rfl) ?_
                refine WL.nil ?_
                refine thn_n ?_
                refine WF.cond rfl (fun h2_125 => ?_) (fun h2_125 => ?_)
                · have gh2_125 := (of_decide_eq_true h2_125)
                  exact absurd ((hP i hi).2.1 hz2).2.2 gh2_125
                · have gh2_125 := (Decidable.of_not_not (of_decide_eq_false h2_125))
                  refine WF.skip ?_
                  refine blk_n ?_
                  refine thn_n ?_
                  refine WF.region ?_
                  refine WL.va rfl rfl rfl (X.moveI ((hACr9.eq 3).trans ((congrFun hF99 3).trans ((hACr6.eq 3).trans ((congrFun hF14 3).trans e3_L0))))) ?_
                  refine WL.va rfl rfl rfl (X.add rfl rfl (w64 (by omega))) ?_
                  refine WL.va rfl rfl rfl (X.assignI rfl) ?_
                  refine WL.nil ?_
                  exact thn_n ⟨_, (by omega), i + 1, rfl, rfl, (by repeat (first | exact hAL0 | refine Agree.put ?_ rfl | refine Agree.sub hACr9 rfl ?_ | refine Agree.sub hACr6 rfl ?_ | refine Agree.named hF99 ?_ | refine Agree.named hF14 ?_ | refine Agree.named hF10 ?_)), (Ext.trans (Ext.trans hwL0 hwCr6) hwCr9), (by omega)⟩
              · have gh124 := (of_decide_eq_false h124)
                refine WL.p rfl rfl rfl (congrArg some h124) ?_
                refine WL.p rfl rfl rfl (congrArg some h124) ?_
                refine WL.va rfl rfl rfl (X.pickF rfl h124 rfl) ?_
                refine WL.nil ?_
                refine thn_n ?_
                refine WF.cond_f rfl ?_
                refine WF.skip ?_
                refine blk_n ?_
                refine thn_n ?_
                refine WF.region ?_
                refine WL.va rfl rfl rfl (X.moveI ((hACr9.eq 3).trans ((congrFun hF99 3).trans ((hACr6.eq 3).trans ((congrFun hF14 3).trans e3_L0))))) ?_
                refine WL.va rfl rfl rfl (X.add rfl rfl (w64 (by omega))) ?_
                refine WL.va rfl rfl rfl (X.assignI rfl) ?_
                refine WL.nil ?_
                exact thn_n ⟨_, (by omega), i + 1, rfl, rfl, (by repeat (first | exact hAL0 | refine Agree.put ?_ rfl | refine Agree.sub hACr9 rfl ?_ | refine Agree.sub hACr6 rfl ?_ | refine Agree.named hF99 ?_ | refine Agree.named hF14 ?_ | refine Agree.named hF10 ?_)), (Ext.trans (Ext.trans hwL0 hwCr6) hwCr9), (by omega)⟩
    · have gh0_11 := (of_decide_eq_false h0_11)
      refine WF.exit ?_
      refine thn_x ?_
      refine thn_x ?_
      refine blk_eq ?_
      refine thn_n ?_
      refine WF.named (fun F128 hF129 => ?_)
      refine WF.cut (fun f' w' => ∃ (g8 : Nat) (vm : Value), f' 8 = at_ g8 ∧ Agree [1, 2, 3, 42, 43, 44, 45, 46, 47, 48, 49, 50, 51, 52, 53, 54, 55, 56, 57, 58, 59, 60] f' F128 ∧ Ext wL0 w' ∧ Blk w' g8 26 ((⟨twoM.R, 2, ⟨2, 2, 1, 32, 64⟩⟩ : Mp).c vm) ∧ OwnT w' w.heap.size w'.heap.size 41 4 vm (twoM.R).length ((twoM.R).flatMap Rg.c) ∧ w.heap.size ≤ g8) ?_ ?_
      · refine WF.drawn (.q 1 (.q 2 (.q 3 (.b 0 8 (.b 4 8 (.q 5 (.q 6 (.q 7 (.l 8 (.l 9 (.q 10 .nil)))))) (.l 4 (.q 5 (.q 6 (.q 7 (.l 9 (.q 10 .nil))))))) (.l 0 (.l 4 (.q 5 (.q 6 (.q 7 (.l 9 (.q 10 .nil))))))))))) (fun w' => Ext wL0 w') 11 (by kernel_rfl) (by kernel_rfl) (Ext.drew _) ?_
        have := World.grownBy.size (Ext.drew wL0)
        refine WO.q rfl rfl rfl rfl (fun w' hE130 => (X.move ((congrFun hF129 1).trans ((hAL0.eq 1).trans (congrFun hF10 1))))) ?_
        refine WO.q rfl rfl rfl rfl (fun w' hE130 => (X.idx (k := 10) (olT.rd) rfl rfl (by decide) Try.underlying27 Try.sizeOf24)) ?_
        refine WO.q rfl rfl rfl rfl (fun w' hE130 => (X.loadEl (olT.rd) (Ext.trans (Ext.trans hx7 hwL0) hE130) rfl (by decide) (Mvs.el (l := LM) (k := 10) (by decide)) Try.isAgg24 Try.sizeOf24)) ?_
        refine WO.b2 ?_ ?_
        · refine LO.go rfl rfl (OW.enter rfl (by decide) (X.call Try.call50 evl_nil) (two_ok _) ?_)
          rintro v132 w131 ⟨⟨v0, rfl, o0⟩, hx133⟩
          have := World.grownBy.size hx133
          refine ⟨(Ext.trans (Ext.drew _) hx133), ?_⟩
          have o0T := OwnT.of o0
          refine WO.b2 ?_ ?_
          · have hzpm := ((show Ext w w131 from (Ext.trans (Ext.trans (Ext.trans (Ext.trans hx4 hx7) hwL0) (Ext.drew _)) hx133))).size
            refine LO.go rfl rfl (OW.enter rfl (by decide) (X.call Try.call15 (evl_cons rfl (evl_cons rfl evl_nil))) (planK (m := twoM) (m' := (⟨twoM.R, 2, ⟨2, 2, 1, 32, 64⟩⟩ : Mp)) (c := 0) (x := LM[10]'(by decide)) (by decide +kernel) (by decide) (by decide) (o0T).rd) ?_)
            rintro v135 w134 ⟨⟨vm, rfl, om⟩, hx136⟩
            have := World.grownBy.size hx136
            refine ⟨(Ext.trans (Ext.trans (Ext.drew _) hx133) hx136), ?_⟩
            have omT := OwnT.of om
            refine WO.q rfl rfl rfl rfl (fun w' hE130 => (X.move rfl)) ?_
            refine WO.q rfl rfl rfl rfl (fun w' hE130 => (X.extract rfl rfl)) ?_
            refine WO.q rfl rfl rfl rfl (fun w' hE130 => (X.extract rfl rfl)) ?_
            refine WO.l ?_
            refine LO.go rfl rfl (OW.allocO (cs := [.slice none 0 0, i64 0, i64 0, i64 0, i64 0, i64 0, i64 0]) Try.zeroValue26 rfl ?_ (by decide))
            intro g8 w137 heg8 hlg8 hO8 hx139
            have := World.grownBy.size hx139
            refine ⟨(Ext.trans (Ext.trans (Ext.trans (Ext.drew _) hx133) hx136) hx139), ?_⟩
            refine WO.l ?_
            refine LO.go rfl rfl (OW.storeOA hO8 rfl rfl rfl (Mp.c_one ((omT.ext hx139)).rd _) Try.sizeOf26 ?_)
            intro w141 hO8 hx143
            have := World.grownBy.size hx143
            replace olT := (olT.ext (Ext.trans (Ext.trans (Ext.trans (Ext.trans (Ext.trans hx7 hwL0) (Ext.drew _)) hx133) hx136) hx139)).keptO hx143 (by omega)
            replace ozT := (ozT.ext (Ext.trans (Ext.trans (Ext.trans (Ext.trans hwL0 (Ext.drew _)) hx133) hx136) hx139)).keptO hx143 (by omega)
            replace o0T := (o0T.ext (Ext.trans hx136 hx139)).keptO hx143 (by omega)
            replace omT := (omT.ext hx139).keptO hx143 (by omega)
            replace hO8 : Blk _ _ _ ((⟨twoM.R, 2, ⟨2, 2, 1, 32, 64⟩⟩ : Mp).c vm) := hO8
            refine ⟨(Ext.trans (Ext.trans (Ext.trans (Ext.drew _) hx133) hx136) (Ext.store hx139 hx143 (by omega))), ?_⟩
            refine WO.q rfl rfl rfl rfl (fun w' hE130 => (X.assignI rfl)) ?_
            refine WO.nil ?_
            refine WL.nil ?_
            refine thn_n ?_
            exact ⟨_, _, rfl, (by repeat (first | exact (Agree.refl _ F128) | refine Agree.put ?_ rfl | refine Agree.sub hAL0 rfl ?_ | refine Agree.named hF129 ?_ | refine Agree.named hF10 ?_)), (Ext.trans (Ext.trans (Ext.trans (Ext.drew _) hx133) hx136) (Ext.store hx139 hx143 (by omega))), ⟨hO8, ⟨own_mono (omT).own (by omega), fun b hb => ((omT).own.lt b hb).2⟩, by omega⟩⟩
          · refine LO.go rfl rfl (OW.allocO (cs := [.slice none 0 0, i64 0, i64 0, i64 0, i64 0, i64 0, i64 0]) Try.zeroValue26 rfl ?_ (by decide))
            intro g8 w145 heg8 hlg8 hO8 hx147
            have := World.grownBy.size hx147
            refine ⟨(Ext.trans (Ext.trans (Ext.drew _) hx133) hx147), ?_⟩
            refine WO.l ?_
            have hzpm := ((show Ext w w145 from (Ext.trans (Ext.trans (Ext.trans (Ext.trans (Ext.trans hx4 hx7) hwL0) (Ext.drew _)) hx133) hx147))).size
            refine LO.go rfl rfl (OW.enter rfl (by decide) (X.call Try.call15 (evl_cons rfl (evl_cons rfl evl_nil))) (planK (m := twoM) (m' := (⟨twoM.R, 2, ⟨2, 2, 1, 32, 64⟩⟩ : Mp)) (c := 0) (x := LM[10]'(by decide)) (by decide +kernel) (by decide) (by decide) ((o0T.ext hx147)).rd) ?_)
            rintro v150 w149 ⟨⟨vm, rfl, om⟩, hx151⟩
            have := World.grownBy.size hx151
            refine ⟨(Ext.trans (Ext.trans (Ext.trans (Ext.drew _) hx133) hx147) hx151), ?_⟩
            have omT := OwnT.of om
            refine WO.q rfl rfl rfl rfl (fun w' hE130 => (X.move rfl)) ?_
            refine WO.q rfl rfl rfl rfl (fun w' hE130 => (X.extract rfl rfl)) ?_
            refine WO.q rfl rfl rfl rfl (fun w' hE130 => (X.extract rfl rfl)) ?_
            refine WO.l ?_
            refine LO.go rfl rfl (OW.storeOA (hO8.ext hx151) rfl rfl rfl (Mp.c_one (omT).rd _) Try.sizeOf26 ?_)
            intro w152 hO8 hx154
            have := World.grownBy.size hx154
            replace olT := (olT.ext (Ext.trans (Ext.trans (Ext.trans (Ext.trans (Ext.trans hx7 hwL0) (Ext.drew _)) hx133) hx147) hx151)).keptO hx154 (by omega)
            replace ozT := (ozT.ext (Ext.trans (Ext.trans (Ext.trans (Ext.trans hwL0 (Ext.drew _)) hx133) hx147) hx151)).keptO hx154 (by omega)
            replace o0T := (o0T.ext (Ext.trans hx147 hx151)).keptO hx154 (by omega)
            replace omT := omT.keptO hx154 (by omega)
            replace hO8 : Blk _ _ _ ((⟨twoM.R, 2, ⟨2, 2, 1, 32, 64⟩⟩ : Mp).c vm) := hO8
            refine ⟨(Ext.trans (Ext.trans (Ext.drew _) hx133) (Ext.store (Ext.trans hx147 hx151) hx154 (by omega))), ?_⟩
            refine WO.q rfl rfl rfl rfl (fun w' hE130 => (X.assignI rfl)) ?_
            refine WO.nil ?_
            refine WL.nil ?_
            refine thn_n ?_
            exact ⟨_, _, rfl, (by repeat (first | exact (Agree.refl _ F128) | refine Agree.put ?_ rfl | refine Agree.sub hAL0 rfl ?_ | refine Agree.named hF129 ?_ | refine Agree.named hF10 ?_)), (Ext.trans (Ext.trans (Ext.drew _) hx133) (Ext.store (Ext.trans hx147 hx151) hx154 (by omega))), ⟨hO8, ⟨own_mono (omT).own (by omega), fun b hb => ((omT).own.lt b hb).2⟩, by omega⟩⟩
        · refine LO.go rfl rfl (OW.allocO (cs := [.slice none 0 0, i64 0, i64 0, i64 0, i64 0, i64 0, i64 0]) Try.zeroValue26 rfl ?_ (by decide))
          intro g8 w156 heg8 hlg8 hO8 hx158
          have := World.grownBy.size hx158
          refine ⟨(Ext.trans (Ext.drew _) hx158), ?_⟩
          refine WO.l ?_
          refine LO.go rfl rfl (OW.enter rfl (by decide) (X.call Try.call50 evl_nil) (two_ok _) ?_)
          rintro v161 w160 ⟨⟨v0, rfl, o0⟩, hx162⟩
          have := World.grownBy.size hx162
          refine ⟨(Ext.trans (Ext.trans (Ext.drew _) hx158) hx162), ?_⟩
          have o0T := OwnT.of o0
          refine WO.l ?_
          have hzpm := ((show Ext w w160 from (Ext.trans (Ext.trans (Ext.trans (Ext.trans (Ext.trans hx4 hx7) hwL0) (Ext.drew _)) hx158) hx162))).size
          refine LO.go rfl rfl (OW.enter rfl (by decide) (X.call Try.call15 (evl_cons rfl (evl_cons rfl evl_nil))) (planK (m := twoM) (m' := (⟨twoM.R, 2, ⟨2, 2, 1, 32, 64⟩⟩ : Mp)) (c := 0) (x := LM[10]'(by decide)) (by decide +kernel) (by decide) (by decide) (o0T).rd) ?_)
          rintro v164 w163 ⟨⟨vm, rfl, om⟩, hx165⟩
          have := World.grownBy.size hx165
          refine ⟨(Ext.trans (Ext.trans (Ext.trans (Ext.drew _) hx158) hx162) hx165), ?_⟩
          have omT := OwnT.of om
          refine WO.q rfl rfl rfl rfl (fun w' hE130 => (X.move rfl)) ?_
          refine WO.q rfl rfl rfl rfl (fun w' hE130 => (X.extract rfl rfl)) ?_
          refine WO.q rfl rfl rfl rfl (fun w' hE130 => (X.extract rfl rfl)) ?_
          refine WO.l ?_
          refine LO.go rfl rfl (OW.storeOA (hO8.ext (Ext.trans hx162 hx165)) rfl rfl rfl (Mp.c_one (omT).rd _) Try.sizeOf26 ?_)
          intro w166 hO8 hx168
          have := World.grownBy.size hx168
          replace olT := (olT.ext (Ext.trans (Ext.trans (Ext.trans (Ext.trans (Ext.trans hx7 hwL0) (Ext.drew _)) hx158) hx162) hx165)).keptO hx168 (by omega)
          replace ozT := (ozT.ext (Ext.trans (Ext.trans (Ext.trans (Ext.trans hwL0 (Ext.drew _)) hx158) hx162) hx165)).keptO hx168 (by omega)
          replace o0T := (o0T.ext hx165).keptO hx168 (by omega)
          replace omT := omT.keptO hx168 (by omega)
          replace hO8 : Blk _ _ _ ((⟨twoM.R, 2, ⟨2, 2, 1, 32, 64⟩⟩ : Mp).c vm) := hO8
          refine ⟨(Ext.trans (Ext.drew _) (Ext.store (Ext.trans (Ext.trans hx158 hx162) hx165) hx168 (by omega))), ?_⟩
          refine WO.q rfl rfl rfl rfl (fun w' hE130 => (X.assignI rfl)) ?_
          refine WO.nil ?_
          refine WL.nil ?_
          refine thn_n ?_
          exact ⟨_, _, rfl, (by repeat (first | exact (Agree.refl _ F128) | refine Agree.put ?_ rfl | refine Agree.sub hAL0 rfl ?_ | refine Agree.named hF129 ?_ | refine Agree.named hF10 ?_)), (Ext.trans (Ext.drew _) (Ext.store (Ext.trans (Ext.trans hx158 hx162) hx165) hx168 (by omega))), ⟨hO8, ⟨own_mono (omT).own (by omega), fun b hb => ((omT).own.lt b hb).2⟩, by omega⟩⟩
      · rintro fCr12 wCr12 ⟨g8, vm, e8_Cr12, hACr12, hwCr12, ⟨hO8, omT, hg8⟩⟩
        have := World.grownBy.size hwCr12
        have qqhO8 := hO8.lt
        refine WF.seq ?_
        refine WF.region ?_
        refine WL.va rfl rfl rfl (X.loadOA hO8 (Ext.refl _) e8_Cr12 rfl Try.isAgg26 Try.sizeOf26) ?_
        have hzpn := ((show Ext w wCr12 from (Ext.trans (Ext.trans (Ext.trans hx4 hx7) hwL0) hwCr12))).size
        refine WL.c rfl rfl rfl (X.call Try.call17 (evl_cons rfl (evl_cons rfl evl_nil))) (doneK (m := (⟨twoM.R, 2, ⟨2, 2, 1, 32, 64⟩⟩ : Mp)) (e := 2) (m' := (⟨[⟨0, 64, 1, 2⟩], 2, Mv.zero⟩ : Mp)) (c := 0) (by kernel_rfl) (by decide +kernel) ⟨by decide, by decide⟩ (omT).rd) ?_
        rintro v171 w170 ⟨⟨vn, rfl, on⟩, hx172⟩
        have := World.grownBy.size hx172
        have onT := OwnT.of on
        refine WL.va rfl rfl rfl (X.move rfl) ?_
        refine WL.va rfl rfl rfl (X.extract rfl rfl) ?_
        refine WL.va rfl rfl rfl (X.extract rfl rfl) ?_
        refine WL.op rfl (OW.allocO (cs := [.slice none 0 0, i64 0, i64 0, i64 0, i64 0, i64 0, i64 0]) Try.zeroValue26 rfl ?_ (by decide))
        intro g10 w173 heg10 hlg10 hO10 hx175
        have := World.grownBy.size hx175
        refine WL.op rfl (OW.storeOA hO10 rfl rfl rfl (Mp.c_one ((onT.ext hx175)).rd _) Try.sizeOf26 ?_)
        intro w177 hO10 hx179
        have := World.grownBy.size hx179
        replace olT := (olT.ext (Ext.trans (Ext.trans (Ext.trans (Ext.trans hx7 hwL0) hwCr12) hx172) hx175)).keptO hx179 (by omega)
        replace ozT := (ozT.ext (Ext.trans (Ext.trans (Ext.trans hwL0 hwCr12) hx172) hx175)).keptO hx179 (by omega)
        replace hO8 := (hO8.ext (Ext.trans hx172 hx175)).keptO hx179 (by omega)
        replace omT := (omT.ext (Ext.trans hx172 hx175)).keptO hx179 (by omega)
        replace onT := (onT.ext hx175).keptO hx179 (by omega)
        replace hO10 : Blk _ _ _ ((⟨[⟨0, 64, 1, 2⟩], 2, Mv.zero⟩ : Mp).c vn) := hO10
        refine WL.va rfl rfl rfl (X.assignI rfl) ?_
        refine WL.nil ?_
        refine thn_n ?_
        refine WF.seq ?_
        refine WF.region ?_
        refine WL.va rfl rfl rfl (X.loadOA hO8 (Ext.refl _) e8_Cr12 rfl Try.isAgg26 Try.sizeOf26) ?_
        have hzpa := ((show Ext w w177 from (Ext.trans (Ext.trans (Ext.trans (Ext.trans (Ext.trans hx4 hx7) hwL0) hwCr12) hx172) (Ext.store hx175 hx179 (by omega))))).size
        refine WL.c rfl rfl rfl (X.call Try.call17 (evl_cons rfl (evl_cons rfl evl_nil))) (doneK (m := (⟨twoM.R, 2, ⟨2, 2, 1, 32, 64⟩⟩ : Mp)) (e := 1) (m' := Mp.zero) (c := 6) (by kernel_rfl) (by decide +kernel) ⟨by decide, by decide⟩ (omT).rd) ?_
        rintro v182 w181 ⟨⟨va, rfl, oa⟩, hx183⟩
        have := World.grownBy.size hx183
        have oaT := OwnT.of oa
        refine WL.va rfl rfl rfl (X.move rfl) ?_
        refine WL.va rfl rfl rfl (X.extract rfl rfl) ?_
        refine WL.va rfl rfl rfl (X.extract rfl rfl) ?_
        refine WL.op rfl (OW.allocO (cs := [.slice none 0 0, i64 0, i64 0, i64 0, i64 0, i64 0, i64 0]) Try.zeroValue26 rfl ?_ (by decide))
        intro g12 w184 heg12 hlg12 hO12 hx186
        have := World.grownBy.size hx186
        refine WL.op rfl (OW.storeOA hO12 rfl rfl rfl (Mp.c_one (Row.of_own oa) _) Try.sizeOf26 ?_)
        intro w188 hO12 hx190
        have := World.grownBy.size hx190
        replace olT := (olT.ext (Ext.trans hx183 hx186)).keptO hx190 (by omega)
        replace ozT := (ozT.ext (Ext.trans hx183 hx186)).keptO hx190 (by omega)
        replace hO8 := (hO8.ext (Ext.trans hx183 hx186)).keptO hx190 (by omega)
        replace omT := (omT.ext (Ext.trans hx183 hx186)).keptO hx190 (by omega)
        replace onT := (onT.ext (Ext.trans hx183 hx186)).keptO hx190 (by omega)
        replace hO10 := (hO10.ext (Ext.trans hx183 hx186)).keptO hx190 (by omega)
        replace oaT := (oaT.ext hx186).keptO hx190 (by omega)
        refine WL.va rfl rfl rfl (X.assignI rfl) ?_
        refine WL.nil ?_
        refine thn_n ?_
        refine WF.seq ?_
        refine WF.region ?_
        refine WL.c rfl rfl rfl (X.call Try.call50 evl_nil) (two_ok _) ?_
        rintro v193 w192 ⟨⟨v0, rfl, o0⟩, hx194⟩
        have := World.grownBy.size hx194
        have o0T := OwnT.of o0
        have hzpb := ((show Ext w w192 from (Ext.trans (Ext.trans (Ext.trans (Ext.trans (Ext.trans (Ext.trans (Ext.trans (Ext.trans hx4 hx7) hwL0) hwCr12) hx172) (Ext.store hx175 hx179 (by omega))) hx183) (Ext.store hx186 hx190 (by omega))) hx194))).size
        refine WL.c rfl rfl rfl (X.call Try.call17 (evl_cons rfl (evl_cons rfl evl_nil))) (doneK (m := twoM) (e := 0) (m' := Mp.zero) (c := 6) (by kernel_rfl) two_good two_in (o0T).rd) ?_
        rintro v196 w195 ⟨⟨vb, rfl, ob⟩, hx197⟩
        have := World.grownBy.size hx197
        have obT := OwnT.of ob
        refine WL.va rfl rfl rfl (X.move rfl) ?_
        refine WL.va rfl rfl rfl (X.extract rfl rfl) ?_
        refine WL.va rfl rfl rfl (X.extract rfl rfl) ?_
        refine WL.op rfl (OW.allocO (cs := [.slice none 0 0, i64 0, i64 0, i64 0, i64 0, i64 0, i64 0]) Try.zeroValue26 rfl ?_ (by decide))
        intro g14 w198 heg14 hlg14 hO14 hx200
        have := World.grownBy.size hx200
        refine WL.op rfl (OW.storeOA hO14 rfl rfl rfl (Mp.c_one (Row.of_own ob) _) Try.sizeOf26 ?_)
        intro w202 hO14 hx204
        have := World.grownBy.size hx204
        replace olT := (olT.ext (Ext.trans (Ext.trans hx194 hx197) hx200)).keptO hx204 (by omega)
        replace ozT := (ozT.ext (Ext.trans (Ext.trans hx194 hx197) hx200)).keptO hx204 (by omega)
        replace hO8 := (hO8.ext (Ext.trans (Ext.trans hx194 hx197) hx200)).keptO hx204 (by omega)
        replace omT := (omT.ext (Ext.trans (Ext.trans hx194 hx197) hx200)).keptO hx204 (by omega)
        replace onT := (onT.ext (Ext.trans (Ext.trans hx194 hx197) hx200)).keptO hx204 (by omega)
        replace hO10 := (hO10.ext (Ext.trans (Ext.trans hx194 hx197) hx200)).keptO hx204 (by omega)
        replace oaT := (oaT.ext (Ext.trans (Ext.trans hx194 hx197) hx200)).keptO hx204 (by omega)
        replace hO12 := (hO12.ext (Ext.trans (Ext.trans hx194 hx197) hx200)).keptO hx204 (by omega)
        replace o0T := (o0T.ext (Ext.trans hx197 hx200)).keptO hx204 (by omega)
        replace obT := (obT.ext hx200).keptO hx204 (by omega)
        refine WL.va rfl rfl rfl (X.assignI rfl) ?_
        refine WL.nil ?_
        refine thn_n ?_
        refine WF.seq ?_
        refine WF.region ?_
        refine WL.c rfl rfl rfl (X.call Try.call50 evl_nil) (two_ok _) ?_
        rintro v207 w206 ⟨⟨vf, rfl, of_⟩, hx208⟩
        have := World.grownBy.size hx208
        have ofT := OwnT.of of_
        refine WL.op rfl (OW.allocO (cs := [.slice none 0 0, i64 0, i64 0, i64 0, i64 0, i64 0, i64 0]) Try.zeroValue26 rfl ?_ (by decide))
        intro g16 w209 heg16 hlg16 hO16 hx211
        have := World.grownBy.size hx211
        refine WL.op rfl (OW.storeOA hO16 rfl rfl rfl (Mp.c_one ((ofT.ext hx211)).rd _) Try.sizeOf26 ?_)
        intro w213 hO16 hx215
        have := World.grownBy.size hx215
        replace olT := (olT.ext (Ext.trans hx208 hx211)).keptO hx215 (by omega)
        replace ozT := (ozT.ext (Ext.trans hx208 hx211)).keptO hx215 (by omega)
        replace hO8 := (hO8.ext (Ext.trans hx208 hx211)).keptO hx215 (by omega)
        replace omT := (omT.ext (Ext.trans hx208 hx211)).keptO hx215 (by omega)
        replace onT := (onT.ext (Ext.trans hx208 hx211)).keptO hx215 (by omega)
        replace hO10 := (hO10.ext (Ext.trans hx208 hx211)).keptO hx215 (by omega)
        replace oaT := (oaT.ext (Ext.trans hx208 hx211)).keptO hx215 (by omega)
        replace hO12 := (hO12.ext (Ext.trans hx208 hx211)).keptO hx215 (by omega)
        replace o0T := (o0T.ext (Ext.trans hx208 hx211)).keptO hx215 (by omega)
        replace obT := (obT.ext (Ext.trans hx208 hx211)).keptO hx215 (by omega)
        replace hO14 := (hO14.ext (Ext.trans hx208 hx211)).keptO hx215 (by omega)
        replace ofT := (ofT.ext hx211).keptO hx215 (by omega)
        replace hO16 : Blk _ _ _ (twoM.c vf) := hO16
        refine WL.nil ?_
        refine thn_n ?_
        refine WF.seq ?_
        refine WF.region ?_
        refine WL.va rfl rfl rfl (X.fieldAddrO (off := 1) rfl Try.underlying26 rfl rfl Try.sizeOf3) ?_
        refine WL.op rfl (OW.storeO hO16 (Nat.le_of_ble_eq_true rfl) rfl rfl rfl Try.sizeOf3 ?_)
        intro w217 hO16 hx219
        have := World.grownBy.size hx219
        replace olT := olT.keptO hx219 (by omega)
        replace ozT := ozT.keptO hx219 (by omega)
        replace hO8 := hO8.keptO hx219 (by omega)
        replace omT := omT.keptO hx219 (by omega)
        replace onT := onT.keptO hx219 (by omega)
        replace hO10 := hO10.keptO hx219 (by omega)
        replace oaT := oaT.keptO hx219 (by omega)
        replace hO12 := hO12.keptO hx219 (by omega)
        replace o0T := o0T.keptO hx219 (by omega)
        replace obT := obT.keptO hx219 (by omega)
        replace hO14 := hO14.keptO hx219 (by omega)
        replace ofT := ofT.keptO hx219 (by omega)
        replace hO16 : Blk _ _ _ ((⟨twoM.R, 1099511627776, Mv.zero⟩ : Mp).c vf) := hO16
        refine WL.nil ?_
        refine thn_n ?_
        refine WF.named (fun F221 hF222 => ?_)
        refine WF.cut (fun f' w' => f' 18 = i64 17 ∧ Agree [1, 2, 3, 8, 10, 11, 12, 13, 14, 15, 16, 42, 43, 44, 45, 46, 47, 48, 49, 50, 51, 52, 53, 54, 55, 56, 57, 58, 59, 60, 115, 116, 117, 118, 119, 120, 121, 122, 123, 124, 125, 126, 127, 128, 129, 130, 131] f' F221 ∧ Ext w217 w') ?_ ?_
        · refine WF.drawn (.q 0 (.q 1 (.q 2 (.q 3 (.b 4 8 (.q 5 (.q 6 (.q 7 (.l 8 (.l 9 (.q 10 .nil)))))) (.l 4 (.q 5 (.q 6 (.q 7 (.l 9 (.q 10 .nil))))))))))) (fun w' => Ext w217 w') 11 (by kernel_rfl) (by kernel_rfl) (Ext.drew _) ?_
          have := World.grownBy.size (Ext.drew w217)
          refine WO.q rfl rfl rfl rfl (fun w' hE223 => (X.loadOA hO16 hE223 (congrFun hF222 16) rfl Try.isAgg26 Try.sizeOf26)) ?_
          refine WO.q rfl rfl rfl rfl (fun w' hE223 => (X.move ((congrFun hF222 1).trans ((hACr12.eq 1).trans ((congrFun hF129 1).trans ((hAL0.eq 1).trans (congrFun hF10 1))))))) ?_
          refine WO.q rfl rfl rfl rfl (fun w' hE223 => (X.idx (k := 1) (olT.rd) rfl rfl (by decide) Try.underlying27 Try.sizeOf24)) ?_
          refine WO.q rfl rfl rfl rfl (fun w' hE223 => (X.loadEl (olT.rd) hE223 rfl (by decide) (Mvs.el (l := LM) (k := 1) (by decide)) Try.isAgg24 Try.sizeOf24)) ?_
          refine WO.b2 ?_ ?_
          · have hzph := ((show Ext w w217.drew from (Ext.trans (Ext.trans (Ext.trans (Ext.trans (Ext.trans (Ext.trans (Ext.trans (Ext.trans (Ext.trans (Ext.trans (Ext.trans (Ext.trans (Ext.trans hx4 hx7) hwL0) hwCr12) hx172) (Ext.store hx175 hx179 (by omega))) hx183) (Ext.store hx186 hx190 (by omega))) hx194) hx197) (Ext.store hx200 hx204 (by omega))) hx208) (Ext.store (Ext.store hx211 hx215 (by omega)) hx219 (by omega))) (Ext.drew _)))).size
            refine LO.go rfl rfl (OW.enter rfl (by decide) (X.call Try.call15 (evl_cons rfl (evl_cons rfl evl_nil))) (planK (m := (⟨twoM.R, 1099511627776, Mv.zero⟩ : Mp)) (m' := Mp.zero) (c := 17) (x := LM[1]'(by decide)) (by decide +kernel) (by decide) (by decide) ((ofT.ext (Ext.drew _))).rd) ?_)
            rintro v225 w224 ⟨⟨vh, rfl, oh⟩, hx226⟩
            have := World.grownBy.size hx226
            refine ⟨(Ext.trans (Ext.drew _) hx226), ?_⟩
            have ohT := OwnT.of oh
            refine WO.q rfl rfl rfl rfl (fun w' hE223 => (X.move rfl)) ?_
            refine WO.q rfl rfl rfl rfl (fun w' hE223 => (X.extract rfl rfl)) ?_
            refine WO.q rfl rfl rfl rfl (fun w' hE223 => (X.extract rfl rfl)) ?_
            refine WO.l ?_
            refine LO.go rfl rfl (OW.allocO (cs := [.slice none 0 0, i64 0, i64 0, i64 0, i64 0, i64 0, i64 0]) Try.zeroValue26 rfl ?_ (by decide))
            intro g17 w227 heg17 hlg17 hO17 hx229
            have := World.grownBy.size hx229
            refine ⟨(Ext.trans (Ext.trans (Ext.drew _) hx226) hx229), ?_⟩
            refine WO.l ?_
            refine LO.go rfl rfl (OW.storeOA hO17 rfl rfl rfl (Mp.c_one (Row.of_own oh) _) Try.sizeOf26 ?_)
            intro w231 hO17 hx233
            have := World.grownBy.size hx233
            replace olT := (olT.ext (Ext.trans (Ext.trans (Ext.drew _) hx226) hx229)).keptO hx233 (by omega)
            replace ozT := (ozT.ext (Ext.trans (Ext.trans (Ext.drew _) hx226) hx229)).keptO hx233 (by omega)
            replace hO8 := (hO8.ext (Ext.trans (Ext.trans (Ext.drew _) hx226) hx229)).keptO hx233 (by omega)
            replace omT := (omT.ext (Ext.trans (Ext.trans (Ext.drew _) hx226) hx229)).keptO hx233 (by omega)
            replace onT := (onT.ext (Ext.trans (Ext.trans (Ext.drew _) hx226) hx229)).keptO hx233 (by omega)
            replace hO10 := (hO10.ext (Ext.trans (Ext.trans (Ext.drew _) hx226) hx229)).keptO hx233 (by omega)
            replace oaT := (oaT.ext (Ext.trans (Ext.trans (Ext.drew _) hx226) hx229)).keptO hx233 (by omega)
            replace hO12 := (hO12.ext (Ext.trans (Ext.trans (Ext.drew _) hx226) hx229)).keptO hx233 (by omega)
            replace o0T := (o0T.ext (Ext.trans (Ext.trans (Ext.drew _) hx226) hx229)).keptO hx233 (by omega)
            replace obT := (obT.ext (Ext.trans (Ext.trans (Ext.drew _) hx226) hx229)).keptO hx233 (by omega)
            replace hO14 := (hO14.ext (Ext.trans (Ext.trans (Ext.drew _) hx226) hx229)).keptO hx233 (by omega)
            replace ofT := (ofT.ext (Ext.trans (Ext.trans (Ext.drew _) hx226) hx229)).keptO hx233 (by omega)
            replace hO16 := (hO16.ext (Ext.trans (Ext.trans (Ext.drew _) hx226) hx229)).keptO hx233 (by omega)
            replace ohT := (ohT.ext hx229).keptO hx233 (by omega)
            refine ⟨(Ext.trans (Ext.trans (Ext.drew _) hx226) (Ext.store hx229 hx233 (by omega))), ?_⟩
            refine WO.q rfl rfl rfl rfl (fun w' hE223 => (X.assignI rfl)) ?_
            refine WO.nil ?_
            refine WL.nil ?_
            refine thn_n ?_
            exact ⟨rfl, (by repeat (first | exact (Agree.refl _ F221) | refine Agree.put ?_ rfl | refine Agree.sub hACr12 rfl ?_ | refine Agree.sub hAL0 rfl ?_ | refine Agree.named hF222 ?_ | refine Agree.named hF129 ?_ | refine Agree.named hF10 ?_)), (Ext.trans (Ext.trans (Ext.drew _) hx226) (Ext.store hx229 hx233 (by omega)))⟩
          · refine LO.go rfl rfl (OW.allocO (cs := [.slice none 0 0, i64 0, i64 0, i64 0, i64 0, i64 0, i64 0]) Try.zeroValue26 rfl ?_ (by decide))
            intro g17 w235 heg17 hlg17 hO17 hx237
            have := World.grownBy.size hx237
            refine ⟨(Ext.trans (Ext.drew _) hx237), ?_⟩
            refine WO.l ?_
            have hzph := ((show Ext w w235 from (Ext.trans (Ext.trans (Ext.trans (Ext.trans (Ext.trans (Ext.trans (Ext.trans (Ext.trans (Ext.trans (Ext.trans (Ext.trans (Ext.trans (Ext.trans (Ext.trans hx4 hx7) hwL0) hwCr12) hx172) (Ext.store hx175 hx179 (by omega))) hx183) (Ext.store hx186 hx190 (by omega))) hx194) hx197) (Ext.store hx200 hx204 (by omega))) hx208) (Ext.store (Ext.store hx211 hx215 (by omega)) hx219 (by omega))) (Ext.drew _)) hx237))).size
            refine LO.go rfl rfl (OW.enter rfl (by decide) (X.call Try.call15 (evl_cons rfl (evl_cons rfl evl_nil))) (planK (m := (⟨twoM.R, 1099511627776, Mv.zero⟩ : Mp)) (m' := Mp.zero) (c := 17) (x := LM[1]'(by decide)) (by decide +kernel) (by decide) (by decide) ((ofT.ext (Ext.trans (Ext.drew _) hx237))).rd) ?_)
            rintro v240 w239 ⟨⟨vh, rfl, oh⟩, hx241⟩
            have := World.grownBy.size hx241
            refine ⟨(Ext.trans (Ext.trans (Ext.drew _) hx237) hx241), ?_⟩
            have ohT := OwnT.of oh
            refine WO.q rfl rfl rfl rfl (fun w' hE223 => (X.move rfl)) ?_
            refine WO.q rfl rfl rfl rfl (fun w' hE223 => (X.extract rfl rfl)) ?_
            refine WO.q rfl rfl rfl rfl (fun w' hE223 => (X.extract rfl rfl)) ?_
            refine WO.l ?_
            refine LO.go rfl rfl (OW.storeOA (hO17.ext hx241) rfl rfl rfl (Mp.c_one (Row.of_own oh) _) Try.sizeOf26 ?_)
            intro w242 hO17 hx244
            have := World.grownBy.size hx244
            replace olT := (olT.ext (Ext.trans (Ext.trans (Ext.drew _) hx237) hx241)).keptO hx244 (by omega)
            replace ozT := (ozT.ext (Ext.trans (Ext.trans (Ext.drew _) hx237) hx241)).keptO hx244 (by omega)
            replace hO8 := (hO8.ext (Ext.trans (Ext.trans (Ext.drew _) hx237) hx241)).keptO hx244 (by omega)
            replace omT := (omT.ext (Ext.trans (Ext.trans (Ext.drew _) hx237) hx241)).keptO hx244 (by omega)
            replace onT := (onT.ext (Ext.trans (Ext.trans (Ext.drew _) hx237) hx241)).keptO hx244 (by omega)
            replace hO10 := (hO10.ext (Ext.trans (Ext.trans (Ext.drew _) hx237) hx241)).keptO hx244 (by omega)
            replace oaT := (oaT.ext (Ext.trans (Ext.trans (Ext.drew _) hx237) hx241)).keptO hx244 (by omega)
            replace hO12 := (hO12.ext (Ext.trans (Ext.trans (Ext.drew _) hx237) hx241)).keptO hx244 (by omega)
            replace o0T := (o0T.ext (Ext.trans (Ext.trans (Ext.drew _) hx237) hx241)).keptO hx244 (by omega)
            replace obT := (obT.ext (Ext.trans (Ext.trans (Ext.drew _) hx237) hx241)).keptO hx244 (by omega)
            replace hO14 := (hO14.ext (Ext.trans (Ext.trans (Ext.drew _) hx237) hx241)).keptO hx244 (by omega)
            replace ofT := (ofT.ext (Ext.trans (Ext.trans (Ext.drew _) hx237) hx241)).keptO hx244 (by omega)
            replace hO16 := (hO16.ext (Ext.trans (Ext.trans (Ext.drew _) hx237) hx241)).keptO hx244 (by omega)
            replace ohT := ohT.keptO hx244 (by omega)
            refine ⟨(Ext.trans (Ext.drew _) (Ext.store (Ext.trans hx237 hx241) hx244 (by omega))), ?_⟩
            refine WO.q rfl rfl rfl rfl (fun w' hE223 => (X.assignI rfl)) ?_
            refine WO.nil ?_
            refine WL.nil ?_
            refine thn_n ?_
            exact ⟨rfl, (by repeat (first | exact (Agree.refl _ F221) | refine Agree.put ?_ rfl | refine Agree.sub hACr12 rfl ?_ | refine Agree.sub hAL0 rfl ?_ | refine Agree.named hF222 ?_ | refine Agree.named hF129 ?_ | refine Agree.named hF10 ?_)), (Ext.trans (Ext.drew _) (Ext.store (Ext.trans hx237 hx241) hx244 (by omega)))⟩
        · rintro fCr18 wCr18 ⟨e18_Cr18, hACr18, hwCr18⟩
          have := World.grownBy.size hwCr18
          refine WF.seq ?_
          refine WF.region ?_
          refine WL.c rfl rfl rfl (X.call Try.call50 evl_nil) (two_ok _) ?_
          rintro v247 w246 ⟨⟨v0, rfl, o0⟩, hx248⟩
          have := World.grownBy.size hx248
          have o0T := OwnT.of o0
          refine WL.c rfl rfl rfl (X.call Try.call23 (evl_cons rfl (evl_cons rfl evl_nil))) (findK (m := twoM) (n := 64) (r := Rg.zero) (b := false) (by decide +kernel) (by decide +kernel) (o0T).rd) ?_
          rintro v250 w249 ⟨rfl, hx251⟩
          have := World.grownBy.size hx251
          refine WL.va rfl rfl rfl (X.move rfl) ?_
          refine WL.va rfl rfl rfl (X.extract rfl rfl) ?_
          refine WL.va rfl rfl rfl (X.extract rfl rfl) ?_
          refine WL.op rfl (OW.allocO (cs := [i64 0, i64 0, i64 0, i64 0]) Try.zeroValue41 rfl ?_ (by decide))
          intro g19 w253 heg19 hlg19 hO19 hx255
          have := World.grownBy.size hx255
          refine WL.op rfl (OW.storeOA hO19 rfl rfl rfl (Rg.c_one Rg.zero) Try.sizeOf41 ?_)
          intro w257 hO19 hx259
          have := World.grownBy.size hx259
          replace olT := (olT.ext (Ext.trans (Ext.trans (Ext.trans hwCr18 hx248) hx251) hx255)).keptO hx259 (by omega)
          replace ozT := (ozT.ext (Ext.trans (Ext.trans (Ext.trans hwCr18 hx248) hx251) hx255)).keptO hx259 (by omega)
          replace hO8 := (hO8.ext (Ext.trans (Ext.trans (Ext.trans hwCr18 hx248) hx251) hx255)).keptO hx259 (by omega)
          replace omT := (omT.ext (Ext.trans (Ext.trans (Ext.trans hwCr18 hx248) hx251) hx255)).keptO hx259 (by omega)
          replace onT := (onT.ext (Ext.trans (Ext.trans (Ext.trans hwCr18 hx248) hx251) hx255)).keptO hx259 (by omega)
          replace hO10 := (hO10.ext (Ext.trans (Ext.trans (Ext.trans hwCr18 hx248) hx251) hx255)).keptO hx259 (by omega)
          replace oaT := (oaT.ext (Ext.trans (Ext.trans (Ext.trans hwCr18 hx248) hx251) hx255)).keptO hx259 (by omega)
          replace hO12 := (hO12.ext (Ext.trans (Ext.trans (Ext.trans hwCr18 hx248) hx251) hx255)).keptO hx259 (by omega)
          replace o0T := (o0T.ext (Ext.trans hx251 hx255)).keptO hx259 (by omega)
          replace obT := (obT.ext (Ext.trans (Ext.trans (Ext.trans hwCr18 hx248) hx251) hx255)).keptO hx259 (by omega)
          replace hO14 := (hO14.ext (Ext.trans (Ext.trans (Ext.trans hwCr18 hx248) hx251) hx255)).keptO hx259 (by omega)
          replace ofT := (ofT.ext (Ext.trans (Ext.trans (Ext.trans hwCr18 hx248) hx251) hx255)).keptO hx259 (by omega)
          replace hO16 := (hO16.ext (Ext.trans (Ext.trans (Ext.trans hwCr18 hx248) hx251) hx255)).keptO hx259 (by omega)
          refine WL.va rfl rfl rfl (X.assignB rfl) ?_
          refine WL.nil ?_
          refine thn_n ?_
          refine WF.seq ?_
          refine WF.region ?_
          refine WL.c rfl rfl rfl (X.call Try.call50 evl_nil) (two_ok _) ?_
          rintro v262 w261 ⟨⟨v0, rfl, o0⟩, hx263⟩
          have := World.grownBy.size hx263
          have o0T := OwnT.of o0
          refine WL.c rfl rfl rfl (X.call Try.call23 (evl_cons rfl (evl_cons rfl evl_nil))) (findK (m := twoM) (n := 31) (r := ⟨0, 32, 1, 1⟩) (b := true) (by decide +kernel) (by decide +kernel) (o0T).rd) ?_
          rintro v265 w264 ⟨rfl, hx266⟩
          have := World.grownBy.size hx266
          refine WL.va rfl rfl rfl (X.move rfl) ?_
          refine WL.va rfl rfl rfl (X.extract rfl rfl) ?_
          refine WL.va rfl rfl rfl (X.extract rfl rfl) ?_
          refine WL.op rfl (OW.allocO (cs := [i64 0, i64 0, i64 0, i64 0]) Try.zeroValue41 rfl ?_ (by decide))
          intro g21 w268 heg21 hlg21 hO21 hx270
          have := World.grownBy.size hx270
          refine WL.op rfl (OW.storeOA hO21 rfl rfl rfl (Rg.c_one ⟨0, 32, 1, 1⟩) Try.sizeOf41 ?_)
          intro w272 hO21 hx274
          have := World.grownBy.size hx274
          replace olT := (olT.ext (Ext.trans (Ext.trans hx263 hx266) hx270)).keptO hx274 (by omega)
          replace ozT := (ozT.ext (Ext.trans (Ext.trans hx263 hx266) hx270)).keptO hx274 (by omega)
          replace hO8 := (hO8.ext (Ext.trans (Ext.trans hx263 hx266) hx270)).keptO hx274 (by omega)
          replace omT := (omT.ext (Ext.trans (Ext.trans hx263 hx266) hx270)).keptO hx274 (by omega)
          replace onT := (onT.ext (Ext.trans (Ext.trans hx263 hx266) hx270)).keptO hx274 (by omega)
          replace hO10 := (hO10.ext (Ext.trans (Ext.trans hx263 hx266) hx270)).keptO hx274 (by omega)
          replace oaT := (oaT.ext (Ext.trans (Ext.trans hx263 hx266) hx270)).keptO hx274 (by omega)
          replace hO12 := (hO12.ext (Ext.trans (Ext.trans hx263 hx266) hx270)).keptO hx274 (by omega)
          replace o0T := (o0T.ext (Ext.trans hx266 hx270)).keptO hx274 (by omega)
          replace obT := (obT.ext (Ext.trans (Ext.trans hx263 hx266) hx270)).keptO hx274 (by omega)
          replace hO14 := (hO14.ext (Ext.trans (Ext.trans hx263 hx266) hx270)).keptO hx274 (by omega)
          replace ofT := (ofT.ext (Ext.trans (Ext.trans hx263 hx266) hx270)).keptO hx274 (by omega)
          replace hO16 := (hO16.ext (Ext.trans (Ext.trans hx263 hx266) hx270)).keptO hx274 (by omega)
          replace hO19 := (hO19.ext (Ext.trans (Ext.trans hx263 hx266) hx270)).keptO hx274 (by omega)
          replace hO21 : Blk _ _ _ (Rg.c ⟨0, 32, 1, 1⟩) := hO21
          refine WL.va rfl rfl rfl (X.assignB rfl) ?_
          refine WL.nil ?_
          refine thn_n ?_
          refine WF.seq ?_
          refine WF.seq ?_
          refine WF.region ?_
          refine WL.va rfl rfl rfl (X.moveI ((hACr18.eq 11).trans (congrFun hF222 11))) ?_
          refine WL.va rfl rfl rfl (X.neq rfl rfl) ?_
          refine WL.va rfl rfl rfl (X.moveB rfl) ?_
          refine WL.vg rfl rfl rfl rfl (X.fieldAddrO (off := 0) ((hACr18.eq 10).trans (congrFun hF222 10)) Try.underlying26 rfl rfl Try.sizeOf22) ?_
          refine WL.vg rfl rfl rfl rfl (X.loadO hO10 (Ext.refl _) rfl rfl Try.isAgg22) ?_
          refine WL.vg rfl rfl rfl rfl (X.len (onT.rd) rfl Try.underlying22) ?_
          refine WL.vg rfl rfl rfl rfl (X.neq rfl rfl) ?_
          refine WL.va rfl rfl rfl (X.pickF rfl rfl rfl) ?_
          refine WL.va rfl rfl rfl (X.moveB rfl) ?_
          refine WL.vg rfl rfl rfl rfl (X.fieldAddrO (off := 0) ((hACr18.eq 10).trans (congrFun hF222 10)) Try.underlying26 rfl rfl Try.sizeOf22) ?_
          refine WL.vg rfl rfl rfl rfl (X.loadO hO10 (Ext.refl _) rfl rfl Try.isAgg22) ?_
          refine WL.vg rfl rfl rfl rfl (X.idx (k := 0) (onT.rd) rfl rfl (by decide) Try.underlying22 Try.sizeOf41) ?_
          refine WL.vg rfl rfl rfl rfl (X.loadEl (onT.rd) (Ext.refl _) rfl (by decide) (Rgs.el (l := [(⟨0, 64, 1, 2⟩ : Rg)]) (k := 0) (by decide)) Try.isAgg41 Try.sizeOf41) ?_
          refine WL.vg rfl rfl rfl rfl (X.buildL (P := Try.prog) (t := 41) (cs := (Rg.c ⟨0, 64, 1, 2⟩)) (evp_cons rfl (evp_cons rfl (evp_cons rfl (evp_cons rfl evp_nil)))) Try.type41 Try.underlying41 rfl rfl ⟨rfl, rfl, rfl, rfl, trivial⟩ rfl) ?_
          refine WL.vg rfl rfl rfl rfl (X.neqA (na := (Rg.ints ⟨0, 64, 1, 2⟩)) (nb := (Rg.ints ⟨0, 64, 1, 2⟩)) flatR fieldsR offsR rfl rfl rfl rfl (Rg.eqB _ _)) ?_
          refine WL.va rfl rfl rfl (X.pickF rfl rfl rfl) ?_
          refine WL.va rfl rfl rfl (X.moveB rfl) ?_
          refine WL.vg rfl rfl rfl rfl (X.moveI ((hACr18.eq 13).trans (congrFun hF222 13))) ?_
          refine WL.vg rfl rfl rfl rfl (X.neq rfl rfl) ?_
          refine WL.va rfl rfl rfl (X.pickF rfl rfl rfl) ?_
          refine WL.va rfl rfl rfl (X.moveB rfl) ?_
          refine WL.vg rfl rfl rfl rfl (X.moveI ((hACr18.eq 15).trans (congrFun hF222 15))) ?_
          refine WL.vg rfl rfl rfl rfl (X.neq rfl rfl) ?_
          refine WL.va rfl rfl rfl (X.pickF rfl rfl rfl) ?_
          refine WL.va rfl rfl rfl (X.moveB rfl) ?_
          refine WL.vg rfl rfl rfl rfl (X.moveI e18_Cr18) ?_
          refine WL.vg rfl rfl rfl rfl (X.neq rfl rfl) ?_
          refine WL.va rfl rfl rfl (X.pickF rfl rfl rfl) ?_
          refine WL.va rfl rfl rfl (X.moveB rfl) ?_
          refine WL.vg rfl rfl rfl rfl (X.moveB rfl) ?_
          refine WL.va rfl rfl rfl (X.pickF rfl rfl rfl) ?_
          refine WL.va rfl rfl rfl (X.moveB rfl) ?_
          refine WL.vg rfl rfl rfl rfl (X.moveB rfl) ?_
          refine WL.vg rfl rfl rfl rfl (X.not rfl) ?_
          refine WL.va rfl rfl rfl (X.pickF rfl rfl rfl) ?_
          refine WL.va rfl rfl rfl (X.moveB rfl) ?_
          refine WL.vg rfl rfl rfl rfl (X.fieldAddrO (off := 2) rfl Try.underlying41 rfl rfl Try.sizeOf3) ?_
          refine WL.vg rfl rfl rfl rfl (X.loadO hO21 (Ext.refl _) rfl rfl Try.isAgg3) ?_
          refine WL.vg rfl rfl rfl rfl (X.neq rfl rfl) ?_
          refine WL.va rfl rfl rfl (X.pickF rfl rfl rfl) ?_
          refine WL.nil ?_
          refine thn_n ?_
          refine WF.cond_f rfl ?_
          refine WF.skip ?_
          refine thn_n ?_
          refine WF.seq ?_
          refine WF.region ?_
          have hztb := ((show Ext w w272 from (Ext.trans (Ext.trans (Ext.trans (Ext.trans (Ext.trans (Ext.trans (Ext.trans (Ext.trans (Ext.trans (Ext.trans (Ext.trans (Ext.trans (Ext.trans (Ext.trans (Ext.trans (Ext.trans (Ext.trans (Ext.trans (Ext.trans hx4 hx7) hwL0) hwCr12) hx172) (Ext.store hx175 hx179 (by omega))) hx183) (Ext.store hx186 hx190 (by omega))) hx194) hx197) (Ext.store hx200 hx204 (by omega))) hx208) (Ext.store (Ext.store hx211 hx215 (by omega)) hx219 (by omega))) hwCr18) hx248) hx251) (Ext.store hx255 hx259 (by omega))) hx263) hx266) (Ext.store hx270 hx274 (by omega))))).size
          refine WL.c rfl rfl rfl (X.call Try.call50 evl_nil) (two_ok _) ?_
          rintro v285 w284 ⟨⟨vb, rfl, ob⟩, hx286⟩
          have := World.grownBy.size hx286
          have obT := OwnT.of ob
          refine WL.op rfl (OW.allocO (cs := [.slice none 0 0, i64 0, i64 0, i64 0, i64 0, i64 0, i64 0]) Try.zeroValue26 rfl ?_ (by decide))
          intro g23 w287 heg23 hlg23 hO23 hx289
          have := World.grownBy.size hx289
          refine WL.op rfl (OW.storeOA hO23 rfl rfl rfl (Mp.c_one ((obT.ext hx289)).rd _) Try.sizeOf26 ?_)
          intro w291 hO23 hx293
          have := World.grownBy.size hx293
          replace hO8 := (hO8.ext (Ext.trans hx286 hx289)).keptO hx293 (by omega)
          replace omT := (omT.ext (Ext.trans hx286 hx289)).keptO hx293 (by omega)
          replace obT := (obT.ext hx289).keptO hx293 (by omega)
          replace hO23 : Blk _ _ _ (twoM.c vb) := hO23
          refine WL.nil ?_
          refine thn_n ?_
          refine WF.seq ?_
          refine WF.region ?_
          refine WL.va rfl rfl rfl (X.fieldAddrO (off := 2) rfl Try.underlying26 rfl rfl Try.sizeOf24) ?_
          refine WL.va rfl rfl rfl (X.fieldAddrP (off := 1) rfl Try.underlying24 rfl rfl Try.sizeOf3) ?_
          refine WL.op rfl (OW.storeO hO23 (Nat.le_of_ble_eq_true rfl) rfl rfl rfl Try.sizeOf3 ?_)
          intro w295 hO23 hx297
          have := World.grownBy.size hx297
          replace hO8 := hO8.keptO hx297 (by omega)
          replace omT := omT.keptO hx297 (by omega)
          replace obT := obT.keptO hx297 (by omega)
          replace hO23 : Blk _ _ _ ((⟨twoM.R, 1, ⟨0, 1, 0, 0, 0⟩⟩ : Mp).c vb) := hO23
          refine WL.nil ?_
          refine thn_n ?_
          refine WF.seq ?_
          refine WF.region ?_
          have hztg := ((show Ext w w295 from (Ext.trans (Ext.trans (Ext.trans (Ext.trans (Ext.trans (Ext.trans (Ext.trans (Ext.trans (Ext.trans (Ext.trans (Ext.trans (Ext.trans (Ext.trans (Ext.trans (Ext.trans (Ext.trans (Ext.trans (Ext.trans (Ext.trans (Ext.trans (Ext.trans hx4 hx7) hwL0) hwCr12) hx172) (Ext.store hx175 hx179 (by omega))) hx183) (Ext.store hx186 hx190 (by omega))) hx194) hx197) (Ext.store hx200 hx204 (by omega))) hx208) (Ext.store (Ext.store hx211 hx215 (by omega)) hx219 (by omega))) hwCr18) hx248) hx251) (Ext.store hx255 hx259 (by omega))) hx263) hx266) (Ext.store hx270 hx274 (by omega))) hx286) (Ext.store (Ext.store hx289 hx293 (by omega)) hx297 (by omega))))).size
          refine WL.c rfl rfl rfl (X.call Try.call50 evl_nil) (two_ok _) ?_
          rintro v300 w299 ⟨⟨vg, rfl, og⟩, hx301⟩
          have := World.grownBy.size hx301
          have ogT := OwnT.of og
          refine WL.op rfl (OW.allocO (cs := [.slice none 0 0, i64 0, i64 0, i64 0, i64 0, i64 0, i64 0]) Try.zeroValue26 rfl ?_ (by decide))
          intro g24 w302 heg24 hlg24 hO24 hx304
          have := World.grownBy.size hx304
          refine WL.op rfl (OW.storeOA hO24 rfl rfl rfl (Mp.c_one ((ogT.ext hx304)).rd _) Try.sizeOf26 ?_)
          intro w306 hO24 hx308
          have := World.grownBy.size hx308
          replace hO8 := (hO8.ext (Ext.trans hx301 hx304)).keptO hx308 (by omega)
          replace omT := (omT.ext (Ext.trans hx301 hx304)).keptO hx308 (by omega)
          replace obT := (obT.ext (Ext.trans hx301 hx304)).keptO hx308 (by omega)
          replace hO23 := (hO23.ext (Ext.trans hx301 hx304)).keptO hx308 (by omega)
          replace ogT := (ogT.ext hx304).keptO hx308 (by omega)
          replace hO24 : Blk _ _ _ (twoM.c vg) := hO24
          refine WL.nil ?_
          refine thn_n ?_
          refine WF.seq ?_
          refine WF.region ?_
          refine WL.va rfl rfl rfl (X.fieldAddrO (off := 0) rfl Try.underlying26 rfl rfl Try.sizeOf22) ?_
          refine WL.va rfl rfl rfl (X.loadO hO24 (Ext.refl _) rfl rfl Try.isAgg22) ?_
          refine WL.va rfl rfl rfl (X.idx (k := 1) (ogT.rd) rfl rfl (by decide) Try.underlying22 Try.sizeOf41) ?_
          refine WL.va rfl rfl rfl (X.fieldAddrA rfl Try.underlying41 rfl rfl Try.sizeOf3) ?_
          have ogX := ogT
          refine WL.op rfl (OW.storeIF (i := 1) (off := 0) ogX.own (by decide) (by decide) rfl rfl rfl Try.sizeOf3 ?_)
          intro w310 ho313 hx312
          have := World.grownBy.size hx312
          replace hO8 := hO8.keptR hx312 (fun b hb => by have h1 := (ogX.own.lt b hb).1; have h2 := ogX.top b hb; omega)
          replace omT := omT.kept hx312 (fun b hb => by have h1 := (ogX.own.lt b hb).1; have h2 := ogX.top b hb; omega)
          replace obT := obT.kept hx312 (fun b hb => by have h1 := (ogX.own.lt b hb).1; have h2 := ogX.top b hb; omega)
          replace hO23 := hO23.keptR hx312 (fun b hb => by have h1 := (ogX.own.lt b hb).1; have h2 := ogX.top b hb; omega)
          replace hO24 := hO24.keptR hx312 (fun b hb => by have h1 := (ogX.own.lt b hb).1; have h2 := ogX.top b hb; omega)
          replace ogT : OwnT w310 w.heap.size _ 41 4 vg (Mp.R (⟨[(⟨0, 32, 1, 1⟩ : Rg), ⟨33, 64, 2, 1⟩], 1, Mv.zero⟩ : Mp)).length ((Mp.R (⟨[(⟨0, 32, 1, 1⟩ : Rg), ⟨33, 64, 2, 1⟩], 1, Mv.zero⟩ : Mp)).flatMap Rg.c) := ⟨own_mono ho313 (by omega), ogX.top⟩
          refine WL.nil ?_
          refine thn_n ?_
          refine WF.seq ?_
          refine WF.region ?_
          have hzts := ((show Ext w w310 from (grown_trans (Ext.trans (Ext.trans (Ext.trans (Ext.trans (Ext.trans (Ext.trans (Ext.trans (Ext.trans (Ext.trans (Ext.trans (Ext.trans (Ext.trans (Ext.trans (Ext.trans (Ext.trans (Ext.trans (Ext.trans (Ext.trans (Ext.trans (Ext.trans (Ext.trans (Ext.trans (Ext.trans hx4 hx7) hwL0) hwCr12) hx172) (Ext.store hx175 hx179 (by omega))) hx183) (Ext.store hx186 hx190 (by omega))) hx194) hx197) (Ext.store hx200 hx204 (by omega))) hx208) (Ext.store (Ext.store hx211 hx215 (by omega)) hx219 (by omega))) hwCr18) hx248) hx251) (Ext.store hx255 hx259 (by omega))) hx263) hx266) (Ext.store hx270 hx274 (by omega))) hx286) (Ext.store (Ext.store hx289 hx293 (by omega)) hx297 (by omega))) hx301) (Ext.store hx304 hx308 (by omega))) hx312 (fun i hi => by have := (ogX.own.lt i hi).1; omega)))).size
          refine WL.c rfl rfl rfl (X.call Try.call50 evl_nil) (two_ok _) ?_
          rintro v315 w314 ⟨⟨vs, rfl, os⟩, hx316⟩
          have := World.grownBy.size hx316
          have osT := OwnT.of os
          refine WL.op rfl (OW.allocO (cs := [.slice none 0 0, i64 0, i64 0, i64 0, i64 0, i64 0, i64 0]) Try.zeroValue26 rfl ?_ (by decide))
          intro g25 w317 heg25 hlg25 hO25 hx319
          have := World.grownBy.size hx319
          refine WL.op rfl (OW.storeOA hO25 rfl rfl rfl (Mp.c_one ((osT.ext hx319)).rd _) Try.sizeOf26 ?_)
          intro w321 hO25 hx323
          have := World.grownBy.size hx323
          replace hO8 := (hO8.ext (Ext.trans hx316 hx319)).keptO hx323 (by omega)
          replace omT := (omT.ext (Ext.trans hx316 hx319)).keptO hx323 (by omega)
          replace obT := (obT.ext (Ext.trans hx316 hx319)).keptO hx323 (by omega)
          replace hO23 := (hO23.ext (Ext.trans hx316 hx319)).keptO hx323 (by omega)
          replace ogT := (ogT.ext (Ext.trans hx316 hx319)).keptO hx323 (by omega)
          replace hO24 := (hO24.ext (Ext.trans hx316 hx319)).keptO hx323 (by omega)
          replace osT := (osT.ext hx319).keptO hx323 (by omega)
          replace hO25 : Blk _ _ _ (twoM.c vs) := hO25
          refine WL.nil ?_
          refine thn_n ?_
          refine WF.seq ?_
          refine WF.region ?_
          refine WL.va rfl rfl rfl (X.fieldAddrO (off := 0) rfl Try.underlying26 rfl rfl Try.sizeOf22) ?_
          refine WL.va rfl rfl rfl (X.loadO hO25 (Ext.refl _) rfl rfl Try.isAgg22) ?_
          refine WL.va rfl rfl rfl (X.idx (k := 1) (osT.rd) rfl rfl (by decide) Try.underlying22 Try.sizeOf41) ?_
          refine WL.va rfl rfl rfl (X.fieldAddrA rfl Try.underlying41 rfl rfl Try.sizeOf3) ?_
          have osX := osT
          refine WL.op rfl (OW.storeIF (i := 1) (off := 2) osX.own (by decide) (by decide) rfl rfl rfl Try.sizeOf3 ?_)
          intro w325 ho328 hx327
          have := World.grownBy.size hx327
          replace hO8 := hO8.keptR hx327 (fun b hb => by have h1 := (osX.own.lt b hb).1; have h2 := osX.top b hb; omega)
          replace omT := omT.kept hx327 (fun b hb => by have h1 := (osX.own.lt b hb).1; have h2 := osX.top b hb; omega)
          replace obT := obT.kept hx327 (fun b hb => by have h1 := (osX.own.lt b hb).1; have h2 := osX.top b hb; omega)
          replace hO23 := hO23.keptR hx327 (fun b hb => by have h1 := (osX.own.lt b hb).1; have h2 := osX.top b hb; omega)
          replace ogT := ogT.kept hx327 (fun b hb => by have h1 := (osX.own.lt b hb).1; have h2 := osX.top b hb; omega)
          replace hO24 := hO24.keptR hx327 (fun b hb => by have h1 := (osX.own.lt b hb).1; have h2 := osX.top b hb; omega)
          replace hO25 := hO25.keptR hx327 (fun b hb => by have h1 := (osX.own.lt b hb).1; have h2 := osX.top b hb; omega)
          replace osT : OwnT w325 w.heap.size _ 41 4 vs (Mp.R (⟨[(⟨0, 32, 1, 1⟩ : Rg), ⟨32, 64, 1, 1⟩], 1, Mv.zero⟩ : Mp)).length ((Mp.R (⟨[(⟨0, 32, 1, 1⟩ : Rg), ⟨32, 64, 1, 1⟩], 1, Mv.zero⟩ : Mp)).flatMap Rg.c) := ⟨own_mono ho328 (by omega), osX.top⟩
          refine WL.nil ?_
          refine thn_n ?_
          refine WF.seq ?_
          refine WF.region ?_
          have hzte := ((show Ext w w325 from (grown_trans (Ext.trans (Ext.trans (grown_trans (Ext.trans (Ext.trans (Ext.trans (Ext.trans (Ext.trans (Ext.trans (Ext.trans (Ext.trans (Ext.trans (Ext.trans (Ext.trans (Ext.trans (Ext.trans (Ext.trans (Ext.trans (Ext.trans (Ext.trans (Ext.trans (Ext.trans (Ext.trans (Ext.trans (Ext.trans (Ext.trans hx4 hx7) hwL0) hwCr12) hx172) (Ext.store hx175 hx179 (by omega))) hx183) (Ext.store hx186 hx190 (by omega))) hx194) hx197) (Ext.store hx200 hx204 (by omega))) hx208) (Ext.store (Ext.store hx211 hx215 (by omega)) hx219 (by omega))) hwCr18) hx248) hx251) (Ext.store hx255 hx259 (by omega))) hx263) hx266) (Ext.store hx270 hx274 (by omega))) hx286) (Ext.store (Ext.store hx289 hx293 (by omega)) hx297 (by omega))) hx301) (Ext.store hx304 hx308 (by omega))) hx312 (fun i hi => by have := (ogX.own.lt i hi).1; omega)) hx316) (Ext.store hx319 hx323 (by omega))) hx327 (fun i hi => by have := (osX.own.lt i hi).1; omega)))).size
          refine WL.c rfl rfl rfl (X.call Try.call50 evl_nil) (two_ok _) ?_
          rintro v330 w329 ⟨⟨ve, rfl, oe⟩, hx331⟩
          have := World.grownBy.size hx331
          have oeT := OwnT.of oe
          refine WL.op rfl (OW.allocO (cs := [.slice none 0 0, i64 0, i64 0, i64 0, i64 0, i64 0, i64 0]) Try.zeroValue26 rfl ?_ (by decide))
          intro g26 w332 heg26 hlg26 hO26 hx334
          have := World.grownBy.size hx334
          refine WL.op rfl (OW.storeOA hO26 rfl rfl rfl (Mp.c_one ((oeT.ext hx334)).rd _) Try.sizeOf26 ?_)
          intro w336 hO26 hx338
          have := World.grownBy.size hx338
          replace hO8 := (hO8.ext (Ext.trans hx331 hx334)).keptO hx338 (by omega)
          replace omT := (omT.ext (Ext.trans hx331 hx334)).keptO hx338 (by omega)
          replace obT := (obT.ext (Ext.trans hx331 hx334)).keptO hx338 (by omega)
          replace hO23 := (hO23.ext (Ext.trans hx331 hx334)).keptO hx338 (by omega)
          replace ogT := (ogT.ext (Ext.trans hx331 hx334)).keptO hx338 (by omega)
          replace hO24 := (hO24.ext (Ext.trans hx331 hx334)).keptO hx338 (by omega)
          replace osT := (osT.ext (Ext.trans hx331 hx334)).keptO hx338 (by omega)
          replace hO25 := (hO25.ext (Ext.trans hx331 hx334)).keptO hx338 (by omega)
          replace oeT := (oeT.ext hx334).keptO hx338 (by omega)
          replace hO26 : Blk _ _ _ (twoM.c ve) := hO26
          refine WL.nil ?_
          refine thn_n ?_
          refine WF.seq ?_
          refine WF.region ?_
          refine WL.va rfl rfl rfl (X.fieldAddrO (off := 0) rfl Try.underlying26 rfl rfl Try.sizeOf22) ?_
          refine WL.va rfl rfl rfl (X.loadO hO26 (Ext.refl _) rfl rfl Try.isAgg22) ?_
          refine WL.va rfl rfl rfl (X.idx (k := 0) (oeT.rd) rfl rfl (by decide) Try.underlying22 Try.sizeOf41) ?_
          refine WL.va rfl rfl rfl (X.fieldAddrA rfl Try.underlying41 rfl rfl Try.sizeOf3) ?_
          have oeX := oeT
          refine WL.op rfl (OW.storeIF (i := 0) (off := 3) oeX.own (by decide) (by decide) rfl rfl rfl Try.sizeOf3 ?_)
          intro w340 ho343 hx342
          have := World.grownBy.size hx342
          replace hO8 := hO8.keptR hx342 (fun b hb => by have h1 := (oeX.own.lt b hb).1; have h2 := oeX.top b hb; omega)
          replace omT := omT.kept hx342 (fun b hb => by have h1 := (oeX.own.lt b hb).1; have h2 := oeX.top b hb; omega)
          replace obT := obT.kept hx342 (fun b hb => by have h1 := (oeX.own.lt b hb).1; have h2 := oeX.top b hb; omega)
          replace hO23 := hO23.keptR hx342 (fun b hb => by have h1 := (oeX.own.lt b hb).1; have h2 := oeX.top b hb; omega)
          replace ogT := ogT.kept hx342 (fun b hb => by have h1 := (oeX.own.lt b hb).1; have h2 := oeX.top b hb; omega)
          replace hO24 := hO24.keptR hx342 (fun b hb => by have h1 := (oeX.own.lt b hb).1; have h2 := oeX.top b hb; omega)
          replace osT := osT.kept hx342 (fun b hb => by have h1 := (oeX.own.lt b hb).1; have h2 := oeX.top b hb; omega)
          replace hO25 := hO25.keptR hx342 (fun b hb => by have h1 := (oeX.own.lt b hb).1; have h2 := oeX.top b hb; omega)
          replace hO26 := hO26.keptR hx342 (fun b hb => by have h1 := (oeX.own.lt b hb).1; have h2 := oeX.top b hb; omega)
          replace oeT : OwnT w340 w.heap.size _ 41 4 ve (Mp.R (⟨[(⟨0, 32, 1, 2⟩ : Rg), ⟨32, 64, 2, 1⟩], 1, Mv.zero⟩ : Mp)).length ((Mp.R (⟨[(⟨0, 32, 1, 2⟩ : Rg), ⟨32, 64, 2, 1⟩], 1, Mv.zero⟩ : Mp)).flatMap Rg.c) := ⟨own_mono ho343 (by omega), oeX.top⟩
          refine WL.nil ?_
          refine thn_n ?_
          refine WF.seq ?_
          refine WF.seq ?_
          refine WF.region ?_
          refine WL.c rfl rfl rfl (X.call Try.call50 evl_nil) (two_ok _) ?_
          rintro v345 w344 ⟨⟨v0, rfl, o0⟩, hx346⟩
          have := World.grownBy.size hx346
          have o0T := OwnT.of o0
          refine WL.c rfl rfl rfl (X.call Try.call11 (evl_cons rfl evl_nil)) (checkK (m := twoM) (c := 0) (by decide +kernel) ⟨by decide, by decide⟩ (o0T).rd) ?_
          rintro v348 w347 ⟨rfl, hx349⟩
          have := World.grownBy.size hx349
          refine WL.va rfl rfl rfl (X.neq rfl rfl) ?_
          refine WL.va rfl rfl rfl (X.moveB rfl) ?_
          refine WL.vg rfl rfl rfl rfl (X.build evp_nil Try.type26 Try.underlying26 rfl rfl trivial rfl) ?_
          refine WL.cg rfl rfl rfl rfl (X.call Try.call11 (evl_cons rfl evl_nil)) (checkK (m := Mp.zero) (c := 4) (by decide +kernel) ⟨by decide, by decide⟩ (Rgs.nil _)) ?_
          rintro v352 w351 ⟨rfl, hx353⟩
          have := World.grownBy.size hx353
          refine WL.vg rfl rfl rfl rfl (X.neq rfl rfl) ?_
          refine WL.va rfl rfl rfl (X.pickF rfl rfl rfl) ?_
          refine WL.va rfl rfl rfl (X.moveB rfl) ?_
          refine WL.vg rfl rfl rfl rfl (X.loadOA hO23 (Ext.trans (Ext.trans hx346 hx349) hx353) rfl rfl Try.isAgg26 Try.sizeOf26) ?_
          refine WL.cg rfl rfl rfl rfl (X.call Try.call11 (evl_cons rfl evl_nil)) (checkK (m := (⟨twoM.R, 1, ⟨0, 1, 0, 0, 0⟩⟩ : Mp)) (c := 4) (by decide +kernel) ⟨by decide, by decide⟩ ((obT.ext (Ext.trans (Ext.trans hx346 hx349) hx353))).rd) ?_
          rintro v356 w355 ⟨rfl, hx357⟩
          have := World.grownBy.size hx357
          refine WL.vg rfl rfl rfl rfl (X.neq rfl rfl) ?_
          refine WL.va rfl rfl rfl (X.pickF rfl rfl rfl) ?_
          refine WL.va rfl rfl rfl (X.moveB rfl) ?_
          refine WL.vg rfl rfl rfl rfl (X.loadOA hO24 (Ext.trans (Ext.trans (Ext.trans hx346 hx349) hx353) hx357) rfl rfl Try.isAgg26 Try.sizeOf26) ?_
          refine WL.cg rfl rfl rfl rfl (X.call Try.call11 (evl_cons rfl evl_nil)) (checkK (m := (⟨[(⟨0, 32, 1, 1⟩ : Rg), ⟨33, 64, 2, 1⟩], 1, Mv.zero⟩ : Mp)) (c := 4) (by decide +kernel) ⟨by decide, by decide⟩ ((ogT.ext (Ext.trans (Ext.trans (Ext.trans hx346 hx349) hx353) hx357))).rd) ?_
          rintro v360 w359 ⟨rfl, hx361⟩
          have := World.grownBy.size hx361
          refine WL.vg rfl rfl rfl rfl (X.neq rfl rfl) ?_
          refine WL.va rfl rfl rfl (X.pickF rfl rfl rfl) ?_
          refine WL.va rfl rfl rfl (X.moveB rfl) ?_
          refine WL.vg rfl rfl rfl rfl (X.loadOA hO25 (Ext.trans (Ext.trans (Ext.trans (Ext.trans hx346 hx349) hx353) hx357) hx361) rfl rfl Try.isAgg26 Try.sizeOf26) ?_
          refine WL.cg rfl rfl rfl rfl (X.call Try.call11 (evl_cons rfl evl_nil)) (checkK (m := (⟨[(⟨0, 32, 1, 1⟩ : Rg), ⟨32, 64, 1, 1⟩], 1, Mv.zero⟩ : Mp)) (c := 4) (by decide +kernel) ⟨by decide, by decide⟩ ((osT.ext (Ext.trans (Ext.trans (Ext.trans (Ext.trans hx346 hx349) hx353) hx357) hx361))).rd) ?_
          rintro v364 w363 ⟨rfl, hx365⟩
          have := World.grownBy.size hx365
          refine WL.vg rfl rfl rfl rfl (X.neq rfl rfl) ?_
          refine WL.va rfl rfl rfl (X.pickF rfl rfl rfl) ?_
          refine WL.va rfl rfl rfl (X.moveB rfl) ?_
          refine WL.vg rfl rfl rfl rfl (X.loadOA hO26 (Ext.trans (Ext.trans (Ext.trans (Ext.trans (Ext.trans hx346 hx349) hx353) hx357) hx361) hx365) rfl rfl Try.isAgg26 Try.sizeOf26) ?_
          refine WL.cg rfl rfl rfl rfl (X.call Try.call11 (evl_cons rfl evl_nil)) (checkK (m := (⟨[(⟨0, 32, 1, 2⟩ : Rg), ⟨32, 64, 2, 1⟩], 1, Mv.zero⟩ : Mp)) (c := 4) (by decide +kernel) ⟨by decide, by decide⟩ ((oeT.ext (Ext.trans (Ext.trans (Ext.trans (Ext.trans (Ext.trans hx346 hx349) hx353) hx357) hx361) hx365))).rd) ?_
          rintro v368 w367 ⟨rfl, hx369⟩
          have := World.grownBy.size hx369
          refine WL.vg rfl rfl rfl rfl (X.neq rfl rfl) ?_
          refine WL.va rfl rfl rfl (X.pickF rfl rfl rfl) ?_
          refine WL.va rfl rfl rfl (X.moveB rfl) ?_
          refine WL.vg rfl rfl rfl rfl (X.loadOA hO8 (Ext.trans (Ext.trans (Ext.trans (Ext.trans (Ext.trans (Ext.trans hx346 hx349) hx353) hx357) hx361) hx365) hx369) ((hACr18.eq 8).trans ((congrFun hF222 8).trans e8_Cr12)) rfl Try.isAgg26 Try.sizeOf26) ?_
          refine WL.cg rfl rfl rfl rfl (X.call Try.call11 (evl_cons rfl evl_nil)) (checkK (m := (⟨twoM.R, 2, ⟨2, 2, 1, 32, 64⟩⟩ : Mp)) (c := 0) (by decide +kernel) ⟨by decide, by decide⟩ ((omT.ext (Ext.trans (Ext.trans (Ext.trans (Ext.trans (Ext.trans (Ext.trans hx346 hx349) hx353) hx357) hx361) hx365) hx369))).rd) ?_
          rintro v372 w371 ⟨rfl, hx373⟩
          have := World.grownBy.size hx373
          refine WL.vg rfl rfl rfl rfl (X.neq rfl rfl) ?_
          refine WL.va rfl rfl rfl (X.pickF rfl rfl rfl) ?_
          refine WL.nil ?_
          refine thn_n ?_
          refine WF.cond_f rfl ?_
          refine WF.skip ?_
          refine thn_n ?_
          refine WF.seq ?_
          refine WF.region ?_
          refine WL.va rfl rfl rfl (X.buildT (P := Try.prog) (t := 72) (cs := (Op.oc nA nilS nilS nilS nilS)) (zs := [i64 0, i64 0, i64 0, i64 0, i64 0, i64 0, i64 0, i64 0, i64 0, i64 0, i64 0, i64 0, i64 0, .slice none 0 0, .slice none 0 0, .slice none 0 0, .slice none 0 0]) (places := [(0, 1), (1, 1), (2, 1), (3, 1), (4, 1), (5, 1), (6, 1), (7, 1), (8, 1), (9, 1), (10, 1), (11, 1), (12, 1), (13, 1), (14, 1), (15, 1), (16, 1)]) (n := 17) (evp_cons rfl (evp_cons rfl (evp_cons rfl (evp_cons rfl (evp_cons rfl (evp_cons rfl (evp_cons rfl evp_nil))))))) Try.type72 Try.underlying72 rfl rfl ⟨rfl, rfl, rfl, rfl, rfl, rfl, rfl, trivial⟩ rfl rfl rfl) ?_
          refine WL.op rfl (OW.allocO (cs := [i64 0, i64 0, i64 0, i64 0, i64 0, i64 0, i64 0, i64 0, i64 0, i64 0, i64 0, i64 0, i64 0, .slice none 0 0, .slice none 0 0, .slice none 0 0, .slice none 0 0]) Try.zeroValue72 rfl ?_ (by decide))
          intro g27 w375 heg27 hlg27 hO27 hx377
          have := World.grownBy.size hx377
          refine WL.op rfl (OW.storeOA hO27 rfl rfl rfl ((opAtK w (n := nA) rfl in_nA).ones _) Try.sizeOf72 ?_)
          intro w379 hO27 hx381
          have := World.grownBy.size hx381
          replace hO27 : Blk _ _ _ (Op.oc nA nilS nilS nilS nilS) := hO27
          refine WL.nil ?_
          refine thn_n ?_
          refine WF.named (fun F383 hF384 => ?_)
          refine WF.cut (fun f' w' => ∃ (g28 g29 : Nat) (vA uA dA : Value) (FA : List Se.SV), f' 28 = at_ g28 ∧ f' 29 = at_ g29 ∧ Agree [1, 2, 3, 8, 10, 11, 12, 13, 14, 15, 16, 18, 19, 20, 21, 22, 23, 24, 25, 26, 27, 42, 43, 44, 45, 46, 47, 48, 49, 50, 51, 52, 53, 54, 55, 56, 57, 58, 59, 60, 115, 116, 117, 118, 119, 120, 121, 122, 123, 124, 125, 126, 127, 128, 129, 130, 131, 140, 141, 142, 143, 144, 145, 146, 147, 148, 149, 150, 151, 152, 153, 154, 155, 156, 157, 158, 159, 160, 161, 162, 163, 164, 165, 166, 167, 168, 169, 170, 171, 172, 173, 174, 175, 176, 177, 178, 179, 180, 181, 182, 183, 184, 185, 186, 187, 188, 189, 190, 191, 192, 193, 194, 195, 196, 197, 198, 199, 200, 201, 202, 203, 204, 205, 206, 207, 208, 209, 210, 211, 212, 213, 214, 215, 216, 217, 218, 219, 220, 221, 222, 223, 224, 225, 226, 227, 228, 229, 230, 231, 232, 233, 234, 235, 236, 237, 238, 239, 240, 241] f' F383 ∧ Ext w379 w' ∧ Blk w' g28 51 (aA.1.c vA uA) ∧ Blk w' g29 53 [i64 0, dA] ∧ FA.map Prod.fst = aA.1.S ∧ DOwn w' w.heap.size w'.heap.size vA uA aA.1.m FA ∧ ByT w' w.heap.size w'.heap.size dA aA.2.2 ∧ w.heap.size ≤ g28 ∧ w.heap.size ≤ g29) ?_ ?_
          · refine WF.drawn (.q 2 (.b3 0 7 8 (.q 1 (.b3 3 7 8 (.q 4 (.q 5 (.q 6 (.b 7 8 (.l 8 (.l 9 .nil)) (.l 7 (.l 9 .nil)))))) (.b 3 8 (.q 4 (.q 5 (.q 6 (.l 8 (.l 9 .nil))))) (.l 3 (.q 4 (.q 5 (.q 6 (.l 9 .nil)))))) (.b 3 7 (.q 4 (.q 5 (.q 6 (.l 7 (.l 9 .nil))))) (.l 3 (.q 4 (.q 5 (.q 6 (.l 9 .nil)))))))) (.b 0 8 (.q 1 (.b 3 8 (.q 4 (.q 5 (.q 6 (.l 8 (.l 9 .nil))))) (.l 3 (.q 4 (.q 5 (.q 6 (.l 9 .nil))))))) (.l 0 (.q 1 (.l 3 (.q 4 (.q 5 (.q 6 (.l 9 .nil)))))))) (.b 0 7 (.q 1 (.b 3 7 (.q 4 (.q 5 (.q 6 (.l 7 (.l 9 .nil))))) (.l 3 (.q 4 (.q 5 (.q 6 (.l 9 .nil))))))) (.l 0 (.q 1 (.l 3 (.q 4 (.q 5 (.q 6 (.l 9 .nil)))))))))) (fun w' => Ext w379 w') 10 (by kernel_rfl) (by kernel_rfl) (Ext.drew _) ?_
            have := World.grownBy.size (Ext.drew w379)
            refine WO.q rfl rfl rfl rfl (fun w' hE385 => (X.loadOA hO27 hE385 (congrFun hF384 27) rfl Try.isAgg72 Try.sizeOf72)) ?_
            refine WO.b3 ?_ ?_ ?_
            · refine LO.go rfl rfl (OW.enter rfl (by decide) (X.call Try.call50 evl_nil) (two_ok _) ?_)
              rintro v387 w386 ⟨⟨v0, rfl, o0⟩, hx388⟩
              have := World.grownBy.size hx388
              refine ⟨(Ext.trans (Ext.drew _) hx388), ?_⟩
              have o0T := OwnT.of o0
              refine WO.q rfl rfl rfl rfl (fun w' hE385 => (X.buildF (P := Try.prog) (t := 51) (cs := (d0.c v0 nilS)) (evp_cons rfl evp_nil) Try.type51 Try.underlying51 rfl rfl (fill51a _ _ _ _ _ _ _))) ?_
              refine WO.b3 ?_ ?_ ?_
              · have hzpA := ((show Ext w w386 from (Ext.trans (Ext.trans (Ext.trans (Ext.trans (Ext.trans (Ext.trans (Ext.trans (Ext.trans (Ext.trans (Ext.trans (Ext.trans (grown_trans (Ext.trans (Ext.trans (grown_trans (Ext.trans (Ext.trans (grown_trans (Ext.trans (Ext.trans (Ext.trans (Ext.trans (Ext.trans (Ext.trans (Ext.trans (Ext.trans (Ext.trans (Ext.trans (Ext.trans (Ext.trans (Ext.trans (Ext.trans (Ext.trans (Ext.trans (Ext.trans (Ext.trans (Ext.trans (Ext.trans (Ext.trans (Ext.trans (Ext.trans hx4 hx7) hwL0) hwCr12) hx172) (Ext.store hx175 hx179 (by omega))) hx183) (Ext.store hx186 hx190 (by omega))) hx194) hx197) (Ext.store hx200 hx204 (by omega))) hx208) (Ext.store (Ext.store hx211 hx215 (by omega)) hx219 (by omega))) hwCr18) hx248) hx251) (Ext.store hx255 hx259 (by omega))) hx263) hx266) (Ext.store hx270 hx274 (by omega))) hx286) (Ext.store (Ext.store hx289 hx293 (by omega)) hx297 (by omega))) hx301) (Ext.store hx304 hx308 (by omega))) hx312 (fun i hi => by have := (ogX.own.lt i hi).1; omega)) hx316) (Ext.store hx319 hx323 (by omega))) hx327 (fun i hi => by have := (osX.own.lt i hi).1; omega)) hx331) (Ext.store hx334 hx338 (by omega))) hx342 (fun i hi => by have := (oeX.own.lt i hi).1; omega)) hx346) hx349) hx353) hx357) hx361) hx365) hx369) hx373) (Ext.store hx377 hx381 (by omega))) (Ext.drew _)) hx388))).size
                refine LO.go rfl rfl (OW.enter rfl (by decide) (X.call Try.call45 (evl_cons rfl (evl_cons rfl evl_nil))) (applyK (d := d0) (n := nA) (a := aA) _ rfl cA g0 (by decide) s0 rfl in_nA ⟨(o0T).rd, sess_nil _⟩) ?_)
                rintro v390 w389 ⟨⟨vA, uA, dA, FA, rfl, hFA, oAT, odA⟩, hx391⟩
                have := World.grownBy.size hx391
                refine ⟨(Ext.trans (Ext.trans (Ext.drew _) hx388) hx391), ?_⟩
                refine WO.q rfl rfl rfl rfl (fun w' hE385 => (X.move rfl)) ?_
                refine WO.q rfl rfl rfl rfl (fun w' hE385 => (X.extract rfl rfl)) ?_
                refine WO.q rfl rfl rfl rfl (fun w' hE385 => (X.extract rfl rfl)) ?_
                refine WO.b2 ?_ ?_
                · refine LO.go rfl rfl (OW.allocO (cs := [.slice none 0 0, i64 0, i64 0, i64 0, i64 0, i64 0, i64 0, .slice none 0 0]) Try.zeroValue51 rfl ?_ (by decide))
                  intro g28 w392 heg28 hlg28 hO28 hx394
                  have := World.grownBy.size hx394
                  refine ⟨(Ext.trans (Ext.trans (Ext.trans (Ext.drew _) hx388) hx391) hx394), ?_⟩
                  refine WO.l ?_
                  refine LO.go rfl rfl (OW.allocO (cs := [i64 0, .slice none 0 0]) Try.zeroValue53 rfl ?_ (by decide))
                  intro g29 w396 heg29 hlg29 hO29 hx398
                  have := World.grownBy.size hx398
                  refine ⟨(Ext.trans (Ext.trans (Ext.trans (Ext.trans (Ext.drew _) hx388) hx391) hx394) hx398), ?_⟩
                  refine WO.l ?_
                  refine LO.go rfl rfl (OW.storeOA (hO28.ext hx398) rfl rfl rfl (Dr.c_one _ ((oAT.ext (Ext.trans hx394 hx398))).rng.rd (own_one ((oAT.ext (Ext.trans hx394 hx398))).ses.own.row)) Try.sizeOf51 ?_)
                  intro w400 hO28 hx402
                  have := World.grownBy.size hx402
                  replace hO27 := (hO27.ext (Ext.trans (Ext.trans (Ext.trans (Ext.trans (Ext.drew _) hx388) hx391) hx394) hx398)).keptO hx402 (by omega)
                  replace o0T := (o0T.ext (Ext.trans (Ext.trans hx391 hx394) hx398)).keptO hx402 (by omega)
                  replace oAT := (oAT.ext (Ext.trans hx394 hx398)).keptO hx402 (by omega)
                  replace odA := (odA.ext (Ext.trans hx394 hx398)).keptO hx402 (by omega)
                  replace hO29 := hO29.keptO hx402 (by omega)
                  replace hO28 : Blk _ _ _ (aA.1.c vA uA) := hO28
                  refine ⟨(Ext.trans (Ext.trans (Ext.trans (Ext.drew _) hx388) hx391) (Ext.store (Ext.trans hx394 hx398) hx402 (by omega))), ?_⟩
                  refine WO.nil ?_
                  refine WL.op rfl (OW.storeOA hO29 rfl rfl rfl (ones2 _ (own_one (odA).own)) Try.sizeOf53 ?_)
                  intro w404 hO29 hx406
                  have := World.grownBy.size hx406
                  replace hO27 := hO27.keptO hx406 (by omega)
                  replace o0T := o0T.keptO hx406 (by omega)
                  replace oAT := oAT.keptO hx406 (by omega)
                  replace odA := odA.keptO hx406 (by omega)
                  replace hO28 := hO28.keptO hx406 (by omega)
                  replace hO29 : Blk _ _ _ [i64 0, dA] := hO29
                  refine WL.nil ?_
                  refine thn_n ?_
                  exact ⟨_, _, _, _, _, _, rfl, rfl, (by repeat (first | exact (Agree.refl _ F383) | refine Agree.put ?_ rfl | refine Agree.sub hACr18 rfl ?_ | refine Agree.sub hACr12 rfl ?_ | refine Agree.sub hAL0 rfl ?_ | refine Agree.named hF384 ?_ | refine Agree.named hF222 ?_ | refine Agree.named hF129 ?_ | refine Agree.named hF10 ?_)), (Ext.trans (Ext.trans (Ext.trans (Ext.drew _) hx388) hx391) (Ext.store (Ext.store (Ext.trans hx394 hx398) hx402 (by omega)) hx406 (by omega))), ⟨hO28, hO29, hFA, (oAT).mono (by omega) (by omega), ownT_up odA (by omega) (by omega), by omega, by omega⟩⟩
                · refine LO.go rfl rfl (OW.allocO (cs := [i64 0, .slice none 0 0]) Try.zeroValue53 rfl ?_ (by decide))
                  intro g29 w408 heg29 hlg29 hO29 hx410
                  have := World.grownBy.size hx410
                  refine ⟨(Ext.trans (Ext.trans (Ext.trans (Ext.drew _) hx388) hx391) hx410), ?_⟩
                  refine WO.l ?_
                  refine LO.go rfl rfl (OW.allocO (cs := [.slice none 0 0, i64 0, i64 0, i64 0, i64 0, i64 0, i64 0, .slice none 0 0]) Try.zeroValue51 rfl ?_ (by decide))
                  intro g28 w412 heg28 hlg28 hO28 hx414
                  have := World.grownBy.size hx414
                  refine ⟨(Ext.trans (Ext.trans (Ext.trans (Ext.trans (Ext.drew _) hx388) hx391) hx410) hx414), ?_⟩
                  refine WO.l ?_
                  refine LO.go rfl rfl (OW.storeOA hO28 rfl rfl rfl (Dr.c_one _ ((oAT.ext (Ext.trans hx410 hx414))).rng.rd (own_one ((oAT.ext (Ext.trans hx410 hx414))).ses.own.row)) Try.sizeOf51 ?_)
                  intro w416 hO28 hx418
                  have := World.grownBy.size hx418
                  replace hO27 := (hO27.ext (Ext.trans (Ext.trans (Ext.trans (Ext.trans (Ext.drew _) hx388) hx391) hx410) hx414)).keptO hx418 (by omega)
                  replace o0T := (o0T.ext (Ext.trans (Ext.trans hx391 hx410) hx414)).keptO hx418 (by omega)
                  replace oAT := (oAT.ext (Ext.trans hx410 hx414)).keptO hx418 (by omega)
                  replace odA := (odA.ext (Ext.trans hx410 hx414)).keptO hx418 (by omega)
                  replace hO29 := (hO29.ext hx414).keptO hx418 (by omega)
                  replace hO28 : Blk _ _ _ (aA.1.c vA uA) := hO28
                  refine ⟨(Ext.trans (Ext.trans (Ext.trans (Ext.trans (Ext.drew _) hx388) hx391) hx410) (Ext.store hx414 hx418 (by omega))), ?_⟩
                  refine WO.nil ?_
                  refine WL.op rfl (OW.storeOA hO29 rfl rfl rfl (ones2 _ (own_one (odA).own)) Try.sizeOf53 ?_)
                  intro w420 hO29 hx422
                  have := World.grownBy.size hx422
                  replace hO27 := hO27.keptO hx422 (by omega)
                  replace o0T := o0T.keptO hx422 (by omega)
                  replace oAT := oAT.keptO hx422 (by omega)
                  replace odA := odA.keptO hx422 (by omega)
                  replace hO28 := hO28.keptO hx422 (by omega)
                  replace hO29 : Blk _ _ _ [i64 0, dA] := hO29
                  refine WL.nil ?_
                  refine thn_n ?_
                  exact ⟨_, _, _, _, _, _, rfl, rfl, (by repeat (first | exact (Agree.refl _ F383) | refine Agree.put ?_ rfl | refine Agree.sub hACr18 rfl ?_ | refine Agree.sub hACr12 rfl ?_ | refine Agree.sub hAL0 rfl ?_ | refine Agree.named hF384 ?_ | refine Agree.named hF222 ?_ | refine Agree.named hF129 ?_ | refine Agree.named hF10 ?_)), (Ext.trans (Ext.trans (Ext.trans (Ext.drew _) hx388) hx391) (Ext.store (Ext.trans hx410 (Ext.store hx414 hx418 (by omega))) hx422 (by omega))), ⟨hO28, hO29, hFA, (oAT).mono (by omega) (by omega), ownT_up odA (by omega) (by omega), by omega, by omega⟩⟩
              · refine LO.go rfl rfl (OW.allocO (cs := [.slice none 0 0, i64 0, i64 0, i64 0, i64 0, i64 0, i64 0, .slice none 0 0]) Try.zeroValue51 rfl ?_ (by decide))
                intro g28 w424 heg28 hlg28 hO28 hx426
                have := World.grownBy.size hx426
                refine ⟨(Ext.trans (Ext.trans (Ext.drew _) hx388) hx426), ?_⟩
                refine WO.b2 ?_ ?_
                · have hzpA := ((show Ext w w424 from (Ext.trans (Ext.trans (Ext.trans (Ext.trans (Ext.trans (Ext.trans (Ext.trans (Ext.trans (Ext.trans (Ext.trans (Ext.trans (Ext.trans (grown_trans (Ext.trans (Ext.trans (grown_trans (Ext.trans (Ext.trans (grown_trans (Ext.trans (Ext.trans (Ext.trans (Ext.trans (Ext.trans (Ext.trans (Ext.trans (Ext.trans (Ext.trans (Ext.trans (Ext.trans (Ext.trans (Ext.trans (Ext.trans (Ext.trans (Ext.trans (Ext.trans (Ext.trans (Ext.trans (Ext.trans (Ext.trans (Ext.trans (Ext.trans hx4 hx7) hwL0) hwCr12) hx172) (Ext.store hx175 hx179 (by omega))) hx183) (Ext.store hx186 hx190 (by omega))) hx194) hx197) (Ext.store hx200 hx204 (by omega))) hx208) (Ext.store (Ext.store hx211 hx215 (by omega)) hx219 (by omega))) hwCr18) hx248) hx251) (Ext.store hx255 hx259 (by omega))) hx263) hx266) (Ext.store hx270 hx274 (by omega))) hx286) (Ext.store (Ext.store hx289 hx293 (by omega)) hx297 (by omega))) hx301) (Ext.store hx304 hx308 (by omega))) hx312 (fun i hi => by have := (ogX.own.lt i hi).1; omega)) hx316) (Ext.store hx319 hx323 (by omega))) hx327 (fun i hi => by have := (osX.own.lt i hi).1; omega)) hx331) (Ext.store hx334 hx338 (by omega))) hx342 (fun i hi => by have := (oeX.own.lt i hi).1; omega)) hx346) hx349) hx353) hx357) hx361) hx365) hx369) hx373) (Ext.store hx377 hx381 (by omega))) (Ext.drew _)) hx388) hx426))).size
                  refine LO.go rfl rfl (OW.enter rfl (by decide) (X.call Try.call45 (evl_cons rfl (evl_cons rfl evl_nil))) (applyK (d := d0) (n := nA) (a := aA) _ rfl cA g0 (by decide) s0 rfl in_nA ⟨((o0T.ext hx426)).rd, sess_nil _⟩) ?_)
                  rintro v429 w428 ⟨⟨vA, uA, dA, FA, rfl, hFA, oAT, odA⟩, hx430⟩
                  have := World.grownBy.size hx430
                  refine ⟨(Ext.trans (Ext.trans (Ext.trans (Ext.drew _) hx388) hx426) hx430), ?_⟩
                  refine WO.q rfl rfl rfl rfl (fun w' hE385 => (X.move rfl)) ?_
                  refine WO.q rfl rfl rfl rfl (fun w' hE385 => (X.extract rfl rfl)) ?_
                  refine WO.q rfl rfl rfl rfl (fun w' hE385 => (X.extract rfl rfl)) ?_
                  refine WO.l ?_
                  refine LO.go rfl rfl (OW.allocO (cs := [i64 0, .slice none 0 0]) Try.zeroValue53 rfl ?_ (by decide))
                  intro g29 w431 heg29 hlg29 hO29 hx433
                  have := World.grownBy.size hx433
                  refine ⟨(Ext.trans (Ext.trans (Ext.trans (Ext.trans (Ext.drew _) hx388) hx426) hx430) hx433), ?_⟩
                  refine WO.l ?_
                  refine LO.go rfl rfl (OW.storeOA (hO28.ext (Ext.trans hx430 hx433)) rfl rfl rfl (Dr.c_one _ ((oAT.ext hx433)).rng.rd (own_one ((oAT.ext hx433)).ses.own.row)) Try.sizeOf51 ?_)
                  intro w435 hO28 hx437
                  have := World.grownBy.size hx437
                  replace hO27 := (hO27.ext (Ext.trans (Ext.trans (Ext.trans (Ext.trans (Ext.drew _) hx388) hx426) hx430) hx433)).keptO hx437 (by omega)
                  replace o0T := (o0T.ext (Ext.trans (Ext.trans hx426 hx430) hx433)).keptO hx437 (by omega)
                  replace oAT := (oAT.ext hx433).keptO hx437 (by omega)
                  replace odA := (odA.ext hx433).keptO hx437 (by omega)
                  replace hO29 := hO29.keptO hx437 (by omega)
                  replace hO28 : Blk _ _ _ (aA.1.c vA uA) := hO28
                  refine ⟨(Ext.trans (Ext.trans (Ext.drew _) hx388) (Ext.store (Ext.trans (Ext.trans hx426 hx430) hx433) hx437 (by omega))), ?_⟩
                  refine WO.nil ?_
                  refine WL.op rfl (OW.storeOA hO29 rfl rfl rfl (ones2 _ (own_one (odA).own)) Try.sizeOf53 ?_)
                  intro w439 hO29 hx441
                  have := World.grownBy.size hx441
                  replace hO27 := hO27.keptO hx441 (by omega)
                  replace o0T := o0T.keptO hx441 (by omega)
                  replace hO28 := hO28.keptO hx441 (by omega)
                  replace oAT := oAT.keptO hx441 (by omega)
                  replace odA := odA.keptO hx441 (by omega)
                  replace hO29 : Blk _ _ _ [i64 0, dA] := hO29
                  refine WL.nil ?_
                  refine thn_n ?_
                  exact ⟨_, _, _, _, _, _, rfl, rfl, (by repeat (first | exact (Agree.refl _ F383) | refine Agree.put ?_ rfl | refine Agree.sub hACr18 rfl ?_ | refine Agree.sub hACr12 rfl ?_ | refine Agree.sub hAL0 rfl ?_ | refine Agree.named hF384 ?_ | refine Agree.named hF222 ?_ | refine Agree.named hF129 ?_ | refine Agree.named hF10 ?_)), (Ext.trans (Ext.trans (Ext.drew _) hx388) (Ext.store (Ext.store (Ext.trans (Ext.trans hx426 hx430) hx433) hx437 (by omega)) hx441 (by omega))), ⟨hO28, hO29, hFA, (oAT).mono (by omega) (by omega), ownT_up odA (by omega) (by omega), by omega, by omega⟩⟩
                · refine LO.go rfl rfl (OW.allocO (cs := [i64 0, .slice none 0 0]) Try.zeroValue53 rfl ?_ (by decide))
                  intro g29 w443 heg29 hlg29 hO29 hx445
                  have := World.grownBy.size hx445
                  refine ⟨(Ext.trans (Ext.trans (Ext.trans (Ext.drew _) hx388) hx426) hx445), ?_⟩
                  refine WO.l ?_
                  have hzpA := ((show Ext w w443 from (Ext.trans (Ext.trans (Ext.trans (Ext.trans (Ext.trans (Ext.trans (Ext.trans (Ext.trans (Ext.trans (Ext.trans (Ext.trans (Ext.trans (Ext.trans (grown_trans (Ext.trans (Ext.trans (grown_trans (Ext.trans (Ext.trans (grown_trans (Ext.trans (Ext.trans (Ext.trans (Ext.trans (Ext.trans (Ext.trans (Ext.trans (Ext.trans (Ext.trans (Ext.trans (Ext.trans (Ext.trans (Ext.trans (Ext.trans (Ext.trans (Ext.trans (Ext.trans (Ext.trans (Ext.trans (Ext.trans (Ext.trans (Ext.trans (Ext.trans hx4 hx7) hwL0) hwCr12) hx172) (Ext.store hx175 hx179 (by omega))) hx183) (Ext.store hx186 hx190 (by omega))) hx194) hx197) (Ext.store hx200 hx204 (by omega))) hx208) (Ext.store (Ext.store hx211 hx215 (by omega)) hx219 (by omega))) hwCr18) hx248) hx251) (Ext.store hx255 hx259 (by omega))) hx263) hx266) (Ext.store hx270 hx274 (by omega))) hx286) (Ext.store (Ext.store hx289 hx293 (by omega)) hx297 (by omega))) hx301) (Ext.store hx304 hx308 (by omega))) hx312 (fun i hi => by have := (ogX.own.lt i hi).1; omega)) hx316) (Ext.store hx319 hx323 (by omega))) hx327 (fun i hi => by have := (osX.own.lt i hi).1; omega)) hx331) (Ext.store hx334 hx338 (by omega))) hx342 (fun i hi => by have := (oeX.own.lt i hi).1; omega)) hx346) hx349) hx353) hx357) hx361) hx365) hx369) hx373) (Ext.store hx377 hx381 (by omega))) (Ext.drew _)) hx388) hx426) hx445))).size
                  refine LO.go rfl rfl (OW.enter rfl (by decide) (X.call Try.call45 (evl_cons rfl (evl_cons rfl evl_nil))) (applyK (d := d0) (n := nA) (a := aA) _ rfl cA g0 (by decide) s0 rfl in_nA ⟨((o0T.ext (Ext.trans hx426 hx445))).rd, sess_nil _⟩) ?_)
                  rintro v448 w447 ⟨⟨vA, uA, dA, FA, rfl, hFA, oAT, odA⟩, hx449⟩
                  have := World.grownBy.size hx449
                  refine ⟨(Ext.trans (Ext.trans (Ext.trans (Ext.trans (Ext.drew _) hx388) hx426) hx445) hx449), ?_⟩
                  refine WO.q rfl rfl rfl rfl (fun w' hE385 => (X.move rfl)) ?_
                  refine WO.q rfl rfl rfl rfl (fun w' hE385 => (X.extract rfl rfl)) ?_
                  refine WO.q rfl rfl rfl rfl (fun w' hE385 => (X.extract rfl rfl)) ?_
                  refine WO.l ?_
                  refine LO.go rfl rfl (OW.storeOA (hO28.ext (Ext.trans hx445 hx449)) rfl rfl rfl (Dr.c_one _ (oAT).rng.rd (own_one (oAT).ses.own.row)) Try.sizeOf51 ?_)
                  intro w450 hO28 hx452
                  have := World.grownBy.size hx452
                  replace hO27 := (hO27.ext (Ext.trans (Ext.trans (Ext.trans (Ext.trans (Ext.drew _) hx388) hx426) hx445) hx449)).keptO hx452 (by omega)
                  replace o0T := (o0T.ext (Ext.trans (Ext.trans hx426 hx445) hx449)).keptO hx452 (by omega)
                  replace hO29 := (hO29.ext hx449).keptO hx452 (by omega)
                  replace oAT := oAT.keptO hx452 (by omega)
                  replace odA := odA.keptO hx452 (by omega)
                  replace hO28 : Blk _ _ _ (aA.1.c vA uA) := hO28
                  refine ⟨(Ext.trans (Ext.trans (Ext.drew _) hx388) (Ext.store (Ext.trans (Ext.trans hx426 hx445) hx449) hx452 (by omega))), ?_⟩
                  refine WO.nil ?_
                  refine WL.op rfl (OW.storeOA hO29 rfl rfl rfl (ones2 _ (own_one (odA).own)) Try.sizeOf53 ?_)
                  intro w454 hO29 hx456
                  have := World.grownBy.size hx456
                  replace hO27 := hO27.keptO hx456 (by omega)
                  replace o0T := o0T.keptO hx456 (by omega)
                  replace hO28 := hO28.keptO hx456 (by omega)
                  replace oAT := oAT.keptO hx456 (by omega)
                  replace odA := odA.keptO hx456 (by omega)
                  replace hO29 : Blk _ _ _ [i64 0, dA] := hO29
                  refine WL.nil ?_
                  refine thn_n ?_
                  exact ⟨_, _, _, _, _, _, rfl, rfl, (by repeat (first | exact (Agree.refl _ F383) | refine Agree.put ?_ rfl | refine Agree.sub hACr18 rfl ?_ | refine Agree.sub hACr12 rfl ?_ | refine Agree.sub hAL0 rfl ?_ | refine Agree.named hF384 ?_ | refine Agree.named hF222 ?_ | refine Agree.named hF129 ?_ | refine Agree.named hF10 ?_)), (Ext.trans (Ext.trans (Ext.drew _) hx388) (Ext.store (Ext.store (Ext.trans (Ext.trans hx426 hx445) hx449) hx452 (by omega)) hx456 (by omega))), ⟨hO28, hO29, hFA, (oAT).mono (by omega) (by omega), ownT_up odA (by omega) (by omega), by omega, by omega⟩⟩
              · refine LO.go rfl rfl (OW.allocO (cs := [i64 0, .slice none 0 0]) Try.zeroValue53 rfl ?_ (by decide))
                intro g29 w458 heg29 hlg29 hO29 hx460
                have := World.grownBy.size hx460
                refine ⟨(Ext.trans (Ext.trans (Ext.drew _) hx388) hx460), ?_⟩
                refine WO.b2 ?_ ?_
                · have hzpA := ((show Ext w w458 from (Ext.trans (Ext.trans (Ext.trans (Ext.trans (Ext.trans (Ext.trans (Ext.trans (Ext.trans (Ext.trans (Ext.trans (Ext.trans (Ext.trans (grown_trans (Ext.trans (Ext.trans (grown_trans (Ext.trans (Ext.trans (grown_trans (Ext.trans (Ext.trans (Ext.trans (Ext.trans (Ext.trans (Ext.trans (Ext.trans (Ext.trans (Ext.trans (Ext.trans (Ext.trans (Ext.trans (Ext.trans (Ext.trans (Ext.trans (Ext.trans (Ext.trans (Ext.trans (Ext.trans (Ext.trans (Ext.trans (Ext.trans (Ext.trans hx4 hx7) hwL0) hwCr12) hx172) (Ext.store hx175 hx179 (by omega))) hx183) (Ext.store hx186 hx190 (by omega))) hx194) hx197) (Ext.store hx200 hx204 (by omega))) hx208) (Ext.store (Ext.store hx211 hx215 (by omega)) hx219 (by omega))) hwCr18) hx248) hx251) (Ext.store hx255 hx259 (by omega))) hx263) hx266) (Ext.store hx270 hx274 (by omega))) hx286) (Ext.store (Ext.store hx289 hx293 (by omega)) hx297 (by omega))) hx301) (Ext.store hx304 hx308 (by omega))) hx312 (fun i hi => by have := (ogX.own.lt i hi).1; omega)) hx316) (Ext.store hx319 hx323 (by omega))) hx327 (fun i hi => by have := (osX.own.lt i hi).1; omega)) hx331) (Ext.store hx334 hx338 (by omega))) hx342 (fun i hi => by have := (oeX.own.lt i hi).1; omega)) hx346) hx349) hx353) hx357) hx361) hx365) hx369) hx373) (Ext.store hx377 hx381 (by omega))) (Ext.drew _)) hx388) hx460))).size
                  refine LO.go rfl rfl (OW.enter rfl (by decide) (X.call Try.call45 (evl_cons rfl (evl_cons rfl evl_nil))) (applyK (d := d0) (n := nA) (a := aA) _ rfl cA g0 (by decide) s0 rfl in_nA ⟨((o0T.ext hx460)).rd, sess_nil _⟩) ?_)
                  rintro v463 w462 ⟨⟨vA, uA, dA, FA, rfl, hFA, oAT, odA⟩, hx464⟩
                  have := World.grownBy.size hx464
                  refine ⟨(Ext.trans (Ext.trans (Ext.trans (Ext.drew _) hx388) hx460) hx464), ?_⟩
                  refine WO.q rfl rfl rfl rfl (fun w' hE385 => (X.move rfl)) ?_
                  refine WO.q rfl rfl rfl rfl (fun w' hE385 => (X.extract rfl rfl)) ?_
                  refine WO.q rfl rfl rfl rfl (fun w' hE385 => (X.extract rfl rfl)) ?_
                  refine WO.l ?_
                  refine LO.go rfl rfl (OW.allocO (cs := [.slice none 0 0, i64 0, i64 0, i64 0, i64 0, i64 0, i64 0, .slice none 0 0]) Try.zeroValue51 rfl ?_ (by decide))
                  intro g28 w465 heg28 hlg28 hO28 hx467
                  have := World.grownBy.size hx467
                  refine ⟨(Ext.trans (Ext.trans (Ext.trans (Ext.trans (Ext.drew _) hx388) hx460) hx464) hx467), ?_⟩
                  refine WO.l ?_
                  refine LO.go rfl rfl (OW.storeOA hO28 rfl rfl rfl (Dr.c_one _ ((oAT.ext hx467)).rng.rd (own_one ((oAT.ext hx467)).ses.own.row)) Try.sizeOf51 ?_)
                  intro w469 hO28 hx471
                  have := World.grownBy.size hx471
                  replace hO27 := (hO27.ext (Ext.trans (Ext.trans (Ext.trans (Ext.trans (Ext.drew _) hx388) hx460) hx464) hx467)).keptO hx471 (by omega)
                  replace o0T := (o0T.ext (Ext.trans (Ext.trans hx460 hx464) hx467)).keptO hx471 (by omega)
                  replace hO29 := (hO29.ext (Ext.trans hx464 hx467)).keptO hx471 (by omega)
                  replace oAT := (oAT.ext hx467).keptO hx471 (by omega)
                  replace odA := (odA.ext hx467).keptO hx471 (by omega)
                  replace hO28 : Blk _ _ _ (aA.1.c vA uA) := hO28
                  refine ⟨(Ext.trans (Ext.trans (Ext.trans (Ext.trans (Ext.drew _) hx388) hx460) hx464) (Ext.store hx467 hx471 (by omega))), ?_⟩
                  refine WO.nil ?_
                  refine WL.op rfl (OW.storeOA hO29 rfl rfl rfl (ones2 _ (own_one (odA).own)) Try.sizeOf53 ?_)
                  intro w473 hO29 hx475
                  have := World.grownBy.size hx475
                  replace hO27 := hO27.keptO hx475 (by omega)
                  replace o0T := o0T.keptO hx475 (by omega)
                  replace oAT := oAT.keptO hx475 (by omega)
                  replace odA := odA.keptO hx475 (by omega)
                  replace hO28 := hO28.keptO hx475 (by omega)
                  replace hO29 : Blk _ _ _ [i64 0, dA] := hO29
                  refine WL.nil ?_
                  refine thn_n ?_
                  exact ⟨_, _, _, _, _, _, rfl, rfl, (by repeat (first | exact (Agree.refl _ F383) | refine Agree.put ?_ rfl | refine Agree.sub hACr18 rfl ?_ | refine Agree.sub hACr12 rfl ?_ | refine Agree.sub hAL0 rfl ?_ | refine Agree.named hF384 ?_ | refine Agree.named hF222 ?_ | refine Agree.named hF129 ?_ | refine Agree.named hF10 ?_)), (Ext.trans (Ext.trans (Ext.drew _) hx388) (Ext.store (Ext.trans (Ext.trans hx460 hx464) (Ext.store hx467 hx471 (by omega))) hx475 (by omega))), ⟨hO28, hO29, hFA, (oAT).mono (by omega) (by omega), ownT_up odA (by omega) (by omega), by omega, by omega⟩⟩
                · refine LO.go rfl rfl (OW.allocO (cs := [.slice none 0 0, i64 0, i64 0, i64 0, i64 0, i64 0, i64 0, .slice none 0 0]) Try.zeroValue51 rfl ?_ (by decide))
                  intro g28 w477 heg28 hlg28 hO28 hx479
                  have := World.grownBy.size hx479
                  refine ⟨(Ext.trans (Ext.trans (Ext.trans (Ext.drew _) hx388) hx460) hx479), ?_⟩
                  refine WO.l ?_
                  have hzpA := ((show Ext w w477 from (Ext.trans (Ext.trans (Ext.trans (Ext.trans (Ext.trans (Ext.trans (Ext.trans (Ext.trans (Ext.trans (Ext.trans (Ext.trans (Ext.trans (Ext.trans (grown_trans (Ext.trans (Ext.trans (grown_trans (Ext.trans (Ext.trans (grown_trans (Ext.trans (Ext.trans (Ext.trans (Ext.trans (Ext.trans (Ext.trans (Ext.trans (Ext.trans (Ext.trans (Ext.trans (Ext.trans (Ext.trans (Ext.trans (Ext.trans (Ext.trans (Ext.trans (Ext.trans (Ext.trans (Ext.trans (Ext.trans (Ext.trans (Ext.trans (Ext.trans hx4 hx7) hwL0) hwCr12) hx172) (Ext.store hx175 hx179 (by omega))) hx183) (Ext.store hx186 hx190 (by omega))) hx194) hx197) (Ext.store hx200 hx204 (by omega))) hx208) (Ext.store (Ext.store hx211 hx215 (by omega)) hx219 (by omega))) hwCr18) hx248) hx251) (Ext.store hx255 hx259 (by omega))) hx263) hx266) (Ext.store hx270 hx274 (by omega))) hx286) (Ext.store (Ext.store hx289 hx293 (by omega)) hx297 (by omega))) hx301) (Ext.store hx304 hx308 (by omega))) hx312 (fun i hi => by have := (ogX.own.lt i hi).1; omega)) hx316) (Ext.store hx319 hx323 (by omega))) hx327 (fun i hi => by have := (osX.own.lt i hi).1; omega)) hx331) (Ext.store hx334 hx338 (by omega))) hx342 (fun i hi => by have := (oeX.own.lt i hi).1; omega)) hx346) hx349) hx353) hx357) hx361) hx365) hx369) hx373) (Ext.store hx377 hx381 (by omega))) (Ext.drew _)) hx388) hx460) hx479))).size
                  refine LO.go rfl rfl (OW.enter rfl (by decide) (X.call Try.call45 (evl_cons rfl (evl_cons rfl evl_nil))) (applyK (d := d0) (n := nA) (a := aA) _ rfl cA g0 (by decide) s0 rfl in_nA ⟨((o0T.ext (Ext.trans hx460 hx479))).rd, sess_nil _⟩) ?_)
                  rintro v482 w481 ⟨⟨vA, uA, dA, FA, rfl, hFA, oAT, odA⟩, hx483⟩
                  have := World.grownBy.size hx483
                  refine ⟨(Ext.trans (Ext.trans (Ext.trans (Ext.trans (Ext.drew _) hx388) hx460) hx479) hx483), ?_⟩
                  refine WO.q rfl rfl rfl rfl (fun w' hE385 => (X.move rfl)) ?_
                  refine WO.q rfl rfl rfl rfl (fun w' hE385 => (X.extract rfl rfl)) ?_
                  refine WO.q rfl rfl rfl rfl (fun w' hE385 => (X.extract rfl rfl)) ?_
                  refine WO.l ?_
                  refine LO.go rfl rfl (OW.storeOA (hO28.ext hx483) rfl rfl rfl (Dr.c_one _ (oAT).rng.rd (own_one (oAT).ses.own.row)) Try.sizeOf51 ?_)
                  intro w484 hO28 hx486
                  have := World.grownBy.size hx486
                  replace hO27 := (hO27.ext (Ext.trans (Ext.trans (Ext.trans (Ext.trans (Ext.drew _) hx388) hx460) hx479) hx483)).keptO hx486 (by omega)
                  replace o0T := (o0T.ext (Ext.trans (Ext.trans hx460 hx479) hx483)).keptO hx486 (by omega)
                  replace hO29 := (hO29.ext (Ext.trans hx479 hx483)).keptO hx486 (by omega)
                  replace oAT := oAT.keptO hx486 (by omega)
                  replace odA := odA.keptO hx486 (by omega)
                  replace hO28 : Blk _ _ _ (aA.1.c vA uA) := hO28
                  refine ⟨(Ext.trans (Ext.trans (Ext.trans (Ext.drew _) hx388) hx460) (Ext.store (Ext.trans hx479 hx483) hx486 (by omega))), ?_⟩
                  refine WO.nil ?_
                  refine WL.op rfl (OW.storeOA hO29 rfl rfl rfl (ones2 _ (own_one (odA).own)) Try.sizeOf53 ?_)
                  intro w488 hO29 hx490
                  have := World.grownBy.size hx490
                  replace hO27 := hO27.keptO hx490 (by omega)
                  replace o0T := o0T.keptO hx490 (by omega)
                  replace hO28 := hO28.keptO hx490 (by omega)
                  replace oAT := oAT.keptO hx490 (by omega)
                  replace odA := odA.keptO hx490 (by omega)
                  replace hO29 : Blk _ _ _ [i64 0, dA] := hO29
                  refine WL.nil ?_
                  refine thn_n ?_
                  exact ⟨_, _, _, _, _, _, rfl, rfl, (by repeat (first | exact (Agree.refl _ F383) | refine Agree.put ?_ rfl | refine Agree.sub hACr18 rfl ?_ | refine Agree.sub hACr12 rfl ?_ | refine Agree.sub hAL0 rfl ?_ | refine Agree.named hF384 ?_ | refine Agree.named hF222 ?_ | refine Agree.named hF129 ?_ | refine Agree.named hF10 ?_)), (Ext.trans (Ext.trans (Ext.drew _) hx388) (Ext.store (Ext.trans hx460 (Ext.store (Ext.trans hx479 hx483) hx486 (by omega))) hx490 (by omega))), ⟨hO28, hO29, hFA, (oAT).mono (by omega) (by omega), ownT_up odA (by omega) (by omega), by omega, by omega⟩⟩
            · refine LO.go rfl rfl (OW.allocO (cs := [.slice none 0 0, i64 0, i64 0, i64 0, i64 0, i64 0, i64 0, .slice none 0 0]) Try.zeroValue51 rfl ?_ (by decide))
              intro g28 w492 heg28 hlg28 hO28 hx494
              have := World.grownBy.size hx494
              refine ⟨(Ext.trans (Ext.drew _) hx494), ?_⟩
              refine WO.b2 ?_ ?_
              · refine LO.go rfl rfl (OW.enter rfl (by decide) (X.call Try.call50 evl_nil) (two_ok _) ?_)
                rintro v497 w496 ⟨⟨v0, rfl, o0⟩, hx498⟩
                have := World.grownBy.size hx498
                refine ⟨(Ext.trans (Ext.trans (Ext.drew _) hx494) hx498), ?_⟩
                have o0T := OwnT.of o0
                refine WO.q rfl rfl rfl rfl (fun w' hE385 => (X.buildF (P := Try.prog) (t := 51) (cs := (d0.c v0 nilS)) (evp_cons rfl evp_nil) Try.type51 Try.underlying51 rfl rfl (fill51a _ _ _ _ _ _ _))) ?_
                refine WO.b2 ?_ ?_
                · have hzpA := ((show Ext w w496 from (Ext.trans (Ext.trans (Ext.trans (Ext.trans (Ext.trans (Ext.trans (Ext.trans (Ext.trans (Ext.trans (Ext.trans (Ext.trans (Ext.trans (grown_trans (Ext.trans (Ext.trans (grown_trans (Ext.trans (Ext.trans (grown_trans (Ext.trans (Ext.trans (Ext.trans (Ext.trans (Ext.trans (Ext.trans (Ext.trans (Ext.trans (Ext.trans (Ext.trans (Ext.trans (Ext.trans (Ext.trans (Ext.trans (Ext.trans (Ext.trans (Ext.trans (Ext.trans (Ext.trans (Ext.trans (Ext.trans (Ext.trans (Ext.trans hx4 hx7) hwL0) hwCr12) hx172) (Ext.store hx175 hx179 (by omega))) hx183) (Ext.store hx186 hx190 (by omega))) hx194) hx197) (Ext.store hx200 hx204 (by omega))) hx208) (Ext.store (Ext.store hx211 hx215 (by omega)) hx219 (by omega))) hwCr18) hx248) hx251) (Ext.store hx255 hx259 (by omega))) hx263) hx266) (Ext.store hx270 hx274 (by omega))) hx286) (Ext.store (Ext.store hx289 hx293 (by omega)) hx297 (by omega))) hx301) (Ext.store hx304 hx308 (by omega))) hx312 (fun i hi => by have := (ogX.own.lt i hi).1; omega)) hx316) (Ext.store hx319 hx323 (by omega))) hx327 (fun i hi => by have := (osX.own.lt i hi).1; omega)) hx331) (Ext.store hx334 hx338 (by omega))) hx342 (fun i hi => by have := (oeX.own.lt i hi).1; omega)) hx346) hx349) hx353) hx357) hx361) hx365) hx369) hx373) (Ext.store hx377 hx381 (by omega))) (Ext.drew _)) hx494) hx498))).size
                  refine LO.go rfl rfl (OW.enter rfl (by decide) (X.call Try.call45 (evl_cons rfl (evl_cons rfl evl_nil))) (applyK (d := d0) (n := nA) (a := aA) _ rfl cA g0 (by decide) s0 rfl in_nA ⟨(o0T).rd, sess_nil _⟩) ?_)
                  rintro v500 w499 ⟨⟨vA, uA, dA, FA, rfl, hFA, oAT, odA⟩, hx501⟩
                  have := World.grownBy.size hx501
                  refine ⟨(Ext.trans (Ext.trans (Ext.trans (Ext.drew _) hx494) hx498) hx501), ?_⟩
                  refine WO.q rfl rfl rfl rfl (fun w' hE385 => (X.move rfl)) ?_
                  refine WO.q rfl rfl rfl rfl (fun w' hE385 => (X.extract rfl rfl)) ?_
                  refine WO.q rfl rfl rfl rfl (fun w' hE385 => (X.extract rfl rfl)) ?_
                  refine WO.l ?_
                  refine LO.go rfl rfl (OW.allocO (cs := [i64 0, .slice none 0 0]) Try.zeroValue53 rfl ?_ (by decide))
                  intro g29 w502 heg29 hlg29 hO29 hx504
                  have := World.grownBy.size hx504
                  refine ⟨(Ext.trans (Ext.trans (Ext.trans (Ext.trans (Ext.drew _) hx494) hx498) hx501) hx504), ?_⟩
                  refine WO.l ?_
                  refine LO.go rfl rfl (OW.storeOA (hO28.ext (Ext.trans (Ext.trans hx498 hx501) hx504)) rfl rfl rfl (Dr.c_one _ ((oAT.ext hx504)).rng.rd (own_one ((oAT.ext hx504)).ses.own.row)) Try.sizeOf51 ?_)
                  intro w506 hO28 hx508
                  have := World.grownBy.size hx508
                  replace hO27 := (hO27.ext (Ext.trans (Ext.trans (Ext.trans (Ext.trans (Ext.drew _) hx494) hx498) hx501) hx504)).keptO hx508 (by omega)
                  replace o0T := (o0T.ext (Ext.trans hx501 hx504)).keptO hx508 (by omega)
                  replace oAT := (oAT.ext hx504).keptO hx508 (by omega)
                  replace odA := (odA.ext hx504).keptO hx508 (by omega)
                  replace hO29 := hO29.keptO hx508 (by omega)
                  replace hO28 : Blk _ _ _ (aA.1.c vA uA) := hO28
                  refine ⟨(Ext.trans (Ext.drew _) (Ext.store (Ext.trans (Ext.trans (Ext.trans hx494 hx498) hx501) hx504) hx508 (by omega))), ?_⟩
                  refine WO.nil ?_
                  refine WL.op rfl (OW.storeOA hO29 rfl rfl rfl (ones2 _ (own_one (odA).own)) Try.sizeOf53 ?_)
                  intro w510 hO29 hx512
                  have := World.grownBy.size hx512
                  replace hO27 := hO27.keptO hx512 (by omega)
                  replace hO28 := hO28.keptO hx512 (by omega)
                  replace o0T := o0T.keptO hx512 (by omega)
                  replace oAT := oAT.keptO hx512 (by omega)
                  replace odA := odA.keptO hx512 (by omega)
                  replace hO29 : Blk _ _ _ [i64 0, dA] := hO29
                  refine WL.nil ?_
                  refine thn_n ?_
                  exact ⟨_, _, _, _, _, _, rfl, rfl, (by repeat (first | exact (Agree.refl _ F383) | refine Agree.put ?_ rfl | refine Agree.sub hACr18 rfl ?_ | refine Agree.sub hACr12 rfl ?_ | refine Agree.sub hAL0 rfl ?_ | refine Agree.named hF384 ?_ | refine Agree.named hF222 ?_ | refine Agree.named hF129 ?_ | refine Agree.named hF10 ?_)), (Ext.trans (Ext.drew _) (Ext.store (Ext.store (Ext.trans (Ext.trans (Ext.trans hx494 hx498) hx501) hx504) hx508 (by omega)) hx512 (by omega))), ⟨hO28, hO29, hFA, (oAT).mono (by omega) (by omega), ownT_up odA (by omega) (by omega), by omega, by omega⟩⟩
                · refine LO.go rfl rfl (OW.allocO (cs := [i64 0, .slice none 0 0]) Try.zeroValue53 rfl ?_ (by decide))
                  intro g29 w514 heg29 hlg29 hO29 hx516
                  have := World.grownBy.size hx516
                  refine ⟨(Ext.trans (Ext.trans (Ext.trans (Ext.drew _) hx494) hx498) hx516), ?_⟩
                  refine WO.l ?_
                  have hzpA := ((show Ext w w514 from (Ext.trans (Ext.trans (Ext.trans (Ext.trans (Ext.trans (Ext.trans (Ext.trans (Ext.trans (Ext.trans (Ext.trans (Ext.trans (Ext.trans (Ext.trans (grown_trans (Ext.trans (Ext.trans (grown_trans (Ext.trans (Ext.trans (grown_trans (Ext.trans (Ext.trans (Ext.trans (Ext.trans (Ext.trans (Ext.trans (Ext.trans (Ext.trans (Ext.trans (Ext.trans (Ext.trans (Ext.trans (Ext.trans (Ext.trans (Ext.trans (Ext.trans (Ext.trans (Ext.trans (Ext.trans (Ext.trans (Ext.trans (Ext.trans (Ext.trans hx4 hx7) hwL0) hwCr12) hx172) (Ext.store hx175 hx179 (by omega))) hx183) (Ext.store hx186 hx190 (by omega))) hx194) hx197) (Ext.store hx200 hx204 (by omega))) hx208) (Ext.store (Ext.store hx211 hx215 (by omega)) hx219 (by omega))) hwCr18) hx248) hx251) (Ext.store hx255 hx259 (by omega))) hx263) hx266) (Ext.store hx270 hx274 (by omega))) hx286) (Ext.store (Ext.store hx289 hx293 (by omega)) hx297 (by omega))) hx301) (Ext.store hx304 hx308 (by omega))) hx312 (fun i hi => by have := (ogX.own.lt i hi).1; omega)) hx316) (Ext.store hx319 hx323 (by omega))) hx327 (fun i hi => by have := (osX.own.lt i hi).1; omega)) hx331) (Ext.store hx334 hx338 (by omega))) hx342 (fun i hi => by have := (oeX.own.lt i hi).1; omega)) hx346) hx349) hx353) hx357) hx361) hx365) hx369) hx373) (Ext.store hx377 hx381 (by omega))) (Ext.drew _)) hx494) hx498) hx516))).size
                  refine LO.go rfl rfl (OW.enter rfl (by decide) (X.call Try.call45 (evl_cons rfl (evl_cons rfl evl_nil))) (applyK (d := d0) (n := nA) (a := aA) _ rfl cA g0 (by decide) s0 rfl in_nA ⟨((o0T.ext hx516)).rd, sess_nil _⟩) ?_)
                  rintro v519 w518 ⟨⟨vA, uA, dA, FA, rfl, hFA, oAT, odA⟩, hx520⟩
                  have := World.grownBy.size hx520
                  refine ⟨(Ext.trans (Ext.trans (Ext.trans (Ext.trans (Ext.drew _) hx494) hx498) hx516) hx520), ?_⟩
                  refine WO.q rfl rfl rfl rfl (fun w' hE385 => (X.move rfl)) ?_
                  refine WO.q rfl rfl rfl rfl (fun w' hE385 => (X.extract rfl rfl)) ?_
                  refine WO.q rfl rfl rfl rfl (fun w' hE385 => (X.extract rfl rfl)) ?_
                  refine WO.l ?_
                  refine LO.go rfl rfl (OW.storeOA (hO28.ext (Ext.trans (Ext.trans hx498 hx516) hx520)) rfl rfl rfl (Dr.c_one _ (oAT).rng.rd (own_one (oAT).ses.own.row)) Try.sizeOf51 ?_)
                  intro w521 hO28 hx523
                  have := World.grownBy.size hx523
                  replace hO27 := (hO27.ext (Ext.trans (Ext.trans (Ext.trans (Ext.trans (Ext.drew _) hx494) hx498) hx516) hx520)).keptO hx523 (by omega)
                  replace o0T := (o0T.ext (Ext.trans hx516 hx520)).keptO hx523 (by omega)
                  replace hO29 := (hO29.ext hx520).keptO hx523 (by omega)
                  replace oAT := oAT.keptO hx523 (by omega)
                  replace odA := odA.keptO hx523 (by omega)
                  replace hO28 : Blk _ _ _ (aA.1.c vA uA) := hO28
                  refine ⟨(Ext.trans (Ext.drew _) (Ext.store (Ext.trans (Ext.trans (Ext.trans hx494 hx498) hx516) hx520) hx523 (by omega))), ?_⟩
                  refine WO.nil ?_
                  refine WL.op rfl (OW.storeOA hO29 rfl rfl rfl (ones2 _ (own_one (odA).own)) Try.sizeOf53 ?_)
                  intro w525 hO29 hx527
                  have := World.grownBy.size hx527
                  replace hO27 := hO27.keptO hx527 (by omega)
                  replace hO28 := hO28.keptO hx527 (by omega)
                  replace o0T := o0T.keptO hx527 (by omega)
                  replace oAT := oAT.keptO hx527 (by omega)
                  replace odA := odA.keptO hx527 (by omega)
                  replace hO29 : Blk _ _ _ [i64 0, dA] := hO29
                  refine WL.nil ?_
                  refine thn_n ?_
                  exact ⟨_, _, _, _, _, _, rfl, rfl, (by repeat (first | exact (Agree.refl _ F383) | refine Agree.put ?_ rfl | refine Agree.sub hACr18 rfl ?_ | refine Agree.sub hACr12 rfl ?_ | refine Agree.sub hAL0 rfl ?_ | refine Agree.named hF384 ?_ | refine Agree.named hF222 ?_ | refine Agree.named hF129 ?_ | refine Agree.named hF10 ?_)), (Ext.trans (Ext.drew _) (Ext.store (Ext.store (Ext.trans (Ext.trans (Ext.trans hx494 hx498) hx516) hx520) hx523 (by omega)) hx527 (by omega))), ⟨hO28, hO29, hFA, (oAT).mono (by omega) (by omega), ownT_up odA (by omega) (by omega), by omega, by omega⟩⟩
              · refine LO.go rfl rfl (OW.allocO (cs := [i64 0, .slice none 0 0]) Try.zeroValue53 rfl ?_ (by decide))
                intro g29 w529 heg29 hlg29 hO29 hx531
                have := World.grownBy.size hx531
                refine ⟨(Ext.trans (Ext.trans (Ext.drew _) hx494) hx531), ?_⟩
                refine WO.l ?_
                refine LO.go rfl rfl (OW.enter rfl (by decide) (X.call Try.call50 evl_nil) (two_ok _) ?_)
                rintro v534 w533 ⟨⟨v0, rfl, o0⟩, hx535⟩
                have := World.grownBy.size hx535
                refine ⟨(Ext.trans (Ext.trans (Ext.trans (Ext.drew _) hx494) hx531) hx535), ?_⟩
                have o0T := OwnT.of o0
                refine WO.q rfl rfl rfl rfl (fun w' hE385 => (X.buildF (P := Try.prog) (t := 51) (cs := (d0.c v0 nilS)) (evp_cons rfl evp_nil) Try.type51 Try.underlying51 rfl rfl (fill51a _ _ _ _ _ _ _))) ?_
                refine WO.l ?_
                have hzpA := ((show Ext w w533 from (Ext.trans (Ext.trans (Ext.trans (Ext.trans (Ext.trans (Ext.trans (Ext.trans (Ext.trans (Ext.trans (Ext.trans (Ext.trans (Ext.trans (Ext.trans (grown_trans (Ext.trans (Ext.trans (grown_trans (Ext.trans (Ext.trans (grown_trans (Ext.trans (Ext.trans (Ext.trans (Ext.trans (Ext.trans (Ext.trans (Ext.trans (Ext.trans (Ext.trans (Ext.trans (Ext.trans (Ext.trans (Ext.trans (Ext.trans (Ext.trans (Ext.trans (Ext.trans (Ext.trans (Ext.trans (Ext.trans (Ext.trans (Ext.trans (Ext.trans hx4 hx7) hwL0) hwCr12) hx172) (Ext.store hx175 hx179 (by omega))) hx183) (Ext.store hx186 hx190 (by omega))) hx194) hx197) (Ext.store hx200 hx204 (by omega))) hx208) (Ext.store (Ext.store hx211 hx215 (by omega)) hx219 (by omega))) hwCr18) hx248) hx251) (Ext.store hx255 hx259 (by omega))) hx263) hx266) (Ext.store hx270 hx274 (by omega))) hx286) (Ext.store (Ext.store hx289 hx293 (by omega)) hx297 (by omega))) hx301) (Ext.store hx304 hx308 (by omega))) hx312 (fun i hi => by have := (ogX.own.lt i hi).1; omega)) hx316) (Ext.store hx319 hx323 (by omega))) hx327 (fun i hi => by have := (osX.own.lt i hi).1; omega)) hx331) (Ext.store hx334 hx338 (by omega))) hx342 (fun i hi => by have := (oeX.own.lt i hi).1; omega)) hx346) hx349) hx353) hx357) hx361) hx365) hx369) hx373) (Ext.store hx377 hx381 (by omega))) (Ext.drew _)) hx494) hx531) hx535))).size
                refine LO.go rfl rfl (OW.enter rfl (by decide) (X.call Try.call45 (evl_cons rfl (evl_cons rfl evl_nil))) (applyK (d := d0) (n := nA) (a := aA) _ rfl cA g0 (by decide) s0 rfl in_nA ⟨(o0T).rd, sess_nil _⟩) ?_)
                rintro v537 w536 ⟨⟨vA, uA, dA, FA, rfl, hFA, oAT, odA⟩, hx538⟩
                have := World.grownBy.size hx538
                refine ⟨(Ext.trans (Ext.trans (Ext.trans (Ext.trans (Ext.drew _) hx494) hx531) hx535) hx538), ?_⟩
                refine WO.q rfl rfl rfl rfl (fun w' hE385 => (X.move rfl)) ?_
                refine WO.q rfl rfl rfl rfl (fun w' hE385 => (X.extract rfl rfl)) ?_
                refine WO.q rfl rfl rfl rfl (fun w' hE385 => (X.extract rfl rfl)) ?_
                refine WO.l ?_
                refine LO.go rfl rfl (OW.storeOA (hO28.ext (Ext.trans (Ext.trans hx531 hx535) hx538)) rfl rfl rfl (Dr.c_one _ (oAT).rng.rd (own_one (oAT).ses.own.row)) Try.sizeOf51 ?_)
                intro w539 hO28 hx541
                have := World.grownBy.size hx541
                replace hO27 := (hO27.ext (Ext.trans (Ext.trans (Ext.trans (Ext.trans (Ext.drew _) hx494) hx531) hx535) hx538)).keptO hx541 (by omega)
                replace hO29 := (hO29.ext (Ext.trans hx535 hx538)).keptO hx541 (by omega)
                replace o0T := (o0T.ext hx538).keptO hx541 (by omega)
                replace oAT := oAT.keptO hx541 (by omega)
                replace odA := odA.keptO hx541 (by omega)
                replace hO28 : Blk _ _ _ (aA.1.c vA uA) := hO28
                refine ⟨(Ext.trans (Ext.drew _) (Ext.store (Ext.trans (Ext.trans (Ext.trans hx494 hx531) hx535) hx538) hx541 (by omega))), ?_⟩
                refine WO.nil ?_
                refine WL.op rfl (OW.storeOA hO29 rfl rfl rfl (ones2 _ (own_one (odA).own)) Try.sizeOf53 ?_)
                intro w543 hO29 hx545
                have := World.grownBy.size hx545
                replace hO27 := hO27.keptO hx545 (by omega)
                replace hO28 := hO28.keptO hx545 (by omega)
                replace o0T := o0T.keptO hx545 (by omega)
                replace oAT := oAT.keptO hx545 (by omega)
                replace odA := odA.keptO hx545 (by omega)
                replace hO29 : Blk _ _ _ [i64 0, dA] := hO29
                refine WL.nil ?_
                refine thn_n ?_
                exact ⟨_, _, _, _, _, _, rfl, rfl, (by repeat (first | exact (Agree.refl _ F383) | refine Agree.put ?_ rfl | refine Agree.sub hACr18 rfl ?_ | refine Agree.sub hACr12 rfl ?_ | refine Agree.sub hAL0 rfl ?_ | refine Agree.named hF384 ?_ | refine Agree.named hF222 ?_ | refine Agree.named hF129 ?_ | refine Agree.named hF10 ?_)), (Ext.trans (Ext.drew _) (Ext.store (Ext.store (Ext.trans (Ext.trans (Ext.trans hx494 hx531) hx535) hx538) hx541 (by omega)) hx545 (by omega))), ⟨hO28, hO29, hFA, (oAT).mono (by omega) (by omega), ownT_up odA (by omega) (by omega), by omega, by omega⟩⟩
            · refine LO.go rfl rfl (OW.allocO (cs := [i64 0, .slice none 0 0]) Try.zeroValue53 rfl ?_ (by decide))
              intro g29 w547 heg29 hlg29 hO29 hx549
              have := World.grownBy.size hx549
              refine ⟨(Ext.trans (Ext.drew _) hx549), ?_⟩
              refine WO.b2 ?_ ?_
              · refine LO.go rfl rfl (OW.enter rfl (by decide) (X.call Try.call50 evl_nil) (two_ok _) ?_)
                rintro v552 w551 ⟨⟨v0, rfl, o0⟩, hx553⟩
                have := World.grownBy.size hx553
                refine ⟨(Ext.trans (Ext.trans (Ext.drew _) hx549) hx553), ?_⟩
                have o0T := OwnT.of o0
                refine WO.q rfl rfl rfl rfl (fun w' hE385 => (X.buildF (P := Try.prog) (t := 51) (cs := (d0.c v0 nilS)) (evp_cons rfl evp_nil) Try.type51 Try.underlying51 rfl rfl (fill51a _ _ _ _ _ _ _))) ?_
                refine WO.b2 ?_ ?_
                · have hzpA := ((show Ext w w551 from (Ext.trans (Ext.trans (Ext.trans (Ext.trans (Ext.trans (Ext.trans (Ext.trans (Ext.trans (Ext.trans (Ext.trans (Ext.trans (Ext.trans (grown_trans (Ext.trans (Ext.trans (grown_trans (Ext.trans (Ext.trans (grown_trans (Ext.trans (Ext.trans (Ext.trans (Ext.trans (Ext.trans (Ext.trans (Ext.trans (Ext.trans (Ext.trans (Ext.trans (Ext.trans (Ext.trans (Ext.trans (Ext.trans (Ext.trans (Ext.trans (Ext.trans (Ext.trans (Ext.trans (Ext.trans (Ext.trans (Ext.trans (Ext.trans hx4 hx7) hwL0) hwCr12) hx172) (Ext.store hx175 hx179 (by omega))) hx183) (Ext.store hx186 hx190 (by omega))) hx194) hx197) (Ext.store hx200 hx204 (by omega))) hx208) (Ext.store (Ext.store hx211 hx215 (by omega)) hx219 (by omega))) hwCr18) hx248) hx251) (Ext.store hx255 hx259 (by omega))) hx263) hx266) (Ext.store hx270 hx274 (by omega))) hx286) (Ext.store (Ext.store hx289 hx293 (by omega)) hx297 (by omega))) hx301) (Ext.store hx304 hx308 (by omega))) hx312 (fun i hi => by have := (ogX.own.lt i hi).1; omega)) hx316) (Ext.store hx319 hx323 (by omega))) hx327 (fun i hi => by have := (osX.own.lt i hi).1; omega)) hx331) (Ext.store hx334 hx338 (by omega))) hx342 (fun i hi => by have := (oeX.own.lt i hi).1; omega)) hx346) hx349) hx353) hx357) hx361) hx365) hx369) hx373) (Ext.store hx377 hx381 (by omega))) (Ext.drew _)) hx549) hx553))).size
                  refine LO.go rfl rfl (OW.enter rfl (by decide) (X.call Try.call45 (evl_cons rfl (evl_cons rfl evl_nil))) (applyK (d := d0) (n := nA) (a := aA) _ rfl cA g0 (by decide) s0 rfl in_nA ⟨(o0T).rd, sess_nil _⟩) ?_)
                  rintro v555 w554 ⟨⟨vA, uA, dA, FA, rfl, hFA, oAT, odA⟩, hx556⟩
                  have := World.grownBy.size hx556
                  refine ⟨(Ext.trans (Ext.trans (Ext.trans (Ext.drew _) hx549) hx553) hx556), ?_⟩
                  refine WO.q rfl rfl rfl rfl (fun w' hE385 => (X.move rfl)) ?_
                  refine WO.q rfl rfl rfl rfl (fun w' hE385 => (X.extract rfl rfl)) ?_
                  refine WO.q rfl rfl rfl rfl (fun w' hE385 => (X.extract rfl rfl)) ?_
                  refine WO.l ?_
                  refine LO.go rfl rfl (OW.allocO (cs := [.slice none 0 0, i64 0, i64 0, i64 0, i64 0, i64 0, i64 0, .slice none 0 0]) Try.zeroValue51 rfl ?_ (by decide))
                  intro g28 w557 heg28 hlg28 hO28 hx559
                  have := World.grownBy.size hx559
                  refine ⟨(Ext.trans (Ext.trans (Ext.trans (Ext.trans (Ext.drew _) hx549) hx553) hx556) hx559), ?_⟩
                  refine WO.l ?_
                  refine LO.go rfl rfl (OW.storeOA hO28 rfl rfl rfl (Dr.c_one _ ((oAT.ext hx559)).rng.rd (own_one ((oAT.ext hx559)).ses.own.row)) Try.sizeOf51 ?_)
                  intro w561 hO28 hx563
                  have := World.grownBy.size hx563
                  replace hO27 := (hO27.ext (Ext.trans (Ext.trans (Ext.trans (Ext.trans (Ext.drew _) hx549) hx553) hx556) hx559)).keptO hx563 (by omega)
                  replace hO29 := (hO29.ext (Ext.trans (Ext.trans hx553 hx556) hx559)).keptO hx563 (by omega)
                  replace o0T := (o0T.ext (Ext.trans hx556 hx559)).keptO hx563 (by omega)
                  replace oAT := (oAT.ext hx559).keptO hx563 (by omega)
                  replace odA := (odA.ext hx559).keptO hx563 (by omega)
                  replace hO28 : Blk _ _ _ (aA.1.c vA uA) := hO28
                  refine ⟨(Ext.trans (Ext.trans (Ext.trans (Ext.trans (Ext.drew _) hx549) hx553) hx556) (Ext.store hx559 hx563 (by omega))), ?_⟩
                  refine WO.nil ?_
                  refine WL.op rfl (OW.storeOA hO29 rfl rfl rfl (ones2 _ (own_one (odA).own)) Try.sizeOf53 ?_)
                  intro w565 hO29 hx567
                  have := World.grownBy.size hx567
                  replace hO27 := hO27.keptO hx567 (by omega)
                  replace o0T := o0T.keptO hx567 (by omega)
                  replace oAT := oAT.keptO hx567 (by omega)
                  replace odA := odA.keptO hx567 (by omega)
                  replace hO28 := hO28.keptO hx567 (by omega)
                  replace hO29 : Blk _ _ _ [i64 0, dA] := hO29
                  refine WL.nil ?_
                  refine thn_n ?_
                  exact ⟨_, _, _, _, _, _, rfl, rfl, (by repeat (first | exact (Agree.refl _ F383) | refine Agree.put ?_ rfl | refine Agree.sub hACr18 rfl ?_ | refine Agree.sub hACr12 rfl ?_ | refine Agree.sub hAL0 rfl ?_ | refine Agree.named hF384 ?_ | refine Agree.named hF222 ?_ | refine Agree.named hF129 ?_ | refine Agree.named hF10 ?_)), (Ext.trans (Ext.drew _) (Ext.store (Ext.trans (Ext.trans (Ext.trans hx549 hx553) hx556) (Ext.store hx559 hx563 (by omega))) hx567 (by omega))), ⟨hO28, hO29, hFA, (oAT).mono (by omega) (by omega), ownT_up odA (by omega) (by omega), by omega, by omega⟩⟩
                · refine LO.go rfl rfl (OW.allocO (cs := [.slice none 0 0, i64 0, i64 0, i64 0, i64 0, i64 0, i64 0, .slice none 0 0]) Try.zeroValue51 rfl ?_ (by decide))
                  intro g28 w569 heg28 hlg28 hO28 hx571
                  have := World.grownBy.size hx571
                  refine ⟨(Ext.trans (Ext.trans (Ext.trans (Ext.drew _) hx549) hx553) hx571), ?_⟩
                  refine WO.l ?_
                  have hzpA := ((show Ext w w569 from (Ext.trans (Ext.trans (Ext.trans (Ext.trans (Ext.trans (Ext.trans (Ext.trans (Ext.trans (Ext.trans (Ext.trans (Ext.trans (Ext.trans (Ext.trans (grown_trans (Ext.trans (Ext.trans (grown_trans (Ext.trans (Ext.trans (grown_trans (Ext.trans (Ext.trans (Ext.trans (Ext.trans (Ext.trans (Ext.trans (Ext.trans (Ext.trans (Ext.trans (Ext.trans (Ext.trans (Ext.trans (Ext.trans (Ext.trans (Ext.trans (Ext.trans (Ext.trans (Ext.trans (Ext.trans (Ext.trans (Ext.trans (Ext.trans (Ext.trans hx4 hx7) hwL0) hwCr12) hx172) (Ext.store hx175 hx179 (by omega))) hx183) (Ext.store hx186 hx190 (by omega))) hx194) hx197) (Ext.store hx200 hx204 (by omega))) hx208) (Ext.store (Ext.store hx211 hx215 (by omega)) hx219 (by omega))) hwCr18) hx248) hx251) (Ext.store hx255 hx259 (by omega))) hx263) hx266) (Ext.store hx270 hx274 (by omega))) hx286) (Ext.store (Ext.store hx289 hx293 (by omega)) hx297 (by omega))) hx301) (Ext.store hx304 hx308 (by omega))) hx312 (fun i hi => by have := (ogX.own.lt i hi).1; omega)) hx316) (Ext.store hx319 hx323 (by omega))) hx327 (fun i hi => by have := (osX.own.lt i hi).1; omega)) hx331) (Ext.store hx334 hx338 (by omega))) hx342 (fun i hi => by have := (oeX.own.lt i hi).1; omega)) hx346) hx349) hx353) hx357) hx361) hx365) hx369) hx373) (Ext.store hx377 hx381 (by omega))) (Ext.drew _)) hx549) hx553) hx571))).size
                  refine LO.go rfl rfl (OW.enter rfl (by decide) (X.call Try.call45 (evl_cons rfl (evl_cons rfl evl_nil))) (applyK (d := d0) (n := nA) (a := aA) _ rfl cA g0 (by decide) s0 rfl in_nA ⟨((o0T.ext hx571)).rd, sess_nil _⟩) ?_)
                  rintro v574 w573 ⟨⟨vA, uA, dA, FA, rfl, hFA, oAT, odA⟩, hx575⟩
                  have := World.grownBy.size hx575
                  refine ⟨(Ext.trans (Ext.trans (Ext.trans (Ext.trans (Ext.drew _) hx549) hx553) hx571) hx575), ?_⟩
                  refine WO.q rfl rfl rfl rfl (fun w' hE385 => (X.move rfl)) ?_
                  refine WO.q rfl rfl rfl rfl (fun w' hE385 => (X.extract rfl rfl)) ?_
                  refine WO.q rfl rfl rfl rfl (fun w' hE385 => (X.extract rfl rfl)) ?_
                  refine WO.l ?_
                  refine LO.go rfl rfl (OW.storeOA (hO28.ext hx575) rfl rfl rfl (Dr.c_one _ (oAT).rng.rd (own_one (oAT).ses.own.row)) Try.sizeOf51 ?_)
                  intro w576 hO28 hx578
                  have := World.grownBy.size hx578
                  replace hO27 := (hO27.ext (Ext.trans (Ext.trans (Ext.trans (Ext.trans (Ext.drew _) hx549) hx553) hx571) hx575)).keptO hx578 (by omega)
                  replace hO29 := (hO29.ext (Ext.trans (Ext.trans hx553 hx571) hx575)).keptO hx578 (by omega)
                  replace o0T := (o0T.ext (Ext.trans hx571 hx575)).keptO hx578 (by omega)
                  replace oAT := oAT.keptO hx578 (by omega)
                  replace odA := odA.keptO hx578 (by omega)
                  replace hO28 : Blk _ _ _ (aA.1.c vA uA) := hO28
                  refine ⟨(Ext.trans (Ext.trans (Ext.trans (Ext.drew _) hx549) hx553) (Ext.store (Ext.trans hx571 hx575) hx578 (by omega))), ?_⟩
                  refine WO.nil ?_
                  refine WL.op rfl (OW.storeOA hO29 rfl rfl rfl (ones2 _ (own_one (odA).own)) Try.sizeOf53 ?_)
                  intro w580 hO29 hx582
                  have := World.grownBy.size hx582
                  replace hO27 := hO27.keptO hx582 (by omega)
                  replace o0T := o0T.keptO hx582 (by omega)
                  replace hO28 := hO28.keptO hx582 (by omega)
                  replace oAT := oAT.keptO hx582 (by omega)
                  replace odA := odA.keptO hx582 (by omega)
                  replace hO29 : Blk _ _ _ [i64 0, dA] := hO29
                  refine WL.nil ?_
                  refine thn_n ?_
                  exact ⟨_, _, _, _, _, _, rfl, rfl, (by repeat (first | exact (Agree.refl _ F383) | refine Agree.put ?_ rfl | refine Agree.sub hACr18 rfl ?_ | refine Agree.sub hACr12 rfl ?_ | refine Agree.sub hAL0 rfl ?_ | refine Agree.named hF384 ?_ | refine Agree.named hF222 ?_ | refine Agree.named hF129 ?_ | refine Agree.named hF10 ?_)), (Ext.trans (Ext.drew _) (Ext.store (Ext.trans (Ext.trans hx549 hx553) (Ext.store (Ext.trans hx571 hx575) hx578 (by omega))) hx582 (by omega))), ⟨hO28, hO29, hFA, (oAT).mono (by omega) (by omega), ownT_up odA (by omega) (by omega), by omega, by omega⟩⟩
              · refine LO.go rfl rfl (OW.allocO (cs := [.slice none 0 0, i64 0, i64 0, i64 0, i64 0, i64 0, i64 0, .slice none 0 0]) Try.zeroValue51 rfl ?_ (by decide))
                intro g28 w584 heg28 hlg28 hO28 hx586
                have := World.grownBy.size hx586
                refine ⟨(Ext.trans (Ext.trans (Ext.drew _) hx549) hx586), ?_⟩
                refine WO.l ?_
                refine LO.go rfl rfl (OW.enter rfl (by decide) (X.call Try.call50 evl_nil) (two_ok _) ?_)
                rintro v589 w588 ⟨⟨v0, rfl, o0⟩, hx590⟩
                have := World.grownBy.size hx590
                refine ⟨(Ext.trans (Ext.trans (Ext.trans (Ext.drew _) hx549) hx586) hx590), ?_⟩
                have o0T := OwnT.of o0
                refine WO.q rfl rfl rfl rfl (fun w' hE385 => (X.buildF (P := Try.prog) (t := 51) (cs := (d0.c v0 nilS)) (evp_cons rfl evp_nil) Try.type51 Try.underlying51 rfl rfl (fill51a _ _ _ _ _ _ _))) ?_
                refine WO.l ?_
                have hzpA := ((show Ext w w588 from (Ext.trans (Ext.trans (Ext.trans (Ext.trans (Ext.trans (Ext.trans (Ext.trans (Ext.trans (Ext.trans (Ext.trans (Ext.trans (Ext.trans (Ext.trans (grown_trans (Ext.trans (Ext.trans (grown_trans (Ext.trans (Ext.trans (grown_trans (Ext.trans (Ext.trans (Ext.trans (Ext.trans (Ext.trans (Ext.trans (Ext.trans (Ext.trans (Ext.trans (Ext.trans (Ext.trans (Ext.trans (Ext.trans (Ext.trans (Ext.trans (Ext.trans (Ext.trans (Ext.trans (Ext.trans (Ext.trans (Ext.trans (Ext.trans (Ext.trans hx4 hx7) hwL0) hwCr12) hx172) (Ext.store hx175 hx179 (by omega))) hx183) (Ext.store hx186 hx190 (by omega))) hx194) hx197) (Ext.store hx200 hx204 (by omega))) hx208) (Ext.store (Ext.store hx211 hx215 (by omega)) hx219 (by omega))) hwCr18) hx248) hx251) (Ext.store hx255 hx259 (by omega))) hx263) hx266) (Ext.store hx270 hx274 (by omega))) hx286) (Ext.store (Ext.store hx289 hx293 (by omega)) hx297 (by omega))) hx301) (Ext.store hx304 hx308 (by omega))) hx312 (fun i hi => by have := (ogX.own.lt i hi).1; omega)) hx316) (Ext.store hx319 hx323 (by omega))) hx327 (fun i hi => by have := (osX.own.lt i hi).1; omega)) hx331) (Ext.store hx334 hx338 (by omega))) hx342 (fun i hi => by have := (oeX.own.lt i hi).1; omega)) hx346) hx349) hx353) hx357) hx361) hx365) hx369) hx373) (Ext.store hx377 hx381 (by omega))) (Ext.drew _)) hx549) hx586) hx590))).size
                refine LO.go rfl rfl (OW.enter rfl (by decide) (X.call Try.call45 (evl_cons rfl (evl_cons rfl evl_nil))) (applyK (d := d0) (n := nA) (a := aA) _ rfl cA g0 (by decide) s0 rfl in_nA ⟨(o0T).rd, sess_nil _⟩) ?_)
                rintro v592 w591 ⟨⟨vA, uA, dA, FA, rfl, hFA, oAT, odA⟩, hx593⟩
                have := World.grownBy.size hx593
                refine ⟨(Ext.trans (Ext.trans (Ext.trans (Ext.trans (Ext.drew _) hx549) hx586) hx590) hx593), ?_⟩
                refine WO.q rfl rfl rfl rfl (fun w' hE385 => (X.move rfl)) ?_
                refine WO.q rfl rfl rfl rfl (fun w' hE385 => (X.extract rfl rfl)) ?_
                refine WO.q rfl rfl rfl rfl (fun w' hE385 => (X.extract rfl rfl)) ?_
                refine WO.l ?_
                refine LO.go rfl rfl (OW.storeOA (hO28.ext (Ext.trans hx590 hx593)) rfl rfl rfl (Dr.c_one _ (oAT).rng.rd (own_one (oAT).ses.own.row)) Try.sizeOf51 ?_)
                intro w594 hO28 hx596
                have := World.grownBy.size hx596
                replace hO27 := (hO27.ext (Ext.trans (Ext.trans (Ext.trans (Ext.trans (Ext.drew _) hx549) hx586) hx590) hx593)).keptO hx596 (by omega)
                replace hO29 := (hO29.ext (Ext.trans (Ext.trans hx586 hx590) hx593)).keptO hx596 (by omega)
                replace o0T := (o0T.ext hx593).keptO hx596 (by omega)
                replace oAT := oAT.keptO hx596 (by omega)
                replace odA := odA.keptO hx596 (by omega)
                replace hO28 : Blk _ _ _ (aA.1.c vA uA) := hO28
                refine ⟨(Ext.trans (Ext.trans (Ext.drew _) hx549) (Ext.store (Ext.trans (Ext.trans hx586 hx590) hx593) hx596 (by omega))), ?_⟩
                refine WO.nil ?_
                refine WL.op rfl (OW.storeOA hO29 rfl rfl rfl (ones2 _ (own_one (odA).own)) Try.sizeOf53 ?_)
                intro w598 hO29 hx600
                have := World.grownBy.size hx600
                replace hO27 := hO27.keptO hx600 (by omega)
                replace hO28 := hO28.keptO hx600 (by omega)
                replace o0T := o0T.keptO hx600 (by omega)
                replace oAT := oAT.keptO hx600 (by omega)
                replace odA := odA.keptO hx600 (by omega)
                replace hO29 : Blk _ _ _ [i64 0, dA] := hO29
                refine WL.nil ?_
                refine thn_n ?_
                exact ⟨_, _, _, _, _, _, rfl, rfl, (by repeat (first | exact (Agree.refl _ F383) | refine Agree.put ?_ rfl | refine Agree.sub hACr18 rfl ?_ | refine Agree.sub hACr12 rfl ?_ | refine Agree.sub hAL0 rfl ?_ | refine Agree.named hF384 ?_ | refine Agree.named hF222 ?_ | refine Agree.named hF129 ?_ | refine Agree.named hF10 ?_)), (Ext.trans (Ext.drew _) (Ext.store (Ext.trans hx549 (Ext.store (Ext.trans (Ext.trans hx586 hx590) hx593) hx596 (by omega))) hx600 (by omega))), ⟨hO28, hO29, hFA, (oAT).mono (by omega) (by omega), ownT_up odA (by omega) (by omega), by omega, by omega⟩⟩
          · rintro fCr34 wCr34 ⟨g28, g29, vA, uA, dA, FA, e28_Cr34, e29_Cr34, hACr34, hwCr34, ⟨hO28, hO29, hFA, oAT, odA, hg28, hg29⟩⟩
            have := World.grownBy.size hwCr34
            have qqhO28 := hO28.lt
            have qqhO29 := hO29.lt
            refine WF.seq ?_
            refine WF.region ?_
            refine WL.va rfl rfl rfl (X.loadOA hO28 (Ext.refl _) e28_Cr34 rfl Try.isAgg51 Try.sizeOf51) ?_
            refine WL.va rfl rfl rfl (X.buildT (P := Try.prog) (t := 72) (cs := (Op.oc nB nilS nilS nilS nilS)) (zs := [i64 0, i64 0, i64 0, i64 0, i64 0, i64 0, i64 0, i64 0, i64 0, i64 0, i64 0, i64 0, i64 0, .slice none 0 0, .slice none 0 0, .slice none 0 0, .slice none 0 0]) (places := [(0, 1), (1, 1), (2, 1), (3, 1), (4, 1), (5, 1), (6, 1), (7, 1), (8, 1), (9, 1), (10, 1), (11, 1), (12, 1), (13, 1), (14, 1), (15, 1), (16, 1)]) (n := 17) (evp_cons rfl (evp_cons rfl (evp_cons rfl (evp_cons rfl (evp_cons rfl (evp_cons rfl (evp_cons rfl evp_nil))))))) Try.type72 Try.underlying72 rfl rfl ⟨rfl, rfl, rfl, rfl, rfl, rfl, rfl, trivial⟩ rfl rfl rfl) ?_
            have hzpB := ((show Ext w wCr34 from (Ext.trans (Ext.trans (Ext.trans (Ext.trans (Ext.trans (Ext.trans (Ext.trans (Ext.trans (Ext.trans (Ext.trans (grown_trans (Ext.trans (Ext.trans (grown_trans (Ext.trans (Ext.trans (grown_trans (Ext.trans (Ext.trans (Ext.trans (Ext.trans (Ext.trans (Ext.trans (Ext.trans (Ext.trans (Ext.trans (Ext.trans (Ext.trans (Ext.trans (Ext.trans (Ext.trans (Ext.trans (Ext.trans (Ext.trans (Ext.trans (Ext.trans (Ext.trans (Ext.trans (Ext.trans (Ext.trans hx4 hx7) hwL0) hwCr12) hx172) (Ext.store hx175 hx179 (by omega))) hx183) (Ext.store hx186 hx190 (by omega))) hx194) hx197) (Ext.store hx200 hx204 (by omega))) hx208) (Ext.store (Ext.store hx211 hx215 (by omega)) hx219 (by omega))) hwCr18) hx248) hx251) (Ext.store hx255 hx259 (by omega))) hx263) hx266) (Ext.store hx270 hx274 (by omega))) hx286) (Ext.store (Ext.store hx289 hx293 (by omega)) hx297 (by omega))) hx301) (Ext.store hx304 hx308 (by omega))) hx312 (fun i hi => by have := (ogX.own.lt i hi).1; omega)) hx316) (Ext.store hx319 hx323 (by omega))) hx327 (fun i hi => by have := (osX.own.lt i hi).1; omega)) hx331) (Ext.store hx334 hx338 (by omega))) hx342 (fun i hi => by have := (oeX.own.lt i hi).1; omega)) hx346) hx349) hx353) hx357) hx361) hx365) hx369) hx373) (Ext.store hx377 hx381 (by omega))) hwCr34))).size
            refine WL.c rfl rfl rfl (X.call Try.call45 (evl_cons rfl (evl_cons rfl evl_nil))) (applyK (d := aA.1) (n := nB) (a := aB) _ rfl cB gA (Nat.le_trans lA (by decide)) sA rfl in_nB ((oAT).at hFA)) ?_
            rintro v603 w602 ⟨⟨vB, uB, dB, FB, rfl, hFB, oBT, odB⟩, hx604⟩
            have := World.grownBy.size hx604
            refine WL.va rfl rfl rfl (X.move rfl) ?_
            refine WL.va rfl rfl rfl (X.extract rfl rfl) ?_
            refine WL.va rfl rfl rfl (X.extract rfl rfl) ?_
            refine WL.op rfl (OW.allocO (cs := [.slice none 0 0, i64 0, i64 0, i64 0, i64 0, i64 0, i64 0, .slice none 0 0]) Try.zeroValue51 rfl ?_ (by decide))
            intro g30 w605 heg30 hlg30 hO30 hx607
            have := World.grownBy.size hx607
            refine WL.op rfl (OW.allocO (cs := [i64 0, .slice none 0 0]) Try.zeroValue53 rfl ?_ (by decide))
            intro g31 w609 heg31 hlg31 hO31 hx611
            have := World.grownBy.size hx611
            refine WL.op rfl (OW.storeOA (hO30.ext hx611) rfl rfl rfl (Dr.c_one _ ((oBT.ext (Ext.trans hx607 hx611))).rng.rd (own_one ((oBT.ext (Ext.trans hx607 hx611))).ses.own.row)) Try.sizeOf51 ?_)
            intro w613 hO30 hx615
            have := World.grownBy.size hx615
            replace hO27 := (hO27.ext (Ext.trans (Ext.trans (Ext.trans hwCr34 hx604) hx607) hx611)).keptO hx615 (by omega)
            replace hO28 := (hO28.ext (Ext.trans (Ext.trans hx604 hx607) hx611)).keptO hx615 (by omega)
            replace hO29 := (hO29.ext (Ext.trans (Ext.trans hx604 hx607) hx611)).keptO hx615 (by omega)
            replace oAT := (oAT.ext (Ext.trans (Ext.trans hx604 hx607) hx611)).keptO hx615 (by omega)
            replace odA := (odA.ext (Ext.trans (Ext.trans hx604 hx607) hx611)).keptO hx615 (by omega)
            replace oBT := (oBT.ext (Ext.trans hx607 hx611)).keptO hx615 (by omega)
            replace odB := (odB.ext (Ext.trans hx607 hx611)).keptO hx615 (by omega)
            replace hO31 := hO31.keptO hx615 (by omega)
            replace hO30 : Blk _ _ _ (aB.1.c vB uB) := hO30
            refine WL.op rfl (OW.storeOA hO31 rfl rfl rfl (ones2 _ (own_one (odB).own)) Try.sizeOf53 ?_)
            intro w617 hO31 hx619
            have := World.grownBy.size hx619
            replace hO27 := hO27.keptO hx619 (by omega)
            replace hO28 := hO28.keptO hx619 (by omega)
            replace hO29 := hO29.keptO hx619 (by omega)
            replace oAT := oAT.keptO hx619 (by omega)
            replace odA := odA.keptO hx619 (by omega)
            replace oBT := oBT.keptO hx619 (by omega)
            replace odB := odB.keptO hx619 (by omega)
            replace hO30 := hO30.keptO hx619 (by omega)
            replace hO31 : Blk _ _ _ [i64 0, dB] := hO31
            refine WL.nil ?_
            refine thn_n ?_
            refine WF.seq ?_
            refine WF.region ?_
            refine WL.va rfl rfl rfl (X.loadOA hO28 (Ext.refl _) e28_Cr34 rfl Try.isAgg51 Try.sizeOf51) ?_
            refine WL.va rfl rfl rfl (X.buildT (P := Try.prog) (t := 72) (cs := (Op.oc nC nilS nilS nilS nilS)) (zs := [i64 0, i64 0, i64 0, i64 0, i64 0, i64 0, i64 0, i64 0, i64 0, i64 0, i64 0, i64 0, i64 0, .slice none 0 0, .slice none 0 0, .slice none 0 0, .slice none 0 0]) (places := [(0, 1), (1, 1), (2, 1), (3, 1), (4, 1), (5, 1), (6, 1), (7, 1), (8, 1), (9, 1), (10, 1), (11, 1), (12, 1), (13, 1), (14, 1), (15, 1), (16, 1)]) (n := 17) (evp_cons rfl (evp_cons rfl (evp_cons rfl (evp_cons rfl (evp_cons rfl (evp_cons rfl (evp_cons rfl evp_nil))))))) Try.type72 Try.underlying72 rfl rfl ⟨rfl, rfl, rfl, rfl, rfl, rfl, rfl, trivial⟩ rfl rfl rfl) ?_
            have hzpC := ((show Ext w w617 from (Ext.trans (Ext.trans (Ext.trans (Ext.trans (Ext.trans (Ext.trans (Ext.trans (Ext.trans (Ext.trans (Ext.trans (Ext.trans (Ext.trans (grown_trans (Ext.trans (Ext.trans (grown_trans (Ext.trans (Ext.trans (grown_trans (Ext.trans (Ext.trans (Ext.trans (Ext.trans (Ext.trans (Ext.trans (Ext.trans (Ext.trans (Ext.trans (Ext.trans (Ext.trans (Ext.trans (Ext.trans (Ext.trans (Ext.trans (Ext.trans (Ext.trans (Ext.trans (Ext.trans (Ext.trans (Ext.trans (Ext.trans (Ext.trans hx4 hx7) hwL0) hwCr12) hx172) (Ext.store hx175 hx179 (by omega))) hx183) (Ext.store hx186 hx190 (by omega))) hx194) hx197) (Ext.store hx200 hx204 (by omega))) hx208) (Ext.store (Ext.store hx211 hx215 (by omega)) hx219 (by omega))) hwCr18) hx248) hx251) (Ext.store hx255 hx259 (by omega))) hx263) hx266) (Ext.store hx270 hx274 (by omega))) hx286) (Ext.store (Ext.store hx289 hx293 (by omega)) hx297 (by omega))) hx301) (Ext.store hx304 hx308 (by omega))) hx312 (fun i hi => by have := (ogX.own.lt i hi).1; omega)) hx316) (Ext.store hx319 hx323 (by omega))) hx327 (fun i hi => by have := (osX.own.lt i hi).1; omega)) hx331) (Ext.store hx334 hx338 (by omega))) hx342 (fun i hi => by have := (oeX.own.lt i hi).1; omega)) hx346) hx349) hx353) hx357) hx361) hx365) hx369) hx373) (Ext.store hx377 hx381 (by omega))) hwCr34) hx604) (Ext.store (Ext.store (Ext.trans hx607 hx611) hx615 (by omega)) hx619 (by omega))))).size
            refine WL.c rfl rfl rfl (X.call Try.call45 (evl_cons rfl (evl_cons rfl evl_nil))) (applyK (d := aA.1) (n := nC) (a := aC) _ rfl cC gA (Nat.le_trans lA (by decide)) sA rfl in_nC ((oAT).at hFA)) ?_
            rintro v622 w621 ⟨⟨vC, uC, dC, FC, rfl, hFC, oCT, odC⟩, hx623⟩
            have := World.grownBy.size hx623
            refine WL.va rfl rfl rfl (X.move rfl) ?_
            refine WL.va rfl rfl rfl (X.extract rfl rfl) ?_
            refine WL.va rfl rfl rfl (X.extract rfl rfl) ?_
            refine WL.op rfl (OW.allocO (cs := [.slice none 0 0, i64 0, i64 0, i64 0, i64 0, i64 0, i64 0, .slice none 0 0]) Try.zeroValue51 rfl ?_ (by decide))
            intro g32 w624 heg32 hlg32 hO32 hx626
            have := World.grownBy.size hx626
            refine WL.op rfl (OW.allocO (cs := [i64 0, .slice none 0 0]) Try.zeroValue53 rfl ?_ (by decide))
            intro g33 w628 heg33 hlg33 hO33 hx630
            have := World.grownBy.size hx630
            refine WL.op rfl (OW.storeOA (hO32.ext hx630) rfl rfl rfl (Dr.c_one _ ((oCT.ext (Ext.trans hx626 hx630))).rng.rd (own_one ((oCT.ext (Ext.trans hx626 hx630))).ses.own.row)) Try.sizeOf51 ?_)
            intro w632 hO32 hx634
            have := World.grownBy.size hx634
            replace hO27 := (hO27.ext (Ext.trans (Ext.trans hx623 hx626) hx630)).keptO hx634 (by omega)
            replace hO28 := (hO28.ext (Ext.trans (Ext.trans hx623 hx626) hx630)).keptO hx634 (by omega)
            replace hO29 := (hO29.ext (Ext.trans (Ext.trans hx623 hx626) hx630)).keptO hx634 (by omega)
            replace oAT := (oAT.ext (Ext.trans (Ext.trans hx623 hx626) hx630)).keptO hx634 (by omega)
            replace odA := (odA.ext (Ext.trans (Ext.trans hx623 hx626) hx630)).keptO hx634 (by omega)
            replace oBT := (oBT.ext (Ext.trans (Ext.trans hx623 hx626) hx630)).keptO hx634 (by omega)
            replace odB := (odB.ext (Ext.trans (Ext.trans hx623 hx626) hx630)).keptO hx634 (by omega)
            replace hO30 := (hO30.ext (Ext.trans (Ext.trans hx623 hx626) hx630)).keptO hx634 (by omega)
            replace hO31 := (hO31.ext (Ext.trans (Ext.trans hx623 hx626) hx630)).keptO hx634 (by omega)
            replace oCT := (oCT.ext (Ext.trans hx626 hx630)).keptO hx634 (by omega)
            replace odC := (odC.ext (Ext.trans hx626 hx630)).keptO hx634 (by omega)
            replace hO33 := hO33.keptO hx634 (by omega)
            replace hO32 : Blk _ _ _ (aC.1.c vC uC) := hO32
            refine WL.op rfl (OW.storeOA hO33 rfl rfl rfl (ones2 _ (own_one (odC).own)) Try.sizeOf53 ?_)
            intro w636 hO33 hx638
            have := World.grownBy.size hx638
            replace hO27 := hO27.keptO hx638 (by omega)
            replace hO28 := hO28.keptO hx638 (by omega)
            replace hO29 := hO29.keptO hx638 (by omega)
            replace oAT := oAT.keptO hx638 (by omega)
            replace odA := odA.keptO hx638 (by omega)
            replace oBT := oBT.keptO hx638 (by omega)
            replace odB := odB.keptO hx638 (by omega)
            replace hO30 := hO30.keptO hx638 (by omega)
            replace hO31 := hO31.keptO hx638 (by omega)
            replace oCT := oCT.keptO hx638 (by omega)
            replace odC := odC.keptO hx638 (by omega)
            replace hO32 := hO32.keptO hx638 (by omega)
            replace hO33 : Blk _ _ _ [i64 11, dC] := hO33
            refine WL.nil ?_
            refine thn_n ?_
            refine WF.seq ?_
            refine WF.region ?_
            refine WL.va rfl rfl rfl (X.loadOA hO28 (Ext.refl _) e28_Cr34 rfl Try.isAgg51 Try.sizeOf51) ?_
            refine WL.va rfl rfl rfl (X.buildT (P := Try.prog) (t := 72) (cs := (Op.oc nX nilS nilS nilS nilS)) (zs := [i64 0, i64 0, i64 0, i64 0, i64 0, i64 0, i64 0, i64 0, i64 0, i64 0, i64 0, i64 0, i64 0, .slice none 0 0, .slice none 0 0, .slice none 0 0, .slice none 0 0]) (places := [(0, 1), (1, 1), (2, 1), (3, 1), (4, 1), (5, 1), (6, 1), (7, 1), (8, 1), (9, 1), (10, 1), (11, 1), (12, 1), (13, 1), (14, 1), (15, 1), (16, 1)]) (n := 17) (evp_cons rfl (evp_cons rfl (evp_cons rfl (evp_cons rfl evp_nil)))) Try.type72 Try.underlying72 rfl rfl ⟨rfl, rfl, rfl, rfl, trivial⟩ rfl rfl rfl) ?_
            have hzpX := ((show Ext w w636 from (Ext.trans (Ext.trans (Ext.trans (Ext.trans (Ext.trans (Ext.trans (Ext.trans (Ext.trans (Ext.trans (Ext.trans (Ext.trans (Ext.trans (Ext.trans (Ext.trans (grown_trans (Ext.trans (Ext.trans (grown_trans (Ext.trans (Ext.trans (grown_trans (Ext.trans (Ext.trans (Ext.trans (Ext.trans (Ext.trans (Ext.trans (Ext.trans (Ext.trans (Ext.trans (Ext.trans (Ext.trans (Ext.trans (Ext.trans (Ext.trans (Ext.trans (Ext.trans (Ext.trans (Ext.trans (Ext.trans (Ext.trans (Ext.trans (Ext.trans (Ext.trans hx4 hx7) hwL0) hwCr12) hx172) (Ext.store hx175 hx179 (by omega))) hx183) (Ext.store hx186 hx190 (by omega))) hx194) hx197) (Ext.store hx200 hx204 (by omega))) hx208) (Ext.store (Ext.store hx211 hx215 (by omega)) hx219 (by omega))) hwCr18) hx248) hx251) (Ext.store hx255 hx259 (by omega))) hx263) hx266) (Ext.store hx270 hx274 (by omega))) hx286) (Ext.store (Ext.store hx289 hx293 (by omega)) hx297 (by omega))) hx301) (Ext.store hx304 hx308 (by omega))) hx312 (fun i hi => by have := (ogX.own.lt i hi).1; omega)) hx316) (Ext.store hx319 hx323 (by omega))) hx327 (fun i hi => by have := (osX.own.lt i hi).1; omega)) hx331) (Ext.store hx334 hx338 (by omega))) hx342 (fun i hi => by have := (oeX.own.lt i hi).1; omega)) hx346) hx349) hx353) hx357) hx361) hx365) hx369) hx373) (Ext.store hx377 hx381 (by omega))) hwCr34) hx604) (Ext.store (Ext.store (Ext.trans hx607 hx611) hx615 (by omega)) hx619 (by omega))) hx623) (Ext.store (Ext.store (Ext.trans hx626 hx630) hx634 (by omega)) hx638 (by omega))))).size
            refine WL.c rfl rfl rfl (X.call Try.call45 (evl_cons rfl (evl_cons rfl evl_nil))) (applyK (d := aA.1) (n := nX) (a := aX) _ rfl cX gA (Nat.le_trans lA (by decide)) sA rfl in_nX ((oAT).at hFA)) ?_
            rintro v641 w640 ⟨⟨vX, uX, dX, FX, rfl, hFX, oXT, odX⟩, hx642⟩
            have := World.grownBy.size hx642
            have oXr := oXT.rng
            refine WL.va rfl rfl rfl (X.move rfl) ?_
            refine WL.va rfl rfl rfl (X.extract rfl rfl) ?_
            refine WL.va rfl rfl rfl (X.extract rfl rfl) ?_
            refine WL.op rfl (OW.allocO (cs := [.slice none 0 0, i64 0, i64 0, i64 0, i64 0, i64 0, i64 0, .slice none 0 0]) Try.zeroValue51 rfl ?_ (by decide))
            intro g34 w643 heg34 hlg34 hO34 hx645
            have := World.grownBy.size hx645
            refine WL.op rfl (OW.allocO (cs := [i64 0, .slice none 0 0]) Try.zeroValue53 rfl ?_ (by decide))
            intro g35 w647 heg35 hlg35 hO35 hx649
            have := World.grownBy.size hx649
            refine WL.op rfl (OW.storeOA (hO34.ext hx649) rfl rfl rfl (Dr.c_one _ ((oXT.ext (Ext.trans hx645 hx649))).rng.rd (own_one ((oXT.ext (Ext.trans hx645 hx649))).ses.own.row)) Try.sizeOf51 ?_)
            intro w651 hO34 hx653
            have := World.grownBy.size hx653
            replace hO27 := (hO27.ext (Ext.trans (Ext.trans hx642 hx645) hx649)).keptO hx653 (by omega)
            replace hO28 := (hO28.ext (Ext.trans (Ext.trans hx642 hx645) hx649)).keptO hx653 (by omega)
            replace hO29 := (hO29.ext (Ext.trans (Ext.trans hx642 hx645) hx649)).keptO hx653 (by omega)
            replace oAT := (oAT.ext (Ext.trans (Ext.trans hx642 hx645) hx649)).keptO hx653 (by omega)
            replace odA := (odA.ext (Ext.trans (Ext.trans hx642 hx645) hx649)).keptO hx653 (by omega)
            replace oBT := (oBT.ext (Ext.trans (Ext.trans hx642 hx645) hx649)).keptO hx653 (by omega)
            replace odB := (odB.ext (Ext.trans (Ext.trans hx642 hx645) hx649)).keptO hx653 (by omega)
            replace hO30 := (hO30.ext (Ext.trans (Ext.trans hx642 hx645) hx649)).keptO hx653 (by omega)
            replace hO31 := (hO31.ext (Ext.trans (Ext.trans hx642 hx645) hx649)).keptO hx653 (by omega)
            replace oCT := (oCT.ext (Ext.trans (Ext.trans hx642 hx645) hx649)).keptO hx653 (by omega)
            replace odC := (odC.ext (Ext.trans (Ext.trans hx642 hx645) hx649)).keptO hx653 (by omega)
            replace hO32 := (hO32.ext (Ext.trans (Ext.trans hx642 hx645) hx649)).keptO hx653 (by omega)
            replace hO33 := (hO33.ext (Ext.trans (Ext.trans hx642 hx645) hx649)).keptO hx653 (by omega)
            replace oXT := (oXT.ext (Ext.trans hx645 hx649)).keptO hx653 (by omega)
            replace odX := (odX.ext (Ext.trans hx645 hx649)).keptO hx653 (by omega)
            replace oXr := (oXr.ext (Ext.trans hx645 hx649)).keptO hx653 (by omega)
            replace hO35 := hO35.keptO hx653 (by omega)
            replace hO34 : Blk _ _ _ (aX.1.c vX uX) := hO34
            refine WL.op rfl (OW.storeOA hO35 rfl rfl rfl (ones2 _ (own_one (odX).own)) Try.sizeOf53 ?_)
            intro w655 hO35 hx657
            have := World.grownBy.size hx657
            replace hO27 := hO27.keptO hx657 (by omega)
            replace hO28 := hO28.keptO hx657 (by omega)
            replace hO29 := hO29.keptO hx657 (by omega)
            replace oAT := oAT.keptO hx657 (by omega)
            replace odA := odA.keptO hx657 (by omega)
            replace oBT := oBT.keptO hx657 (by omega)
            replace odB := odB.keptO hx657 (by omega)
            replace hO30 := hO30.keptO hx657 (by omega)
            replace hO31 := hO31.keptO hx657 (by omega)
            replace oCT := oCT.keptO hx657 (by omega)
            replace odC := odC.keptO hx657 (by omega)
            replace hO32 := hO32.keptO hx657 (by omega)
            replace hO33 := hO33.keptO hx657 (by omega)
            replace oXT := oXT.keptO hx657 (by omega)
            replace odX := odX.keptO hx657 (by omega)
            replace oXr := oXr.keptO hx657 (by omega)
            replace hO34 := hO34.keptO hx657 (by omega)
            replace hO35 : Blk _ _ _ [i64 0, dX] := hO35
            refine WL.nil ?_
            refine thn_n ?_
            refine WF.seq ?_
            refine WF.region ?_
            refine WL.va rfl rfl rfl (X.loadOA hO28 (Ext.refl _) e28_Cr34 rfl Try.isAgg51 Try.sizeOf51) ?_
            refine WL.va rfl rfl rfl (X.buildT (P := Try.prog) (t := 72) (cs := (Op.oc nJ nilS nilS nilS nilS)) (zs := [i64 0, i64 0, i64 0, i64 0, i64 0, i64 0, i64 0, i64 0, i64 0, i64 0, i64 0, i64 0, i64 0, .slice none 0 0, .slice none 0 0, .slice none 0 0, .slice none 0 0]) (places := [(0, 1), (1, 1), (2, 1), (3, 1), (4, 1), (5, 1), (6, 1), (7, 1), (8, 1), (9, 1), (10, 1), (11, 1), (12, 1), (13, 1), (14, 1), (15, 1), (16, 1)]) (n := 17) (evp_cons rfl (evp_cons rfl (evp_cons rfl (evp_cons rfl evp_nil)))) Try.type72 Try.underlying72 rfl rfl ⟨rfl, rfl, rfl, rfl, trivial⟩ rfl rfl rfl) ?_
            have hzpJ := ((show Ext w w655 from (Ext.trans (Ext.trans (Ext.trans (Ext.trans (Ext.trans (Ext.trans (Ext.trans (Ext.trans (Ext.trans (Ext.trans (Ext.trans (Ext.trans (Ext.trans (Ext.trans (Ext.trans (Ext.trans (grown_trans (Ext.trans (Ext.trans (grown_trans (Ext.trans (Ext.trans (grown_trans (Ext.trans (Ext.trans (Ext.trans (Ext.trans (Ext.trans (Ext.trans (Ext.trans (Ext.trans (Ext.trans (Ext.trans (Ext.trans (Ext.trans (Ext.trans (Ext.trans (Ext.trans (Ext.trans (Ext.trans (Ext.trans (Ext.trans (Ext.trans (Ext.trans (Ext.trans (Ext.trans hx4 hx7) hwL0) hwCr12) hx172) (Ext.store hx175 hx179 (by omega))) hx183) (Ext.store hx186 hx190 (by omega))) hx194) hx197) (Ext.store hx200 hx204 (by omega))) hx208) (Ext.store (Ext.store hx211 hx215 (by omega)) hx219 (by omega))) hwCr18) hx248) hx251) (Ext.store hx255 hx259 (by omega))) hx263) hx266) (Ext.store hx270 hx274 (by omega))) hx286) (Ext.store (Ext.store hx289 hx293 (by omega)) hx297 (by omega))) hx301) (Ext.store hx304 hx308 (by omega))) hx312 (fun i hi => by have := (ogX.own.lt i hi).1; omega)) hx316) (Ext.store hx319 hx323 (by omega))) hx327 (fun i hi => by have := (osX.own.lt i hi).1; omega)) hx331) (Ext.store hx334 hx338 (by omega))) hx342 (fun i hi => by have := (oeX.own.lt i hi).1; omega)) hx346) hx349) hx353) hx357) hx361) hx365) hx369) hx373) (Ext.store hx377 hx381 (by omega))) hwCr34) hx604) (Ext.store (Ext.store (Ext.trans hx607 hx611) hx615 (by omega)) hx619 (by omega))) hx623) (Ext.store (Ext.store (Ext.trans hx626 hx630) hx634 (by omega)) hx638 (by omega))) hx642) (Ext.store (Ext.store (Ext.trans hx645 hx649) hx653 (by omega)) hx657 (by omega))))).size
            refine WL.c rfl rfl rfl (X.call Try.call45 (evl_cons rfl (evl_cons rfl evl_nil))) (applyK (d := aA.1) (n := nJ) (a := aJ) _ rfl cJ gA (Nat.le_trans lA (by decide)) sA rfl in_nJ ((oAT).at hFA)) ?_
            rintro v660 w659 ⟨⟨vJ, uJ, dJ, FJ, rfl, hFJ, oJT, odJ⟩, hx661⟩
            have := World.grownBy.size hx661
            refine WL.va rfl rfl rfl (X.move rfl) ?_
            refine WL.va rfl rfl rfl (X.extract rfl rfl) ?_
            refine WL.va rfl rfl rfl (X.extract rfl rfl) ?_
            refine WL.op rfl (OW.allocO (cs := [.slice none 0 0, i64 0, i64 0, i64 0, i64 0, i64 0, i64 0, .slice none 0 0]) Try.zeroValue51 rfl ?_ (by decide))
            intro g36 w662 heg36 hlg36 hO36 hx664
            have := World.grownBy.size hx664
            refine WL.op rfl (OW.allocO (cs := [i64 0, .slice none 0 0]) Try.zeroValue53 rfl ?_ (by decide))
            intro g37 w666 heg37 hlg37 hO37 hx668
            have := World.grownBy.size hx668
            refine WL.op rfl (OW.storeOA (hO36.ext hx668) rfl rfl rfl (Dr.c_one _ ((oJT.ext (Ext.trans hx664 hx668))).rng.rd (own_one ((oJT.ext (Ext.trans hx664 hx668))).ses.own.row)) Try.sizeOf51 ?_)
            intro w670 hO36 hx672
            have := World.grownBy.size hx672
            replace hO27 := (hO27.ext (Ext.trans (Ext.trans hx661 hx664) hx668)).keptO hx672 (by omega)
            replace hO28 := (hO28.ext (Ext.trans (Ext.trans hx661 hx664) hx668)).keptO hx672 (by omega)
            replace hO29 := (hO29.ext (Ext.trans (Ext.trans hx661 hx664) hx668)).keptO hx672 (by omega)
            replace oAT := (oAT.ext (Ext.trans (Ext.trans hx661 hx664) hx668)).keptO hx672 (by omega)
            replace odA := (odA.ext (Ext.trans (Ext.trans hx661 hx664) hx668)).keptO hx672 (by omega)
            replace oBT := (oBT.ext (Ext.trans (Ext.trans hx661 hx664) hx668)).keptO hx672 (by omega)
            replace odB := (odB.ext (Ext.trans (Ext.trans hx661 hx664) hx668)).keptO hx672 (by omega)
            replace hO30 := (hO30.ext (Ext.trans (Ext.trans hx661 hx664) hx668)).keptO hx672 (by omega)
            replace hO31 := (hO31.ext (Ext.trans (Ext.trans hx661 hx664) hx668)).keptO hx672 (by omega)
            replace oCT := (oCT.ext (Ext.trans (Ext.trans hx661 hx664) hx668)).keptO hx672 (by omega)
            replace odC := (odC.ext (Ext.trans (Ext.trans hx661 hx664) hx668)).keptO hx672 (by omega)
            replace hO32 := (hO32.ext (Ext.trans (Ext.trans hx661 hx664) hx668)).keptO hx672 (by omega)
            replace hO33 := (hO33.ext (Ext.trans (Ext.trans hx661 hx664) hx668)).keptO hx672 (by omega)
            replace oXT := (oXT.ext (Ext.trans (Ext.trans hx661 hx664) hx668)).keptO hx672 (by omega)
            replace odX := (odX.ext (Ext.trans (Ext.trans hx661 hx664) hx668)).keptO hx672 (by omega)
            replace oXr := (oXr.ext (Ext.trans (Ext.trans hx661 hx664) hx668)).keptO hx672 (by omega)
            replace hO34 := (hO34.ext (Ext.trans (Ext.trans hx661 hx664) hx668)).keptO hx672 (by omega)
            replace hO35 := (hO35.ext (Ext.trans (Ext.trans hx661 hx664) hx668)).keptO hx672 (by omega)
            replace oJT := (oJT.ext (Ext.trans hx664 hx668)).keptO hx672 (by omega)
            replace odJ := (odJ.ext (Ext.trans hx664 hx668)).keptO hx672 (by omega)
            replace hO37 := hO37.keptO hx672 (by omega)
            replace hO36 : Blk _ _ _ (aJ.1.c vJ uJ) := hO36
            refine WL.op rfl (OW.storeOA hO37 rfl rfl rfl (ones2 _ (own_one (odJ).own)) Try.sizeOf53 ?_)
            intro w674 hO37 hx676
            have := World.grownBy.size hx676
            replace hO27 := hO27.keptO hx676 (by omega)
            replace hO28 := hO28.keptO hx676 (by omega)
            replace hO29 := hO29.keptO hx676 (by omega)
            replace oAT := oAT.keptO hx676 (by omega)
            replace odA := odA.keptO hx676 (by omega)
            replace oBT := oBT.keptO hx676 (by omega)
            replace odB := odB.keptO hx676 (by omega)
            replace hO30 := hO30.keptO hx676 (by omega)
            replace hO31 := hO31.keptO hx676 (by omega)
            replace oCT := oCT.keptO hx676 (by omega)
            replace odC := odC.keptO hx676 (by omega)
            replace hO32 := hO32.keptO hx676 (by omega)
            replace hO33 := hO33.keptO hx676 (by omega)
            replace oXT := oXT.keptO hx676 (by omega)
            replace odX := odX.keptO hx676 (by omega)
            replace oXr := oXr.keptO hx676 (by omega)
            replace hO34 := hO34.keptO hx676 (by omega)
            replace hO35 := hO35.keptO hx676 (by omega)
            replace oJT := oJT.keptO hx676 (by omega)
            replace odJ := odJ.keptO hx676 (by omega)
            replace hO36 := hO36.keptO hx676 (by omega)
            replace hO37 : Blk _ _ _ [i64 6, dJ] := hO37
            refine WL.nil ?_
            refine thn_n ?_
            refine WF.seq ?_
            refine WF.region ?_
            refine WL.va rfl rfl rfl (X.loadOA hO34 (Ext.refl _) rfl rfl Try.isAgg51 Try.sizeOf51) ?_
            refine WL.va rfl rfl rfl (X.loadOA hO27 (Ext.refl _) ((hACr34.eq 27).trans (congrFun hF384 27)) rfl Try.isAgg72 Try.sizeOf72) ?_
            have hzpK := ((show Ext w w674 from (Ext.trans (Ext.trans (Ext.trans (Ext.trans (Ext.trans (Ext.trans (Ext.trans (Ext.trans (Ext.trans (Ext.trans (Ext.trans (Ext.trans (Ext.trans (Ext.trans (Ext.trans (Ext.trans (Ext.trans (Ext.trans (grown_trans (Ext.trans (Ext.trans (grown_trans (Ext.trans (Ext.trans (grown_trans (Ext.trans (Ext.trans (Ext.trans (Ext.trans (Ext.trans (Ext.trans (Ext.trans (Ext.trans (Ext.trans (Ext.trans (Ext.trans (Ext.trans (Ext.trans (Ext.trans (Ext.trans (Ext.trans (Ext.trans (Ext.trans (Ext.trans (Ext.trans (Ext.trans (Ext.trans (Ext.trans hx4 hx7) hwL0) hwCr12) hx172) (Ext.store hx175 hx179 (by omega))) hx183) (Ext.store hx186 hx190 (by omega))) hx194) hx197) (Ext.store hx200 hx204 (by omega))) hx208) (Ext.store (Ext.store hx211 hx215 (by omega)) hx219 (by omega))) hwCr18) hx248) hx251) (Ext.store hx255 hx259 (by omega))) hx263) hx266) (Ext.store hx270 hx274 (by omega))) hx286) (Ext.store (Ext.store hx289 hx293 (by omega)) hx297 (by omega))) hx301) (Ext.store hx304 hx308 (by omega))) hx312 (fun i hi => by have := (ogX.own.lt i hi).1; omega)) hx316) (Ext.store hx319 hx323 (by omega))) hx327 (fun i hi => by have := (osX.own.lt i hi).1; omega)) hx331) (Ext.store hx334 hx338 (by omega))) hx342 (fun i hi => by have := (oeX.own.lt i hi).1; omega)) hx346) hx349) hx353) hx357) hx361) hx365) hx369) hx373) (Ext.store hx377 hx381 (by omega))) hwCr34) hx604) (Ext.store (Ext.store (Ext.trans hx607 hx611) hx615 (by omega)) hx619 (by omega))) hx623) (Ext.store (Ext.store (Ext.trans hx626 hx630) hx634 (by omega)) hx638 (by omega))) hx642) (Ext.store (Ext.store (Ext.trans hx645 hx649) hx653 (by omega)) hx657 (by omega))) hx661) (Ext.store (Ext.store (Ext.trans hx664 hx668) hx672 (by omega)) hx676 (by omega))))).size
            refine WL.c rfl rfl rfl (X.call Try.call45 (evl_cons rfl (evl_cons rfl evl_nil))) (applyK (d := aX.1) (n := nA) (a := aK) _ rfl cK gX (Nat.le_trans lX (by decide)) sX rfl in_nA ((oXT).at hFX)) ?_
            rintro v679 w678 ⟨⟨vK, uK, dK, FK, rfl, hFK, oKT, odK⟩, hx680⟩
            have := World.grownBy.size hx680
            refine WL.va rfl rfl rfl (X.move rfl) ?_
            refine WL.va rfl rfl rfl (X.extract rfl rfl) ?_
            refine WL.va rfl rfl rfl (X.extract rfl rfl) ?_
            refine WL.op rfl (OW.allocO (cs := [.slice none 0 0, i64 0, i64 0, i64 0, i64 0, i64 0, i64 0, .slice none 0 0]) Try.zeroValue51 rfl ?_ (by decide))
            intro g38 w681 heg38 hlg38 hO38 hx683
            have := World.grownBy.size hx683
            refine WL.op rfl (OW.allocO (cs := [i64 0, .slice none 0 0]) Try.zeroValue53 rfl ?_ (by decide))
            intro g39 w685 heg39 hlg39 hO39 hx687
            have := World.grownBy.size hx687
            refine WL.op rfl (OW.storeOA (hO38.ext hx687) rfl rfl rfl (Dr.c_one _ ((oKT.ext (Ext.trans hx683 hx687))).rng.rd (own_one ((oKT.ext (Ext.trans hx683 hx687))).ses.own.row)) Try.sizeOf51 ?_)
            intro w689 hO38 hx691
            have := World.grownBy.size hx691
            replace hO27 := (hO27.ext (Ext.trans (Ext.trans hx680 hx683) hx687)).keptO hx691 (by omega)
            replace hO28 := (hO28.ext (Ext.trans (Ext.trans hx680 hx683) hx687)).keptO hx691 (by omega)
            replace hO29 := (hO29.ext (Ext.trans (Ext.trans hx680 hx683) hx687)).keptO hx691 (by omega)
            replace oAT := (oAT.ext (Ext.trans (Ext.trans hx680 hx683) hx687)).keptO hx691 (by omega)
            replace odA := (odA.ext (Ext.trans (Ext.trans hx680 hx683) hx687)).keptO hx691 (by omega)
            replace oBT := (oBT.ext (Ext.trans (Ext.trans hx680 hx683) hx687)).keptO hx691 (by omega)
            replace odB := (odB.ext (Ext.trans (Ext.trans hx680 hx683) hx687)).keptO hx691 (by omega)
            replace hO30 := (hO30.ext (Ext.trans (Ext.trans hx680 hx683) hx687)).keptO hx691 (by omega)
            replace hO31 := (hO31.ext (Ext.trans (Ext.trans hx680 hx683) hx687)).keptO hx691 (by omega)
            replace oCT := (oCT.ext (Ext.trans (Ext.trans hx680 hx683) hx687)).keptO hx691 (by omega)
            replace odC := (odC.ext (Ext.trans (Ext.trans hx680 hx683) hx687)).keptO hx691 (by omega)
            replace hO32 := (hO32.ext (Ext.trans (Ext.trans hx680 hx683) hx687)).keptO hx691 (by omega)
            replace hO33 := (hO33.ext (Ext.trans (Ext.trans hx680 hx683) hx687)).keptO hx691 (by omega)
            replace oXT := (oXT.ext (Ext.trans (Ext.trans hx680 hx683) hx687)).keptO hx691 (by omega)
            replace odX := (odX.ext (Ext.trans (Ext.trans hx680 hx683) hx687)).keptO hx691 (by omega)
            replace oXr := (oXr.ext (Ext.trans (Ext.trans hx680 hx683) hx687)).keptO hx691 (by omega)
            replace hO34 := (hO34.ext (Ext.trans (Ext.trans hx680 hx683) hx687)).keptO hx691 (by omega)
            replace hO35 := (hO35.ext (Ext.trans (Ext.trans hx680 hx683) hx687)).keptO hx691 (by omega)
            replace oJT := (oJT.ext (Ext.trans (Ext.trans hx680 hx683) hx687)).keptO hx691 (by omega)
            replace odJ := (odJ.ext (Ext.trans (Ext.trans hx680 hx683) hx687)).keptO hx691 (by omega)
            replace hO36 := (hO36.ext (Ext.trans (Ext.trans hx680 hx683) hx687)).keptO hx691 (by omega)
            replace hO37 := (hO37.ext (Ext.trans (Ext.trans hx680 hx683) hx687)).keptO hx691 (by omega)
            replace oKT := (oKT.ext (Ext.trans hx683 hx687)).keptO hx691 (by omega)
            replace odK := (odK.ext (Ext.trans hx683 hx687)).keptO hx691 (by omega)
            replace hO39 := hO39.keptO hx691 (by omega)
            replace hO38 : Blk _ _ _ (aK.1.c vK uK) := hO38
            refine WL.op rfl (OW.storeOA hO39 rfl rfl rfl (ones2 _ (own_one (odK).own)) Try.sizeOf53 ?_)
            intro w693 hO39 hx695
            have := World.grownBy.size hx695
            replace hO27 := hO27.keptO hx695 (by omega)
            replace hO28 := hO28.keptO hx695 (by omega)
            replace hO29 := hO29.keptO hx695 (by omega)
            replace oAT := oAT.keptO hx695 (by omega)
            replace odA := odA.keptO hx695 (by omega)
            replace oBT := oBT.keptO hx695 (by omega)
            replace odB := odB.keptO hx695 (by omega)
            replace hO30 := hO30.keptO hx695 (by omega)
            replace hO31 := hO31.keptO hx695 (by omega)
            replace oCT := oCT.keptO hx695 (by omega)
            replace odC := odC.keptO hx695 (by omega)
            replace hO32 := hO32.keptO hx695 (by omega)
            replace hO33 := hO33.keptO hx695 (by omega)
            replace oXT := oXT.keptO hx695 (by omega)
            replace odX := odX.keptO hx695 (by omega)
            replace oXr := oXr.keptO hx695 (by omega)
            replace hO34 := hO34.keptO hx695 (by omega)
            replace hO35 := hO35.keptO hx695 (by omega)
            replace oJT := oJT.keptO hx695 (by omega)
            replace odJ := odJ.keptO hx695 (by omega)
            replace hO36 := hO36.keptO hx695 (by omega)
            replace hO37 := hO37.keptO hx695 (by omega)
            replace oKT := oKT.keptO hx695 (by omega)
            replace odK := odK.keptO hx695 (by omega)
            replace hO38 := hO38.keptO hx695 (by omega)
            replace hO39 : Blk _ _ _ [i64 0, dK] := hO39
            refine WL.nil ?_
            refine thn_n ?_
            refine WF.seq ?_
            refine WF.region ?_
            refine WL.va rfl rfl rfl (X.fieldAddrO (off := 1) e29_Cr34 Try.underlying53 rfl rfl Try.sizeOf46) ?_
            refine WL.va rfl rfl rfl (X.loadO hO29 (Ext.refl _) rfl rfl Try.isAgg46) ?_
            have hzr := ((show Ext w w693 from (Ext.trans (Ext.trans (Ext.trans (Ext.trans (Ext.trans (Ext.trans (Ext.trans (Ext.trans (Ext.trans (Ext.trans (Ext.trans (Ext.trans (Ext.trans (Ext.trans (Ext.trans (Ext.trans (Ext.trans (Ext.trans (Ext.trans (Ext.trans (grown_trans (Ext.trans (Ext.trans (grown_trans (Ext.trans (Ext.trans (grown_trans (Ext.trans (Ext.trans (Ext.trans (Ext.trans (Ext.trans (Ext.trans (Ext.trans (Ext.trans (Ext.trans (Ext.trans (Ext.trans (Ext.trans (Ext.trans (Ext.trans (Ext.trans (Ext.trans (Ext.trans (Ext.trans (Ext.trans (Ext.trans (Ext.trans (Ext.trans (Ext.trans hx4 hx7) hwL0) hwCr12) hx172) (Ext.store hx175 hx179 (by omega))) hx183) (Ext.store hx186 hx190 (by omega))) hx194) hx197) (Ext.store hx200 hx204 (by omega))) hx208) (Ext.store (Ext.store hx211 hx215 (by omega)) hx219 (by omega))) hwCr18) hx248) hx251) (Ext.store hx255 hx259 (by omega))) hx263) hx266) (Ext.store hx270 hx274 (by omega))) hx286) (Ext.store (Ext.store hx289 hx293 (by omega)) hx297 (by omega))) hx301) (Ext.store hx304 hx308 (by omega))) hx312 (fun i hi => by have := (ogX.own.lt i hi).1; omega)) hx316) (Ext.store hx319 hx323 (by omega))) hx327 (fun i hi => by have := (osX.own.lt i hi).1; omega)) hx331) (Ext.store hx334 hx338 (by omega))) hx342 (fun i hi => by have := (oeX.own.lt i hi).1; omega)) hx346) hx349) hx353) hx357) hx361) hx365) hx369) hx373) (Ext.store hx377 hx381 (by omega))) hwCr34) hx604) (Ext.store (Ext.store (Ext.trans hx607 hx611) hx615 (by omega)) hx619 (by omega))) hx623) (Ext.store (Ext.store (Ext.trans hx626 hx630) hx634 (by omega)) hx638 (by omega))) hx642) (Ext.store (Ext.store (Ext.trans hx645 hx649) hx653 (by omega)) hx657 (by omega))) hx661) (Ext.store (Ext.store (Ext.trans hx664 hx668) hx672 (by omega)) hx676 (by omega))) hx680) (Ext.store (Ext.store (Ext.trans hx683 hx687) hx691 (by omega)) hx695 (by omega))))).size
            refine WL.c rfl rfl rfl (X.call Try.call32 (evl_cons rfl evl_nil)) (getMapK gP bP (odA).rd) ?_
            rintro v698 w697 ⟨⟨vr, rfl, or_⟩, hx699⟩
            have := World.grownBy.size hx699
            have orT := OwnT.of or_
            refine WL.va rfl rfl rfl (X.move rfl) ?_
            refine WL.va rfl rfl rfl (X.extract rfl rfl) ?_
            refine WL.va rfl rfl rfl (X.extract rfl rfl) ?_
            refine WL.op rfl (OW.allocO (cs := [.slice none 0 0, i64 0, i64 0, i64 0, i64 0, i64 0, i64 0]) Try.zeroValue26 rfl ?_ (by decide))
            intro g40 w700 heg40 hlg40 hO40 hx702
            have := World.grownBy.size hx702
            refine WL.op rfl (OW.storeOA hO40 rfl rfl rfl (Mp.c_one ((orT.ext hx702)).rd _) Try.sizeOf26 ?_)
            intro w704 hO40 hx706
            have := World.grownBy.size hx706
            replace hO27 := (hO27.ext (Ext.trans hx699 hx702)).keptO hx706 (by omega)
            replace hO28 := (hO28.ext (Ext.trans hx699 hx702)).keptO hx706 (by omega)
            replace hO29 := (hO29.ext (Ext.trans hx699 hx702)).keptO hx706 (by omega)
            replace oAT := (oAT.ext (Ext.trans hx699 hx702)).keptO hx706 (by omega)
            replace odA := (odA.ext (Ext.trans hx699 hx702)).keptO hx706 (by omega)
            replace oBT := (oBT.ext (Ext.trans hx699 hx702)).keptO hx706 (by omega)
            replace odB := (odB.ext (Ext.trans hx699 hx702)).keptO hx706 (by omega)
            replace hO30 := (hO30.ext (Ext.trans hx699 hx702)).keptO hx706 (by omega)
            replace hO31 := (hO31.ext (Ext.trans hx699 hx702)).keptO hx706 (by omega)
            replace oCT := (oCT.ext (Ext.trans hx699 hx702)).keptO hx706 (by omega)
            replace odC := (odC.ext (Ext.trans hx699 hx702)).keptO hx706 (by omega)
            replace hO32 := (hO32.ext (Ext.trans hx699 hx702)).keptO hx706 (by omega)
            replace hO33 := (hO33.ext (Ext.trans hx699 hx702)).keptO hx706 (by omega)
            replace oXT := (oXT.ext (Ext.trans hx699 hx702)).keptO hx706 (by omega)
            replace odX := (odX.ext (Ext.trans hx699 hx702)).keptO hx706 (by omega)
            replace oXr := (oXr.ext (Ext.trans hx699 hx702)).keptO hx706 (by omega)
            replace hO34 := (hO34.ext (Ext.trans hx699 hx702)).keptO hx706 (by omega)
            replace hO35 := (hO35.ext (Ext.trans hx699 hx702)).keptO hx706 (by omega)
            replace oJT := (oJT.ext (Ext.trans hx699 hx702)).keptO hx706 (by omega)
            replace odJ := (odJ.ext (Ext.trans hx699 hx702)).keptO hx706 (by omega)
            replace hO36 := (hO36.ext (Ext.trans hx699 hx702)).keptO hx706 (by omega)
            replace hO37 := (hO37.ext (Ext.trans hx699 hx702)).keptO hx706 (by omega)
            replace oKT := (oKT.ext (Ext.trans hx699 hx702)).keptO hx706 (by omega)
            replace odK := (odK.ext (Ext.trans hx699 hx702)).keptO hx706 (by omega)
            replace hO38 := (hO38.ext (Ext.trans hx699 hx702)).keptO hx706 (by omega)
            replace hO39 := (hO39.ext (Ext.trans hx699 hx702)).keptO hx706 (by omega)
            replace orT := (orT.ext hx702).keptO hx706 (by omega)
            replace hO40 : Blk _ _ _ (pA.c vr) := hO40
            refine WL.va rfl rfl rfl (X.assignI rfl) ?_
            refine WL.nil ?_
            refine thn_n ?_
            refine WF.seq ?_
            refine WF.region ?_
            refine WL.va rfl rfl rfl (X.fieldAddrO (off := 0) e29_Cr34 Try.underlying53 rfl rfl Try.sizeOf28) ?_
            refine WL.va rfl rfl rfl (X.loadO hO29 (Ext.refl _) rfl rfl Try.isAgg28) ?_
            refine WL.va rfl rfl rfl (X.eql rfl rfl) ?_
            refine WL.va rfl rfl rfl (X.moveB rfl) ?_
            refine WL.vg rfl rfl rfl rfl (X.fieldAddrO (off := 0) rfl Try.underlying53 rfl rfl Try.sizeOf28) ?_
            refine WL.vg rfl rfl rfl rfl (X.loadO hO31 (Ext.refl _) rfl rfl Try.isAgg28) ?_
            refine WL.vg rfl rfl rfl rfl (X.eql rfl rfl) ?_
            refine WL.va rfl rfl rfl (X.pickT rfl rfl rfl) ?_
            refine WL.va rfl rfl rfl (X.moveB rfl) ?_
            refine WL.vg rfl rfl rfl rfl (X.fieldAddrO (off := 0) rfl Try.underlying53 rfl rfl Try.sizeOf28) ?_
            refine WL.vg rfl rfl rfl rfl (X.loadO hO33 (Ext.refl _) rfl rfl Try.isAgg28) ?_
            refine WL.vg rfl rfl rfl rfl (X.eql rfl rfl) ?_
            refine WL.va rfl rfl rfl (X.pickT rfl rfl rfl) ?_
            refine WL.va rfl rfl rfl (X.moveB rfl) ?_
            refine WL.vg rfl rfl rfl rfl (X.fieldAddrO (off := 0) rfl Try.underlying53 rfl rfl Try.sizeOf28) ?_
            refine WL.vg rfl rfl rfl rfl (X.loadO hO35 (Ext.refl _) rfl rfl Try.isAgg28) ?_
            refine WL.vg rfl rfl rfl rfl (X.eql rfl rfl) ?_
            refine WL.va rfl rfl rfl (X.pickT rfl rfl rfl) ?_
            refine WL.va rfl rfl rfl (X.moveB rfl) ?_
            refine WL.vg rfl rfl rfl rfl (X.fieldAddrO (off := 0) rfl Try.underlying51 rfl rfl Try.sizeOf26) ?_
            refine WL.vg rfl rfl rfl rfl (X.fieldAddrP (off := 0) rfl Try.underlying26 rfl rfl Try.sizeOf22) ?_
            refine WL.vg rfl rfl rfl rfl (X.loadO hO34 (Ext.refl _) rfl rfl Try.isAgg22) ?_
            refine WL.vg rfl rfl rfl rfl (X.len (oXr.rd) rfl Try.underlying22) ?_
            refine WL.vg rfl rfl rfl rfl (X.eql rfl rfl) ?_
            refine WL.va rfl rfl rfl (X.pickT rfl rfl rfl) ?_
            refine WL.va rfl rfl rfl (X.moveB rfl) ?_
            refine WL.split (j := 25) rfl (fun h713 => ?_) (fun h713 => ?_)
            · have gh713 := (of_decide_eq_true h713)
              refine WL.vg rfl (congrArg some h713) rfl rfl (X.fieldAddrO (off := 0) rfl Try.underlying53 rfl rfl Try.sizeOf28) ?_
              refine WL.vg rfl (congrArg some h713) rfl rfl (X.loadO hO37 (Ext.refl _) rfl rfl Try.isAgg28) ?_
              refine WL.vg rfl (congrArg some h713) rfl rfl (X.eql rfl rfl) ?_
              refine WL.va rfl rfl rfl (X.pickT rfl h713 rfl) ?_
              refine WL.va rfl rfl rfl (X.moveB rfl) ?_
              refine WL.vg rfl rfl rfl rfl (X.loadOA hO29 (Ext.refl _) e29_Cr34 rfl Try.isAgg53 Try.sizeOf53) ?_
              refine WL.vg rfl rfl rfl rfl (X.loadOA hO39 (Ext.refl _) rfl rfl Try.isAgg53 Try.sizeOf53) ?_
              refine WL.cg rfl rfl rfl rfl (X.call Try.call47 (evl_cons rfl (evl_cons rfl evl_nil))) (sameRes_self (odA).rd (odK).rd ⟨rfl, eK⟩) ?_
              rintro v716 w715 ⟨rfl, hx717⟩
              have := World.grownBy.size hx717
              refine WL.va rfl rfl rfl (X.pickT rfl rfl rfl) ?_
              refine WL.va rfl rfl rfl (X.moveB rfl) ?_
              refine WL.vg rfl rfl rfl rfl (X.moveI rfl) ?_
              refine WL.vg rfl rfl rfl rfl (X.eql rfl rfl) ?_
              refine WL.va rfl rfl rfl (X.pickT rfl rfl rfl) ?_
              refine WL.va rfl rfl rfl (X.moveB rfl) ?_
              refine WL.vg rfl rfl rfl rfl (X.fieldAddrO (off := 1) rfl Try.underlying26 rfl rfl Try.sizeOf3) ?_
              refine WL.vg rfl rfl rfl rfl (X.loadO hO40 hx717 rfl rfl Try.isAgg3) ?_
              refine WL.vg rfl rfl rfl rfl (X.eql rfl rfl) ?_
              refine WL.va rfl rfl rfl (X.pickT rfl rfl rfl) ?_
              refine WL.va rfl rfl rfl (X.moveB rfl) ?_
              refine WL.cg rfl rfl rfl rfl (X.call Try.call13 evl_nil) (known_ok _) ?_
              rintro v722 w721 ⟨rfl, hx723⟩
              have := World.grownBy.size hx723
              refine WL.va rfl rfl rfl (X.pickT rfl rfl rfl) ?_
              refine WL.va rfl rfl rfl (X.assignB rfl) ?_
              refine WL.nil ?_
              refine thn_n ?_
              refine WF.ret ?_
              refine fin_r ?_
              exact ⟨rfl, (Ext.trans (Ext.trans (Ext.trans (Ext.trans (Ext.trans (Ext.trans (Ext.trans (Ext.trans (Ext.trans (Ext.trans (Ext.trans (Ext.trans (Ext.trans (Ext.trans (Ext.trans (Ext.trans (Ext.trans (Ext.trans (Ext.trans (Ext.trans (Ext.trans (Ext.trans (Ext.trans (Ext.trans (grown_trans (Ext.trans (Ext.trans (grown_trans (Ext.trans (Ext.trans (grown_trans (Ext.trans (Ext.trans (Ext.trans (Ext.trans (Ext.trans (Ext.trans (Ext.trans (Ext.trans (Ext.trans (Ext.trans (Ext.trans (Ext.trans (Ext.trans (Ext.trans (Ext.trans (Ext.trans (Ext.trans (Ext.trans (Ext.trans (Ext.trans (Ext.trans (Ext.trans (Ext.trans hx4 hx7) hwL0) hwCr12) hx172) (Ext.store hx175 hx179 (by omega))) hx183) (Ext.store hx186 hx190 (by omega))) hx194) hx197) (Ext.store hx200 hx204 (by omega))) hx208) (Ext.store (Ext.store hx211 hx215 (by omega)) hx219 (by omega))) hwCr18) hx248) hx251) (Ext.store hx255 hx259 (by omega))) hx263) hx266) (Ext.store hx270 hx274 (by omega))) hx286) (Ext.store (Ext.store hx289 hx293 (by omega)) hx297 (by omega))) hx301) (Ext.store hx304 hx308 (by omega))) hx312 (fun i hi => by have := (ogX.own.lt i hi).1; omega)) hx316) (Ext.store hx319 hx323 (by omega))) hx327 (fun i hi => by have := (osX.own.lt i hi).1; omega)) hx331) (Ext.store hx334 hx338 (by omega))) hx342 (fun i hi => by have := (oeX.own.lt i hi).1; omega)) hx346) hx349) hx353) hx357) hx361) hx365) hx369) hx373) (Ext.store hx377 hx381 (by omega))) hwCr34) hx604) (Ext.store (Ext.store (Ext.trans hx607 hx611) hx615 (by omega)) hx619 (by omega))) hx623) (Ext.store (Ext.store (Ext.trans hx626 hx630) hx634 (by omega)) hx638 (by omega))) hx642) (Ext.store (Ext.store (Ext.trans hx645 hx649) hx653 (by omega)) hx657 (by omega))) hx661) (Ext.store (Ext.store (Ext.trans hx664 hx668) hx672 (by omega)) hx676 (by omega))) hx680) (Ext.store (Ext.store (Ext.trans hx683 hx687) hx691 (by omega)) hx695 (by omega))) hx699) (Ext.store hx702 hx706 (by omega))) hx717) hx723)⟩
            · have gh713 := (of_decide_eq_false h713)
              exact absurd (by rw [rX]; rfl) gh713

end Go.Proofs.Ytpimnlgfhpnjnaa
