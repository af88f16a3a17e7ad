/- The walk of RangesOnce. -/
import Derived.Test.YtpimnlgfhpnjnaaRnR
import Derived.Test.YtpimnlgfhpnjnaaRnT
import Derived.Test.YtpimnlgfhpnjnaaOnce
namespace Go.Proofs.Ytpimnlgfhpnjnaa
open Go Go.RowKit Kf
set_option maxRecDepth 20000

set_option maxHeartbeats 32000000 in
theorem rangesOnce_walk (d : Dr) (v u : Value) (o : Op.Od) (vP vR vW vD : Value) (w : World) (h : DAt w v u d) (hI : DrIn d) (ho : Op.OpAt w vP vR vW vD o) : FnOk Try.prog 9 [agg (d.c v u), agg (Op.oc o.n vP vR vW vD)] w (fun r w' => r = .bool true ∧ Ext w w') := by
  have hE := hI.m.1
  obtain ⟨E, hE1, rE, dE⟩ := h.S
  have hEl : d.S.length = E.length := by rw [← hE1]; simp
  have hEm : (E.length : Int) ≤ 9223372036854775807 := by obtain ⟨_, c, _, h1, h2, _⟩ := rE.shape; unfold maxLen at h2; omega
  have hq := ho.inn 2
  refine FnOk.enter (rs := [4]) Try.func9 rfl Try.ntmps9 Try.results9 rfl rfl ?_
  refine WF.seq ?_
  refine WF.region ?_
  refine WL.op rfl (OW.boxA (cs := (d.c v u)) rfl ?_ (by decide))
  intro g2 w1 heg2 hlg2 hO2 hx3
  have := World.grownBy.size hx3
  refine WL.op rfl (OW.boxA (cs := (Op.oc o.n vP vR vW vD)) rfl ?_ (by decide))
  intro g3 wbb heg3 hlg3 hO3 hx6
  have := World.grownBy.size hx6
  refine WL.va rfl rfl rfl (X.assignB rfl) ?_
  refine WL.nil ?_
  refine thn_n ?_
  refine WF.seq ?_
  refine WF.seq ?_
  refine WF.region ?_
  refine WL.va rfl rfl rfl (X.fieldAddrO (off := 0) rfl Try.underlying51 rfl rfl Try.sizeOf26) ?_
  refine WL.va rfl rfl rfl (X.loadOP hO2 hx6 rfl rfl rfl Try.isAgg26 Try.sizeOf26) ?_
  refine WL.c rfl rfl rfl (X.call Try.call11 (evl_cons rfl evl_nil)) (checkC_ok d.m v _ (Row.ext h.R (Ext.trans hx3 hx6)) hE) ?_
  rintro v10 w9 ⟨rfl, hx11⟩
  have := World.grownBy.size hx11
  refine WL.va rfl rfl rfl (X.neq rfl rfl) ?_
  refine WL.va rfl rfl rfl (X.moveB rfl) ?_
  refine WL.split (j := 4) rfl (fun h13 => ?_) (fun h13 => ?_)
  · have gh13 := (of_decide_eq_true h13)
    refine WL.p rfl rfl rfl (congrArg some h13) ?_
    refine WL.p rfl rfl rfl (congrArg some h13) ?_
    refine WL.p rfl rfl rfl (congrArg some h13) ?_
    refine WL.p rfl rfl rfl (congrArg some h13) ?_
    refine WL.va rfl rfl rfl (X.pickT rfl h13 rfl) ?_
    refine WL.va rfl rfl rfl (X.moveB rfl) ?_
    refine WL.p rfl rfl rfl rfl ?_
    refine WL.p rfl rfl rfl rfl ?_
    refine WL.va rfl rfl rfl (X.pickT rfl rfl rfl) ?_
    refine WL.nil ?_
    refine thn_n ?_
    refine WF.cond_t rfl ?_
    refine WF.seq ?_
    refine WF.region ?_
    refine WL.c rfl rfl rfl (X.call Try.call13 evl_nil) (known_ok _) ?_
    rintro v17 w16 ⟨rfl, hx18⟩
    have := World.grownBy.size hx18
    refine WL.va rfl rfl rfl (X.assignB rfl) ?_
    refine WL.nil ?_
    refine thn_n ?_
    refine WF.ret ?_
    refine thn_r ?_
    refine fin_r ?_
    exact ⟨rfl, (Ext.trans (Ext.trans (Ext.trans hx3 hx6) hx11) hx18)⟩
  · have gh13 := (Decidable.of_not_not (of_decide_eq_false h13))
    have hck : checkB d.m = true := codeOf_0 gh13
    have hg : Good d.m := ⟨hck, hE⟩
    refine WL.vg rfl (congrArg some h13) rfl rfl (X.fieldAddrO (off := 7) rfl Try.underlying51 rfl rfl Try.sizeOf49) ?_
    refine WL.vg rfl (congrArg some h13) rfl rfl (X.loadO hO2 (Ext.trans hx6 hx11) rfl rfl Try.isAgg49) ?_
    refine WL.vg rfl (congrArg some h13) rfl rfl (X.len rE rfl Try.underlying49) ?_
    refine WL.vg rfl (congrArg some h13) rfl rfl (X.gtr rfl rfl) ?_
    refine WL.va rfl rfl rfl (X.pickF rfl h13 rfl) ?_
    refine WL.va rfl rfl rfl (X.moveB rfl) ?_
    refine WL.split (j := 10) rfl (fun h21 => ?_) (fun h21 => ?_)
    · have gh21 := (of_decide_eq_true h21)
      refine WL.p rfl rfl rfl (congrArg some h21) ?_
      refine WL.p rfl rfl rfl (congrArg some h21) ?_
      refine WL.va rfl rfl rfl (X.pickT rfl h21 rfl) ?_
      refine WL.nil ?_
      refine thn_n ?_
      refine WF.cond_t rfl ?_
      refine WF.seq ?_
      refine WF.region ?_
      refine WL.c rfl rfl rfl (X.call Try.call13 evl_nil) (known_ok _) ?_
      rintro v24 w23 ⟨rfl, hx25⟩
      have := World.grownBy.size hx25
      refine WL.va rfl rfl rfl (X.assignB rfl) ?_
      refine WL.nil ?_
      refine thn_n ?_
      refine WF.ret ?_
      refine thn_r ?_
      refine fin_r ?_
      exact ⟨rfl, (Ext.trans (Ext.trans (Ext.trans hx3 hx6) hx11) hx25)⟩
    · have gh21 := (of_decide_eq_false h21)
      have hS : E.length ≤ 100 := by omega
      refine WL.vg rfl (congrArg some h21) rfl rfl (X.loadOA hO3 hx11 rfl rfl Try.isAgg72 Try.sizeOf72) ?_
      refine WL.cg rfl (congrArg some h21) rfl rfl (X.call Try.call43 (evl_cons rfl (evl_cons rfl (evl_cons rfl evl_nil)))) (Op.bigOp_ok vP vR vW vD o _ (ho.ext (Ext.trans (Ext.trans hx3 hx6) hx11))) ?_
      rintro v28 w27 ⟨⟨bb, rfl, hbb⟩, hx29⟩
      have := World.grownBy.size hx29
      refine WL.va rfl rfl rfl (X.pickF rfl h21 rfl) ?_
      refine WL.nil ?_
      refine thn_n ?_
      refine WF.cond rfl (fun h0_30 => ?_) (fun h0_30 => ?_)
      · have gh0_30 := h0_30
        refine WF.seq ?_
        refine WF.region ?_
        refine WL.c rfl rfl rfl (X.call Try.call13 evl_nil) (known_ok _) ?_
        rintro v33 w32 ⟨rfl, hx34⟩
        have := World.grownBy.size hx34
        refine WL.va rfl rfl rfl (X.assignB rfl) ?_
        refine WL.nil ?_
        refine thn_n ?_
        refine WF.ret ?_
        refine thn_r ?_
        refine fin_r ?_
        exact ⟨rfl, (Ext.trans (Ext.trans (Ext.trans (Ext.trans hx3 hx6) hx11) hx29) hx34)⟩
      · have gh0_30 := h0_30
        have hbf := hbb gh0_30
        refine WF.skip ?_
        refine thn_n ?_
        refine WF.seq ?_
        refine WF.seq ?_
        refine WF.region ?_
        refine WL.va rfl rfl rfl (X.assignI rfl) ?_
        refine WL.nil ?_
        refine thn_n ?_
        refine WF.block ?_
        refine WF.named (fun F36 hF37 => ?_)
        refine WF.loopN (fun mL0 f' w' => ∃ (i : Nat), mL0 = E.length - i ∧ f' 5 = .int .i64 (i : Int) ∧ Agree [0, 1, 2, 3, 18, 19, 20, 21, 22, 23, 24, 25, 26, 27, 28, 29, 30, 31] f' F36 ∧ Ext wbb w' ∧ i ≤ E.length ∧ ∀ j (hj : j < E.length), j < i → E[j].1.Data.length ≤ 4096) ?_ ?_
        · exact ⟨_, 0, rfl, (congrFun hF37 5), (Agree.refl _ _), (Ext.trans hx11 hx29), ⟨Nat.zero_le _, fun j _ hj => by omega⟩⟩
        · rintro mL0 fL0 wL0 ⟨i, hmL0, e5_L0, hAL0, hwL0, ⟨hi0, hsm⟩⟩
          have := World.grownBy.size hwL0
          refine WF.seq ?_
          refine WF.seq ?_
          refine WF.region ?_
          refine WL.va rfl rfl rfl (X.moveI e5_L0) ?_
          refine WL.va rfl rfl rfl (X.fieldAddrO (off := 7) ((hAL0.eq 2).trans (congrFun hF37 2)) Try.underlying51 rfl rfl Try.sizeOf49) ?_
          refine WL.va rfl rfl rfl (X.loadO hO2 (Ext.trans hx6 hwL0) rfl rfl Try.isAgg49) ?_
          refine WL.va rfl rfl rfl (X.len rE rfl Try.underlying49) ?_
          refine WL.va rfl rfl rfl (X.lss rfl rfl) ?_
          refine WL.nil ?_
          refine thn_n ?_
          refine WF.cond rfl (fun h1_38 => ?_) (fun h1_38 => ?_)
          · have gh1_38 := (of_decide_eq_true h1_38)
            have hi : i < E.length := by omega
            refine WF.skip ?_
            refine thn_n ?_
            refine WF.seq ?_
            refine WF.block ?_
            refine WF.seq ?_
            refine WF.region ?_
            refine WL.va rfl rfl rfl (X.fieldAddrO (off := 7) ((hAL0.eq 2).trans (congrFun hF37 2)) Try.underlying51 rfl rfl Try.sizeOf49) ?_
            refine WL.va rfl rfl rfl (X.loadO hO2 (Ext.trans hx6 hwL0) rfl rfl Try.isAgg49) ?_
            refine WL.va rfl rfl rfl (X.moveI e5_L0) ?_
            refine WL.va rfl rfl rfl (X.idx rE rfl rfl (by omega) Try.underlying49 Try.sizeOf55) ?_
            refine WL.va rfl rfl rfl (X.fieldAddrA rfl Try.underlying55 rfl rfl Try.sizeOf53) ?_
            refine WL.va rfl rfl rfl (X.fieldAddrAA (off := 1) rfl Try.underlying53 rfl rfl Try.sizeOf46) ?_
            refine WL.va rfl rfl rfl (X.loadE rE (Ext.trans (Ext.trans hx3 hx6) hwL0) rfl (by omega) ((Se.SRow.get hi (by decide)).trans rfl) Try.isAgg46) ?_
            refine WL.va rfl rfl rfl (X.len (dE _ (List.getElem_mem hi)) rfl Try.underlying46) ?_
            refine WL.va rfl rfl rfl (X.gtr rfl rfl) ?_
            refine WL.nil ?_
            refine thn_n ?_
            refine WF.cond rfl (fun h2_40 => ?_) (fun h2_40 => ?_)
            · have gh2_40 := (of_decide_eq_true h2_40)
              refine WF.seq ?_
              refine WF.region ?_
              refine WL.c rfl rfl rfl (X.call Try.call13 evl_nil) (known_ok _) ?_
              rintro v43 w42 ⟨rfl, hx44⟩
              have := World.grownBy.size hx44
              refine WL.va rfl rfl rfl (X.assignB rfl) ?_
              refine WL.nil ?_
              refine thn_n ?_
              refine WF.ret ?_
              refine blk_r ?_
              refine thn_r ?_
              refine thn_r ?_
              refine blk_r ?_
              refine thn_r ?_
              refine fin_r ?_
              exact ⟨rfl, (Ext.trans (Ext.trans (Ext.trans hx3 hx6) hwL0) hx44)⟩
            · have gh2_40 := (of_decide_eq_false h2_40)
              have hil : (E[i]'hi).1.Data.length ≤ 4096 := by omega
              refine WF.skip ?_
              refine blk_n ?_
              refine thn_n ?_
              refine WF.region ?_
              refine WL.va rfl rfl rfl (X.moveI e5_L0) ?_
              refine WL.va rfl rfl rfl (X.add rfl rfl (w64 (by omega))) ?_
              refine WL.va rfl rfl rfl (X.assignI rfl) ?_
              refine WL.nil ?_
              exact thn_n ⟨_, (by omega), i + 1, rfl, rfl, (by repeat (first | exact hAL0 | refine Agree.put ?_ rfl | refine Agree.named hF37 ?_)), hwL0, ⟨by omega, fun j hj hj2 => by
        rcases Nat.lt_succ_iff_lt_or_eq.1 hj2 with hq | rfl
        · exact hsm j hj hq
        · exact hil⟩⟩
          · have gh1_38 := (of_decide_eq_false h1_38)
            have hD : ∀ s ∈ d.S, s.Data.length ≤ 4096 := by {
              intro s hs
              rw [← hE1] at hs
              obtain ⟨e, he, rfl⟩ := List.mem_map.1 hs
              obtain ⟨j, hj, rfl⟩ := List.getElem_of_mem he
              exact hsm j hj (by omega) }
            have hgx : Good (appF d o.n).1.m := app_good hg o.n
            have hlx := app_len d o.n
            have hDx := app_data hg o.n hD
            have hd1 := app_done1 hgx
            have hd2 := app_done2 hgx
            refine WF.exit ?_
            refine thn_x ?_
            refine thn_x ?_
            refine blk_eq ?_
            refine thn_n ?_
            refine WF.seq ?_
            refine WF.region ?_
            refine WL.va rfl rfl rfl (X.loadOA hO2 (Ext.trans hx6 hwL0) ((hAL0.eq 2).trans (congrFun hF37 2)) rfl Try.isAgg51 Try.sizeOf51) ?_
            refine WL.va rfl rfl rfl (X.loadOA hO3 hwL0 ((hAL0.eq 3).trans (congrFun hF37 3)) rfl Try.isAgg72 Try.sizeOf72) ?_
            refine WL.c rfl rfl rfl (X.call Try.call45 (evl_cons rfl (evl_cons rfl evl_nil))) (apply_ok d v u vP vR vW vD o _ (h.ext (Ext.trans (Ext.trans hx3 hx6) hwL0)) hg (by omega) (fun s hs => Nat.le_trans (hD s hs) (by decide)) (ho.ext (Ext.trans (Ext.trans hx3 hx6) hwL0))) ?_
            rintro v47 w46 ⟨⟨vx, ux, dx, Fx, rfl, hFx, oxT, odx, _⟩, hx48⟩
            have := World.grownBy.size hx48
            refine WL.va rfl rfl rfl (X.move rfl) ?_
            refine WL.va rfl rfl rfl (X.extract rfl rfl) ?_
            refine WL.va rfl rfl rfl (X.extract rfl rfl) ?_
            refine WL.op rfl (OW.allocO (cs := [.slice none 0 0, i64 0, i64 0, i64 0, i64 0, i64 0, i64 0, .slice none 0 0]) Try.zeroValue51 rfl ?_ (by decide))
            intro g6 w49 heg6 hlg6 hO6 hx51
            have := World.grownBy.size hx51
            refine WL.op rfl (OW.allocO (cs := [i64 0, .slice none 0 0]) Try.zeroValue53 rfl ?_ (by decide))
            intro g7 w53 heg7 hlg7 hO7 hx55
            have := World.grownBy.size hx55
            refine WL.op rfl (OW.storeOA (hO6.ext hx55) rfl rfl rfl (Dr.c_one _ oxT.rng.rd (own_one oxT.ses.own.row)) Try.sizeOf51 ?_)
            intro w57 hO6 hx59
            have := World.grownBy.size hx59
            replace hO2 := (hO2.ext (Ext.trans (Ext.trans (Ext.trans (Ext.trans hx6 hwL0) hx48) hx51) hx55)).keptO hx59 (by omega)
            replace hO3 := (hO3.ext (Ext.trans (Ext.trans (Ext.trans hwL0 hx48) hx51) hx55)).keptO hx59 (by omega)
            replace oxT := (oxT.ext (Ext.trans hx51 hx55)).keptO hx59 (by omega)
            replace odx := (odx.ext (Ext.trans hx51 hx55)).keptO hx59 (by omega)
            replace hO7 := hO7.keptO hx59 (by omega)
            replace hO6 : Blk _ _ _ ((appF d o.n).1.c vx ux) := hO6
            refine WL.op rfl (OW.storeOA hO7 rfl rfl rfl (ones2 _ (own_one odx.own)) Try.sizeOf53 ?_)
            intro w61 hO7 hx63
            have := World.grownBy.size hx63
            replace hO2 := hO2.keptO hx63 (by omega)
            replace hO3 := hO3.keptO hx63 (by omega)
            replace oxT := oxT.keptO hx63 (by omega)
            replace odx := odx.keptO hx63 (by omega)
            replace hO6 := hO6.keptO hx63 (by omega)
            refine WL.nil ?_
            refine thn_n ?_
            refine WF.seq ?_
            refine WF.named (fun F66 hF67 => ?_)
            refine WF.cut (fun f' w' => f' 63 = .bool (decide (o.n.getD 0 0 ≠ 9 ∧ o.n.getD 0 0 ≠ 10)) ∧ Agree [0, 1, 2, 3, 5, 6, 7, 18, 19, 20, 21, 22, 23, 24, 25, 26, 27, 28, 29, 30, 31, 33, 34, 35, 36, 37, 50, 51, 52, 53, 54, 55] f' F66 ∧ w61 = w') ?_ ?_
            · refine WF.region ?_
              refine WL.va rfl rfl rfl (X.fieldAddrO (off := 0) ((congrFun hF67 3).trans ((hAL0.eq 3).trans (congrFun hF37 3))) Try.underlying72 rfl rfl Try.sizeOf3) ?_
              refine WL.va rfl rfl rfl (X.loadO hO3 (Ext.refl _) rfl rfl Try.isAgg3) ?_
              refine WL.va rfl rfl rfl (X.neq rfl rfl) ?_
              refine WL.va rfl rfl rfl (X.moveB rfl) ?_
              refine WL.split (j := 3) rfl (fun h69 => ?_) (fun h69 => ?_)
              · have gh69 := (of_decide_eq_true h69)
                have k9 : ¬ o.n.getD 0 0 = 9 := gh69
                refine WL.vg rfl (congrArg some h69) rfl rfl (X.fieldAddrO (off := 0) ((congrFun hF67 3).trans ((hAL0.eq 3).trans (congrFun hF37 3))) Try.underlying72 rfl rfl Try.sizeOf3) ?_
                refine WL.vg rfl (congrArg some h69) rfl rfl (X.loadO hO3 (Ext.refl _) rfl rfl Try.isAgg3) ?_
                refine WL.vg rfl (congrArg some h69) rfl rfl (X.neq rfl rfl) ?_
                refine WL.va rfl rfl rfl (X.pickT rfl h69 rfl) ?_
                refine WL.nil ?_
                refine thn_n ?_
                exact ⟨(congrArg Value.bool (by first | exact Op.dec_f (fun e => e.1 k9) | exact decide_eq_decide.2 ⟨fun e => ⟨k9, e⟩, fun e => e.2⟩ | simp [k9])), (by repeat (first | exact (Agree.refl _ F66) | refine Agree.put ?_ rfl | refine Agree.sub hAL0 rfl ?_ | refine Agree.named hF67 ?_ | refine Agree.named hF37 ?_)), rfl⟩
              · have gh69 := (Decidable.of_not_not (of_decide_eq_false h69))
                have k9 : o.n.getD 0 0 = 9 := by simpa using gh69
                refine WL.p rfl rfl rfl (congrArg some h69) ?_
                refine WL.p rfl rfl rfl (congrArg some h69) ?_
                refine WL.p rfl rfl rfl (congrArg some h69) ?_
                refine WL.va rfl rfl rfl (X.pickF rfl h69 rfl) ?_
                refine WL.nil ?_
                refine thn_n ?_
                exact ⟨(congrArg Value.bool (by first | exact Op.dec_f (fun e => e.1 k9) | exact decide_eq_decide.2 ⟨fun e => ⟨k9, e⟩, fun e => e.2⟩ | simp [k9])), (by repeat (first | exact (Agree.refl _ F66) | refine Agree.put ?_ rfl | refine Agree.sub hAL0 rfl ?_ | refine Agree.named hF67 ?_ | refine Agree.named hF37 ?_)), rfl⟩
            · rintro fCr9 wCr9 ⟨e63_Cr9, hACr9, rfl⟩
              refine WF.cond e63_Cr9 (fun h3_72 => ?_) (fun h3_72 => ?_)
              · have gh3_72 := (of_decide_eq_true h3_72)
                have hk := gh3_72
                refine WF.seq ?_
                refine WF.region ?_
                refine WL.va rfl rfl rfl (X.fieldAddrO (off := 0) ((hACr9.eq 7).trans (congrFun hF67 7)) Try.underlying53 rfl rfl Try.sizeOf28) ?_
                refine WL.va rfl rfl rfl (X.loadO hO7 (Ext.refl _) rfl rfl Try.isAgg28) ?_
                refine WL.va rfl rfl rfl (X.eql rfl rfl) ?_
                refine WL.va rfl rfl rfl (X.moveB rfl) ?_
                refine WL.split (j := 3) rfl (fun h75 => ?_) (fun h75 => ?_)
                · have gh75 := (of_decide_eq_true h75)
                  refine WL.vg rfl (congrArg some h75) rfl rfl (X.loadOA hO6 (Ext.refl _) ((hACr9.eq 6).trans (congrFun hF67 6)) rfl Try.isAgg51 Try.sizeOf51) ?_
                  refine WL.vg rfl (congrArg some h75) rfl rfl (X.loadOA hO2 (Ext.refl _) ((hACr9.eq 2).trans ((congrFun hF67 2).trans ((hAL0.eq 2).trans (congrFun hF37 2)))) rfl Try.isAgg51 Try.sizeOf51) ?_
                  refine WL.cg rfl (congrArg some h75) rfl rfl (X.call Try.call36 (evl_cons rfl (evl_cons rfl evl_nil))) (sameDir_self (oxT.at hFx) (h.ext (Ext.store (Ext.trans (Ext.trans (Ext.trans (Ext.trans hx3 hx6) hwL0) hx48) (Ext.store (Ext.trans hx51 hx55) hx59 (by omega))) hx63 (by omega))) (by rw [app_bad hk])) ?_
                  rintro v77 w76 ⟨rfl, hx78⟩
                  have := World.grownBy.size hx78
                  refine WL.va rfl rfl rfl (X.pickT rfl h75 rfl) ?_
                  refine WL.va rfl rfl rfl (X.moveB rfl) ?_
                  refine WL.cg rfl rfl rfl rfl (X.call Try.call13 evl_nil) (known_ok _) ?_
                  rintro v81 w80 ⟨rfl, hx82⟩
                  have := World.grownBy.size hx82
                  refine WL.va rfl rfl rfl (X.pickT rfl rfl rfl) ?_
                  refine WL.va rfl rfl rfl (X.assignB rfl) ?_
                  refine WL.nil ?_
                  refine thn_n ?_
                  refine WF.ret ?_
                  refine thn_r ?_
                  refine fin_r ?_
                  exact ⟨rfl, (Ext.trans (Ext.trans (Ext.store (Ext.trans (Ext.trans (Ext.trans (Ext.trans hx3 hx6) hwL0) hx48) (Ext.store (Ext.trans hx51 hx55) hx59 (by omega))) hx63 (by omega)) hx78) hx82)⟩
                · have gh75 := (of_decide_eq_false h75)
                  exact absurd (by rw [app_bad hk]) gh75
              · have gh3_72 := (of_decide_eq_false h3_72)
                have hk := gh3_72
                refine WF.skip ?_
                refine thn_n ?_
                refine WF.seq ?_
                refine WF.region ?_
                refine WL.va rfl rfl rfl (X.loadOA hO6 (Ext.refl _) ((hACr9.eq 6).trans (congrFun hF67 6)) rfl Try.isAgg51 Try.sizeOf51) ?_
                refine WL.va rfl rfl rfl (X.loadOA hO3 (Ext.refl _) ((hACr9.eq 3).trans ((congrFun hF67 3).trans ((hAL0.eq 3).trans (congrFun hF37 3)))) rfl Try.isAgg72 Try.sizeOf72) ?_
                refine WL.c rfl rfl rfl (X.call Try.call45 (evl_cons rfl (evl_cons rfl evl_nil))) (apply_ok (appF d o.n).1 vx ux vP vR vW vD o _ (oxT.at hFx) hgx (by omega) (fun s hs => Nat.le_trans (hDx s hs) (by decide)) (ho.ext (Ext.store (Ext.trans (Ext.trans (Ext.trans (Ext.trans hx3 hx6) hwL0) hx48) (Ext.store (Ext.trans hx51 hx55) hx59 (by omega))) hx63 (by omega)))) ?_
                rintro v85 w84 ⟨⟨vy, uy, dy, Fy, rfl, hFy, oyT, ody, _⟩, hx86⟩
                have := World.grownBy.size hx86
                refine WL.va rfl rfl rfl (X.move rfl) ?_
                refine WL.va rfl rfl rfl (X.extract rfl rfl) ?_
                refine WL.va rfl rfl rfl (X.extract rfl rfl) ?_
                refine WL.op rfl (OW.allocO (cs := [.slice none 0 0, i64 0, i64 0, i64 0, i64 0, i64 0, i64 0, .slice none 0 0]) Try.zeroValue51 rfl ?_ (by decide))
                intro g8 w87 heg8 hlg8 hO8 hx89
                have := World.grownBy.size hx89
                refine WL.op rfl (OW.allocO (cs := [i64 0, .slice none 0 0]) Try.zeroValue53 rfl ?_ (by decide))
                intro g9 w91 heg9 hlg9 hO9 hx93
                have := World.grownBy.size hx93
                refine WL.op rfl (OW.storeOA (hO8.ext hx93) rfl rfl rfl (Dr.c_one _ oyT.rng.rd (own_one oyT.ses.own.row)) Try.sizeOf51 ?_)
                intro w95 hO8 hx97
                have := World.grownBy.size hx97
                replace hO2 := (hO2.ext (Ext.trans (Ext.trans hx86 hx89) hx93)).keptO hx97 (by omega)
                replace hO3 := (hO3.ext (Ext.trans (Ext.trans hx86 hx89) hx93)).keptO hx97 (by omega)
                replace oxT := (oxT.ext (Ext.trans (Ext.trans hx86 hx89) hx93)).keptO hx97 (by omega)
                replace odx := (odx.ext (Ext.trans (Ext.trans hx86 hx89) hx93)).keptO hx97 (by omega)
                replace hO6 := (hO6.ext (Ext.trans (Ext.trans hx86 hx89) hx93)).keptO hx97 (by omega)
                replace hO7 := (hO7.ext (Ext.trans (Ext.trans hx86 hx89) hx93)).keptO hx97 (by omega)
                replace oyT := (oyT.ext (Ext.trans hx89 hx93)).keptO hx97 (by omega)
                replace ody := (ody.ext (Ext.trans hx89 hx93)).keptO hx97 (by omega)
                replace hO9 := hO9.keptO hx97 (by omega)
                replace hO8 : Blk _ _ _ ((appF (appF d o.n).1 o.n).1.c vy uy) := hO8
                refine WL.op rfl (OW.storeOA hO9 rfl rfl rfl (ones2 _ (own_one ody.own)) Try.sizeOf53 ?_)
                intro w99 hO9 hx101
                have := World.grownBy.size hx101
                replace hO2 := hO2.keptO hx101 (by omega)
                replace hO3 := hO3.keptO hx101 (by omega)
                replace oxT := oxT.keptO hx101 (by omega)
                replace odx := odx.keptO hx101 (by omega)
                replace hO6 := hO6.keptO hx101 (by omega)
                replace hO7 := hO7.keptO hx101 (by omega)
                replace oyT := oyT.keptO hx101 (by omega)
                replace ody := ody.keptO hx101 (by omega)
                replace hO8 := hO8.keptO hx101 (by omega)
                refine WL.nil ?_
                refine thn_n ?_
                refine WF.seq ?_
                refine WF.seq ?_
                refine WF.region ?_
                refine WL.va rfl rfl rfl (X.fieldAddrO (off := 1) ((hACr9.eq 3).trans ((congrFun hF67 3).trans ((hAL0.eq 3).trans (congrFun hF37 3)))) Try.underlying72 rfl rfl Try.sizeOf3) ?_
                refine WL.va rfl rfl rfl (X.loadO hO3 (Ext.refl _) rfl rfl Try.isAgg3) ?_
                refine WL.va rfl rfl rfl (X.neq rfl rfl) ?_
                refine WL.va rfl rfl rfl (X.moveB rfl) ?_
                refine WL.split (j := 3) rfl (fun h104 => ?_) (fun h104 => ?_)
                · have gh104 := (of_decide_eq_true h104)
                  have hc0 : o.n.getD 1 0 ≠ 0 := gh104
                  have hag := app_again (d := d) (n := o.n) hk hc0
                  refine WL.vg rfl (congrArg some h104) rfl rfl (X.loadOA hO6 (Ext.refl _) ((hACr9.eq 6).trans (congrFun hF67 6)) rfl Try.isAgg51 Try.sizeOf51) ?_
                  refine WL.vg rfl (congrArg some h104) rfl rfl (X.loadOA hO8 (Ext.refl _) rfl rfl Try.isAgg51 Try.sizeOf51) ?_
                  refine WL.cg rfl (congrArg some h104) rfl rfl (X.call Try.call36 (evl_cons rfl (evl_cons rfl evl_nil))) (sameDir_self (oxT.at hFx) (oyT.at hFy) (by rw [hag])) ?_
                  rintro v106 w105 ⟨rfl, hx107⟩
                  have := World.grownBy.size hx107
                  refine WL.vg rfl (congrArg some h104) rfl rfl (X.not rfl) ?_
                  refine WL.vg rfl (congrArg some h104) rfl rfl (X.moveB rfl) ?_
                  refine WL.vg rfl rfl rfl rfl (X.loadOA hO7 hx107 ((hACr9.eq 7).trans (congrFun hF67 7)) rfl Try.isAgg53 Try.sizeOf53) ?_
                  refine WL.vg rfl rfl rfl rfl (X.loadOA hO9 hx107 rfl rfl Try.isAgg53 Try.sizeOf53) ?_
                  refine WL.cg rfl rfl rfl rfl (X.call Try.call47 (evl_cons rfl (evl_cons rfl evl_nil))) (sameRes_self (odx.ext hx107).rd (ody.ext hx107).rd (by rw [hag]; exact ⟨rfl, rfl⟩)) ?_
                  rintro v111 w110 ⟨rfl, hx112⟩
                  have := World.grownBy.size hx112
                  refine WL.vg rfl rfl rfl rfl (X.not rfl) ?_
                  refine WL.vg rfl (congrArg some h104) rfl rfl (X.pickF rfl rfl rfl) ?_
                  refine WL.va rfl rfl rfl (X.pickT rfl h104 rfl) ?_
                  refine WL.nil ?_
                  refine thn_n ?_
                  refine WF.cond_f rfl ?_
                  refine WF.skip ?_
                  refine thn_n ?_
                  refine WF.seq ?_
                  refine WF.seq ?_
                  refine WF.region ?_
                  refine WL.va rfl rfl rfl (X.fieldAddrO (off := 1) ((hACr9.eq 3).trans ((congrFun hF67 3).trans ((hAL0.eq 3).trans (congrFun hF37 3)))) Try.underlying72 rfl rfl Try.sizeOf3) ?_
                  refine WL.va rfl rfl rfl (X.loadO hO3 (Ext.trans hx107 hx112) rfl rfl Try.isAgg3) ?_
                  refine WL.va rfl rfl rfl (X.neq rfl rfl) ?_
                  refine WL.va rfl rfl rfl (X.moveB rfl) ?_
                  refine WL.split (j := 3) rfl (fun h116 => ?_) (fun h116 => ?_)
                  · have gh116 := (of_decide_eq_true h116)
                    have hc1 : o.n.getD 1 0 ≠ 0 := gh116
                    refine WL.vg rfl (congrArg some h116) rfl rfl (X.fieldAddrO (off := 0) ((hACr9.eq 7).trans (congrFun hF67 7)) Try.underlying53 rfl rfl Try.sizeOf28) ?_
                    refine WL.vg rfl (congrArg some h116) rfl rfl (X.loadO hO7 (Ext.trans hx107 hx112) rfl rfl Try.isAgg28) ?_
                    refine WL.vg rfl (congrArg some h116) rfl rfl (X.neq rfl rfl) ?_
                    refine WL.va rfl rfl rfl (X.pickT rfl h116 rfl) ?_
                    refine WL.va rfl rfl rfl (X.moveB rfl) ?_
                    refine WL.split (j := 8) rfl (fun h118 => ?_) (fun h118 => ?_)
                    · have gh118 := (of_decide_eq_true h118)
                      have h15 : (appF d o.n).2.1 ≠ 15 := gh118
                      have hel : (appF (appF d o.n).1 (o.n.set 2 (o.n.getD 2 0 - 1))) = ((appF d o.n).1, (15, [])) := app_elder hk hc1 h15 (by rw [set_getD (by rw [ho.len]; decide)]; rfl) (by rw [set_getD (by rw [ho.len]; decide)]; rfl) (by rw [set_getD (by rw [ho.len]; decide)]; rfl)
                      refine WL.vg rfl (congrArg some h118) rfl rfl (X.fieldAddrO (off := 2) ((hACr9.eq 3).trans ((congrFun hF67 3).trans ((hAL0.eq 3).trans (congrFun hF37 3)))) Try.underlying72 rfl rfl Try.sizeOf3) ?_
                      refine WL.vg rfl (congrArg some h118) rfl rfl (X.loadO hO3 (Ext.trans hx107 hx112) rfl rfl Try.isAgg3) ?_
                      refine WL.vg rfl (congrArg some h118) rfl rfl (X.gtr rfl rfl) ?_
                      refine WL.va rfl rfl rfl (X.pickT rfl h118 rfl) ?_
                      refine WL.nil ?_
                      refine thn_n ?_
                      refine WF.cond rfl (fun h5_119 => ?_) (fun h5_119 => ?_)
                      · have gh5_119 := (of_decide_eq_true h5_119)
                        have hqq : -9223372036854775808 < o.n.getD 2 0 := by omega
                        refine WF.seq ?_
                        refine WF.region ?_
                        refine WL.va rfl rfl rfl (X.loadOA hO3 (Ext.trans hx107 hx112) ((hACr9.eq 3).trans ((congrFun hF67 3).trans ((hAL0.eq 3).trans (congrFun hF37 3)))) rfl Try.isAgg72 Try.sizeOf72) ?_
                        refine WL.op rfl (OW.allocO (cs := [i64 0, i64 0, i64 0, i64 0, i64 0, i64 0, i64 0, i64 0, i64 0, i64 0, i64 0, i64 0, i64 0, .slice none 0 0, .slice none 0 0, .slice none 0 0, .slice none 0 0]) Try.zeroValue72 rfl ?_ (by decide))
                        intro g10 w121 heg10 hlg10 hO10 hx123
                        have := World.grownBy.size hx123
                        refine WL.op rfl (OW.storeOA hO10 rfl rfl rfl (ho.ones _) Try.sizeOf72 ?_)
                        intro w125 hO10 hx127
                        have := World.grownBy.size hx127
                        replace hO2 := (hO2.ext (Ext.trans (Ext.trans hx107 hx112) hx123)).keptO hx127 (by omega)
                        replace hO3 := (hO3.ext (Ext.trans (Ext.trans hx107 hx112) hx123)).keptO hx127 (by omega)
                        replace oxT := (oxT.ext (Ext.trans (Ext.trans hx107 hx112) hx123)).keptO hx127 (by omega)
                        replace odx := (odx.ext (Ext.trans (Ext.trans hx107 hx112) hx123)).keptO hx127 (by omega)
                        replace hO6 := (hO6.ext (Ext.trans (Ext.trans hx107 hx112) hx123)).keptO hx127 (by omega)
                        replace hO7 := (hO7.ext (Ext.trans (Ext.trans hx107 hx112) hx123)).keptO hx127 (by omega)
                        replace oyT := (oyT.ext (Ext.trans (Ext.trans hx107 hx112) hx123)).keptO hx127 (by omega)
                        replace ody := (ody.ext (Ext.trans (Ext.trans hx107 hx112) hx123)).keptO hx127 (by omega)
                        replace hO8 := (hO8.ext (Ext.trans (Ext.trans hx107 hx112) hx123)).keptO hx127 (by omega)
                        replace hO9 := (hO9.ext (Ext.trans (Ext.trans hx107 hx112) hx123)).keptO hx127 (by omega)
                        replace hO10 : Blk _ _ _ (Op.oc o.n vP vR vW vD) := hO10
                        refine WL.nil ?_
                        refine thn_n ?_
                        refine WF.seq ?_
                        refine WF.region ?_
                        refine WL.va rfl rfl rfl (X.fieldAddrO (off := 2) ((hACr9.eq 3).trans ((congrFun hF67 3).trans ((hAL0.eq 3).trans (congrFun hF37 3)))) Try.underlying72 rfl rfl Try.sizeOf3) ?_
                        refine WL.va rfl rfl rfl (X.loadO hO3 (Ext.refl _) rfl rfl Try.isAgg3) ?_
                        refine WL.va rfl rfl rfl (X.sub rfl rfl (w64 (by omega))) ?_
                        refine WL.va rfl rfl rfl (X.fieldAddrO (off := 2) rfl Try.underlying72 rfl rfl Try.sizeOf3) ?_
                        refine WL.op rfl (OW.storeO hO10 (Nat.le_of_ble_eq_true rfl) rfl rfl rfl Try.sizeOf3 ?_)
                        intro w129 hO10 hx131
                        have := World.grownBy.size hx131
                        replace hO2 := hO2.keptO hx131 (by omega)
                        replace hO3 := hO3.keptO hx131 (by omega)
                        replace oxT := oxT.keptO hx131 (by omega)
                        replace odx := odx.keptO hx131 (by omega)
                        replace hO6 := hO6.keptO hx131 (by omega)
                        replace hO7 := hO7.keptO hx131 (by omega)
                        replace oyT := oyT.keptO hx131 (by omega)
                        replace ody := ody.keptO hx131 (by omega)
                        replace hO8 := hO8.keptO hx131 (by omega)
                        replace hO9 := hO9.keptO hx131 (by omega)
                        replace hO10 : Blk w129 g10 72 (Op.oc (o.n.set 2 (o.n.getD 2 0 - 1)) vP vR vW vD) := by rw [← Op.oc_set _ ho.len (by decide)]; exact hO10
                        refine WL.nil ?_
                        refine thn_n ?_
                        refine WF.seq ?_
                        refine WF.region ?_
                        refine WL.va rfl rfl rfl (X.loadOA hO6 (Ext.refl _) ((hACr9.eq 6).trans (congrFun hF67 6)) rfl Try.isAgg51 Try.sizeOf51) ?_
                        refine WL.va rfl rfl rfl (X.loadOA hO10 (Ext.refl _) rfl rfl Try.isAgg72 Try.sizeOf72) ?_
                        refine WL.c rfl rfl rfl (X.call Try.call45 (evl_cons rfl (evl_cons rfl evl_nil))) (apply_ok (appF d o.n).1 vx ux vP vR vW vD ⟨(o.n.set 2 (o.n.getD 2 0 - 1)), o.P, o.R, o.W, o.D⟩ _ (oxT.at hFx) hgx (by omega) (fun s hs => Nat.le_trans (hDx s hs) (by decide)) ((opAt_set ho (by decide) ⟨by omega, by omega⟩).ext (Ext.trans (Ext.trans (Ext.trans (Ext.store (Ext.trans (Ext.trans (Ext.store (Ext.trans (Ext.trans (Ext.trans (Ext.trans hx3 hx6) hwL0) hx48) (Ext.store (Ext.trans hx51 hx55) hx59 (by omega))) hx63 (by omega)) hx86) (Ext.store (Ext.trans hx89 hx93) hx97 (by omega))) hx101 (by omega)) hx107) hx112) (Ext.store (Ext.store hx123 hx127 (by omega)) hx131 (by omega))))) ?_
                        rintro v134 w133 ⟨⟨vz, uz, dz, Fz, rfl, hFz, ozT, odz, _⟩, hx135⟩
                        have := World.grownBy.size hx135
                        refine WL.va rfl rfl rfl (X.move rfl) ?_
                        refine WL.va rfl rfl rfl (X.extract rfl rfl) ?_
                        refine WL.va rfl rfl rfl (X.extract rfl rfl) ?_
                        refine WL.op rfl (OW.allocO (cs := [.slice none 0 0, i64 0, i64 0, i64 0, i64 0, i64 0, i64 0, .slice none 0 0]) Try.zeroValue51 rfl ?_ (by decide))
                        intro g11 w136 heg11 hlg11 hO11 hx138
                        have := World.grownBy.size hx138
                        refine WL.op rfl (OW.allocO (cs := [i64 0, .slice none 0 0]) Try.zeroValue53 rfl ?_ (by decide))
                        intro g12 w140 heg12 hlg12 hO12 hx142
                        have := World.grownBy.size hx142
                        refine WL.op rfl (OW.storeOA (hO11.ext hx142) rfl rfl rfl (Dr.c_one _ ozT.rng.rd (own_one ozT.ses.own.row)) Try.sizeOf51 ?_)
                        intro w144 hO11 hx146
                        have := World.grownBy.size hx146
                        replace hO2 := (hO2.ext (Ext.trans (Ext.trans hx135 hx138) hx142)).keptO hx146 (by omega)
                        replace hO3 := (hO3.ext (Ext.trans (Ext.trans hx135 hx138) hx142)).keptO hx146 (by omega)
                        replace oxT := (oxT.ext (Ext.trans (Ext.trans hx135 hx138) hx142)).keptO hx146 (by omega)
                        replace odx := (odx.ext (Ext.trans (Ext.trans hx135 hx138) hx142)).keptO hx146 (by omega)
                        replace hO6 := (hO6.ext (Ext.trans (Ext.trans hx135 hx138) hx142)).keptO hx146 (by omega)
                        replace hO7 := (hO7.ext (Ext.trans (Ext.trans hx135 hx138) hx142)).keptO hx146 (by omega)
                        replace oyT := (oyT.ext (Ext.trans (Ext.trans hx135 hx138) hx142)).keptO hx146 (by omega)
                        replace ody := (ody.ext (Ext.trans (Ext.trans hx135 hx138) hx142)).keptO hx146 (by omega)
                        replace hO8 := (hO8.ext (Ext.trans (Ext.trans hx135 hx138) hx142)).keptO hx146 (by omega)
                        replace hO9 := (hO9.ext (Ext.trans (Ext.trans hx135 hx138) hx142)).keptO hx146 (by omega)
                        replace hO10 := (hO10.ext (Ext.trans (Ext.trans hx135 hx138) hx142)).keptO hx146 (by omega)
                        replace ozT := (ozT.ext (Ext.trans hx138 hx142)).keptO hx146 (by omega)
                        replace odz := (odz.ext (Ext.trans hx138 hx142)).keptO hx146 (by omega)
                        replace hO12 := hO12.keptO hx146 (by omega)
                        replace hO11 : Blk _ _ _ ((appF (appF d o.n).1 (o.n.set 2 (o.n.getD 2 0 - 1))).1.c vz uz) := hO11
                        refine WL.op rfl (OW.storeOA hO12 rfl rfl rfl (ones2 _ (own_one odz.own)) Try.sizeOf53 ?_)
                        intro w148 hO12 hx150
                        have := World.grownBy.size hx150
                        replace hO2 := hO2.keptO hx150 (by omega)
                        replace hO3 := hO3.keptO hx150 (by omega)
                        replace oxT := oxT.keptO hx150 (by omega)
                        replace odx := odx.keptO hx150 (by omega)
                        replace hO6 := hO6.keptO hx150 (by omega)
                        replace hO7 := hO7.keptO hx150 (by omega)
                        replace oyT := oyT.keptO hx150 (by omega)
                        replace ody := ody.keptO hx150 (by omega)
                        replace hO8 := hO8.keptO hx150 (by omega)
                        replace hO9 := hO9.keptO hx150 (by omega)
                        replace hO10 := hO10.keptO hx150 (by omega)
                        replace ozT := ozT.keptO hx150 (by omega)
                        replace odz := odz.keptO hx150 (by omega)
                        replace hO11 := hO11.keptO hx150 (by omega)
                        refine WL.nil ?_
                        refine thn_n ?_
                        refine WF.seq ?_
                        refine WF.region ?_
                        refine WL.va rfl rfl rfl (X.fieldAddrO (off := 0) rfl Try.underlying53 rfl rfl Try.sizeOf28) ?_
                        refine WL.va rfl rfl rfl (X.loadO hO12 (Ext.refl _) rfl rfl Try.isAgg28) ?_
                        refine WL.va rfl rfl rfl (X.neq rfl rfl) ?_
                        refine WL.va rfl rfl rfl (X.moveB rfl) ?_
                        refine WL.split (j := 3) rfl (fun h153 => ?_) (fun h153 => ?_)
                        · have gh153 := (of_decide_eq_true h153)
                          exact absurd (by rw [hel]) gh153
                        · have gh153 := (Decidable.of_not_not (of_decide_eq_false h153))
                          refine WL.vg rfl (congrArg some h153) rfl rfl (X.fieldAddrO (off := 1) rfl Try.underlying53 rfl rfl Try.sizeOf46) ?_
                          refine WL.vg rfl (congrArg some h153) rfl rfl (X.loadO hO12 (Ext.refl _) rfl rfl Try.isAgg46) ?_
                          refine WL.vg rfl (congrArg some h153) rfl rfl (X.len (odz.rd) rfl Try.underlying46) ?_
                          refine WL.vg rfl (congrArg some h153) rfl rfl (X.gtr rfl rfl) ?_
                          refine WL.va rfl rfl rfl (X.pickF rfl h153 rfl) ?_
                          refine WL.va rfl rfl rfl (X.moveB rfl) ?_
                          refine WL.split (j := 9) rfl (fun h155 => ?_) (fun h155 => ?_)
                          · have gh155 := (of_decide_eq_true h155)
                            rw [hel] at gh155; exact absurd gh155 (Int.lt_irrefl 0)
                          · have gh155 := (of_decide_eq_false h155)
                            refine WL.vg rfl (congrArg some h155) rfl rfl (X.loadOA hO6 (Ext.refl _) ((hACr9.eq 6).trans (congrFun hF67 6)) rfl Try.isAgg51 Try.sizeOf51) ?_
                            refine WL.vg rfl (congrArg some h155) rfl rfl (X.loadOA hO11 (Ext.refl _) rfl rfl Try.isAgg51 Try.sizeOf51) ?_
                            refine WL.cg rfl (congrArg some h155) rfl rfl (X.call Try.call36 (evl_cons rfl (evl_cons rfl evl_nil))) (sameDir_self (oxT.at hFx) (ozT.at hFz) (by rw [hel])) ?_
                            rintro v157 w156 ⟨rfl, hx158⟩
                            have := World.grownBy.size hx158
                            refine WL.vg rfl (congrArg some h155) rfl rfl (X.not rfl) ?_
                            refine WL.va rfl rfl rfl (X.pickF rfl h155 rfl) ?_
                            refine WL.nil ?_
                            refine thn_n ?_
                            refine WF.cond_f rfl ?_
                            refine WF.skip ?_
                            refine thn_n ?_
                            refine WF.seq ?_
                            refine WF.region ?_
                            refine WL.va rfl rfl rfl (X.fieldAddrO (off := 0) ((hACr9.eq 6).trans (congrFun hF67 6)) Try.underlying51 rfl rfl Try.sizeOf26) ?_
                            refine WL.va rfl rfl rfl (X.loadOP hO6 hx158 rfl rfl rfl Try.isAgg26 Try.sizeOf26) ?_
                            refine WL.va rfl rfl rfl (X.buildF (P := Try.prog) (t := 51) (cs := (Dr.c ⟨(appF d o.n).1.m, []⟩ vx nilS)) (evp_cons rfl evp_nil) Try.type51 Try.underlying51 rfl rfl (fill51a _ _ _ _ _ _ _)) ?_
                            refine WL.op rfl (OW.allocO (cs := [.slice none 0 0, i64 0, i64 0, i64 0, i64 0, i64 0, i64 0, .slice none 0 0]) Try.zeroValue51 rfl ?_ (by decide))
                            intro g13 w161 heg13 hlg13 hO13 hx163
                            have := World.grownBy.size hx163
                            refine WL.op rfl (OW.storeOA hO13 rfl rfl rfl (Dr.c_one ⟨(appF d o.n).1.m, []⟩ ((oxT.ext (Ext.trans hx158 hx163))).rng.rd rfl) Try.sizeOf51 ?_)
                            intro w165 hO13 hx167
                            have := World.grownBy.size hx167
                            replace hO2 := (hO2.ext (Ext.trans hx158 hx163)).keptO hx167 (by omega)
                            replace hO3 := (hO3.ext (Ext.trans hx158 hx163)).keptO hx167 (by omega)
                            replace oxT := (oxT.ext (Ext.trans hx158 hx163)).keptO hx167 (by omega)
                            replace odx := (odx.ext (Ext.trans hx158 hx163)).keptO hx167 (by omega)
                            replace hO6 := (hO6.ext (Ext.trans hx158 hx163)).keptO hx167 (by omega)
                            replace hO7 := (hO7.ext (Ext.trans hx158 hx163)).keptO hx167 (by omega)
                            replace oyT := (oyT.ext (Ext.trans hx158 hx163)).keptO hx167 (by omega)
                            replace ody := (ody.ext (Ext.trans hx158 hx163)).keptO hx167 (by omega)
                            replace hO8 := (hO8.ext (Ext.trans hx158 hx163)).keptO hx167 (by omega)
                            replace hO9 := (hO9.ext (Ext.trans hx158 hx163)).keptO hx167 (by omega)
                            replace hO10 := (hO10.ext (Ext.trans hx158 hx163)).keptO hx167 (by omega)
                            replace ozT := (ozT.ext (Ext.trans hx158 hx163)).keptO hx167 (by omega)
                            replace odz := (odz.ext (Ext.trans hx158 hx163)).keptO hx167 (by omega)
                            replace hO11 := (hO11.ext (Ext.trans hx158 hx163)).keptO hx167 (by omega)
                            replace hO12 := (hO12.ext (Ext.trans hx158 hx163)).keptO hx167 (by omega)
                            refine WL.nil ?_
                            refine thn_n ?_
                            refine WF.seq ?_
                            refine WF.region ?_
                            refine WL.va rfl rfl rfl (X.fieldAddrO (off := 0) ((hACr9.eq 6).trans (congrFun hF67 6)) Try.underlying51 rfl rfl Try.sizeOf26) ?_
                            refine WL.va rfl rfl rfl (X.fieldAddrP (off := 1) rfl Try.underlying26 rfl rfl Try.sizeOf3) ?_
                            refine WL.va rfl rfl rfl (X.loadO hO6 (Ext.refl _) rfl rfl Try.isAgg3) ?_
                            refine WL.va rfl rfl rfl (X.buildT (P := Try.prog) (t := 72) (cs := (Op.oc (aN (appF d o.n).1.m.E) nilS nilS nilS nilS)) (zs := [i64 0, i64 0, i64 0, i64 0, i64 0, i64 0, i64 0, i64 0, i64 0, i64 0, i64 0, i64 0, i64 0, .slice none 0 0, .slice none 0 0, .slice none 0 0, .slice none 0 0]) (places := [(0, 1), (1, 1), (2, 1), (3, 1), (4, 1), (5, 1), (6, 1), (7, 1), (8, 1), (9, 1), (10, 1), (11, 1), (12, 1), (13, 1), (14, 1), (15, 1), (16, 1)]) (n := 17) (evp_cons rfl (evp_cons rfl evp_nil)) Try.type72 Try.underlying72 rfl rfl ⟨rfl, rfl, trivial⟩ rfl rfl rfl) ?_
                            refine WL.op rfl (OW.allocO (cs := [i64 0, i64 0, i64 0, i64 0, i64 0, i64 0, i64 0, i64 0, i64 0, i64 0, i64 0, i64 0, i64 0, .slice none 0 0, .slice none 0 0, .slice none 0 0, .slice none 0 0]) Try.zeroValue72 rfl ?_ (by decide))
                            intro g14 w169 heg14 hlg14 hO14 hx171
                            have := World.grownBy.size hx171
                            refine WL.op rfl (OW.storeOA hO14 rfl rfl rfl ((opAt_nil w hgx.E).ones _) Try.sizeOf72 ?_)
                            intro w173 hO14 hx175
                            have := World.grownBy.size hx175
                            replace hO2 := (hO2.ext hx171).keptO hx175 (by omega)
                            replace hO3 := (hO3.ext hx171).keptO hx175 (by omega)
                            replace oxT := (oxT.ext hx171).keptO hx175 (by omega)
                            replace odx := (odx.ext hx171).keptO hx175 (by omega)
                            replace hO6 := (hO6.ext hx171).keptO hx175 (by omega)
                            replace hO7 := (hO7.ext hx171).keptO hx175 (by omega)
                            replace oyT := (oyT.ext hx171).keptO hx175 (by omega)
                            replace ody := (ody.ext hx171).keptO hx175 (by omega)
                            replace hO8 := (hO8.ext hx171).keptO hx175 (by omega)
                            replace hO9 := (hO9.ext hx171).keptO hx175 (by omega)
                            replace hO10 := (hO10.ext hx171).keptO hx175 (by omega)
                            replace ozT := (ozT.ext hx171).keptO hx175 (by omega)
                            replace odz := (odz.ext hx171).keptO hx175 (by omega)
                            replace hO11 := (hO11.ext hx171).keptO hx175 (by omega)
                            replace hO12 := (hO12.ext hx171).keptO hx175 (by omega)
                            replace hO13 := (hO13.ext hx171).keptO hx175 (by omega)
                            refine WL.nil ?_
                            refine thn_n ?_
                            refine WF.seq ?_
                            refine WF.region ?_
                            refine WL.va rfl rfl rfl (X.loadOA hO13 (Ext.refl _) rfl rfl Try.isAgg51 Try.sizeOf51) ?_
                            refine WL.va rfl rfl rfl (X.loadOA hO14 (Ext.refl _) rfl rfl Try.isAgg72 Try.sizeOf72) ?_
                            refine WL.c rfl rfl rfl (X.call Try.call45 (evl_cons rfl (evl_cons rfl evl_nil))) (apply_ok ⟨(appF d o.n).1.m, []⟩ vx nilS nilS nilS nilS nilS ⟨(aN (appF d o.n).1.m.E), [], [], [], []⟩ _ ⟨oxT.rng.rd, sess_nil _⟩ hgx (Nat.zero_le _) (fun s hs => by cases hs) (opAt_nil _ hgx.E)) ?_
                            rintro v178 w177 ⟨⟨vw, uw, dw, Fw, rfl, hFw, owT, odw, _⟩, hx179⟩
                            have := World.grownBy.size hx179
                            have owS := owT.ses
                            have hFw0 : Fw.length = 0 := by have := congrArg List.length hFw; rw [hd1.2.2.2] at this; simpa using this
                            have hw0 : (Fw.length : Int) = 0 := by omega
                            refine WL.va rfl rfl rfl (X.move rfl) ?_
                            refine WL.va rfl rfl rfl (X.extract rfl rfl) ?_
                            refine WL.va rfl rfl rfl (X.extract rfl rfl) ?_
                            refine WL.op rfl (OW.allocO (cs := [i64 0, .slice none 0 0]) Try.zeroValue53 rfl ?_ (by decide))
                            intro g15 w180 heg15 hlg15 hO15 hx182
                            have := World.grownBy.size hx182
                            refine WL.op rfl (OW.storeOA (hO13.ext (Ext.trans hx179 hx182)) rfl rfl rfl (Dr.c_one _ owT.rng.rd (own_one owT.ses.own.row)) Try.sizeOf51 ?_)
                            intro w184 hO13 hx186
                            have := World.grownBy.size hx186
                            replace hO2 := (hO2.ext (Ext.trans hx179 hx182)).keptO hx186 (by omega)
                            replace hO3 := (hO3.ext (Ext.trans hx179 hx182)).keptO hx186 (by omega)
                            replace oxT := (oxT.ext (Ext.trans hx179 hx182)).keptO hx186 (by omega)
                            replace odx := (odx.ext (Ext.trans hx179 hx182)).keptO hx186 (by omega)
                            replace hO6 := (hO6.ext (Ext.trans hx179 hx182)).keptO hx186 (by omega)
                            replace hO7 := (hO7.ext (Ext.trans hx179 hx182)).keptO hx186 (by omega)
                            replace oyT := (oyT.ext (Ext.trans hx179 hx182)).keptO hx186 (by omega)
                            replace ody := (ody.ext (Ext.trans hx179 hx182)).keptO hx186 (by omega)
                            replace hO8 := (hO8.ext (Ext.trans hx179 hx182)).keptO hx186 (by omega)
                            replace hO9 := (hO9.ext (Ext.trans hx179 hx182)).keptO hx186 (by omega)
                            replace hO10 := (hO10.ext (Ext.trans hx179 hx182)).keptO hx186 (by omega)
                            replace ozT := (ozT.ext (Ext.trans hx179 hx182)).keptO hx186 (by omega)
                            replace odz := (odz.ext (Ext.trans hx179 hx182)).keptO hx186 (by omega)
                            replace hO11 := (hO11.ext (Ext.trans hx179 hx182)).keptO hx186 (by omega)
                            replace hO12 := (hO12.ext (Ext.trans hx179 hx182)).keptO hx186 (by omega)
                            replace hO14 := (hO14.ext (Ext.trans hx179 hx182)).keptO hx186 (by omega)
                            replace owT := (owT.ext hx182).keptO hx186 (by omega)
                            replace odw := (odw.ext hx182).keptO hx186 (by omega)
                            replace owS := (owS.ext hx182).keptO hx186 (by omega)
                            replace hO15 := hO15.keptO hx186 (by omega)
                            replace hO13 : Blk _ _ _ ((appF ⟨(appF d o.n).1.m, []⟩ (aN (appF d o.n).1.m.E)).1.c vw uw) := hO13
                            refine WL.op rfl (OW.storeOA hO15 rfl rfl rfl (ones2 _ (own_one odw.own)) Try.sizeOf53 ?_)
                            intro w188 hO15 hx190
                            have := World.grownBy.size hx190
                            replace hO2 := hO2.keptO hx190 (by omega)
                            replace hO3 := hO3.keptO hx190 (by omega)
                            replace oxT := oxT.keptO hx190 (by omega)
                            replace odx := odx.keptO hx190 (by omega)
                            replace hO6 := hO6.keptO hx190 (by omega)
                            replace hO7 := hO7.keptO hx190 (by omega)
                            replace oyT := oyT.keptO hx190 (by omega)
                            replace ody := ody.keptO hx190 (by omega)
                            replace hO8 := hO8.keptO hx190 (by omega)
                            replace hO9 := hO9.keptO hx190 (by omega)
                            replace hO10 := hO10.keptO hx190 (by omega)
                            replace ozT := ozT.keptO hx190 (by omega)
                            replace odz := odz.keptO hx190 (by omega)
                            replace hO11 := hO11.keptO hx190 (by omega)
                            replace hO12 := hO12.keptO hx190 (by omega)
                            replace hO13 := hO13.keptO hx190 (by omega)
                            replace hO14 := hO14.keptO hx190 (by omega)
                            replace owT := owT.keptO hx190 (by omega)
                            replace odw := odw.keptO hx190 (by omega)
                            replace owS := owS.keptO hx190 (by omega)
                            refine WL.nil ?_
                            refine thn_n ?_
                            refine WF.seq ?_
                            refine WF.region ?_
                            refine WL.va rfl rfl rfl (X.loadOA hO13 (Ext.refl _) rfl rfl Try.isAgg51 Try.sizeOf51) ?_
                            refine WL.va rfl rfl rfl (X.loadOA hO14 (Ext.refl _) rfl rfl Try.isAgg72 Try.sizeOf72) ?_
                            refine WL.c rfl rfl rfl (X.call Try.call45 (evl_cons rfl (evl_cons rfl evl_nil))) (apply_ok (appF ⟨(appF d o.n).1.m, []⟩ (aN (appF d o.n).1.m.E)).1 vw uw nilS nilS nilS nilS ⟨(aN (appF d o.n).1.m.E), [], [], [], []⟩ _ (owT.at hFw) (app_good (d := ⟨(appF d o.n).1.m, []⟩) hgx (aN (appF d o.n).1.m.E)) (by rw [hd1.2.2.2]; decide) (by rw [hd1.2.2.2]; exact fun s hs => by cases hs) (opAt_nil _ hgx.E)) ?_
                            rintro v193 w192 ⟨⟨vv, uv, dv, Fv, rfl, hFv, ovT, odv, _⟩, hx194⟩
                            have := World.grownBy.size hx194
                            refine WL.va rfl rfl rfl (X.move rfl) ?_
                            refine WL.va rfl rfl rfl (X.extract rfl rfl) ?_
                            refine WL.va rfl rfl rfl (X.extract rfl rfl) ?_
                            refine WL.op rfl (OW.allocO (cs := [.slice none 0 0, i64 0, i64 0, i64 0, i64 0, i64 0, i64 0, .slice none 0 0]) Try.zeroValue51 rfl ?_ (by decide))
                            intro g16 w195 heg16 hlg16 hO16 hx197
                            have := World.grownBy.size hx197
                            refine WL.op rfl (OW.allocO (cs := [i64 0, .slice none 0 0]) Try.zeroValue53 rfl ?_ (by decide))
                            intro g17 w199 heg17 hlg17 hO17 hx201
                            have := World.grownBy.size hx201
                            refine WL.op rfl (OW.storeOA (hO16.ext hx201) rfl rfl rfl (Dr.c_one _ ovT.rng.rd (own_one ovT.ses.own.row)) Try.sizeOf51 ?_)
                            intro w203 hO16 hx205
                            have := World.grownBy.size hx205
                            replace hO2 := (hO2.ext (Ext.trans (Ext.trans hx194 hx197) hx201)).keptO hx205 (by omega)
                            replace hO3 := (hO3.ext (Ext.trans (Ext.trans hx194 hx197) hx201)).keptO hx205 (by omega)
                            replace oxT := (oxT.ext (Ext.trans (Ext.trans hx194 hx197) hx201)).keptO hx205 (by omega)
                            replace odx := (odx.ext (Ext.trans (Ext.trans hx194 hx197) hx201)).keptO hx205 (by omega)
                            replace hO6 := (hO6.ext (Ext.trans (Ext.trans hx194 hx197) hx201)).keptO hx205 (by omega)
                            replace hO7 := (hO7.ext (Ext.trans (Ext.trans hx194 hx197) hx201)).keptO hx205 (by omega)
                            replace oyT := (oyT.ext (Ext.trans (Ext.trans hx194 hx197) hx201)).keptO hx205 (by omega)
                            replace ody := (ody.ext (Ext.trans (Ext.trans hx194 hx197) hx201)).keptO hx205 (by omega)
                            replace hO8 := (hO8.ext (Ext.trans (Ext.trans hx194 hx197) hx201)).keptO hx205 (by omega)
                            replace hO9 := (hO9.ext (Ext.trans (Ext.trans hx194 hx197) hx201)).keptO hx205 (by omega)
                            replace hO10 := (hO10.ext (Ext.trans (Ext.trans hx194 hx197) hx201)).keptO hx205 (by omega)
                            replace ozT := (ozT.ext (Ext.trans (Ext.trans hx194 hx197) hx201)).keptO hx205 (by omega)
                            replace odz := (odz.ext (Ext.trans (Ext.trans hx194 hx197) hx201)).keptO hx205 (by omega)
                            replace hO11 := (hO11.ext (Ext.trans (Ext.trans hx194 hx197) hx201)).keptO hx205 (by omega)
                            replace hO12 := (hO12.ext (Ext.trans (Ext.trans hx194 hx197) hx201)).keptO hx205 (by omega)
                            replace hO13 := (hO13.ext (Ext.trans (Ext.trans hx194 hx197) hx201)).keptO hx205 (by omega)
                            replace hO14 := (hO14.ext (Ext.trans (Ext.trans hx194 hx197) hx201)).keptO hx205 (by omega)
                            replace owT := (owT.ext (Ext.trans (Ext.trans hx194 hx197) hx201)).keptO hx205 (by omega)
                            replace odw := (odw.ext (Ext.trans (Ext.trans hx194 hx197) hx201)).keptO hx205 (by omega)
                            replace owS := (owS.ext (Ext.trans (Ext.trans hx194 hx197) hx201)).keptO hx205 (by omega)
                            replace hO15 := (hO15.ext (Ext.trans (Ext.trans hx194 hx197) hx201)).keptO hx205 (by omega)
                            replace ovT := (ovT.ext (Ext.trans hx197 hx201)).keptO hx205 (by omega)
                            replace odv := (odv.ext (Ext.trans hx197 hx201)).keptO hx205 (by omega)
                            replace hO17 := hO17.keptO hx205 (by omega)
                            replace hO16 : Blk _ _ _ ((appF (appF ⟨(appF d o.n).1.m, []⟩ (aN (appF d o.n).1.m.E)).1 (aN (appF d o.n).1.m.E)).1.c vv uv) := hO16
                            refine WL.op rfl (OW.storeOA hO17 rfl rfl rfl (ones2 _ (own_one odv.own)) Try.sizeOf53 ?_)
                            intro w207 hO17 hx209
                            have := World.grownBy.size hx209
                            replace hO2 := hO2.keptO hx209 (by omega)
                            replace hO3 := hO3.keptO hx209 (by omega)
                            replace oxT := oxT.keptO hx209 (by omega)
                            replace odx := odx.keptO hx209 (by omega)
                            replace hO6 := hO6.keptO hx209 (by omega)
                            replace hO7 := hO7.keptO hx209 (by omega)
                            replace oyT := oyT.keptO hx209 (by omega)
                            replace ody := ody.keptO hx209 (by omega)
                            replace hO8 := hO8.keptO hx209 (by omega)
                            replace hO9 := hO9.keptO hx209 (by omega)
                            replace hO10 := hO10.keptO hx209 (by omega)
                            replace ozT := ozT.keptO hx209 (by omega)
                            replace odz := odz.keptO hx209 (by omega)
                            replace hO11 := hO11.keptO hx209 (by omega)
                            replace hO12 := hO12.keptO hx209 (by omega)
                            replace hO13 := hO13.keptO hx209 (by omega)
                            replace hO14 := hO14.keptO hx209 (by omega)
                            replace owT := owT.keptO hx209 (by omega)
                            replace odw := odw.keptO hx209 (by omega)
                            replace owS := owS.keptO hx209 (by omega)
                            replace hO15 := hO15.keptO hx209 (by omega)
                            replace ovT := ovT.keptO hx209 (by omega)
                            replace odv := odv.keptO hx209 (by omega)
                            replace hO16 := hO16.keptO hx209 (by omega)
                            refine WL.nil ?_
                            refine thn_n ?_
                            refine WF.seq ?_
                            refine WF.region ?_
                            refine WL.va rfl rfl rfl (X.fieldAddrO (off := 0) rfl Try.underlying53 rfl rfl Try.sizeOf28) ?_
                            refine WL.va rfl rfl rfl (X.loadO hO15 (Ext.refl _) rfl rfl Try.isAgg28) ?_
                            refine WL.va rfl rfl rfl (X.eql rfl rfl) ?_
                            refine WL.va rfl rfl rfl (X.moveB rfl) ?_
                            refine WL.split (j := 3) rfl (fun h212 => ?_) (fun h212 => ?_)
                            · have gh212 := (of_decide_eq_true h212)
                              refine WL.vg rfl (congrArg some h212) rfl rfl (X.fieldAddrO (off := 0) rfl Try.underlying53 rfl rfl Try.sizeOf28) ?_
                              refine WL.vg rfl (congrArg some h212) rfl rfl (X.loadO hO17 (Ext.refl _) rfl rfl Try.isAgg28) ?_
                              refine WL.vg rfl (congrArg some h212) rfl rfl (X.eql rfl rfl) ?_
                              refine WL.va rfl rfl rfl (X.pickT rfl h212 rfl) ?_
                              refine WL.va rfl rfl rfl (X.moveB rfl) ?_
                              refine WL.split (j := 8) rfl (fun h214 => ?_) (fun h214 => ?_)
                              · have gh214 := (of_decide_eq_true h214)
                                refine WL.vg rfl (congrArg some h214) rfl rfl (X.fieldAddrO (off := 0) rfl Try.underlying51 rfl rfl Try.sizeOf26) ?_
                                refine WL.vg rfl (congrArg some h214) rfl rfl (X.fieldAddrP (off := 2) rfl Try.underlying26 rfl rfl Try.sizeOf24) ?_
                                refine WL.vg rfl (congrArg some h214) rfl rfl (X.loadOP hO13 (Ext.refl _) rfl rfl rfl Try.isAgg24 Try.sizeOf24) ?_
                                refine WL.vg rfl (congrArg some h214) rfl rfl (X.buildL (P := Try.prog) (t := 24) (cs := (Mv.c Mv.zero)) evp_nil Try.type24 Try.underlying24 rfl rfl trivial rfl) ?_
                                refine WL.vg rfl (congrArg some h214) rfl rfl (X.eqlA (na := (appF ⟨(appF d o.n).1.m, []⟩ (aN (appF d o.n).1.m.E)).1.m.M.ints) (nb := Mv.zero.ints) flatM fieldsM offsM rfl rfl rfl rfl (Mv.eqB _ _)) ?_
                                refine WL.va rfl rfl rfl (X.pickT rfl h214 rfl) ?_
                                refine WL.va rfl rfl rfl (X.moveB rfl) ?_
                                refine WL.split (j := 15) rfl (fun h216 => ?_) (fun h216 => ?_)
                                · have gh216 := h216
                                  refine WL.vg rfl (congrArg some h216) rfl rfl (X.fieldAddrO (off := 0) rfl Try.underlying51 rfl rfl Try.sizeOf26) ?_
                                  refine WL.vg rfl (congrArg some h216) rfl rfl (X.loadOP hO16 (Ext.refl _) rfl rfl rfl Try.isAgg26 Try.sizeOf26) ?_
                                  refine WL.vg rfl (congrArg some h216) rfl rfl (X.fieldAddrO (off := 0) rfl Try.underlying51 rfl rfl Try.sizeOf26) ?_
                                  refine WL.vg rfl (congrArg some h216) rfl rfl (X.loadOP hO13 (Ext.refl _) rfl rfl rfl Try.isAgg26 Try.sizeOf26) ?_
                                  refine WL.cg rfl (congrArg some h216) rfl rfl (X.call Try.call19 (evl_cons rfl (evl_cons rfl evl_nil))) (sameMap_self (ovT).rng.rd (owT).rng.rd hd2.2) ?_
                                  rintro v218 w217 ⟨rfl, hx219⟩
                                  have := World.grownBy.size hx219
                                  refine WL.va rfl rfl rfl (X.pickT rfl h216 rfl) ?_
                                  refine WL.va rfl rfl rfl (X.moveB rfl) ?_
                                  refine WL.vg rfl rfl rfl rfl (X.fieldAddrO (off := 7) rfl Try.underlying51 rfl rfl Try.sizeOf49) ?_
                                  refine WL.vg rfl rfl rfl rfl (X.loadO hO13 hx219 rfl rfl Try.isAgg49) ?_
                                  refine WL.vg rfl rfl rfl rfl (X.len (owS.rd) rfl Try.underlying49) ?_
                                  refine WL.vg rfl rfl rfl rfl (X.eql rfl rfl) ?_
                                  refine WL.va rfl rfl rfl (X.pickT rfl rfl rfl) ?_
                                  refine WL.va rfl rfl rfl (X.moveB rfl) ?_
                                  refine WL.split (j := 28) rfl (fun h222 => ?_) (fun h222 => ?_)
                                  · have gh222 := (of_decide_eq_true h222)
                                    refine WL.cg rfl (congrArg some h222) rfl rfl (X.call Try.call13 evl_nil) (known_ok _) ?_
                                    rintro v224 w223 ⟨rfl, hx225⟩
                                    have := World.grownBy.size hx225
                                    refine WL.va rfl rfl rfl (X.pickT rfl h222 rfl) ?_
                                    refine WL.va rfl rfl rfl (X.assignB rfl) ?_
                                    refine WL.nil ?_
                                    refine thn_n ?_
                                    refine WF.ret ?_
                                    refine fin_r ?_
                                    exact ⟨rfl, (Ext.trans (Ext.trans (Ext.store (Ext.trans (Ext.trans (Ext.store (Ext.trans (Ext.trans (Ext.store (Ext.trans (Ext.trans (Ext.trans (Ext.trans (Ext.trans (Ext.store (Ext.trans (Ext.trans (Ext.store (Ext.trans (Ext.trans (Ext.trans (Ext.trans hx3 hx6) hwL0) hx48) (Ext.store (Ext.trans hx51 hx55) hx59 (by omega))) hx63 (by omega)) hx86) (Ext.store (Ext.trans hx89 hx93) hx97 (by omega))) hx101 (by omega)) hx107) hx112) (Ext.store (Ext.store hx123 hx127 (by omega)) hx131 (by omega))) hx135) (Ext.store (Ext.trans hx138 hx142) hx146 (by omega))) hx150 (by omega)) hx158) (Ext.store (Ext.trans (Ext.trans (Ext.trans (Ext.store hx163 hx167 (by omega)) (Ext.store hx171 hx175 (by omega))) hx179) hx182) hx186 (by omega))) hx190 (by omega)) hx194) (Ext.store (Ext.trans hx197 hx201) hx205 (by omega))) hx209 (by omega)) hx219) hx225)⟩
                                  · have gh222 := (of_decide_eq_false h222)
                                    exact absurd hw0 gh222
                                · have gh216 := h216
                                  rw [decide_eq_true hd1.2.1] at gh216; cases gh216
                              · have gh214 := (of_decide_eq_false h214)
                                exact absurd hd2.1 gh214
                            · have gh212 := (of_decide_eq_false h212)
                              exact absurd hd1.1 gh212
                      · have gh5_119 := (of_decide_eq_false h5_119)
                        refine WF.skip ?_
                        refine thn_n ?_
                        refine WF.seq ?_
                        refine WF.region ?_
                        refine WL.va rfl rfl rfl (X.fieldAddrO (off := 0) ((hACr9.eq 6).trans (congrFun hF67 6)) Try.underlying51 rfl rfl Try.sizeOf26) ?_
                        refine WL.va rfl rfl rfl (X.loadOP hO6 (Ext.trans hx107 hx112) rfl rfl rfl Try.isAgg26 Try.sizeOf26) ?_
                        refine WL.va rfl rfl rfl (X.buildF (P := Try.prog) (t := 51) (cs := (Dr.c ⟨(appF d o.n).1.m, []⟩ vx nilS)) (evp_cons rfl evp_nil) Try.type51 Try.underlying51 rfl rfl (fill51a _ _ _ _ _ _ _)) ?_
                        refine WL.op rfl (OW.allocO (cs := [.slice none 0 0, i64 0, i64 0, i64 0, i64 0, i64 0, i64 0, .slice none 0 0]) Try.zeroValue51 rfl ?_ (by decide))
                        intro g13 w227 heg13 hlg13 hO13 hx229
                        have := World.grownBy.size hx229
                        refine WL.op rfl (OW.storeOA hO13 rfl rfl rfl (Dr.c_one ⟨(appF d o.n).1.m, []⟩ ((oxT.ext (Ext.trans (Ext.trans hx107 hx112) hx229))).rng.rd rfl) Try.sizeOf51 ?_)
                        intro w231 hO13 hx233
                        have := World.grownBy.size hx233
                        replace hO2 := (hO2.ext (Ext.trans (Ext.trans hx107 hx112) hx229)).keptO hx233 (by omega)
                        replace hO3 := (hO3.ext (Ext.trans (Ext.trans hx107 hx112) hx229)).keptO hx233 (by omega)
                        replace oxT := (oxT.ext (Ext.trans (Ext.trans hx107 hx112) hx229)).keptO hx233 (by omega)
                        replace odx := (odx.ext (Ext.trans (Ext.trans hx107 hx112) hx229)).keptO hx233 (by omega)
                        replace hO6 := (hO6.ext (Ext.trans (Ext.trans hx107 hx112) hx229)).keptO hx233 (by omega)
                        replace hO7 := (hO7.ext (Ext.trans (Ext.trans hx107 hx112) hx229)).keptO hx233 (by omega)
                        replace oyT := (oyT.ext (Ext.trans (Ext.trans hx107 hx112) hx229)).keptO hx233 (by omega)
                        replace ody := (ody.ext (Ext.trans (Ext.trans hx107 hx112) hx229)).keptO hx233 (by omega)
                        replace hO8 := (hO8.ext (Ext.trans (Ext.trans hx107 hx112) hx229)).keptO hx233 (by omega)
                        replace hO9 := (hO9.ext (Ext.trans (Ext.trans hx107 hx112) hx229)).keptO hx233 (by omega)
                        refine WL.nil ?_
                        refine thn_n ?_
                        refine WF.seq ?_
                        refine WF.region ?_
                        refine WL.va rfl rfl rfl (X.fieldAddrO (off := 0) ((hACr9.eq 6).trans (congrFun hF67 6)) Try.underlying51 rfl rfl Try.sizeOf26) ?_
                        refine WL.va rfl rfl rfl (X.fieldAddrP (off := 1) rfl Try.underlying26 rfl rfl Try.sizeOf3) ?_
                        refine WL.va rfl rfl rfl (X.loadO hO6 (Ext.refl _) rfl rfl Try.isAgg3) ?_
                        refine WL.va rfl rfl rfl (X.buildT (P := Try.prog) (t := 72) (cs := (Op.oc (aN (appF d o.n).1.m.E) nilS nilS nilS nilS)) (zs := [i64 0, i64 0, i64 0, i64 0, i64 0, i64 0, i64 0, i64 0, i64 0, i64 0, i64 0, i64 0, i64 0, .slice none 0 0, .slice none 0 0, .slice none 0 0, .slice none 0 0]) (places := [(0, 1), (1, 1), (2, 1), (3, 1), (4, 1), (5, 1), (6, 1), (7, 1), (8, 1), (9, 1), (10, 1), (11, 1), (12, 1), (13, 1), (14, 1), (15, 1), (16, 1)]) (n := 17) (evp_cons rfl (evp_cons rfl evp_nil)) Try.type72 Try.underlying72 rfl rfl ⟨rfl, rfl, trivial⟩ rfl rfl rfl) ?_
                        refine WL.op rfl (OW.allocO (cs := [i64 0, i64 0, i64 0, i64 0, i64 0, i64 0, i64 0, i64 0, i64 0, i64 0, i64 0, i64 0, i64 0, .slice none 0 0, .slice none 0 0, .slice none 0 0, .slice none 0 0]) Try.zeroValue72 rfl ?_ (by decide))
                        intro g14 w235 heg14 hlg14 hO14 hx237
                        have := World.grownBy.size hx237
                        refine WL.op rfl (OW.storeOA hO14 rfl rfl rfl ((opAt_nil w hgx.E).ones _) Try.sizeOf72 ?_)
                        intro w239 hO14 hx241
                        have := World.grownBy.size hx241
                        replace hO2 := (hO2.ext hx237).keptO hx241 (by omega)
                        replace hO3 := (hO3.ext hx237).keptO hx241 (by omega)
                        replace oxT := (oxT.ext hx237).keptO hx241 (by omega)
                        replace odx := (odx.ext hx237).keptO hx241 (by omega)
                        replace hO6 := (hO6.ext hx237).keptO hx241 (by omega)
                        replace hO7 := (hO7.ext hx237).keptO hx241 (by omega)
                        replace oyT := (oyT.ext hx237).keptO hx241 (by omega)
                        replace ody := (ody.ext hx237).keptO hx241 (by omega)
                        replace hO8 := (hO8.ext hx237).keptO hx241 (by omega)
                        replace hO9 := (hO9.ext hx237).keptO hx241 (by omega)
                        replace hO13 := (hO13.ext hx237).keptO hx241 (by omega)
                        refine WL.nil ?_
                        refine thn_n ?_
                        refine WF.seq ?_
                        refine WF.region ?_
                        refine WL.va rfl rfl rfl (X.loadOA hO13 (Ext.refl _) rfl rfl Try.isAgg51 Try.sizeOf51) ?_
                        refine WL.va rfl rfl rfl (X.loadOA hO14 (Ext.refl _) rfl rfl Try.isAgg72 Try.sizeOf72) ?_
                        refine WL.c rfl rfl rfl (X.call Try.call45 (evl_cons rfl (evl_cons rfl evl_nil))) (apply_ok ⟨(appF d o.n).1.m, []⟩ vx nilS nilS nilS nilS nilS ⟨(aN (appF d o.n).1.m.E), [], [], [], []⟩ _ ⟨oxT.rng.rd, sess_nil _⟩ hgx (Nat.zero_le _) (fun s hs => by cases hs) (opAt_nil _ hgx.E)) ?_
                        rintro v244 w243 ⟨⟨vw, uw, dw, Fw, rfl, hFw, owT, odw, _⟩, hx245⟩
                        have := World.grownBy.size hx245
                        have owS := owT.ses
                        have hFw0 : Fw.length = 0 := by have := congrArg List.length hFw; rw [hd1.2.2.2] at this; simpa using this
                        have hw0 : (Fw.length : Int) = 0 := by omega
                        refine WL.va rfl rfl rfl (X.move rfl) ?_
                        refine WL.va rfl rfl rfl (X.extract rfl rfl) ?_
                        refine WL.va rfl rfl rfl (X.extract rfl rfl) ?_
                        refine WL.op rfl (OW.allocO (cs := [i64 0, .slice none 0 0]) Try.zeroValue53 rfl ?_ (by decide))
                        intro g15 w246 heg15 hlg15 hO15 hx248
                        have := World.grownBy.size hx248
                        refine WL.op rfl (OW.storeOA (hO13.ext (Ext.trans hx245 hx248)) rfl rfl rfl (Dr.c_one _ owT.rng.rd (own_one owT.ses.own.row)) Try.sizeOf51 ?_)
                        intro w250 hO13 hx252
                        have := World.grownBy.size hx252
                        replace hO2 := (hO2.ext (Ext.trans hx245 hx248)).keptO hx252 (by omega)
                        replace hO3 := (hO3.ext (Ext.trans hx245 hx248)).keptO hx252 (by omega)
                        replace oxT := (oxT.ext (Ext.trans hx245 hx248)).keptO hx252 (by omega)
                        replace odx := (odx.ext (Ext.trans hx245 hx248)).keptO hx252 (by omega)
                        replace hO6 := (hO6.ext (Ext.trans hx245 hx248)).keptO hx252 (by omega)
                        replace hO7 := (hO7.ext (Ext.trans hx245 hx248)).keptO hx252 (by omega)
                        replace oyT := (oyT.ext (Ext.trans hx245 hx248)).keptO hx252 (by omega)
                        replace ody := (ody.ext (Ext.trans hx245 hx248)).keptO hx252 (by omega)
                        replace hO8 := (hO8.ext (Ext.trans hx245 hx248)).keptO hx252 (by omega)
                        replace hO9 := (hO9.ext (Ext.trans hx245 hx248)).keptO hx252 (by omega)
                        replace hO14 := (hO14.ext (Ext.trans hx245 hx248)).keptO hx252 (by omega)
                        replace owT := (owT.ext hx248).keptO hx252 (by omega)
                        replace odw := (odw.ext hx248).keptO hx252 (by omega)
                        replace owS := (owS.ext hx248).keptO hx252 (by omega)
                        replace hO15 := hO15.keptO hx252 (by omega)
                        replace hO13 : Blk _ _ _ ((appF ⟨(appF d o.n).1.m, []⟩ (aN (appF d o.n).1.m.E)).1.c vw uw) := hO13
                        refine WL.op rfl (OW.storeOA hO15 rfl rfl rfl (ones2 _ (own_one odw.own)) Try.sizeOf53 ?_)
                        intro w254 hO15 hx256
                        have := World.grownBy.size hx256
                        replace hO2 := hO2.keptO hx256 (by omega)
                        replace hO3 := hO3.keptO hx256 (by omega)
                        replace oxT := oxT.keptO hx256 (by omega)
                        replace odx := odx.keptO hx256 (by omega)
                        replace hO6 := hO6.keptO hx256 (by omega)
                        replace hO7 := hO7.keptO hx256 (by omega)
                        replace oyT := oyT.keptO hx256 (by omega)
                        replace ody := ody.keptO hx256 (by omega)
                        replace hO8 := hO8.keptO hx256 (by omega)
                        replace hO9 := hO9.keptO hx256 (by omega)
                        replace hO13 := hO13.keptO hx256 (by omega)
                        replace hO14 := hO14.keptO hx256 (by omega)
                        replace owT := owT.keptO hx256 (by omega)
                        replace odw := odw.keptO hx256 (by omega)
                        replace owS := owS.keptO hx256 (by omega)
                        refine WL.nil ?_
                        refine thn_n ?_
                        refine WF.seq ?_
                        refine WF.region ?_
                        refine WL.va rfl rfl rfl (X.loadOA hO13 (Ext.refl _) rfl rfl Try.isAgg51 Try.sizeOf51) ?_
                        refine WL.va rfl rfl rfl (X.loadOA hO14 (Ext.refl _) rfl rfl Try.isAgg72 Try.sizeOf72) ?_
                        refine WL.c rfl rfl rfl (X.call Try.call45 (evl_cons rfl (evl_cons rfl evl_nil))) (apply_ok (appF ⟨(appF d o.n).1.m, []⟩ (aN (appF d o.n).1.m.E)).1 vw uw nilS nilS nilS nilS ⟨(aN (appF d o.n).1.m.E), [], [], [], []⟩ _ (owT.at hFw) (app_good (d := ⟨(appF d o.n).1.m, []⟩) hgx (aN (appF d o.n).1.m.E)) (by rw [hd1.2.2.2]; decide) (by rw [hd1.2.2.2]; exact fun s hs => by cases hs) (opAt_nil _ hgx.E)) ?_
                        rintro v259 w258 ⟨⟨vv, uv, dv, Fv, rfl, hFv, ovT, odv, _⟩, hx260⟩
                        have := World.grownBy.size hx260
                        refine WL.va rfl rfl rfl (X.move rfl) ?_
                        refine WL.va rfl rfl rfl (X.extract rfl rfl) ?_
                        refine WL.va rfl rfl rfl (X.extract rfl rfl) ?_
                        refine WL.op rfl (OW.allocO (cs := [.slice none 0 0, i64 0, i64 0, i64 0, i64 0, i64 0, i64 0, .slice none 0 0]) Try.zeroValue51 rfl ?_ (by decide))
                        intro g16 w261 heg16 hlg16 hO16 hx263
                        have := World.grownBy.size hx263
                        refine WL.op rfl (OW.allocO (cs := [i64 0, .slice none 0 0]) Try.zeroValue53 rfl ?_ (by decide))
                        intro g17 w265 heg17 hlg17 hO17 hx267
                        have := World.grownBy.size hx267
                        refine WL.op rfl (OW.storeOA (hO16.ext hx267) rfl rfl rfl (Dr.c_one _ ovT.rng.rd (own_one ovT.ses.own.row)) Try.sizeOf51 ?_)
                        intro w269 hO16 hx271
                        have := World.grownBy.size hx271
                        replace hO2 := (hO2.ext (Ext.trans (Ext.trans hx260 hx263) hx267)).keptO hx271 (by omega)
                        replace hO3 := (hO3.ext (Ext.trans (Ext.trans hx260 hx263) hx267)).keptO hx271 (by omega)
                        replace oxT := (oxT.ext (Ext.trans (Ext.trans hx260 hx263) hx267)).keptO hx271 (by omega)
                        replace odx := (odx.ext (Ext.trans (Ext.trans hx260 hx263) hx267)).keptO hx271 (by omega)
                        replace hO6 := (hO6.ext (Ext.trans (Ext.trans hx260 hx263) hx267)).keptO hx271 (by omega)
                        replace hO7 := (hO7.ext (Ext.trans (Ext.trans hx260 hx263) hx267)).keptO hx271 (by omega)
                        replace oyT := (oyT.ext (Ext.trans (Ext.trans hx260 hx263) hx267)).keptO hx271 (by omega)
                        replace ody := (ody.ext (Ext.trans (Ext.trans hx260 hx263) hx267)).keptO hx271 (by omega)
                        replace hO8 := (hO8.ext (Ext.trans (Ext.trans hx260 hx263) hx267)).keptO hx271 (by omega)
                        replace hO9 := (hO9.ext (Ext.trans (Ext.trans hx260 hx263) hx267)).keptO hx271 (by omega)
                        replace hO13 := (hO13.ext (Ext.trans (Ext.trans hx260 hx263) hx267)).keptO hx271 (by omega)
                        replace hO14 := (hO14.ext (Ext.trans (Ext.trans hx260 hx263) hx267)).keptO hx271 (by omega)
                        replace owT := (owT.ext (Ext.trans (Ext.trans hx260 hx263) hx267)).keptO hx271 (by omega)
                        replace odw := (odw.ext (Ext.trans (Ext.trans hx260 hx263) hx267)).keptO hx271 (by omega)
                        replace owS := (owS.ext (Ext.trans (Ext.trans hx260 hx263) hx267)).keptO hx271 (by omega)
                        replace hO15 := (hO15.ext (Ext.trans (Ext.trans hx260 hx263) hx267)).keptO hx271 (by omega)
                        replace ovT := (ovT.ext (Ext.trans hx263 hx267)).keptO hx271 (by omega)
                        replace odv := (odv.ext (Ext.trans hx263 hx267)).keptO hx271 (by omega)
                        replace hO17 := hO17.keptO hx271 (by omega)
                        replace hO16 : Blk _ _ _ ((appF (appF ⟨(appF d o.n).1.m, []⟩ (aN (appF d o.n).1.m.E)).1 (aN (appF d o.n).1.m.E)).1.c vv uv) := hO16
                        refine WL.op rfl (OW.storeOA hO17 rfl rfl rfl (ones2 _ (own_one odv.own)) Try.sizeOf53 ?_)
                        intro w273 hO17 hx275
                        have := World.grownBy.size hx275
                        replace hO2 := hO2.keptO hx275 (by omega)
                        replace hO3 := hO3.keptO hx275 (by omega)
                        replace oxT := oxT.keptO hx275 (by omega)
                        replace odx := odx.keptO hx275 (by omega)
                        replace hO6 := hO6.keptO hx275 (by omega)
                        replace hO7 := hO7.keptO hx275 (by omega)
                        replace oyT := oyT.keptO hx275 (by omega)
                        replace ody := ody.keptO hx275 (by omega)
                        replace hO8 := hO8.keptO hx275 (by omega)
                        replace hO9 := hO9.keptO hx275 (by omega)
                        replace hO13 := hO13.keptO hx275 (by omega)
                        replace hO14 := hO14.keptO hx275 (by omega)
                        replace owT := owT.keptO hx275 (by omega)
                        replace odw := odw.keptO hx275 (by omega)
                        replace owS := owS.keptO hx275 (by omega)
                        replace hO15 := hO15.keptO hx275 (by omega)
                        replace ovT := ovT.keptO hx275 (by omega)
                        replace odv := odv.keptO hx275 (by omega)
                        replace hO16 := hO16.keptO hx275 (by omega)
                        refine WL.nil ?_
                        refine thn_n ?_
                        refine WF.seq ?_
                        refine WF.region ?_
                        refine WL.va rfl rfl rfl (X.fieldAddrO (off := 0) rfl Try.underlying53 rfl rfl Try.sizeOf28) ?_
                        refine WL.va rfl rfl rfl (X.loadO hO15 (Ext.refl _) rfl rfl Try.isAgg28) ?_
                        refine WL.va rfl rfl rfl (X.eql rfl rfl) ?_
                        refine WL.va rfl rfl rfl (X.moveB rfl) ?_
                        refine WL.split (j := 3) rfl (fun h278 => ?_) (fun h278 => ?_)
                        · have gh278 := (of_decide_eq_true h278)
                          refine WL.vg rfl (congrArg some h278) rfl rfl (X.fieldAddrO (off := 0) rfl Try.underlying53 rfl rfl Try.sizeOf28) ?_
                          refine WL.vg rfl (congrArg some h278) rfl rfl (X.loadO hO17 (Ext.refl _) rfl rfl Try.isAgg28) ?_
                          refine WL.vg rfl (congrArg some h278) rfl rfl (X.eql rfl rfl) ?_
                          refine WL.va rfl rfl rfl (X.pickT rfl h278 rfl) ?_
                          refine WL.va rfl rfl rfl (X.moveB rfl) ?_
                          refine WL.split (j := 8) rfl (fun h280 => ?_) (fun h280 => ?_)
                          · have gh280 := (of_decide_eq_true h280)
                            refine WL.vg rfl (congrArg some h280) rfl rfl (X.fieldAddrO (off := 0) rfl Try.underlying51 rfl rfl Try.sizeOf26) ?_
                            refine WL.vg rfl (congrArg some h280) rfl rfl (X.fieldAddrP (off := 2) rfl Try.underlying26 rfl rfl Try.sizeOf24) ?_
                            refine WL.vg rfl (congrArg some h280) rfl rfl (X.loadOP hO13 (Ext.refl _) rfl rfl rfl Try.isAgg24 Try.sizeOf24) ?_
                            refine WL.vg rfl (congrArg some h280) rfl rfl (X.buildL (P := Try.prog) (t := 24) (cs := (Mv.c Mv.zero)) evp_nil Try.type24 Try.underlying24 rfl rfl trivial rfl) ?_
                            refine WL.vg rfl (congrArg some h280) rfl rfl (X.eqlA (na := (appF ⟨(appF d o.n).1.m, []⟩ (aN (appF d o.n).1.m.E)).1.m.M.ints) (nb := Mv.zero.ints) flatM fieldsM offsM rfl rfl rfl rfl (Mv.eqB _ _)) ?_
                            refine WL.va rfl rfl rfl (X.pickT rfl h280 rfl) ?_
                            refine WL.va rfl rfl rfl (X.moveB rfl) ?_
                            refine WL.split (j := 15) rfl (fun h282 => ?_) (fun h282 => ?_)
                            · have gh282 := h282
                              refine WL.vg rfl (congrArg some h282) rfl rfl (X.fieldAddrO (off := 0) rfl Try.underlying51 rfl rfl Try.sizeOf26) ?_
                              refine WL.vg rfl (congrArg some h282) rfl rfl (X.loadOP hO16 (Ext.refl _) rfl rfl rfl Try.isAgg26 Try.sizeOf26) ?_
                              refine WL.vg rfl (congrArg some h282) rfl rfl (X.fieldAddrO (off := 0) rfl Try.underlying51 rfl rfl Try.sizeOf26) ?_
                              refine WL.vg rfl (congrArg some h282) rfl rfl (X.loadOP hO13 (Ext.refl _) rfl rfl rfl Try.isAgg26 Try.sizeOf26) ?_
                              refine WL.cg rfl (congrArg some h282) rfl rfl (X.call Try.call19 (evl_cons rfl (evl_cons rfl evl_nil))) (sameMap_self (ovT).rng.rd (owT).rng.rd hd2.2) ?_
                              rintro v284 w283 ⟨rfl, hx285⟩
                              have := World.grownBy.size hx285
                              refine WL.va rfl rfl rfl (X.pickT rfl h282 rfl) ?_
                              refine WL.va rfl rfl rfl (X.moveB rfl) ?_
                              refine WL.vg rfl rfl rfl rfl (X.fieldAddrO (off := 7) rfl Try.underlying51 rfl rfl Try.sizeOf49) ?_
                              refine WL.vg rfl rfl rfl rfl (X.loadO hO13 hx285 rfl rfl Try.isAgg49) ?_
                              refine WL.vg rfl rfl rfl rfl (X.len (owS.rd) rfl Try.underlying49) ?_
                              refine WL.vg rfl rfl rfl rfl (X.eql rfl rfl) ?_
                              refine WL.va rfl rfl rfl (X.pickT rfl rfl rfl) ?_
                              refine WL.va rfl rfl rfl (X.moveB rfl) ?_
                              refine WL.split (j := 28) rfl (fun h288 => ?_) (fun h288 => ?_)
                              · have gh288 := (of_decide_eq_true h288)
                                refine WL.cg rfl (congrArg some h288) rfl rfl (X.call Try.call13 evl_nil) (known_ok _) ?_
                                rintro v290 w289 ⟨rfl, hx291⟩
                                have := World.grownBy.size hx291
                                refine WL.va rfl rfl rfl (X.pickT rfl h288 rfl) ?_
                                refine WL.va rfl rfl rfl (X.assignB rfl) ?_
                                refine WL.nil ?_
                                refine thn_n ?_
                                refine WF.ret ?_
                                refine fin_r ?_
                                exact ⟨rfl, (Ext.trans (Ext.trans (Ext.store (Ext.trans (Ext.trans (Ext.store (Ext.trans (Ext.trans (Ext.trans (Ext.store (Ext.trans (Ext.trans (Ext.store (Ext.trans (Ext.trans (Ext.trans (Ext.trans hx3 hx6) hwL0) hx48) (Ext.store (Ext.trans hx51 hx55) hx59 (by omega))) hx63 (by omega)) hx86) (Ext.store (Ext.trans hx89 hx93) hx97 (by omega))) hx101 (by omega)) hx107) hx112) (Ext.store (Ext.trans (Ext.trans (Ext.trans (Ext.store hx229 hx233 (by omega)) (Ext.store hx237 hx241 (by omega))) hx245) hx248) hx252 (by omega))) hx256 (by omega)) hx260) (Ext.store (Ext.trans hx263 hx267) hx271 (by omega))) hx275 (by omega)) hx285) hx291)⟩
                              · have gh288 := (of_decide_eq_false h288)
                                exact absurd hw0 gh288
                            · have gh282 := h282
                              rw [decide_eq_true hd1.2.1] at gh282; cases gh282
                          · have gh280 := (of_decide_eq_false h280)
                            exact absurd hd2.1 gh280
                        · have gh278 := (of_decide_eq_false h278)
                          exact absurd hd1.1 gh278
                    · have gh118 := (Decidable.of_not_not (of_decide_eq_false h118))
                      refine WL.p rfl rfl rfl (congrArg some h118) ?_
                      refine WL.p rfl rfl rfl (congrArg some h118) ?_
                      refine WL.p rfl rfl rfl (congrArg some h118) ?_
                      refine WL.va rfl rfl rfl (X.pickF rfl h118 rfl) ?_
                      refine WL.nil ?_
                      refine thn_n ?_
                      refine WF.cond_f rfl ?_
                      refine WF.skip ?_
                      refine thn_n ?_
                      refine WF.seq ?_
                      refine WF.region ?_
                      refine WL.va rfl rfl rfl (X.fieldAddrO (off := 0) ((hACr9.eq 6).trans (congrFun hF67 6)) Try.underlying51 rfl rfl Try.sizeOf26) ?_
                      refine WL.va rfl rfl rfl (X.loadOP hO6 (Ext.trans hx107 hx112) rfl rfl rfl Try.isAgg26 Try.sizeOf26) ?_
                      refine WL.va rfl rfl rfl (X.buildF (P := Try.prog) (t := 51) (cs := (Dr.c ⟨(appF d o.n).1.m, []⟩ vx nilS)) (evp_cons rfl evp_nil) Try.type51 Try.underlying51 rfl rfl (fill51a _ _ _ _ _ _ _)) ?_
                      refine WL.op rfl (OW.allocO (cs := [.slice none 0 0, i64 0, i64 0, i64 0, i64 0, i64 0, i64 0, .slice none 0 0]) Try.zeroValue51 rfl ?_ (by decide))
                      intro g13 w294 heg13 hlg13 hO13 hx296
                      have := World.grownBy.size hx296
                      refine WL.op rfl (OW.storeOA hO13 rfl rfl rfl (Dr.c_one ⟨(appF d o.n).1.m, []⟩ ((oxT.ext (Ext.trans (Ext.trans hx107 hx112) hx296))).rng.rd rfl) Try.sizeOf51 ?_)
                      intro w298 hO13 hx300
                      have := World.grownBy.size hx300
                      replace hO2 := (hO2.ext (Ext.trans (Ext.trans hx107 hx112) hx296)).keptO hx300 (by omega)
                      replace hO3 := (hO3.ext (Ext.trans (Ext.trans hx107 hx112) hx296)).keptO hx300 (by omega)
                      replace oxT := (oxT.ext (Ext.trans (Ext.trans hx107 hx112) hx296)).keptO hx300 (by omega)
                      replace odx := (odx.ext (Ext.trans (Ext.trans hx107 hx112) hx296)).keptO hx300 (by omega)
                      replace hO6 := (hO6.ext (Ext.trans (Ext.trans hx107 hx112) hx296)).keptO hx300 (by omega)
                      replace hO7 := (hO7.ext (Ext.trans (Ext.trans hx107 hx112) hx296)).keptO hx300 (by omega)
                      replace oyT := (oyT.ext (Ext.trans (Ext.trans hx107 hx112) hx296)).keptO hx300 (by omega)
                      replace ody := (ody.ext (Ext.trans (Ext.trans hx107 hx112) hx296)).keptO hx300 (by omega)
                      replace hO8 := (hO8.ext (Ext.trans (Ext.trans hx107 hx112) hx296)).keptO hx300 (by omega)
                      replace hO9 := (hO9.ext (Ext.trans (Ext.trans hx107 hx112) hx296)).keptO hx300 (by omega)
                      refine WL.nil ?_
                      refine thn_n ?_
                      refine WF.seq ?_
                      refine WF.region ?_
                      refine WL.va rfl rfl rfl (X.fieldAddrO (off := 0) ((hACr9.eq 6).trans (congrFun hF67 6)) Try.underlying51 rfl rfl Try.sizeOf26) ?_
                      refine WL.va rfl rfl rfl (X.fieldAddrP (off := 1) rfl Try.underlying26 rfl rfl Try.sizeOf3) ?_
                      refine WL.va rfl rfl rfl (X.loadO hO6 (Ext.refl _) rfl rfl Try.isAgg3) ?_
                      refine WL.va rfl rfl rfl (X.buildT (P := Try.prog) (t := 72) (cs := (Op.oc (aN (appF d o.n).1.m.E) nilS nilS nilS nilS)) (zs := [i64 0, i64 0, i64 0, i64 0, i64 0, i64 0, i64 0, i64 0, i64 0, i64 0, i64 0, i64 0, i64 0, .slice none 0 0, .slice none 0 0, .slice none 0 0, .slice none 0 0]) (places := [(0, 1), (1, 1), (2, 1), (3, 1), (4, 1), (5, 1), (6, 1), (7, 1), (8, 1), (9, 1), (10, 1), (11, 1), (12, 1), (13, 1), (14, 1), (15, 1), (16, 1)]) (n := 17) (evp_cons rfl (evp_cons rfl evp_nil)) Try.type72 Try.underlying72 rfl rfl ⟨rfl, rfl, trivial⟩ rfl rfl rfl) ?_
                      refine WL.op rfl (OW.allocO (cs := [i64 0, i64 0, i64 0, i64 0, i64 0, i64 0, i64 0, i64 0, i64 0, i64 0, i64 0, i64 0, i64 0, .slice none 0 0, .slice none 0 0, .slice none 0 0, .slice none 0 0]) Try.zeroValue72 rfl ?_ (by decide))
                      intro g14 w302 heg14 hlg14 hO14 hx304
                      have := World.grownBy.size hx304
                      refine WL.op rfl (OW.storeOA hO14 rfl rfl rfl ((opAt_nil w hgx.E).ones _) Try.sizeOf72 ?_)
                      intro w306 hO14 hx308
                      have := World.grownBy.size hx308
                      replace hO2 := (hO2.ext hx304).keptO hx308 (by omega)
                      replace hO3 := (hO3.ext hx304).keptO hx308 (by omega)
                      replace oxT := (oxT.ext hx304).keptO hx308 (by omega)
                      replace odx := (odx.ext hx304).keptO hx308 (by omega)
                      replace hO6 := (hO6.ext hx304).keptO hx308 (by omega)
                      replace hO7 := (hO7.ext hx304).keptO hx308 (by omega)
                      replace oyT := (oyT.ext hx304).keptO hx308 (by omega)
                      replace ody := (ody.ext hx304).keptO hx308 (by omega)
                      replace hO8 := (hO8.ext hx304).keptO hx308 (by omega)
                      replace hO9 := (hO9.ext hx304).keptO hx308 (by omega)
                      replace hO13 := (hO13.ext hx304).keptO hx308 (by omega)
                      refine WL.nil ?_
                      refine thn_n ?_
                      refine WF.seq ?_
                      refine WF.region ?_
                      refine WL.va rfl rfl rfl (X.loadOA hO13 (Ext.refl _) rfl rfl Try.isAgg51 Try.sizeOf51) ?_
                      refine WL.va rfl rfl rfl (X.loadOA hO14 (Ext.refl _) rfl rfl Try.isAgg72 Try.sizeOf72) ?_
                      refine WL.c rfl rfl rfl (X.call Try.call45 (evl_cons rfl (evl_cons rfl evl_nil))) (apply_ok ⟨(appF d o.n).1.m, []⟩ vx nilS nilS nilS nilS nilS ⟨(aN (appF d o.n).1.m.E), [], [], [], []⟩ _ ⟨oxT.rng.rd, sess_nil _⟩ hgx (Nat.zero_le _) (fun s hs => by cases hs) (opAt_nil _ hgx.E)) ?_
                      rintro v311 w310 ⟨⟨vw, uw, dw, Fw, rfl, hFw, owT, odw, _⟩, hx312⟩
                      have := World.grownBy.size hx312
                      have owS := owT.ses
                      have hFw0 : Fw.length = 0 := by have := congrArg List.length hFw; rw [hd1.2.2.2] at this; simpa using this
                      have hw0 : (Fw.length : Int) = 0 := by omega
                      refine WL.va rfl rfl rfl (X.move rfl) ?_
                      refine WL.va rfl rfl rfl (X.extract rfl rfl) ?_
                      refine WL.va rfl rfl rfl (X.extract rfl rfl) ?_
                      refine WL.op rfl (OW.allocO (cs := [i64 0, .slice none 0 0]) Try.zeroValue53 rfl ?_ (by decide))
                      intro g15 w313 heg15 hlg15 hO15 hx315
                      have := World.grownBy.size hx315
                      refine WL.op rfl (OW.storeOA (hO13.ext (Ext.trans hx312 hx315)) rfl rfl rfl (Dr.c_one _ owT.rng.rd (own_one owT.ses.own.row)) Try.sizeOf51 ?_)
                      intro w317 hO13 hx319
                      have := World.grownBy.size hx319
                      replace hO2 := (hO2.ext (Ext.trans hx312 hx315)).keptO hx319 (by omega)
                      replace hO3 := (hO3.ext (Ext.trans hx312 hx315)).keptO hx319 (by omega)
                      replace oxT := (oxT.ext (Ext.trans hx312 hx315)).keptO hx319 (by omega)
                      replace odx := (odx.ext (Ext.trans hx312 hx315)).keptO hx319 (by omega)
                      replace hO6 := (hO6.ext (Ext.trans hx312 hx315)).keptO hx319 (by omega)
                      replace hO7 := (hO7.ext (Ext.trans hx312 hx315)).keptO hx319 (by omega)
                      replace oyT := (oyT.ext (Ext.trans hx312 hx315)).keptO hx319 (by omega)
                      replace ody := (ody.ext (Ext.trans hx312 hx315)).keptO hx319 (by omega)
                      replace hO8 := (hO8.ext (Ext.trans hx312 hx315)).keptO hx319 (by omega)
                      replace hO9 := (hO9.ext (Ext.trans hx312 hx315)).keptO hx319 (by omega)
                      replace hO14 := (hO14.ext (Ext.trans hx312 hx315)).keptO hx319 (by omega)
                      replace owT := (owT.ext hx315).keptO hx319 (by omega)
                      replace odw := (odw.ext hx315).keptO hx319 (by omega)
                      replace owS := (owS.ext hx315).keptO hx319 (by omega)
                      replace hO15 := hO15.keptO hx319 (by omega)
                      replace hO13 : Blk _ _ _ ((appF ⟨(appF d o.n).1.m, []⟩ (aN (appF d o.n).1.m.E)).1.c vw uw) := hO13
                      refine WL.op rfl (OW.storeOA hO15 rfl rfl rfl (ones2 _ (own_one odw.own)) Try.sizeOf53 ?_)
                      intro w321 hO15 hx323
                      have := World.grownBy.size hx323
                      replace hO2 := hO2.keptO hx323 (by omega)
                      replace hO3 := hO3.keptO hx323 (by omega)
                      replace oxT := oxT.keptO hx323 (by omega)
                      replace odx := odx.keptO hx323 (by omega)
                      replace hO6 := hO6.keptO hx323 (by omega)
                      replace hO7 := hO7.keptO hx323 (by omega)
                      replace oyT := oyT.keptO hx323 (by omega)
                      replace ody := ody.keptO hx323 (by omega)
                      replace hO8 := hO8.keptO hx323 (by omega)
                      replace hO9 := hO9.keptO hx323 (by omega)
                      replace hO13 := hO13.keptO hx323 (by omega)
                      replace hO14 := hO14.keptO hx323 (by omega)
                      replace owT := owT.keptO hx323 (by omega)
                      replace odw := odw.keptO hx323 (by omega)
                      replace owS := owS.keptO hx323 (by omega)
                      refine WL.nil ?_
                      refine thn_n ?_
                      refine WF.seq ?_
                      refine WF.region ?_
                      refine WL.va rfl rfl rfl (X.loadOA hO13 (Ext.refl _) rfl rfl Try.isAgg51 Try.sizeOf51) ?_
                      refine WL.va rfl rfl rfl (X.loadOA hO14 (Ext.refl _) rfl rfl Try.isAgg72 Try.sizeOf72) ?_
                      refine WL.c rfl rfl rfl (X.call Try.call45 (evl_cons rfl (evl_cons rfl evl_nil))) (apply_ok (appF ⟨(appF d o.n).1.m, []⟩ (aN (appF d o.n).1.m.E)).1 vw uw nilS nilS nilS nilS ⟨(aN (appF d o.n).1.m.E), [], [], [], []⟩ _ (owT.at hFw) (app_good (d := ⟨(appF d o.n).1.m, []⟩) hgx (aN (appF d o.n).1.m.E)) (by rw [hd1.2.2.2]; decide) (by rw [hd1.2.2.2]; exact fun s hs => by cases hs) (opAt_nil _ hgx.E)) ?_
                      rintro v326 w325 ⟨⟨vv, uv, dv, Fv, rfl, hFv, ovT, odv, _⟩, hx327⟩
                      have := World.grownBy.size hx327
                      refine WL.va rfl rfl rfl (X.move rfl) ?_
                      refine WL.va rfl rfl rfl (X.extract rfl rfl) ?_
                      refine WL.va rfl rfl rfl (X.extract rfl rfl) ?_
                      refine WL.op rfl (OW.allocO (cs := [.slice none 0 0, i64 0, i64 0, i64 0, i64 0, i64 0, i64 0, .slice none 0 0]) Try.zeroValue51 rfl ?_ (by decide))
                      intro g16 w328 heg16 hlg16 hO16 hx330
                      have := World.grownBy.size hx330
                      refine WL.op rfl (OW.allocO (cs := [i64 0, .slice none 0 0]) Try.zeroValue53 rfl ?_ (by decide))
                      intro g17 w332 heg17 hlg17 hO17 hx334
                      have := World.grownBy.size hx334
                      refine WL.op rfl (OW.storeOA (hO16.ext hx334) rfl rfl rfl (Dr.c_one _ ovT.rng.rd (own_one ovT.ses.own.row)) Try.sizeOf51 ?_)
                      intro w336 hO16 hx338
                      have := World.grownBy.size hx338
                      replace hO2 := (hO2.ext (Ext.trans (Ext.trans hx327 hx330) hx334)).keptO hx338 (by omega)
                      replace hO3 := (hO3.ext (Ext.trans (Ext.trans hx327 hx330) hx334)).keptO hx338 (by omega)
                      replace oxT := (oxT.ext (Ext.trans (Ext.trans hx327 hx330) hx334)).keptO hx338 (by omega)
                      replace odx := (odx.ext (Ext.trans (Ext.trans hx327 hx330) hx334)).keptO hx338 (by omega)
                      replace hO6 := (hO6.ext (Ext.trans (Ext.trans hx327 hx330) hx334)).keptO hx338 (by omega)
                      replace hO7 := (hO7.ext (Ext.trans (Ext.trans hx327 hx330) hx334)).keptO hx338 (by omega)
                      replace oyT := (oyT.ext (Ext.trans (Ext.trans hx327 hx330) hx334)).keptO hx338 (by omega)
                      replace ody := (ody.ext (Ext.trans (Ext.trans hx327 hx330) hx334)).keptO hx338 (by omega)
                      replace hO8 := (hO8.ext (Ext.trans (Ext.trans hx327 hx330) hx334)).keptO hx338 (by omega)
                      replace hO9 := (hO9.ext (Ext.trans (Ext.trans hx327 hx330) hx334)).keptO hx338 (by omega)
                      replace hO13 := (hO13.ext (Ext.trans (Ext.trans hx327 hx330) hx334)).keptO hx338 (by omega)
                      replace hO14 := (hO14.ext (Ext.trans (Ext.trans hx327 hx330) hx334)).keptO hx338 (by omega)
                      replace owT := (owT.ext (Ext.trans (Ext.trans hx327 hx330) hx334)).keptO hx338 (by omega)
                      replace odw := (odw.ext (Ext.trans (Ext.trans hx327 hx330) hx334)).keptO hx338 (by omega)
                      replace owS := (owS.ext (Ext.trans (Ext.trans hx327 hx330) hx334)).keptO hx338 (by omega)
                      replace hO15 := (hO15.ext (Ext.trans (Ext.trans hx327 hx330) hx334)).keptO hx338 (by omega)
                      replace ovT := (ovT.ext (Ext.trans hx330 hx334)).keptO hx338 (by omega)
                      replace odv := (odv.ext (Ext.trans hx330 hx334)).keptO hx338 (by omega)
                      replace hO17 := hO17.keptO hx338 (by omega)
                      replace hO16 : Blk _ _ _ ((appF (appF ⟨(appF d o.n).1.m, []⟩ (aN (appF d o.n).1.m.E)).1 (aN (appF d o.n).1.m.E)).1.c vv uv) := hO16
                      refine WL.op rfl (OW.storeOA hO17 rfl rfl rfl (ones2 _ (own_one odv.own)) Try.sizeOf53 ?_)
                      intro w340 hO17 hx342
                      have := World.grownBy.size hx342
                      replace hO2 := hO2.keptO hx342 (by omega)
                      replace hO3 := hO3.keptO hx342 (by omega)
                      replace oxT := oxT.keptO hx342 (by omega)
                      replace odx := odx.keptO hx342 (by omega)
                      replace hO6 := hO6.keptO hx342 (by omega)
                      replace hO7 := hO7.keptO hx342 (by omega)
                      replace oyT := oyT.keptO hx342 (by omega)
                      replace ody := ody.keptO hx342 (by omega)
                      replace hO8 := hO8.keptO hx342 (by omega)
                      replace hO9 := hO9.keptO hx342 (by omega)
                      replace hO13 := hO13.keptO hx342 (by omega)
                      replace hO14 := hO14.keptO hx342 (by omega)
                      replace owT := owT.keptO hx342 (by omega)
                      replace odw := odw.keptO hx342 (by omega)
                      replace owS := owS.keptO hx342 (by omega)
                      replace hO15 := hO15.keptO hx342 (by omega)
                      replace ovT := ovT.keptO hx342 (by omega)
                      replace odv := odv.keptO hx342 (by omega)
                      replace hO16 := hO16.keptO hx342 (by omega)
                      refine WL.nil ?_
                      refine thn_n ?_
                      refine WF.seq ?_
                      refine WF.region ?_
                      refine WL.va rfl rfl rfl (X.fieldAddrO (off := 0) rfl Try.underlying53 rfl rfl Try.sizeOf28) ?_
                      refine WL.va rfl rfl rfl (X.loadO hO15 (Ext.refl _) rfl rfl Try.isAgg28) ?_
                      refine WL.va rfl rfl rfl (X.eql rfl rfl) ?_
                      refine WL.va rfl rfl rfl (X.moveB rfl) ?_
                      refine WL.split (j := 3) rfl (fun h345 => ?_) (fun h345 => ?_)
                      · have gh345 := (of_decide_eq_true h345)
                        refine WL.vg rfl (congrArg some h345) rfl rfl (X.fieldAddrO (off := 0) rfl Try.underlying53 rfl rfl Try.sizeOf28) ?_
                        refine WL.vg rfl (congrArg some h345) rfl rfl (X.loadO hO17 (Ext.refl _) rfl rfl Try.isAgg28) ?_
                        refine WL.vg rfl (congrArg some h345) rfl rfl (X.eql rfl rfl) ?_
                        refine WL.va rfl rfl rfl (X.pickT rfl h345 rfl) ?_
                        refine WL.va rfl rfl rfl (X.moveB rfl) ?_
                        refine WL.split (j := 8) rfl (fun h347 => ?_) (fun h347 => ?_)
                        · have gh347 := (of_decide_eq_true h347)
                          refine WL.vg rfl (congrArg some h347) rfl rfl (X.fieldAddrO (off := 0) rfl Try.underlying51 rfl rfl Try.sizeOf26) ?_
                          refine WL.vg rfl (congrArg some h347) rfl rfl (X.fieldAddrP (off := 2) rfl Try.underlying26 rfl rfl Try.sizeOf24) ?_
                          refine WL.vg rfl (congrArg some h347) rfl rfl (X.loadOP hO13 (Ext.refl _) rfl rfl rfl Try.isAgg24 Try.sizeOf24) ?_
                          refine WL.vg rfl (congrArg some h347) rfl rfl (X.buildL (P := Try.prog) (t := 24) (cs := (Mv.c Mv.zero)) evp_nil Try.type24 Try.underlying24 rfl rfl trivial rfl) ?_
                          refine WL.vg rfl (congrArg some h347) rfl rfl (X.eqlA (na := (appF ⟨(appF d o.n).1.m, []⟩ (aN (appF d o.n).1.m.E)).1.m.M.ints) (nb := Mv.zero.ints) flatM fieldsM offsM rfl rfl rfl rfl (Mv.eqB _ _)) ?_
                          refine WL.va rfl rfl rfl (X.pickT rfl h347 rfl) ?_
                          refine WL.va rfl rfl rfl (X.moveB rfl) ?_
                          refine WL.split (j := 15) rfl (fun h349 => ?_) (fun h349 => ?_)
                          · have gh349 := h349
                            refine WL.vg rfl (congrArg some h349) rfl rfl (X.fieldAddrO (off := 0) rfl Try.underlying51 rfl rfl Try.sizeOf26) ?_
                            refine WL.vg rfl (congrArg some h349) rfl rfl (X.loadOP hO16 (Ext.refl _) rfl rfl rfl Try.isAgg26 Try.sizeOf26) ?_
                            refine WL.vg rfl (congrArg some h349) rfl rfl (X.fieldAddrO (off := 0) rfl Try.underlying51 rfl rfl Try.sizeOf26) ?_
                            refine WL.vg rfl (congrArg some h349) rfl rfl (X.loadOP hO13 (Ext.refl _) rfl rfl rfl Try.isAgg26 Try.sizeOf26) ?_
                            refine WL.cg rfl (congrArg some h349) rfl rfl (X.call Try.call19 (evl_cons rfl (evl_cons rfl evl_nil))) (sameMap_self (ovT).rng.rd (owT).rng.rd hd2.2) ?_
                            rintro v351 w350 ⟨rfl, hx352⟩
                            have := World.grownBy.size hx352
                            refine WL.va rfl rfl rfl (X.pickT rfl h349 rfl) ?_
                            refine WL.va rfl rfl rfl (X.moveB rfl) ?_
                            refine WL.vg rfl rfl rfl rfl (X.fieldAddrO (off := 7) rfl Try.underlying51 rfl rfl Try.sizeOf49) ?_
                            refine WL.vg rfl rfl rfl rfl (X.loadO hO13 hx352 rfl rfl Try.isAgg49) ?_
                            refine WL.vg rfl rfl rfl rfl (X.len (owS.rd) rfl Try.underlying49) ?_
                            refine WL.vg rfl rfl rfl rfl (X.eql rfl rfl) ?_
                            refine WL.va rfl rfl rfl (X.pickT rfl rfl rfl) ?_
                            refine WL.va rfl rfl rfl (X.moveB rfl) ?_
                            refine WL.split (j := 28) rfl (fun h355 => ?_) (fun h355 => ?_)
                            · have gh355 := (of_decide_eq_true h355)
                              refine WL.cg rfl (congrArg some h355) rfl rfl (X.call Try.call13 evl_nil) (known_ok _) ?_
                              rintro v357 w356 ⟨rfl, hx358⟩
                              have := World.grownBy.size hx358
                              refine WL.va rfl rfl rfl (X.pickT rfl h355 rfl) ?_
                              refine WL.va rfl rfl rfl (X.assignB rfl) ?_
                              refine WL.nil ?_
                              refine thn_n ?_
                              refine WF.ret ?_
                              refine fin_r ?_
                              exact ⟨rfl, (Ext.trans (Ext.trans (Ext.store (Ext.trans (Ext.trans (Ext.store (Ext.trans (Ext.trans (Ext.trans (Ext.store (Ext.trans (Ext.trans (Ext.store (Ext.trans (Ext.trans (Ext.trans (Ext.trans hx3 hx6) hwL0) hx48) (Ext.store (Ext.trans hx51 hx55) hx59 (by omega))) hx63 (by omega)) hx86) (Ext.store (Ext.trans hx89 hx93) hx97 (by omega))) hx101 (by omega)) hx107) hx112) (Ext.store (Ext.trans (Ext.trans (Ext.trans (Ext.store hx296 hx300 (by omega)) (Ext.store hx304 hx308 (by omega))) hx312) hx315) hx319 (by omega))) hx323 (by omega)) hx327) (Ext.store (Ext.trans hx330 hx334) hx338 (by omega))) hx342 (by omega)) hx352) hx358)⟩
                            · have gh355 := (of_decide_eq_false h355)
                              exact absurd hw0 gh355
                          · have gh349 := h349
                            rw [decide_eq_true hd1.2.1] at gh349; cases gh349
                        · have gh347 := (of_decide_eq_false h347)
                          exact absurd hd2.1 gh347
                      · have gh345 := (of_decide_eq_false h345)
                        exact absurd hd1.1 gh345
                  · have gh116 := (Decidable.of_not_not (of_decide_eq_false h116))
                    refine WL.p rfl rfl rfl (congrArg some h116) ?_
                    refine WL.p rfl rfl rfl (congrArg some h116) ?_
                    refine WL.p rfl rfl rfl (congrArg some h116) ?_
                    refine WL.va rfl rfl rfl (X.pickF rfl h116 rfl) ?_
                    refine WL.va rfl rfl rfl (X.moveB rfl) ?_
                    refine WL.p rfl rfl rfl rfl ?_
                    refine WL.p rfl rfl rfl rfl ?_
                    refine WL.p rfl rfl rfl rfl ?_
                    refine WL.va rfl rfl rfl (X.pickF rfl rfl rfl) ?_
                    refine WL.nil ?_
                    refine thn_n ?_
                    refine WF.cond_f rfl ?_
                    refine WF.skip ?_
                    refine thn_n ?_
                    refine WF.seq ?_
                    refine WF.region ?_
                    refine WL.va rfl rfl rfl (X.fieldAddrO (off := 0) ((hACr9.eq 6).trans (congrFun hF67 6)) Try.underlying51 rfl rfl Try.sizeOf26) ?_
                    refine WL.va rfl rfl rfl (X.loadOP hO6 (Ext.trans hx107 hx112) rfl rfl rfl Try.isAgg26 Try.sizeOf26) ?_
                    refine WL.va rfl rfl rfl (X.buildF (P := Try.prog) (t := 51) (cs := (Dr.c ⟨(appF d o.n).1.m, []⟩ vx nilS)) (evp_cons rfl evp_nil) Try.type51 Try.underlying51 rfl rfl (fill51a _ _ _ _ _ _ _)) ?_
                    refine WL.op rfl (OW.allocO (cs := [.slice none 0 0, i64 0, i64 0, i64 0, i64 0, i64 0, i64 0, .slice none 0 0]) Try.zeroValue51 rfl ?_ (by decide))
                    intro g13 w362 heg13 hlg13 hO13 hx364
                    have := World.grownBy.size hx364
                    refine WL.op rfl (OW.storeOA hO13 rfl rfl rfl (Dr.c_one ⟨(appF d o.n).1.m, []⟩ ((oxT.ext (Ext.trans (Ext.trans hx107 hx112) hx364))).rng.rd rfl) Try.sizeOf51 ?_)
                    intro w366 hO13 hx368
                    have := World.grownBy.size hx368
                    replace hO2 := (hO2.ext (Ext.trans (Ext.trans hx107 hx112) hx364)).keptO hx368 (by omega)
                    replace hO3 := (hO3.ext (Ext.trans (Ext.trans hx107 hx112) hx364)).keptO hx368 (by omega)
                    replace oxT := (oxT.ext (Ext.trans (Ext.trans hx107 hx112) hx364)).keptO hx368 (by omega)
                    replace odx := (odx.ext (Ext.trans (Ext.trans hx107 hx112) hx364)).keptO hx368 (by omega)
                    replace hO6 := (hO6.ext (Ext.trans (Ext.trans hx107 hx112) hx364)).keptO hx368 (by omega)
                    replace hO7 := (hO7.ext (Ext.trans (Ext.trans hx107 hx112) hx364)).keptO hx368 (by omega)
                    replace oyT := (oyT.ext (Ext.trans (Ext.trans hx107 hx112) hx364)).keptO hx368 (by omega)
                    replace ody := (ody.ext (Ext.trans (Ext.trans hx107 hx112) hx364)).keptO hx368 (by omega)
                    replace hO8 := (hO8.ext (Ext.trans (Ext.trans hx107 hx112) hx364)).keptO hx368 (by omega)
                    replace hO9 := (hO9.ext (Ext.trans (Ext.trans hx107 hx112) hx364)).keptO hx368 (by omega)
                    refine WL.nil ?_
                    refine thn_n ?_
                    refine WF.seq ?_
                    refine WF.region ?_
                    refine WL.va rfl rfl rfl (X.fieldAddrO (off := 0) ((hACr9.eq 6).trans (congrFun hF67 6)) Try.underlying51 rfl rfl Try.sizeOf26) ?_
                    refine WL.va rfl rfl rfl (X.fieldAddrP (off := 1) rfl Try.underlying26 rfl rfl Try.sizeOf3) ?_
                    refine WL.va rfl rfl rfl (X.loadO hO6 (Ext.refl _) rfl rfl Try.isAgg3) ?_
                    refine WL.va rfl rfl rfl (X.buildT (P := Try.prog) (t := 72) (cs := (Op.oc (aN (appF d o.n).1.m.E) nilS nilS nilS nilS)) (zs := [i64 0, i64 0, i64 0, i64 0, i64 0, i64 0, i64 0, i64 0, i64 0, i64 0, i64 0, i64 0, i64 0, .slice none 0 0, .slice none 0 0, .slice none 0 0, .slice none 0 0]) (places := [(0, 1), (1, 1), (2, 1), (3, 1), (4, 1), (5, 1), (6, 1), (7, 1), (8, 1), (9, 1), (10, 1), (11, 1), (12, 1), (13, 1), (14, 1), (15, 1), (16, 1)]) (n := 17) (evp_cons rfl (evp_cons rfl evp_nil)) Try.type72 Try.underlying72 rfl rfl ⟨rfl, rfl, trivial⟩ rfl rfl rfl) ?_
                    refine WL.op rfl (OW.allocO (cs := [i64 0, i64 0, i64 0, i64 0, i64 0, i64 0, i64 0, i64 0, i64 0, i64 0, i64 0, i64 0, i64 0, .slice none 0 0, .slice none 0 0, .slice none 0 0, .slice none 0 0]) Try.zeroValue72 rfl ?_ (by decide))
                    intro g14 w370 heg14 hlg14 hO14 hx372
                    have := World.grownBy.size hx372
                    refine WL.op rfl (OW.storeOA hO14 rfl rfl rfl ((opAt_nil w hgx.E).ones _) Try.sizeOf72 ?_)
                    intro w374 hO14 hx376
                    have := World.grownBy.size hx376
                    replace hO2 := (hO2.ext hx372).keptO hx376 (by omega)
                    replace hO3 := (hO3.ext hx372).keptO hx376 (by omega)
                    replace oxT := (oxT.ext hx372).keptO hx376 (by omega)
                    replace odx := (odx.ext hx372).keptO hx376 (by omega)
                    replace hO6 := (hO6.ext hx372).keptO hx376 (by omega)
                    replace hO7 := (hO7.ext hx372).keptO hx376 (by omega)
                    replace oyT := (oyT.ext hx372).keptO hx376 (by omega)
                    replace ody := (ody.ext hx372).keptO hx376 (by omega)
                    replace hO8 := (hO8.ext hx372).keptO hx376 (by omega)
                    replace hO9 := (hO9.ext hx372).keptO hx376 (by omega)
                    replace hO13 := (hO13.ext hx372).keptO hx376 (by omega)
                    refine WL.nil ?_
                    refine thn_n ?_
                    refine WF.seq ?_
                    refine WF.region ?_
                    refine WL.va rfl rfl rfl (X.loadOA hO13 (Ext.refl _) rfl rfl Try.isAgg51 Try.sizeOf51) ?_
                    refine WL.va rfl rfl rfl (X.loadOA hO14 (Ext.refl _) rfl rfl Try.isAgg72 Try.sizeOf72) ?_
                    refine WL.c rfl rfl rfl (X.call Try.call45 (evl_cons rfl (evl_cons rfl evl_nil))) (apply_ok ⟨(appF d o.n).1.m, []⟩ vx nilS nilS nilS nilS nilS ⟨(aN (appF d o.n).1.m.E), [], [], [], []⟩ _ ⟨oxT.rng.rd, sess_nil _⟩ hgx (Nat.zero_le _) (fun s hs => by cases hs) (opAt_nil _ hgx.E)) ?_
                    rintro v379 w378 ⟨⟨vw, uw, dw, Fw, rfl, hFw, owT, odw, _⟩, hx380⟩
                    have := World.grownBy.size hx380
                    have owS := owT.ses
                    have hFw0 : Fw.length = 0 := by have := congrArg List.length hFw; rw [hd1.2.2.2] at this; simpa using this
                    have hw0 : (Fw.length : Int) = 0 := by omega
                    refine WL.va rfl rfl rfl (X.move rfl) ?_
                    refine WL.va rfl rfl rfl (X.extract rfl rfl) ?_
                    refine WL.va rfl rfl rfl (X.extract rfl rfl) ?_
                    refine WL.op rfl (OW.allocO (cs := [i64 0, .slice none 0 0]) Try.zeroValue53 rfl ?_ (by decide))
                    intro g15 w381 heg15 hlg15 hO15 hx383
                    have := World.grownBy.size hx383
                    refine WL.op rfl (OW.storeOA (hO13.ext (Ext.trans hx380 hx383)) rfl rfl rfl (Dr.c_one _ owT.rng.rd (own_one owT.ses.own.row)) Try.sizeOf51 ?_)
                    intro w385 hO13 hx387
                    have := World.grownBy.size hx387
                    replace hO2 := (hO2.ext (Ext.trans hx380 hx383)).keptO hx387 (by omega)
                    replace hO3 := (hO3.ext (Ext.trans hx380 hx383)).keptO hx387 (by omega)
                    replace oxT := (oxT.ext (Ext.trans hx380 hx383)).keptO hx387 (by omega)
                    replace odx := (odx.ext (Ext.trans hx380 hx383)).keptO hx387 (by omega)
                    replace hO6 := (hO6.ext (Ext.trans hx380 hx383)).keptO hx387 (by omega)
                    replace hO7 := (hO7.ext (Ext.trans hx380 hx383)).keptO hx387 (by omega)
                    replace oyT := (oyT.ext (Ext.trans hx380 hx383)).keptO hx387 (by omega)
                    replace ody := (ody.ext (Ext.trans hx380 hx383)).keptO hx387 (by omega)
                    replace hO8 := (hO8.ext (Ext.trans hx380 hx383)).keptO hx387 (by omega)
                    replace hO9 := (hO9.ext (Ext.trans hx380 hx383)).keptO hx387 (by omega)
                    replace hO14 := (hO14.ext (Ext.trans hx380 hx383)).keptO hx387 (by omega)
                    replace owT := (owT.ext hx383).keptO hx387 (by omega)
                    replace odw := (odw.ext hx383).keptO hx387 (by omega)
                    replace owS := (owS.ext hx383).keptO hx387 (by omega)
                    replace hO15 := hO15.keptO hx387 (by omega)
                    replace hO13 : Blk _ _ _ ((appF ⟨(appF d o.n).1.m, []⟩ (aN (appF d o.n).1.m.E)).1.c vw uw) := hO13
                    refine WL.op rfl (OW.storeOA hO15 rfl rfl rfl (ones2 _ (own_one odw.own)) Try.sizeOf53 ?_)
                    intro w389 hO15 hx391
                    have := World.grownBy.size hx391
                    replace hO2 := hO2.keptO hx391 (by omega)
                    replace hO3 := hO3.keptO hx391 (by omega)
                    replace oxT := oxT.keptO hx391 (by omega)
                    replace odx := odx.keptO hx391 (by omega)
                    replace hO6 := hO6.keptO hx391 (by omega)
                    replace hO7 := hO7.keptO hx391 (by omega)
                    replace oyT := oyT.keptO hx391 (by omega)
                    replace ody := ody.keptO hx391 (by omega)
                    replace hO8 := hO8.keptO hx391 (by omega)
                    replace hO9 := hO9.keptO hx391 (by omega)
                    replace hO13 := hO13.keptO hx391 (by omega)
                    replace hO14 := hO14.keptO hx391 (by omega)
                    replace owT := owT.keptO hx391 (by omega)
                    replace odw := odw.keptO hx391 (by omega)
                    replace owS := owS.keptO hx391 (by omega)
                    refine WL.nil ?_
                    refine thn_n ?_
                    refine WF.seq ?_
                    refine WF.region ?_
                    refine WL.va rfl rfl rfl (X.loadOA hO13 (Ext.refl _) rfl rfl Try.isAgg51 Try.sizeOf51) ?_
                    refine WL.va rfl rfl rfl (X.loadOA hO14 (Ext.refl _) rfl rfl Try.isAgg72 Try.sizeOf72) ?_
                    refine WL.c rfl rfl rfl (X.call Try.call45 (evl_cons rfl (evl_cons rfl evl_nil))) (apply_ok (appF ⟨(appF d o.n).1.m, []⟩ (aN (appF d o.n).1.m.E)).1 vw uw nilS nilS nilS nilS ⟨(aN (appF d o.n).1.m.E), [], [], [], []⟩ _ (owT.at hFw) (app_good (d := ⟨(appF d o.n).1.m, []⟩) hgx (aN (appF d o.n).1.m.E)) (by rw [hd1.2.2.2]; decide) (by rw [hd1.2.2.2]; exact fun s hs => by cases hs) (opAt_nil _ hgx.E)) ?_
                    rintro v394 w393 ⟨⟨vv, uv, dv, Fv, rfl, hFv, ovT, odv, _⟩, hx395⟩
                    have := World.grownBy.size hx395
                    refine WL.va rfl rfl rfl (X.move rfl) ?_
                    refine WL.va rfl rfl rfl (X.extract rfl rfl) ?_
                    refine WL.va rfl rfl rfl (X.extract rfl rfl) ?_
                    refine WL.op rfl (OW.allocO (cs := [.slice none 0 0, i64 0, i64 0, i64 0, i64 0, i64 0, i64 0, .slice none 0 0]) Try.zeroValue51 rfl ?_ (by decide))
                    intro g16 w396 heg16 hlg16 hO16 hx398
                    have := World.grownBy.size hx398
                    refine WL.op rfl (OW.allocO (cs := [i64 0, .slice none 0 0]) Try.zeroValue53 rfl ?_ (by decide))
                    intro g17 w400 heg17 hlg17 hO17 hx402
                    have := World.grownBy.size hx402
                    refine WL.op rfl (OW.storeOA (hO16.ext hx402) rfl rfl rfl (Dr.c_one _ ovT.rng.rd (own_one ovT.ses.own.row)) Try.sizeOf51 ?_)
                    intro w404 hO16 hx406
                    have := World.grownBy.size hx406
                    replace hO2 := (hO2.ext (Ext.trans (Ext.trans hx395 hx398) hx402)).keptO hx406 (by omega)
                    replace hO3 := (hO3.ext (Ext.trans (Ext.trans hx395 hx398) hx402)).keptO hx406 (by omega)
                    replace oxT := (oxT.ext (Ext.trans (Ext.trans hx395 hx398) hx402)).keptO hx406 (by omega)
                    replace odx := (odx.ext (Ext.trans (Ext.trans hx395 hx398) hx402)).keptO hx406 (by omega)
                    replace hO6 := (hO6.ext (Ext.trans (Ext.trans hx395 hx398) hx402)).keptO hx406 (by omega)
                    replace hO7 := (hO7.ext (Ext.trans (Ext.trans hx395 hx398) hx402)).keptO hx406 (by omega)
                    replace oyT := (oyT.ext (Ext.trans (Ext.trans hx395 hx398) hx402)).keptO hx406 (by omega)
                    replace ody := (ody.ext (Ext.trans (Ext.trans hx395 hx398) hx402)).keptO hx406 (by omega)
                    replace hO8 := (hO8.ext (Ext.trans (Ext.trans hx395 hx398) hx402)).keptO hx406 (by omega)
                    replace hO9 := (hO9.ext (Ext.trans (Ext.trans hx395 hx398) hx402)).keptO hx406 (by omega)
                    replace hO13 := (hO13.ext (Ext.trans (Ext.trans hx395 hx398) hx402)).keptO hx406 (by omega)
                    replace hO14 := (hO14.ext (Ext.trans (Ext.trans hx395 hx398) hx402)).keptO hx406 (by omega)
                    replace owT := (owT.ext (Ext.trans (Ext.trans hx395 hx398) hx402)).keptO hx406 (by omega)
                    replace odw := (odw.ext (Ext.trans (Ext.trans hx395 hx398) hx402)).keptO hx406 (by omega)
                    replace owS := (owS.ext (Ext.trans (Ext.trans hx395 hx398) hx402)).keptO hx406 (by omega)
                    replace hO15 := (hO15.ext (Ext.trans (Ext.trans hx395 hx398) hx402)).keptO hx406 (by omega)
                    replace ovT := (ovT.ext (Ext.trans hx398 hx402)).keptO hx406 (by omega)
                    replace odv := (odv.ext (Ext.trans hx398 hx402)).keptO hx406 (by omega)
                    replace hO17 := hO17.keptO hx406 (by omega)
                    replace hO16 : Blk _ _ _ ((appF (appF ⟨(appF d o.n).1.m, []⟩ (aN (appF d o.n).1.m.E)).1 (aN (appF d o.n).1.m.E)).1.c vv uv) := hO16
                    refine WL.op rfl (OW.storeOA hO17 rfl rfl rfl (ones2 _ (own_one odv.own)) Try.sizeOf53 ?_)
                    intro w408 hO17 hx410
                    have := World.grownBy.size hx410
                    replace hO2 := hO2.keptO hx410 (by omega)
                    replace hO3 := hO3.keptO hx410 (by omega)
                    replace oxT := oxT.keptO hx410 (by omega)
                    replace odx := odx.keptO hx410 (by omega)
                    replace hO6 := hO6.keptO hx410 (by omega)
                    replace hO7 := hO7.keptO hx410 (by omega)
                    replace oyT := oyT.keptO hx410 (by omega)
                    replace ody := ody.keptO hx410 (by omega)
                    replace hO8 := hO8.keptO hx410 (by omega)
                    replace hO9 := hO9.keptO hx410 (by omega)
                    replace hO13 := hO13.keptO hx410 (by omega)
                    replace hO14 := hO14.keptO hx410 (by omega)
                    replace owT := owT.keptO hx410 (by omega)
                    replace odw := odw.keptO hx410 (by omega)
                    replace owS := owS.keptO hx410 (by omega)
                    replace hO15 := hO15.keptO hx410 (by omega)
                    replace ovT := ovT.keptO hx410 (by omega)
                    replace odv := odv.keptO hx410 (by omega)
                    replace hO16 := hO16.keptO hx410 (by omega)
                    refine WL.nil ?_
                    refine thn_n ?_
                    refine WF.seq ?_
                    refine WF.region ?_
                    refine WL.va rfl rfl rfl (X.fieldAddrO (off := 0) rfl Try.underlying53 rfl rfl Try.sizeOf28) ?_
                    refine WL.va rfl rfl rfl (X.loadO hO15 (Ext.refl _) rfl rfl Try.isAgg28) ?_
                    refine WL.va rfl rfl rfl (X.eql rfl rfl) ?_
                    refine WL.va rfl rfl rfl (X.moveB rfl) ?_
                    refine WL.split (j := 3) rfl (fun h413 => ?_) (fun h413 => ?_)
                    · have gh413 := (of_decide_eq_true h413)
                      refine WL.vg rfl (congrArg some h413) rfl rfl (X.fieldAddrO (off := 0) rfl Try.underlying53 rfl rfl Try.sizeOf28) ?_
                      refine WL.vg rfl (congrArg some h413) rfl rfl (X.loadO hO17 (Ext.refl _) rfl rfl Try.isAgg28) ?_
                      refine WL.vg rfl (congrArg some h413) rfl rfl (X.eql rfl rfl) ?_
                      refine WL.va rfl rfl rfl (X.pickT rfl h413 rfl) ?_
                      refine WL.va rfl rfl rfl (X.moveB rfl) ?_
                      refine WL.split (j := 8) rfl (fun h415 => ?_) (fun h415 => ?_)
                      · have gh415 := (of_decide_eq_true h415)
                        refine WL.vg rfl (congrArg some h415) rfl rfl (X.fieldAddrO (off := 0) rfl Try.underlying51 rfl rfl Try.sizeOf26) ?_
                        refine WL.vg rfl (congrArg some h415) rfl rfl (X.fieldAddrP (off := 2) rfl Try.underlying26 rfl rfl Try.sizeOf24) ?_
                        refine WL.vg rfl (congrArg some h415) rfl rfl (X.loadOP hO13 (Ext.refl _) rfl rfl rfl Try.isAgg24 Try.sizeOf24) ?_
                        refine WL.vg rfl (congrArg some h415) rfl rfl (X.buildL (P := Try.prog) (t := 24) (cs := (Mv.c Mv.zero)) evp_nil Try.type24 Try.underlying24 rfl rfl trivial rfl) ?_
                        refine WL.vg rfl (congrArg some h415) rfl rfl (X.eqlA (na := (appF ⟨(appF d o.n).1.m, []⟩ (aN (appF d o.n).1.m.E)).1.m.M.ints) (nb := Mv.zero.ints) flatM fieldsM offsM rfl rfl rfl rfl (Mv.eqB _ _)) ?_
                        refine WL.va rfl rfl rfl (X.pickT rfl h415 rfl) ?_
                        refine WL.va rfl rfl rfl (X.moveB rfl) ?_
                        refine WL.split (j := 15) rfl (fun h417 => ?_) (fun h417 => ?_)
                        · have gh417 := h417
                          refine WL.vg rfl (congrArg some h417) rfl rfl (X.fieldAddrO (off := 0) rfl Try.underlying51 rfl rfl Try.sizeOf26) ?_
                          refine WL.vg rfl (congrArg some h417) rfl rfl (X.loadOP hO16 (Ext.refl _) rfl rfl rfl Try.isAgg26 Try.sizeOf26) ?_
                          refine WL.vg rfl (congrArg some h417) rfl rfl (X.fieldAddrO (off := 0) rfl Try.underlying51 rfl rfl Try.sizeOf26) ?_
                          refine WL.vg rfl (congrArg some h417) rfl rfl (X.loadOP hO13 (Ext.refl _) rfl rfl rfl Try.isAgg26 Try.sizeOf26) ?_
                          refine WL.cg rfl (congrArg some h417) rfl rfl (X.call Try.call19 (evl_cons rfl (evl_cons rfl evl_nil))) (sameMap_self (ovT).rng.rd (owT).rng.rd hd2.2) ?_
                          rintro v419 w418 ⟨rfl, hx420⟩
                          have := World.grownBy.size hx420
                          refine WL.va rfl rfl rfl (X.pickT rfl h417 rfl) ?_
                          refine WL.va rfl rfl rfl (X.moveB rfl) ?_
                          refine WL.vg rfl rfl rfl rfl (X.fieldAddrO (off := 7) rfl Try.underlying51 rfl rfl Try.sizeOf49) ?_
                          refine WL.vg rfl rfl rfl rfl (X.loadO hO13 hx420 rfl rfl Try.isAgg49) ?_
                          refine WL.vg rfl rfl rfl rfl (X.len (owS.rd) rfl Try.underlying49) ?_
                          refine WL.vg rfl rfl rfl rfl (X.eql rfl rfl) ?_
                          refine WL.va rfl rfl rfl (X.pickT rfl rfl rfl) ?_
                          refine WL.va rfl rfl rfl (X.moveB rfl) ?_
                          refine WL.split (j := 28) rfl (fun h423 => ?_) (fun h423 => ?_)
                          · have gh423 := (of_decide_eq_true h423)
                            refine WL.cg rfl (congrArg some h423) rfl rfl (X.call Try.call13 evl_nil) (known_ok _) ?_
                            rintro v425 w424 ⟨rfl, hx426⟩
                            have := World.grownBy.size hx426
                            refine WL.va rfl rfl rfl (X.pickT rfl h423 rfl) ?_
                            refine WL.va rfl rfl rfl (X.assignB rfl) ?_
                            refine WL.nil ?_
                            refine thn_n ?_
                            refine WF.ret ?_
                            refine fin_r ?_
                            exact ⟨rfl, (Ext.trans (Ext.trans (Ext.store (Ext.trans (Ext.trans (Ext.store (Ext.trans (Ext.trans (Ext.trans (Ext.store (Ext.trans (Ext.trans (Ext.store (Ext.trans (Ext.trans (Ext.trans (Ext.trans hx3 hx6) hwL0) hx48) (Ext.store (Ext.trans hx51 hx55) hx59 (by omega))) hx63 (by omega)) hx86) (Ext.store (Ext.trans hx89 hx93) hx97 (by omega))) hx101 (by omega)) hx107) hx112) (Ext.store (Ext.trans (Ext.trans (Ext.trans (Ext.store hx364 hx368 (by omega)) (Ext.store hx372 hx376 (by omega))) hx380) hx383) hx387 (by omega))) hx391 (by omega)) hx395) (Ext.store (Ext.trans hx398 hx402) hx406 (by omega))) hx410 (by omega)) hx420) hx426)⟩
                          · have gh423 := (of_decide_eq_false h423)
                            exact absurd hw0 gh423
                        · have gh417 := h417
                          rw [decide_eq_true hd1.2.1] at gh417; cases gh417
                      · have gh415 := (of_decide_eq_false h415)
                        exact absurd hd2.1 gh415
                    · have gh413 := (of_decide_eq_false h413)
                      exact absurd hd1.1 gh413
                · have gh104 := (Decidable.of_not_not (of_decide_eq_false h104))
                  refine WL.p rfl rfl rfl (congrArg some h104) ?_
                  refine WL.p rfl rfl rfl (congrArg some h104) ?_
                  refine WL.p rfl rfl rfl (congrArg some h104) ?_
                  refine WL.p rfl rfl rfl (congrArg some h104) ?_
                  refine WL.p rfl rfl rfl (congrArg some h104) ?_
                  refine WL.pn rfl rfl rfl rfl ?_
                  refine WL.pn rfl rfl rfl rfl ?_
                  refine WL.pn rfl rfl rfl rfl ?_
                  refine WL.pn rfl rfl rfl rfl ?_
                  refine WL.p rfl rfl rfl (congrArg some h104) ?_
                  refine WL.va rfl rfl rfl (X.pickF rfl h104 rfl) ?_
                  refine WL.nil ?_
                  refine thn_n ?_
                  refine WF.cond_f rfl ?_
                  refine WF.skip ?_
                  refine thn_n ?_
                  refine WF.seq ?_
                  refine WF.seq ?_
                  refine WF.region ?_
                  refine WL.va rfl rfl rfl (X.fieldAddrO (off := 1) ((hACr9.eq 3).trans ((congrFun hF67 3).trans ((hAL0.eq 3).trans (congrFun hF37 3)))) Try.underlying72 rfl rfl Try.sizeOf3) ?_
                  refine WL.va rfl rfl rfl (X.loadO hO3 (Ext.refl _) rfl rfl Try.isAgg3) ?_
                  refine WL.va rfl rfl rfl (X.neq rfl rfl) ?_
                  refine WL.va rfl rfl rfl (X.moveB rfl) ?_
                  refine WL.split (j := 3) rfl (fun h430 => ?_) (fun h430 => ?_)
                  · have gh430 := (of_decide_eq_true h430)
                    have hc1 : o.n.getD 1 0 ≠ 0 := gh430
                    refine WL.vg rfl (congrArg some h430) rfl rfl (X.fieldAddrO (off := 0) ((hACr9.eq 7).trans (congrFun hF67 7)) Try.underlying53 rfl rfl Try.sizeOf28) ?_
                    refine WL.vg rfl (congrArg some h430) rfl rfl (X.loadO hO7 (Ext.refl _) rfl rfl Try.isAgg28) ?_
                    refine WL.vg rfl (congrArg some h430) rfl rfl (X.neq rfl rfl) ?_
                    refine WL.va rfl rfl rfl (X.pickT rfl h430 rfl) ?_
                    refine WL.va rfl rfl rfl (X.moveB rfl) ?_
                    refine WL.split (j := 8) rfl (fun h432 => ?_) (fun h432 => ?_)
                    · have gh432 := (of_decide_eq_true h432)
                      have h15 : (appF d o.n).2.1 ≠ 15 := gh432
                      have hel : (appF (appF d o.n).1 (o.n.set 2 (o.n.getD 2 0 - 1))) = ((appF d o.n).1, (15, [])) := app_elder hk hc1 h15 (by rw [set_getD (by rw [ho.len]; decide)]; rfl) (by rw [set_getD (by rw [ho.len]; decide)]; rfl) (by rw [set_getD (by rw [ho.len]; decide)]; rfl)
                      refine WL.vg rfl (congrArg some h432) rfl rfl (X.fieldAddrO (off := 2) ((hACr9.eq 3).trans ((congrFun hF67 3).trans ((hAL0.eq 3).trans (congrFun hF37 3)))) Try.underlying72 rfl rfl Try.sizeOf3) ?_
                      refine WL.vg rfl (congrArg some h432) rfl rfl (X.loadO hO3 (Ext.refl _) rfl rfl Try.isAgg3) ?_
                      refine WL.vg rfl (congrArg some h432) rfl rfl (X.gtr rfl rfl) ?_
                      refine WL.va rfl rfl rfl (X.pickT rfl h432 rfl) ?_
                      refine WL.nil ?_
                      refine thn_n ?_
                      refine WF.cond rfl (fun h5_433 => ?_) (fun h5_433 => ?_)
                      · have gh5_433 := (of_decide_eq_true h5_433)
                        have hqq : -9223372036854775808 < o.n.getD 2 0 := by omega
                        refine WF.seq ?_
                        refine WF.region ?_
                        refine WL.va rfl rfl rfl (X.loadOA hO3 (Ext.refl _) ((hACr9.eq 3).trans ((congrFun hF67 3).trans ((hAL0.eq 3).trans (congrFun hF37 3)))) rfl Try.isAgg72 Try.sizeOf72) ?_
                        refine WL.op rfl (OW.allocO (cs := [i64 0, i64 0, i64 0, i64 0, i64 0, i64 0, i64 0, i64 0, i64 0, i64 0, i64 0, i64 0, i64 0, .slice none 0 0, .slice none 0 0, .slice none 0 0, .slice none 0 0]) Try.zeroValue72 rfl ?_ (by decide))
                        intro g10 w435 heg10 hlg10 hO10 hx437
                        have := World.grownBy.size hx437
                        refine WL.op rfl (OW.storeOA hO10 rfl rfl rfl (ho.ones _) Try.sizeOf72 ?_)
                        intro w439 hO10 hx441
                        have := World.grownBy.size hx441
                        replace hO2 := (hO2.ext hx437).keptO hx441 (by omega)
                        replace hO3 := (hO3.ext hx437).keptO hx441 (by omega)
                        replace oxT := (oxT.ext hx437).keptO hx441 (by omega)
                        replace odx := (odx.ext hx437).keptO hx441 (by omega)
                        replace hO6 := (hO6.ext hx437).keptO hx441 (by omega)
                        replace hO7 := (hO7.ext hx437).keptO hx441 (by omega)
                        replace oyT := (oyT.ext hx437).keptO hx441 (by omega)
                        replace ody := (ody.ext hx437).keptO hx441 (by omega)
                        replace hO8 := (hO8.ext hx437).keptO hx441 (by omega)
                        replace hO9 := (hO9.ext hx437).keptO hx441 (by omega)
                        replace hO10 : Blk _ _ _ (Op.oc o.n vP vR vW vD) := hO10
                        refine WL.nil ?_
                        refine thn_n ?_
                        refine WF.seq ?_
                        refine WF.region ?_
                        refine WL.va rfl rfl rfl (X.fieldAddrO (off := 2) ((hACr9.eq 3).trans ((congrFun hF67 3).trans ((hAL0.eq 3).trans (congrFun hF37 3)))) Try.underlying72 rfl rfl Try.sizeOf3) ?_
                        refine WL.va rfl rfl rfl (X.loadO hO3 (Ext.refl _) rfl rfl Try.isAgg3) ?_
                        refine WL.va rfl rfl rfl (X.sub rfl rfl (w64 (by omega))) ?_
                        refine WL.va rfl rfl rfl (X.fieldAddrO (off := 2) rfl Try.underlying72 rfl rfl Try.sizeOf3) ?_
                        refine WL.op rfl (OW.storeO hO10 (Nat.le_of_ble_eq_true rfl) rfl rfl rfl Try.sizeOf3 ?_)
                        intro w443 hO10 hx445
                        have := World.grownBy.size hx445
                        replace hO2 := hO2.keptO hx445 (by omega)
                        replace hO3 := hO3.keptO hx445 (by omega)
                        replace oxT := oxT.keptO hx445 (by omega)
                        replace odx := odx.keptO hx445 (by omega)
                        replace hO6 := hO6.keptO hx445 (by omega)
                        replace hO7 := hO7.keptO hx445 (by omega)
                        replace oyT := oyT.keptO hx445 (by omega)
                        replace ody := ody.keptO hx445 (by omega)
                        replace hO8 := hO8.keptO hx445 (by omega)
                        replace hO9 := hO9.keptO hx445 (by omega)
                        replace hO10 : Blk w443 g10 72 (Op.oc (o.n.set 2 (o.n.getD 2 0 - 1)) vP vR vW vD) := by rw [← Op.oc_set _ ho.len (by decide)]; exact hO10
                        refine WL.nil ?_
                        refine thn_n ?_
                        refine WF.seq ?_
                        refine WF.region ?_
                        refine WL.va rfl rfl rfl (X.loadOA hO6 (Ext.refl _) ((hACr9.eq 6).trans (congrFun hF67 6)) rfl Try.isAgg51 Try.sizeOf51) ?_
                        refine WL.va rfl rfl rfl (X.loadOA hO10 (Ext.refl _) rfl rfl Try.isAgg72 Try.sizeOf72) ?_
                        refine WL.c rfl rfl rfl (X.call Try.call45 (evl_cons rfl (evl_cons rfl evl_nil))) (apply_ok (appF d o.n).1 vx ux vP vR vW vD ⟨(o.n.set 2 (o.n.getD 2 0 - 1)), o.P, o.R, o.W, o.D⟩ _ (oxT.at hFx) hgx (by omega) (fun s hs => Nat.le_trans (hDx s hs) (by decide)) ((opAt_set ho (by decide) ⟨by omega, by omega⟩).ext (Ext.trans (Ext.store (Ext.trans (Ext.trans (Ext.store (Ext.trans (Ext.trans (Ext.trans (Ext.trans hx3 hx6) hwL0) hx48) (Ext.store (Ext.trans hx51 hx55) hx59 (by omega))) hx63 (by omega)) hx86) (Ext.store (Ext.trans hx89 hx93) hx97 (by omega))) hx101 (by omega)) (Ext.store (Ext.store hx437 hx441 (by omega)) hx445 (by omega))))) ?_
                        rintro v448 w447 ⟨⟨vz, uz, dz, Fz, rfl, hFz, ozT, odz, _⟩, hx449⟩
                        have := World.grownBy.size hx449
                        refine WL.va rfl rfl rfl (X.move rfl) ?_
                        refine WL.va rfl rfl rfl (X.extract rfl rfl) ?_
                        refine WL.va rfl rfl rfl (X.extract rfl rfl) ?_
                        refine WL.op rfl (OW.allocO (cs := [.slice none 0 0, i64 0, i64 0, i64 0, i64 0, i64 0, i64 0, .slice none 0 0]) Try.zeroValue51 rfl ?_ (by decide))
                        intro g11 w450 heg11 hlg11 hO11 hx452
                        have := World.grownBy.size hx452
                        refine WL.op rfl (OW.allocO (cs := [i64 0, .slice none 0 0]) Try.zeroValue53 rfl ?_ (by decide))
                        intro g12 w454 heg12 hlg12 hO12 hx456
                        have := World.grownBy.size hx456
                        refine WL.op rfl (OW.storeOA (hO11.ext hx456) rfl rfl rfl (Dr.c_one _ ozT.rng.rd (own_one ozT.ses.own.row)) Try.sizeOf51 ?_)
                        intro w458 hO11 hx460
                        have := World.grownBy.size hx460
                        replace hO2 := (hO2.ext (Ext.trans (Ext.trans hx449 hx452) hx456)).keptO hx460 (by omega)
                        replace hO3 := (hO3.ext (Ext.trans (Ext.trans hx449 hx452) hx456)).keptO hx460 (by omega)
                        replace oxT := (oxT.ext (Ext.trans (Ext.trans hx449 hx452) hx456)).keptO hx460 (by omega)
                        replace odx := (odx.ext (Ext.trans (Ext.trans hx449 hx452) hx456)).keptO hx460 (by omega)
                        replace hO6 := (hO6.ext (Ext.trans (Ext.trans hx449 hx452) hx456)).keptO hx460 (by omega)
                        replace hO7 := (hO7.ext (Ext.trans (Ext.trans hx449 hx452) hx456)).keptO hx460 (by omega)
                        replace oyT := (oyT.ext (Ext.trans (Ext.trans hx449 hx452) hx456)).keptO hx460 (by omega)
                        replace ody := (ody.ext (Ext.trans (Ext.trans hx449 hx452) hx456)).keptO hx460 (by omega)
                        replace hO8 := (hO8.ext (Ext.trans (Ext.trans hx449 hx452) hx456)).keptO hx460 (by omega)
                        replace hO9 := (hO9.ext (Ext.trans (Ext.trans hx449 hx452) hx456)).keptO hx460 (by omega)
                        replace hO10 := (hO10.ext (Ext.trans (Ext.trans hx449 hx452) hx456)).keptO hx460 (by omega)
                        replace ozT := (ozT.ext (Ext.trans hx452 hx456)).keptO hx460 (by omega)
                        replace odz := (odz.ext (Ext.trans hx452 hx456)).keptO hx460 (by omega)
                        replace hO12 := hO12.keptO hx460 (by omega)
                        replace hO11 : Blk _ _ _ ((appF (appF d o.n).1 (o.n.set 2 (o.n.getD 2 0 - 1))).1.c vz uz) := hO11
                        refine WL.op rfl (OW.storeOA hO12 rfl rfl rfl (ones2 _ (own_one odz.own)) Try.sizeOf53 ?_)
                        intro w462 hO12 hx464
                        have := World.grownBy.size hx464
                        replace hO2 := hO2.keptO hx464 (by omega)
                        replace hO3 := hO3.keptO hx464 (by omega)
                        replace oxT := oxT.keptO hx464 (by omega)
                        replace odx := odx.keptO hx464 (by omega)
                        replace hO6 := hO6.keptO hx464 (by omega)
                        replace hO7 := hO7.keptO hx464 (by omega)
                        replace oyT := oyT.keptO hx464 (by omega)
                        replace ody := ody.keptO hx464 (by omega)
                        replace hO8 := hO8.keptO hx464 (by omega)
                        replace hO9 := hO9.keptO hx464 (by omega)
                        replace hO10 := hO10.keptO hx464 (by omega)
                        replace ozT := ozT.keptO hx464 (by omega)
                        replace odz := odz.keptO hx464 (by omega)
                        replace hO11 := hO11.keptO hx464 (by omega)
                        refine WL.nil ?_
                        refine thn_n ?_
                        refine WF.seq ?_
                        refine WF.region ?_
                        refine WL.va rfl rfl rfl (X.fieldAddrO (off := 0) rfl Try.underlying53 rfl rfl Try.sizeOf28) ?_
                        refine WL.va rfl rfl rfl (X.loadO hO12 (Ext.refl _) rfl rfl Try.isAgg28) ?_
                        refine WL.va rfl rfl rfl (X.neq rfl rfl) ?_
                        refine WL.va rfl rfl rfl (X.moveB rfl) ?_
                        refine WL.split (j := 3) rfl (fun h467 => ?_) (fun h467 => ?_)
                        · have gh467 := (of_decide_eq_true h467)
                          exact absurd (by rw [hel]) gh467
                        · have gh467 := (Decidable.of_not_not (of_decide_eq_false h467))
                          refine WL.vg rfl (congrArg some h467) rfl rfl (X.fieldAddrO (off := 1) rfl Try.underlying53 rfl rfl Try.sizeOf46) ?_
                          refine WL.vg rfl (congrArg some h467) rfl rfl (X.loadO hO12 (Ext.refl _) rfl rfl Try.isAgg46) ?_
                          refine WL.vg rfl (congrArg some h467) rfl rfl (X.len (odz.rd) rfl Try.underlying46) ?_
                          refine WL.vg rfl (congrArg some h467) rfl rfl (X.gtr rfl rfl) ?_
                          refine WL.va rfl rfl rfl (X.pickF rfl h467 rfl) ?_
                          refine WL.va rfl rfl rfl (X.moveB rfl) ?_
                          refine WL.split (j := 9) rfl (fun h469 => ?_) (fun h469 => ?_)
                          · have gh469 := (of_decide_eq_true h469)
                            rw [hel] at gh469; exact absurd gh469 (Int.lt_irrefl 0)
                          · have gh469 := (of_decide_eq_false h469)
                            refine WL.vg rfl (congrArg some h469) rfl rfl (X.loadOA hO6 (Ext.refl _) ((hACr9.eq 6).trans (congrFun hF67 6)) rfl Try.isAgg51 Try.sizeOf51) ?_
                            refine WL.vg rfl (congrArg some h469) rfl rfl (X.loadOA hO11 (Ext.refl _) rfl rfl Try.isAgg51 Try.sizeOf51) ?_
                            refine WL.cg rfl (congrArg some h469) rfl rfl (X.call Try.call36 (evl_cons rfl (evl_cons rfl evl_nil))) (sameDir_self (oxT.at hFx) (ozT.at hFz) (by rw [hel])) ?_
                            rintro v471 w470 ⟨rfl, hx472⟩
                            have := World.grownBy.size hx472
                            refine WL.vg rfl (congrArg some h469) rfl rfl (X.not rfl) ?_
                            refine WL.va rfl rfl rfl (X.pickF rfl h469 rfl) ?_
                            refine WL.nil ?_
                            refine thn_n ?_
                            refine WF.cond_f rfl ?_
                            refine WF.skip ?_
                            refine thn_n ?_
                            refine WF.seq ?_
                            refine WF.region ?_
                            refine WL.va rfl rfl rfl (X.fieldAddrO (off := 0) ((hACr9.eq 6).trans (congrFun hF67 6)) Try.underlying51 rfl rfl Try.sizeOf26) ?_
                            refine WL.va rfl rfl rfl (X.loadOP hO6 hx472 rfl rfl rfl Try.isAgg26 Try.sizeOf26) ?_
                            refine WL.va rfl rfl rfl (X.buildF (P := Try.prog) (t := 51) (cs := (Dr.c ⟨(appF d o.n).1.m, []⟩ vx nilS)) (evp_cons rfl evp_nil) Try.type51 Try.underlying51 rfl rfl (fill51a _ _ _ _ _ _ _)) ?_
                            refine WL.op rfl (OW.allocO (cs := [.slice none 0 0, i64 0, i64 0, i64 0, i64 0, i64 0, i64 0, .slice none 0 0]) Try.zeroValue51 rfl ?_ (by decide))
                            intro g13 w475 heg13 hlg13 hO13 hx477
                            have := World.grownBy.size hx477
                            refine WL.op rfl (OW.storeOA hO13 rfl rfl rfl (Dr.c_one ⟨(appF d o.n).1.m, []⟩ ((oxT.ext (Ext.trans hx472 hx477))).rng.rd rfl) Try.sizeOf51 ?_)
                            intro w479 hO13 hx481
                            have := World.grownBy.size hx481
                            replace hO2 := (hO2.ext (Ext.trans hx472 hx477)).keptO hx481 (by omega)
                            replace hO3 := (hO3.ext (Ext.trans hx472 hx477)).keptO hx481 (by omega)
                            replace oxT := (oxT.ext (Ext.trans hx472 hx477)).keptO hx481 (by omega)
                            replace odx := (odx.ext (Ext.trans hx472 hx477)).keptO hx481 (by omega)
                            replace hO6 := (hO6.ext (Ext.trans hx472 hx477)).keptO hx481 (by omega)
                            replace hO7 := (hO7.ext (Ext.trans hx472 hx477)).keptO hx481 (by omega)
                            replace oyT := (oyT.ext (Ext.trans hx472 hx477)).keptO hx481 (by omega)
                            replace ody := (ody.ext (Ext.trans hx472 hx477)).keptO hx481 (by omega)
                            replace hO8 := (hO8.ext (Ext.trans hx472 hx477)).keptO hx481 (by omega)
                            replace hO9 := (hO9.ext (Ext.trans hx472 hx477)).keptO hx481 (by omega)
                            replace hO10 := (hO10.ext (Ext.trans hx472 hx477)).keptO hx481 (by omega)
                            replace ozT := (ozT.ext (Ext.trans hx472 hx477)).keptO hx481 (by omega)
                            replace odz := (odz.ext (Ext.trans hx472 hx477)).keptO hx481 (by omega)
                            replace hO11 := (hO11.ext (Ext.trans hx472 hx477)).keptO hx481 (by omega)
                            replace hO12 := (hO12.ext (Ext.trans hx472 hx477)).keptO hx481 (by omega)
                            refine WL.nil ?_
                            refine thn_n ?_
                            refine WF.seq ?_
                            refine WF.region ?_
                            refine WL.va rfl rfl rfl (X.fieldAddrO (off := 0) ((hACr9.eq 6).trans (congrFun hF67 6)) Try.underlying51 rfl rfl Try.sizeOf26) ?_
                            refine WL.va rfl rfl rfl (X.fieldAddrP (off := 1) rfl Try.underlying26 rfl rfl Try.sizeOf3) ?_
                            refine WL.va rfl rfl rfl (X.loadO hO6 (Ext.refl _) rfl rfl Try.isAgg3) ?_
                            refine WL.va rfl rfl rfl (X.buildT (P := Try.prog) (t := 72) (cs := (Op.oc (aN (appF d o.n).1.m.E) nilS nilS nilS nilS)) (zs := [i64 0, i64 0, i64 0, i64 0, i64 0, i64 0, i64 0, i64 0, i64 0, i64 0, i64 0, i64 0, i64 0, .slice none 0 0, .slice none 0 0, .slice none 0 0, .slice none 0 0]) (places := [(0, 1), (1, 1), (2, 1), (3, 1), (4, 1), (5, 1), (6, 1), (7, 1), (8, 1), (9, 1), (10, 1), (11, 1), (12, 1), (13, 1), (14, 1), (15, 1), (16, 1)]) (n := 17) (evp_cons rfl (evp_cons rfl evp_nil)) Try.type72 Try.underlying72 rfl rfl ⟨rfl, rfl, trivial⟩ rfl rfl rfl) ?_
                            refine WL.op rfl (OW.allocO (cs := [i64 0, i64 0, i64 0, i64 0, i64 0, i64 0, i64 0, i64 0, i64 0, i64 0, i64 0, i64 0, i64 0, .slice none 0 0, .slice none 0 0, .slice none 0 0, .slice none 0 0]) Try.zeroValue72 rfl ?_ (by decide))
                            intro g14 w483 heg14 hlg14 hO14 hx485
                            have := World.grownBy.size hx485
                            refine WL.op rfl (OW.storeOA hO14 rfl rfl rfl ((opAt_nil w hgx.E).ones _) Try.sizeOf72 ?_)
                            intro w487 hO14 hx489
                            have := World.grownBy.size hx489
                            replace hO2 := (hO2.ext hx485).keptO hx489 (by omega)
                            replace hO3 := (hO3.ext hx485).keptO hx489 (by omega)
                            replace oxT := (oxT.ext hx485).keptO hx489 (by omega)
                            replace odx := (odx.ext hx485).keptO hx489 (by omega)
                            replace hO6 := (hO6.ext hx485).keptO hx489 (by omega)
                            replace hO7 := (hO7.ext hx485).keptO hx489 (by omega)
                            replace oyT := (oyT.ext hx485).keptO hx489 (by omega)
                            replace ody := (ody.ext hx485).keptO hx489 (by omega)
                            replace hO8 := (hO8.ext hx485).keptO hx489 (by omega)
                            replace hO9 := (hO9.ext hx485).keptO hx489 (by omega)
                            replace hO10 := (hO10.ext hx485).keptO hx489 (by omega)
                            replace ozT := (ozT.ext hx485).keptO hx489 (by omega)
                            replace odz := (odz.ext hx485).keptO hx489 (by omega)
                            replace hO11 := (hO11.ext hx485).keptO hx489 (by omega)
                            replace hO12 := (hO12.ext hx485).keptO hx489 (by omega)
                            replace hO13 := (hO13.ext hx485).keptO hx489 (by omega)
                            refine WL.nil ?_
                            refine thn_n ?_
                            refine WF.seq ?_
                            refine WF.region ?_
                            refine WL.va rfl rfl rfl (X.loadOA hO13 (Ext.refl _) rfl rfl Try.isAgg51 Try.sizeOf51) ?_
                            refine WL.va rfl rfl rfl (X.loadOA hO14 (Ext.refl _) rfl rfl Try.isAgg72 Try.sizeOf72) ?_
                            refine WL.c rfl rfl rfl (X.call Try.call45 (evl_cons rfl (evl_cons rfl evl_nil))) (apply_ok ⟨(appF d o.n).1.m, []⟩ vx nilS nilS nilS nilS nilS ⟨(aN (appF d o.n).1.m.E), [], [], [], []⟩ _ ⟨oxT.rng.rd, sess_nil _⟩ hgx (Nat.zero_le _) (fun s hs => by cases hs) (opAt_nil _ hgx.E)) ?_
                            rintro v492 w491 ⟨⟨vw, uw, dw, Fw, rfl, hFw, owT, odw, _⟩, hx493⟩
                            have := World.grownBy.size hx493
                            have owS := owT.ses
                            have hFw0 : Fw.length = 0 := by have := congrArg List.length hFw; rw [hd1.2.2.2] at this; simpa using this
                            have hw0 : (Fw.length : Int) = 0 := by omega
                            refine WL.va rfl rfl rfl (X.move rfl) ?_
                            refine WL.va rfl rfl rfl (X.extract rfl rfl) ?_
                            refine WL.va rfl rfl rfl (X.extract rfl rfl) ?_
                            refine WL.op rfl (OW.allocO (cs := [i64 0, .slice none 0 0]) Try.zeroValue53 rfl ?_ (by decide))
                            intro g15 w494 heg15 hlg15 hO15 hx496
                            have := World.grownBy.size hx496
                            refine WL.op rfl (OW.storeOA (hO13.ext (Ext.trans hx493 hx496)) rfl rfl rfl (Dr.c_one _ owT.rng.rd (own_one owT.ses.own.row)) Try.sizeOf51 ?_)
                            intro w498 hO13 hx500
                            have := World.grownBy.size hx500
                            replace hO2 := (hO2.ext (Ext.trans hx493 hx496)).keptO hx500 (by omega)
                            replace hO3 := (hO3.ext (Ext.trans hx493 hx496)).keptO hx500 (by omega)
                            replace oxT := (oxT.ext (Ext.trans hx493 hx496)).keptO hx500 (by omega)
                            replace odx := (odx.ext (Ext.trans hx493 hx496)).keptO hx500 (by omega)
                            replace hO6 := (hO6.ext (Ext.trans hx493 hx496)).keptO hx500 (by omega)
                            replace hO7 := (hO7.ext (Ext.trans hx493 hx496)).keptO hx500 (by omega)
                            replace oyT := (oyT.ext (Ext.trans hx493 hx496)).keptO hx500 (by omega)
                            replace ody := (ody.ext (Ext.trans hx493 hx496)).keptO hx500 (by omega)
                            replace hO8 := (hO8.ext (Ext.trans hx493 hx496)).keptO hx500 (by omega)
                            replace hO9 := (hO9.ext (Ext.trans hx493 hx496)).keptO hx500 (by omega)
                            replace hO10 := (hO10.ext (Ext.trans hx493 hx496)).keptO hx500 (by omega)
                            replace ozT := (ozT.ext (Ext.trans hx493 hx496)).keptO hx500 (by omega)
                            replace odz := (odz.ext (Ext.trans hx493 hx496)).keptO hx500 (by omega)
                            replace hO11 := (hO11.ext (Ext.trans hx493 hx496)).keptO hx500 (by omega)
                            replace hO12 := (hO12.ext (Ext.trans hx493 hx496)).keptO hx500 (by omega)
                            replace hO14 := (hO14.ext (Ext.trans hx493 hx496)).keptO hx500 (by omega)
                            replace owT := (owT.ext hx496).keptO hx500 (by omega)
                            replace odw := (odw.ext hx496).keptO hx500 (by omega)
                            replace owS := (owS.ext hx496).keptO hx500 (by omega)
                            replace hO15 := hO15.keptO hx500 (by omega)
                            replace hO13 : Blk _ _ _ ((appF ⟨(appF d o.n).1.m, []⟩ (aN (appF d o.n).1.m.E)).1.c vw uw) := hO13
                            refine WL.op rfl (OW.storeOA hO15 rfl rfl rfl (ones2 _ (own_one odw.own)) Try.sizeOf53 ?_)
                            intro w502 hO15 hx504
                            have := World.grownBy.size hx504
                            replace hO2 := hO2.keptO hx504 (by omega)
                            replace hO3 := hO3.keptO hx504 (by omega)
                            replace oxT := oxT.keptO hx504 (by omega)
                            replace odx := odx.keptO hx504 (by omega)
                            replace hO6 := hO6.keptO hx504 (by omega)
                            replace hO7 := hO7.keptO hx504 (by omega)
                            replace oyT := oyT.keptO hx504 (by omega)
                            replace ody := ody.keptO hx504 (by omega)
                            replace hO8 := hO8.keptO hx504 (by omega)
                            replace hO9 := hO9.keptO hx504 (by omega)
                            replace hO10 := hO10.keptO hx504 (by omega)
                            replace ozT := ozT.keptO hx504 (by omega)
                            replace odz := odz.keptO hx504 (by omega)
                            replace hO11 := hO11.keptO hx504 (by omega)
                            replace hO12 := hO12.keptO hx504 (by omega)
                            replace hO13 := hO13.keptO hx504 (by omega)
                            replace hO14 := hO14.keptO hx504 (by omega)
                            replace owT := owT.keptO hx504 (by omega)
                            replace odw := odw.keptO hx504 (by omega)
                            replace owS := owS.keptO hx504 (by omega)
                            refine WL.nil ?_
                            refine thn_n ?_
                            refine WF.seq ?_
                            refine WF.region ?_
                            refine WL.va rfl rfl rfl (X.loadOA hO13 (Ext.refl _) rfl rfl Try.isAgg51 Try.sizeOf51) ?_
                            refine WL.va rfl rfl rfl (X.loadOA hO14 (Ext.refl _) rfl rfl Try.isAgg72 Try.sizeOf72) ?_
                            refine WL.c rfl rfl rfl (X.call Try.call45 (evl_cons rfl (evl_cons rfl evl_nil))) (apply_ok (appF ⟨(appF d o.n).1.m, []⟩ (aN (appF d o.n).1.m.E)).1 vw uw nilS nilS nilS nilS ⟨(aN (appF d o.n).1.m.E), [], [], [], []⟩ _ (owT.at hFw) (app_good (d := ⟨(appF d o.n).1.m, []⟩) hgx (aN (appF d o.n).1.m.E)) (by rw [hd1.2.2.2]; decide) (by rw [hd1.2.2.2]; exact fun s hs => by cases hs) (opAt_nil _ hgx.E)) ?_
                            rintro v507 w506 ⟨⟨vv, uv, dv, Fv, rfl, hFv, ovT, odv, _⟩, hx508⟩
                            have := World.grownBy.size hx508
                            refine WL.va rfl rfl rfl (X.move rfl) ?_
                            refine WL.va rfl rfl rfl (X.extract rfl rfl) ?_
                            refine WL.va rfl rfl rfl (X.extract rfl rfl) ?_
                            refine WL.op rfl (OW.allocO (cs := [.slice none 0 0, i64 0, i64 0, i64 0, i64 0, i64 0, i64 0, .slice none 0 0]) Try.zeroValue51 rfl ?_ (by decide))
                            intro g16 w509 heg16 hlg16 hO16 hx511
                            have := World.grownBy.size hx511
                            refine WL.op rfl (OW.allocO (cs := [i64 0, .slice none 0 0]) Try.zeroValue53 rfl ?_ (by decide))
                            intro g17 w513 heg17 hlg17 hO17 hx515
                            have := World.grownBy.size hx515
                            refine WL.op rfl (OW.storeOA (hO16.ext hx515) rfl rfl rfl (Dr.c_one _ ovT.rng.rd (own_one ovT.ses.own.row)) Try.sizeOf51 ?_)
                            intro w517 hO16 hx519
                            have := World.grownBy.size hx519
                            replace hO2 := (hO2.ext (Ext.trans (Ext.trans hx508 hx511) hx515)).keptO hx519 (by omega)
                            replace hO3 := (hO3.ext (Ext.trans (Ext.trans hx508 hx511) hx515)).keptO hx519 (by omega)
                            replace oxT := (oxT.ext (Ext.trans (Ext.trans hx508 hx511) hx515)).keptO hx519 (by omega)
                            replace odx := (odx.ext (Ext.trans (Ext.trans hx508 hx511) hx515)).keptO hx519 (by omega)
                            replace hO6 := (hO6.ext (Ext.trans (Ext.trans hx508 hx511) hx515)).keptO hx519 (by omega)
                            replace hO7 := (hO7.ext (Ext.trans (Ext.trans hx508 hx511) hx515)).keptO hx519 (by omega)
                            replace oyT := (oyT.ext (Ext.trans (Ext.trans hx508 hx511) hx515)).keptO hx519 (by omega)
                            replace ody := (ody.ext (Ext.trans (Ext.trans hx508 hx511) hx515)).keptO hx519 (by omega)
                            replace hO8 := (hO8.ext (Ext.trans (Ext.trans hx508 hx511) hx515)).keptO hx519 (by omega)
                            replace hO9 := (hO9.ext (Ext.trans (Ext.trans hx508 hx511) hx515)).keptO hx519 (by omega)
                            replace hO10 := (hO10.ext (Ext.trans (Ext.trans hx508 hx511) hx515)).keptO hx519 (by omega)
                            replace ozT := (ozT.ext (Ext.trans (Ext.trans hx508 hx511) hx515)).keptO hx519 (by omega)
                            replace odz := (odz.ext (Ext.trans (Ext.trans hx508 hx511) hx515)).keptO hx519 (by omega)
                            replace hO11 := (hO11.ext (Ext.trans (Ext.trans hx508 hx511) hx515)).keptO hx519 (by omega)
                            replace hO12 := (hO12.ext (Ext.trans (Ext.trans hx508 hx511) hx515)).keptO hx519 (by omega)
                            replace hO13 := (hO13.ext (Ext.trans (Ext.trans hx508 hx511) hx515)).keptO hx519 (by omega)
                            replace hO14 := (hO14.ext (Ext.trans (Ext.trans hx508 hx511) hx515)).keptO hx519 (by omega)
                            replace owT := (owT.ext (Ext.trans (Ext.trans hx508 hx511) hx515)).keptO hx519 (by omega)
                            replace odw := (odw.ext (Ext.trans (Ext.trans hx508 hx511) hx515)).keptO hx519 (by omega)
                            replace owS := (owS.ext (Ext.trans (Ext.trans hx508 hx511) hx515)).keptO hx519 (by omega)
                            replace hO15 := (hO15.ext (Ext.trans (Ext.trans hx508 hx511) hx515)).keptO hx519 (by omega)
                            replace ovT := (ovT.ext (Ext.trans hx511 hx515)).keptO hx519 (by omega)
                            replace odv := (odv.ext (Ext.trans hx511 hx515)).keptO hx519 (by omega)
                            replace hO17 := hO17.keptO hx519 (by omega)
                            replace hO16 : Blk _ _ _ ((appF (appF ⟨(appF d o.n).1.m, []⟩ (aN (appF d o.n).1.m.E)).1 (aN (appF d o.n).1.m.E)).1.c vv uv) := hO16
                            refine WL.op rfl (OW.storeOA hO17 rfl rfl rfl (ones2 _ (own_one odv.own)) Try.sizeOf53 ?_)
                            intro w521 hO17 hx523
                            have := World.grownBy.size hx523
                            replace hO2 := hO2.keptO hx523 (by omega)
                            replace hO3 := hO3.keptO hx523 (by omega)
                            replace oxT := oxT.keptO hx523 (by omega)
                            replace odx := odx.keptO hx523 (by omega)
                            replace hO6 := hO6.keptO hx523 (by omega)
                            replace hO7 := hO7.keptO hx523 (by omega)
                            replace oyT := oyT.keptO hx523 (by omega)
                            replace ody := ody.keptO hx523 (by omega)
                            replace hO8 := hO8.keptO hx523 (by omega)
                            replace hO9 := hO9.keptO hx523 (by omega)
                            replace hO10 := hO10.keptO hx523 (by omega)
                            replace ozT := ozT.keptO hx523 (by omega)
                            replace odz := odz.keptO hx523 (by omega)
                            replace hO11 := hO11.keptO hx523 (by omega)
                            replace hO12 := hO12.keptO hx523 (by omega)
                            replace hO13 := hO13.keptO hx523 (by omega)
                            replace hO14 := hO14.keptO hx523 (by omega)
                            replace owT := owT.keptO hx523 (by omega)
                            replace odw := odw.keptO hx523 (by omega)
                            replace owS := owS.keptO hx523 (by omega)
                            replace hO15 := hO15.keptO hx523 (by omega)
                            replace ovT := ovT.keptO hx523 (by omega)
                            replace odv := odv.keptO hx523 (by omega)
                            replace hO16 := hO16.keptO hx523 (by omega)
                            refine WL.nil ?_
                            refine thn_n ?_
                            refine WF.seq ?_
                            refine WF.region ?_
                            refine WL.va rfl rfl rfl (X.fieldAddrO (off := 0) rfl Try.underlying53 rfl rfl Try.sizeOf28) ?_
                            refine WL.va rfl rfl rfl (X.loadO hO15 (Ext.refl _) rfl rfl Try.isAgg28) ?_
                            refine WL.va rfl rfl rfl (X.eql rfl rfl) ?_
                            refine WL.va rfl rfl rfl (X.moveB rfl) ?_
                            refine WL.split (j := 3) rfl (fun h526 => ?_) (fun h526 => ?_)
                            · have gh526 := (of_decide_eq_true h526)
                              refine WL.vg rfl (congrArg some h526) rfl rfl (X.fieldAddrO (off := 0) rfl Try.underlying53 rfl rfl Try.sizeOf28) ?_
                              refine WL.vg rfl (congrArg some h526) rfl rfl (X.loadO hO17 (Ext.refl _) rfl rfl Try.isAgg28) ?_
                              refine WL.vg rfl (congrArg some h526) rfl rfl (X.eql rfl rfl) ?_
                              refine WL.va rfl rfl rfl (X.pickT rfl h526 rfl) ?_
                              refine WL.va rfl rfl rfl (X.moveB rfl) ?_
                              refine WL.split (j := 8) rfl (fun h528 => ?_) (fun h528 => ?_)
                              · have gh528 := (of_decide_eq_true h528)
                                refine WL.vg rfl (congrArg some h528) rfl rfl (X.fieldAddrO (off := 0) rfl Try.underlying51 rfl rfl Try.sizeOf26) ?_
                                refine WL.vg rfl (congrArg some h528) rfl rfl (X.fieldAddrP (off := 2) rfl Try.underlying26 rfl rfl Try.sizeOf24) ?_
                                refine WL.vg rfl (congrArg some h528) rfl rfl (X.loadOP hO13 (Ext.refl _) rfl rfl rfl Try.isAgg24 Try.sizeOf24) ?_
                                refine WL.vg rfl (congrArg some h528) rfl rfl (X.buildL (P := Try.prog) (t := 24) (cs := (Mv.c Mv.zero)) evp_nil Try.type24 Try.underlying24 rfl rfl trivial rfl) ?_
                                refine WL.vg rfl (congrArg some h528) rfl rfl (X.eqlA (na := (appF ⟨(appF d o.n).1.m, []⟩ (aN (appF d o.n).1.m.E)).1.m.M.ints) (nb := Mv.zero.ints) flatM fieldsM offsM rfl rfl rfl rfl (Mv.eqB _ _)) ?_
                                refine WL.va rfl rfl rfl (X.pickT rfl h528 rfl) ?_
                                refine WL.va rfl rfl rfl (X.moveB rfl) ?_
                                refine WL.split (j := 15) rfl (fun h530 => ?_) (fun h530 => ?_)
                                · have gh530 := h530
                                  refine WL.vg rfl (congrArg some h530) rfl rfl (X.fieldAddrO (off := 0) rfl Try.underlying51 rfl rfl Try.sizeOf26) ?_
                                  refine WL.vg rfl (congrArg some h530) rfl rfl (X.loadOP hO16 (Ext.refl _) rfl rfl rfl Try.isAgg26 Try.sizeOf26) ?_
                                  refine WL.vg rfl (congrArg some h530) rfl rfl (X.fieldAddrO (off := 0) rfl Try.underlying51 rfl rfl Try.sizeOf26) ?_
                                  refine WL.vg rfl (congrArg some h530) rfl rfl (X.loadOP hO13 (Ext.refl _) rfl rfl rfl Try.isAgg26 Try.sizeOf26) ?_
                                  refine WL.cg rfl (congrArg some h530) rfl rfl (X.call Try.call19 (evl_cons rfl (evl_cons rfl evl_nil))) (sameMap_self (ovT).rng.rd (owT).rng.rd hd2.2) ?_
                                  rintro v532 w531 ⟨rfl, hx533⟩
                                  have := World.grownBy.size hx533
                                  refine WL.va rfl rfl rfl (X.pickT rfl h530 rfl) ?_
                                  refine WL.va rfl rfl rfl (X.moveB rfl) ?_
                                  refine WL.vg rfl rfl rfl rfl (X.fieldAddrO (off := 7) rfl Try.underlying51 rfl rfl Try.sizeOf49) ?_
                                  refine WL.vg rfl rfl rfl rfl (X.loadO hO13 hx533 rfl rfl Try.isAgg49) ?_
                                  refine WL.vg rfl rfl rfl rfl (X.len (owS.rd) rfl Try.underlying49) ?_
                                  refine WL.vg rfl rfl rfl rfl (X.eql rfl rfl) ?_
                                  refine WL.va rfl rfl rfl (X.pickT rfl rfl rfl) ?_
                                  refine WL.va rfl rfl rfl (X.moveB rfl) ?_
                                  refine WL.split (j := 28) rfl (fun h536 => ?_) (fun h536 => ?_)
                                  · have gh536 := (of_decide_eq_true h536)
                                    refine WL.cg rfl (congrArg some h536) rfl rfl (X.call Try.call13 evl_nil) (known_ok _) ?_
                                    rintro v538 w537 ⟨rfl, hx539⟩
                                    have := World.grownBy.size hx539
                                    refine WL.va rfl rfl rfl (X.pickT rfl h536 rfl) ?_
                                    refine WL.va rfl rfl rfl (X.assignB rfl) ?_
                                    refine WL.nil ?_
                                    refine thn_n ?_
                                    refine WF.ret ?_
                                    refine fin_r ?_
                                    exact ⟨rfl, (Ext.trans (Ext.trans (Ext.store (Ext.trans (Ext.trans (Ext.store (Ext.trans (Ext.trans (Ext.store (Ext.trans (Ext.trans (Ext.trans (Ext.store (Ext.trans (Ext.trans (Ext.store (Ext.trans (Ext.trans (Ext.trans (Ext.trans hx3 hx6) hwL0) hx48) (Ext.store (Ext.trans hx51 hx55) hx59 (by omega))) hx63 (by omega)) hx86) (Ext.store (Ext.trans hx89 hx93) hx97 (by omega))) hx101 (by omega)) (Ext.store (Ext.store hx437 hx441 (by omega)) hx445 (by omega))) hx449) (Ext.store (Ext.trans hx452 hx456) hx460 (by omega))) hx464 (by omega)) hx472) (Ext.store (Ext.trans (Ext.trans (Ext.trans (Ext.store hx477 hx481 (by omega)) (Ext.store hx485 hx489 (by omega))) hx493) hx496) hx500 (by omega))) hx504 (by omega)) hx508) (Ext.store (Ext.trans hx511 hx515) hx519 (by omega))) hx523 (by omega)) hx533) hx539)⟩
                                  · have gh536 := (of_decide_eq_false h536)
                                    exact absurd hw0 gh536
                                · have gh530 := h530
                                  rw [decide_eq_true hd1.2.1] at gh530; cases gh530
                              · have gh528 := (of_decide_eq_false h528)
                                exact absurd hd2.1 gh528
                            · have gh526 := (of_decide_eq_false h526)
                              exact absurd hd1.1 gh526
                      · have gh5_433 := (of_decide_eq_false h5_433)
                        refine WF.skip ?_
                        refine thn_n ?_
                        refine WF.seq ?_
                        refine WF.region ?_
                        refine WL.va rfl rfl rfl (X.fieldAddrO (off := 0) ((hACr9.eq 6).trans (congrFun hF67 6)) Try.underlying51 rfl rfl Try.sizeOf26) ?_
                        refine WL.va rfl rfl rfl (X.loadOP hO6 (Ext.refl _) rfl rfl rfl Try.isAgg26 Try.sizeOf26) ?_
                        refine WL.va rfl rfl rfl (X.buildF (P := Try.prog) (t := 51) (cs := (Dr.c ⟨(appF d o.n).1.m, []⟩ vx nilS)) (evp_cons rfl evp_nil) Try.type51 Try.underlying51 rfl rfl (fill51a _ _ _ _ _ _ _)) ?_
                        refine WL.op rfl (OW.allocO (cs := [.slice none 0 0, i64 0, i64 0, i64 0, i64 0, i64 0, i64 0, .slice none 0 0]) Try.zeroValue51 rfl ?_ (by decide))
                        intro g13 w541 heg13 hlg13 hO13 hx543
                        have := World.grownBy.size hx543
                        refine WL.op rfl (OW.storeOA hO13 rfl rfl rfl (Dr.c_one ⟨(appF d o.n).1.m, []⟩ ((oxT.ext hx543)).rng.rd rfl) Try.sizeOf51 ?_)
                        intro w545 hO13 hx547
                        have := World.grownBy.size hx547
                        replace hO2 := (hO2.ext hx543).keptO hx547 (by omega)
                        replace hO3 := (hO3.ext hx543).keptO hx547 (by omega)
                        replace oxT := (oxT.ext hx543).keptO hx547 (by omega)
                        replace odx := (odx.ext hx543).keptO hx547 (by omega)
                        replace hO6 := (hO6.ext hx543).keptO hx547 (by omega)
                        replace hO7 := (hO7.ext hx543).keptO hx547 (by omega)
                        replace oyT := (oyT.ext hx543).keptO hx547 (by omega)
                        replace ody := (ody.ext hx543).keptO hx547 (by omega)
                        replace hO8 := (hO8.ext hx543).keptO hx547 (by omega)
                        replace hO9 := (hO9.ext hx543).keptO hx547 (by omega)
                        refine WL.nil ?_
                        refine thn_n ?_
                        refine WF.seq ?_
                        refine WF.region ?_
                        refine WL.va rfl rfl rfl (X.fieldAddrO (off := 0) ((hACr9.eq 6).trans (congrFun hF67 6)) Try.underlying51 rfl rfl Try.sizeOf26) ?_
                        refine WL.va rfl rfl rfl (X.fieldAddrP (off := 1) rfl Try.underlying26 rfl rfl Try.sizeOf3) ?_
                        refine WL.va rfl rfl rfl (X.loadO hO6 (Ext.refl _) rfl rfl Try.isAgg3) ?_
                        refine WL.va rfl rfl rfl (X.buildT (P := Try.prog) (t := 72) (cs := (Op.oc (aN (appF d o.n).1.m.E) nilS nilS nilS nilS)) (zs := [i64 0, i64 0, i64 0, i64 0, i64 0, i64 0, i64 0, i64 0, i64 0, i64 0, i64 0, i64 0, i64 0, .slice none 0 0, .slice none 0 0, .slice none 0 0, .slice none 0 0]) (places := [(0, 1), (1, 1), (2, 1), (3, 1), (4, 1), (5, 1), (6, 1), (7, 1), (8, 1), (9, 1), (10, 1), (11, 1), (12, 1), (13, 1), (14, 1), (15, 1), (16, 1)]) (n := 17) (evp_cons rfl (evp_cons rfl evp_nil)) Try.type72 Try.underlying72 rfl rfl ⟨rfl, rfl, trivial⟩ rfl rfl rfl) ?_
                        refine WL.op rfl (OW.allocO (cs := [i64 0, i64 0, i64 0, i64 0, i64 0, i64 0, i64 0, i64 0, i64 0, i64 0, i64 0, i64 0, i64 0, .slice none 0 0, .slice none 0 0, .slice none 0 0, .slice none 0 0]) Try.zeroValue72 rfl ?_ (by decide))
                        intro g14 w549 heg14 hlg14 hO14 hx551
                        have := World.grownBy.size hx551
                        refine WL.op rfl (OW.storeOA hO14 rfl rfl rfl ((opAt_nil w hgx.E).ones _) Try.sizeOf72 ?_)
                        intro w553 hO14 hx555
                        have := World.grownBy.size hx555
                        replace hO2 := (hO2.ext hx551).keptO hx555 (by omega)
                        replace hO3 := (hO3.ext hx551).keptO hx555 (by omega)
                        replace oxT := (oxT.ext hx551).keptO hx555 (by omega)
                        replace odx := (odx.ext hx551).keptO hx555 (by omega)
                        replace hO6 := (hO6.ext hx551).keptO hx555 (by omega)
                        replace hO7 := (hO7.ext hx551).keptO hx555 (by omega)
                        replace oyT := (oyT.ext hx551).keptO hx555 (by omega)
                        replace ody := (ody.ext hx551).keptO hx555 (by omega)
                        replace hO8 := (hO8.ext hx551).keptO hx555 (by omega)
                        replace hO9 := (hO9.ext hx551).keptO hx555 (by omega)
                        replace hO13 := (hO13.ext hx551).keptO hx555 (by omega)
                        refine WL.nil ?_
                        refine thn_n ?_
                        refine WF.seq ?_
                        refine WF.region ?_
                        refine WL.va rfl rfl rfl (X.loadOA hO13 (Ext.refl _) rfl rfl Try.isAgg51 Try.sizeOf51) ?_
                        refine WL.va rfl rfl rfl (X.loadOA hO14 (Ext.refl _) rfl rfl Try.isAgg72 Try.sizeOf72) ?_
                        refine WL.c rfl rfl rfl (X.call Try.call45 (evl_cons rfl (evl_cons rfl evl_nil))) (apply_ok ⟨(appF d o.n).1.m, []⟩ vx nilS nilS nilS nilS nilS ⟨(aN (appF d o.n).1.m.E), [], [], [], []⟩ _ ⟨oxT.rng.rd, sess_nil _⟩ hgx (Nat.zero_le _) (fun s hs => by cases hs) (opAt_nil _ hgx.E)) ?_
                        rintro v558 w557 ⟨⟨vw, uw, dw, Fw, rfl, hFw, owT, odw, _⟩, hx559⟩
                        have := World.grownBy.size hx559
                        have owS := owT.ses
                        have hFw0 : Fw.length = 0 := by have := congrArg List.length hFw; rw [hd1.2.2.2] at this; simpa using this
                        have hw0 : (Fw.length : Int) = 0 := by omega
                        refine WL.va rfl rfl rfl (X.move rfl) ?_
                        refine WL.va rfl rfl rfl (X.extract rfl rfl) ?_
                        refine WL.va rfl rfl rfl (X.extract rfl rfl) ?_
                        refine WL.op rfl (OW.allocO (cs := [i64 0, .slice none 0 0]) Try.zeroValue53 rfl ?_ (by decide))
                        intro g15 w560 heg15 hlg15 hO15 hx562
                        have := World.grownBy.size hx562
                        refine WL.op rfl (OW.storeOA (hO13.ext (Ext.trans hx559 hx562)) rfl rfl rfl (Dr.c_one _ owT.rng.rd (own_one owT.ses.own.row)) Try.sizeOf51 ?_)
                        intro w564 hO13 hx566
                        have := World.grownBy.size hx566
                        replace hO2 := (hO2.ext (Ext.trans hx559 hx562)).keptO hx566 (by omega)
                        replace hO3 := (hO3.ext (Ext.trans hx559 hx562)).keptO hx566 (by omega)
                        replace oxT := (oxT.ext (Ext.trans hx559 hx562)).keptO hx566 (by omega)
                        replace odx := (odx.ext (Ext.trans hx559 hx562)).keptO hx566 (by omega)
                        replace hO6 := (hO6.ext (Ext.trans hx559 hx562)).keptO hx566 (by omega)
                        replace hO7 := (hO7.ext (Ext.trans hx559 hx562)).keptO hx566 (by omega)
                        replace oyT := (oyT.ext (Ext.trans hx559 hx562)).keptO hx566 (by omega)
                        replace ody := (ody.ext (Ext.trans hx559 hx562)).keptO hx566 (by omega)
                        replace hO8 := (hO8.ext (Ext.trans hx559 hx562)).keptO hx566 (by omega)
                        replace hO9 := (hO9.ext (Ext.trans hx559 hx562)).keptO hx566 (by omega)
                        replace hO14 := (hO14.ext (Ext.trans hx559 hx562)).keptO hx566 (by omega)
                        replace owT := (owT.ext hx562).keptO hx566 (by omega)
                        replace odw := (odw.ext hx562).keptO hx566 (by omega)
                        replace owS := (owS.ext hx562).keptO hx566 (by omega)
                        replace hO15 := hO15.keptO hx566 (by omega)
                        replace hO13 : Blk _ _ _ ((appF ⟨(appF d o.n).1.m, []⟩ (aN (appF d o.n).1.m.E)).1.c vw uw) := hO13
                        refine WL.op rfl (OW.storeOA hO15 rfl rfl rfl (ones2 _ (own_one odw.own)) Try.sizeOf53 ?_)
                        intro w568 hO15 hx570
                        have := World.grownBy.size hx570
                        replace hO2 := hO2.keptO hx570 (by omega)
                        replace hO3 := hO3.keptO hx570 (by omega)
                        replace oxT := oxT.keptO hx570 (by omega)
                        replace odx := odx.keptO hx570 (by omega)
                        replace hO6 := hO6.keptO hx570 (by omega)
                        replace hO7 := hO7.keptO hx570 (by omega)
                        replace oyT := oyT.keptO hx570 (by omega)
                        replace ody := ody.keptO hx570 (by omega)
                        replace hO8 := hO8.keptO hx570 (by omega)
                        replace hO9 := hO9.keptO hx570 (by omega)
                        replace hO13 := hO13.keptO hx570 (by omega)
                        replace hO14 := hO14.keptO hx570 (by omega)
                        replace owT := owT.keptO hx570 (by omega)
                        replace odw := odw.keptO hx570 (by omega)
                        replace owS := owS.keptO hx570 (by omega)
                        refine WL.nil ?_
                        refine thn_n ?_
                        refine WF.seq ?_
                        refine WF.region ?_
                        refine WL.va rfl rfl rfl (X.loadOA hO13 (Ext.refl _) rfl rfl Try.isAgg51 Try.sizeOf51) ?_
                        refine WL.va rfl rfl rfl (X.loadOA hO14 (Ext.refl _) rfl rfl Try.isAgg72 Try.sizeOf72) ?_
                        refine WL.c rfl rfl rfl (X.call Try.call45 (evl_cons rfl (evl_cons rfl evl_nil))) (apply_ok (appF ⟨(appF d o.n).1.m, []⟩ (aN (appF d o.n).1.m.E)).1 vw uw nilS nilS nilS nilS ⟨(aN (appF d o.n).1.m.E), [], [], [], []⟩ _ (owT.at hFw) (app_good (d := ⟨(appF d o.n).1.m, []⟩) hgx (aN (appF d o.n).1.m.E)) (by rw [hd1.2.2.2]; decide) (by rw [hd1.2.2.2]; exact fun s hs => by cases hs) (opAt_nil _ hgx.E)) ?_
                        rintro v573 w572 ⟨⟨vv, uv, dv, Fv, rfl, hFv, ovT, odv, _⟩, hx574⟩
                        have := World.grownBy.size hx574
                        refine WL.va rfl rfl rfl (X.move rfl) ?_
                        refine WL.va rfl rfl rfl (X.extract rfl rfl) ?_
                        refine WL.va rfl rfl rfl (X.extract rfl rfl) ?_
                        refine WL.op rfl (OW.allocO (cs := [.slice none 0 0, i64 0, i64 0, i64 0, i64 0, i64 0, i64 0, .slice none 0 0]) Try.zeroValue51 rfl ?_ (by decide))
                        intro g16 w575 heg16 hlg16 hO16 hx577
                        have := World.grownBy.size hx577
                        refine WL.op rfl (OW.allocO (cs := [i64 0, .slice none 0 0]) Try.zeroValue53 rfl ?_ (by decide))
                        intro g17 w579 heg17 hlg17 hO17 hx581
                        have := World.grownBy.size hx581
                        refine WL.op rfl (OW.storeOA (hO16.ext hx581) rfl rfl rfl (Dr.c_one _ ovT.rng.rd (own_one ovT.ses.own.row)) Try.sizeOf51 ?_)
                        intro w583 hO16 hx585
                        have := World.grownBy.size hx585
                        replace hO2 := (hO2.ext (Ext.trans (Ext.trans hx574 hx577) hx581)).keptO hx585 (by omega)
                        replace hO3 := (hO3.ext (Ext.trans (Ext.trans hx574 hx577) hx581)).keptO hx585 (by omega)
                        replace oxT := (oxT.ext (Ext.trans (Ext.trans hx574 hx577) hx581)).keptO hx585 (by omega)
                        replace odx := (odx.ext (Ext.trans (Ext.trans hx574 hx577) hx581)).keptO hx585 (by omega)
                        replace hO6 := (hO6.ext (Ext.trans (Ext.trans hx574 hx577) hx581)).keptO hx585 (by omega)
                        replace hO7 := (hO7.ext (Ext.trans (Ext.trans hx574 hx577) hx581)).keptO hx585 (by omega)
                        replace oyT := (oyT.ext (Ext.trans (Ext.trans hx574 hx577) hx581)).keptO hx585 (by omega)
                        replace ody := (ody.ext (Ext.trans (Ext.trans hx574 hx577) hx581)).keptO hx585 (by omega)
                        replace hO8 := (hO8.ext (Ext.trans (Ext.trans hx574 hx577) hx581)).keptO hx585 (by omega)
                        replace hO9 := (hO9.ext (Ext.trans (Ext.trans hx574 hx577) hx581)).keptO hx585 (by omega)
                        replace hO13 := (hO13.ext (Ext.trans (Ext.trans hx574 hx577) hx581)).keptO hx585 (by omega)
                        replace hO14 := (hO14.ext (Ext.trans (Ext.trans hx574 hx577) hx581)).keptO hx585 (by omega)
                        replace owT := (owT.ext (Ext.trans (Ext.trans hx574 hx577) hx581)).keptO hx585 (by omega)
                        replace odw := (odw.ext (Ext.trans (Ext.trans hx574 hx577) hx581)).keptO hx585 (by omega)
                        replace owS := (owS.ext (Ext.trans (Ext.trans hx574 hx577) hx581)).keptO hx585 (by omega)
                        replace hO15 := (hO15.ext (Ext.trans (Ext.trans hx574 hx577) hx581)).keptO hx585 (by omega)
                        replace ovT := (ovT.ext (Ext.trans hx577 hx581)).keptO hx585 (by omega)
                        replace odv := (odv.ext (Ext.trans hx577 hx581)).keptO hx585 (by omega)
                        replace hO17 := hO17.keptO hx585 (by omega)
                        replace hO16 : Blk _ _ _ ((appF (appF ⟨(appF d o.n).1.m, []⟩ (aN (appF d o.n).1.m.E)).1 (aN (appF d o.n).1.m.E)).1.c vv uv) := hO16
                        refine WL.op rfl (OW.storeOA hO17 rfl rfl rfl (ones2 _ (own_one odv.own)) Try.sizeOf53 ?_)
                        intro w587 hO17 hx589
                        have := World.grownBy.size hx589
                        replace hO2 := hO2.keptO hx589 (by omega)
                        replace hO3 := hO3.keptO hx589 (by omega)
                        replace oxT := oxT.keptO hx589 (by omega)
                        replace odx := odx.keptO hx589 (by omega)
                        replace hO6 := hO6.keptO hx589 (by omega)
                        replace hO7 := hO7.keptO hx589 (by omega)
                        replace oyT := oyT.keptO hx589 (by omega)
                        replace ody := ody.keptO hx589 (by omega)
                        replace hO8 := hO8.keptO hx589 (by omega)
                        replace hO9 := hO9.keptO hx589 (by omega)
                        replace hO13 := hO13.keptO hx589 (by omega)
                        replace hO14 := hO14.keptO hx589 (by omega)
                        replace owT := owT.keptO hx589 (by omega)
                        replace odw := odw.keptO hx589 (by omega)
                        replace owS := owS.keptO hx589 (by omega)
                        replace hO15 := hO15.keptO hx589 (by omega)
                        replace ovT := ovT.keptO hx589 (by omega)
                        replace odv := odv.keptO hx589 (by omega)
                        replace hO16 := hO16.keptO hx589 (by omega)
                        refine WL.nil ?_
                        refine thn_n ?_
                        refine WF.seq ?_
                        refine WF.region ?_
                        refine WL.va rfl rfl rfl (X.fieldAddrO (off := 0) rfl Try.underlying53 rfl rfl Try.sizeOf28) ?_
                        refine WL.va rfl rfl rfl (X.loadO hO15 (Ext.refl _) rfl rfl Try.isAgg28) ?_
                        refine WL.va rfl rfl rfl (X.eql rfl rfl) ?_
                        refine WL.va rfl rfl rfl (X.moveB rfl) ?_
                        refine WL.split (j := 3) rfl (fun h592 => ?_) (fun h592 => ?_)
                        · have gh592 := (of_decide_eq_true h592)
                          refine WL.vg rfl (congrArg some h592) rfl rfl (X.fieldAddrO (off := 0) rfl Try.underlying53 rfl rfl Try.sizeOf28) ?_
                          refine WL.vg rfl (congrArg some h592) rfl rfl (X.loadO hO17 (Ext.refl _) rfl rfl Try.isAgg28) ?_
                          refine WL.vg rfl (congrArg some h592) rfl rfl (X.eql rfl rfl) ?_
                          refine WL.va rfl rfl rfl (X.pickT rfl h592 rfl) ?_
                          refine WL.va rfl rfl rfl (X.moveB rfl) ?_
                          refine WL.split (j := 8) rfl (fun h594 => ?_) (fun h594 => ?_)
                          · have gh594 := (of_decide_eq_true h594)
                            refine WL.vg rfl (congrArg some h594) rfl rfl (X.fieldAddrO (off := 0) rfl Try.underlying51 rfl rfl Try.sizeOf26) ?_
                            refine WL.vg rfl (congrArg some h594) rfl rfl (X.fieldAddrP (off := 2) rfl Try.underlying26 rfl rfl Try.sizeOf24) ?_
                            refine WL.vg rfl (congrArg some h594) rfl rfl (X.loadOP hO13 (Ext.refl _) rfl rfl rfl Try.isAgg24 Try.sizeOf24) ?_
                            refine WL.vg rfl (congrArg some h594) rfl rfl (X.buildL (P := Try.prog) (t := 24) (cs := (Mv.c Mv.zero)) evp_nil Try.type24 Try.underlying24 rfl rfl trivial rfl) ?_
                            refine WL.vg rfl (congrArg some h594) rfl rfl (X.eqlA (na := (appF ⟨(appF d o.n).1.m, []⟩ (aN (appF d o.n).1.m.E)).1.m.M.ints) (nb := Mv.zero.ints) flatM fieldsM offsM rfl rfl rfl rfl (Mv.eqB _ _)) ?_
                            refine WL.va rfl rfl rfl (X.pickT rfl h594 rfl) ?_
                            refine WL.va rfl rfl rfl (X.moveB rfl) ?_
                            refine WL.split (j := 15) rfl (fun h596 => ?_) (fun h596 => ?_)
                            · have gh596 := h596
                              refine WL.vg rfl (congrArg some h596) rfl rfl (X.fieldAddrO (off := 0) rfl Try.underlying51 rfl rfl Try.sizeOf26) ?_
                              refine WL.vg rfl (congrArg some h596) rfl rfl (X.loadOP hO16 (Ext.refl _) rfl rfl rfl Try.isAgg26 Try.sizeOf26) ?_
                              refine WL.vg rfl (congrArg some h596) rfl rfl (X.fieldAddrO (off := 0) rfl Try.underlying51 rfl rfl Try.sizeOf26) ?_
                              refine WL.vg rfl (congrArg some h596) rfl rfl (X.loadOP hO13 (Ext.refl _) rfl rfl rfl Try.isAgg26 Try.sizeOf26) ?_
                              refine WL.cg rfl (congrArg some h596) rfl rfl (X.call Try.call19 (evl_cons rfl (evl_cons rfl evl_nil))) (sameMap_self (ovT).rng.rd (owT).rng.rd hd2.2) ?_
                              rintro v598 w597 ⟨rfl, hx599⟩
                              have := World.grownBy.size hx599
                              refine WL.va rfl rfl rfl (X.pickT rfl h596 rfl) ?_
                              refine WL.va rfl rfl rfl (X.moveB rfl) ?_
                              refine WL.vg rfl rfl rfl rfl (X.fieldAddrO (off := 7) rfl Try.underlying51 rfl rfl Try.sizeOf49) ?_
                              refine WL.vg rfl rfl rfl rfl (X.loadO hO13 hx599 rfl rfl Try.isAgg49) ?_
                              refine WL.vg rfl rfl rfl rfl (X.len (owS.rd) rfl Try.underlying49) ?_
                              refine WL.vg rfl rfl rfl rfl (X.eql rfl rfl) ?_
                              refine WL.va rfl rfl rfl (X.pickT rfl rfl rfl) ?_
                              refine WL.va rfl rfl rfl (X.moveB rfl) ?_
                              refine WL.split (j := 28) rfl (fun h602 => ?_) (fun h602 => ?_)
                              · have gh602 := (of_decide_eq_true h602)
                                refine WL.cg rfl (congrArg some h602) rfl rfl (X.call Try.call13 evl_nil) (known_ok _) ?_
                                rintro v604 w603 ⟨rfl, hx605⟩
                                have := World.grownBy.size hx605
                                refine WL.va rfl rfl rfl (X.pickT rfl h602 rfl) ?_
                                refine WL.va rfl rfl rfl (X.assignB rfl) ?_
                                refine WL.nil ?_
                                refine thn_n ?_
                                refine WF.ret ?_
                                refine fin_r ?_
                                exact ⟨rfl, (Ext.trans (Ext.trans (Ext.store (Ext.trans (Ext.trans (Ext.store (Ext.trans (Ext.store (Ext.trans (Ext.trans (Ext.store (Ext.trans (Ext.trans (Ext.trans (Ext.trans hx3 hx6) hwL0) hx48) (Ext.store (Ext.trans hx51 hx55) hx59 (by omega))) hx63 (by omega)) hx86) (Ext.store (Ext.trans hx89 hx93) hx97 (by omega))) hx101 (by omega)) (Ext.store (Ext.trans (Ext.trans (Ext.trans (Ext.store hx543 hx547 (by omega)) (Ext.store hx551 hx555 (by omega))) hx559) hx562) hx566 (by omega))) hx570 (by omega)) hx574) (Ext.store (Ext.trans hx577 hx581) hx585 (by omega))) hx589 (by omega)) hx599) hx605)⟩
                              · have gh602 := (of_decide_eq_false h602)
                                exact absurd hw0 gh602
                            · have gh596 := h596
                              rw [decide_eq_true hd1.2.1] at gh596; cases gh596
                          · have gh594 := (of_decide_eq_false h594)
                            exact absurd hd2.1 gh594
                        · have gh592 := (of_decide_eq_false h592)
                          exact absurd hd1.1 gh592
                    · have gh432 := (Decidable.of_not_not (of_decide_eq_false h432))
                      refine WL.p rfl rfl rfl (congrArg some h432) ?_
                      refine WL.p rfl rfl rfl (congrArg some h432) ?_
                      refine WL.p rfl rfl rfl (congrArg some h432) ?_
                      refine WL.va rfl rfl rfl (X.pickF rfl h432 rfl) ?_
                      refine WL.nil ?_
                      refine thn_n ?_
                      refine WF.cond_f rfl ?_
                      refine WF.skip ?_
                      refine thn_n ?_
                      refine WF.seq ?_
                      refine WF.region ?_
                      refine WL.va rfl rfl rfl (X.fieldAddrO (off := 0) ((hACr9.eq 6).trans (congrFun hF67 6)) Try.underlying51 rfl rfl Try.sizeOf26) ?_
                      refine WL.va rfl rfl rfl (X.loadOP hO6 (Ext.refl _) rfl rfl rfl Try.isAgg26 Try.sizeOf26) ?_
                      refine WL.va rfl rfl rfl (X.buildF (P := Try.prog) (t := 51) (cs := (Dr.c ⟨(appF d o.n).1.m, []⟩ vx nilS)) (evp_cons rfl evp_nil) Try.type51 Try.underlying51 rfl rfl (fill51a _ _ _ _ _ _ _)) ?_
                      refine WL.op rfl (OW.allocO (cs := [.slice none 0 0, i64 0, i64 0, i64 0, i64 0, i64 0, i64 0, .slice none 0 0]) Try.zeroValue51 rfl ?_ (by decide))
                      intro g13 w608 heg13 hlg13 hO13 hx610
                      have := World.grownBy.size hx610
                      refine WL.op rfl (OW.storeOA hO13 rfl rfl rfl (Dr.c_one ⟨(appF d o.n).1.m, []⟩ ((oxT.ext hx610)).rng.rd rfl) Try.sizeOf51 ?_)
                      intro w612 hO13 hx614
                      have := World.grownBy.size hx614
                      replace hO2 := (hO2.ext hx610).keptO hx614 (by omega)
                      replace hO3 := (hO3.ext hx610).keptO hx614 (by omega)
                      replace oxT := (oxT.ext hx610).keptO hx614 (by omega)
                      replace odx := (odx.ext hx610).keptO hx614 (by omega)
                      replace hO6 := (hO6.ext hx610).keptO hx614 (by omega)
                      replace hO7 := (hO7.ext hx610).keptO hx614 (by omega)
                      replace oyT := (oyT.ext hx610).keptO hx614 (by omega)
                      replace ody := (ody.ext hx610).keptO hx614 (by omega)
                      replace hO8 := (hO8.ext hx610).keptO hx614 (by omega)
                      replace hO9 := (hO9.ext hx610).keptO hx614 (by omega)
                      refine WL.nil ?_
                      refine thn_n ?_
                      refine WF.seq ?_
                      refine WF.region ?_
                      refine WL.va rfl rfl rfl (X.fieldAddrO (off := 0) ((hACr9.eq 6).trans (congrFun hF67 6)) Try.underlying51 rfl rfl Try.sizeOf26) ?_
                      refine WL.va rfl rfl rfl (X.fieldAddrP (off := 1) rfl Try.underlying26 rfl rfl Try.sizeOf3) ?_
                      refine WL.va rfl rfl rfl (X.loadO hO6 (Ext.refl _) rfl rfl Try.isAgg3) ?_
                      refine WL.va rfl rfl rfl (X.buildT (P := Try.prog) (t := 72) (cs := (Op.oc (aN (appF d o.n).1.m.E) nilS nilS nilS nilS)) (zs := [i64 0, i64 0, i64 0, i64 0, i64 0, i64 0, i64 0, i64 0, i64 0, i64 0, i64 0, i64 0, i64 0, .slice none 0 0, .slice none 0 0, .slice none 0 0, .slice none 0 0]) (places := [(0, 1), (1, 1), (2, 1), (3, 1), (4, 1), (5, 1), (6, 1), (7, 1), (8, 1), (9, 1), (10, 1), (11, 1), (12, 1), (13, 1), (14, 1), (15, 1), (16, 1)]) (n := 17) (evp_cons rfl (evp_cons rfl evp_nil)) Try.type72 Try.underlying72 rfl rfl ⟨rfl, rfl, trivial⟩ rfl rfl rfl) ?_
                      refine WL.op rfl (OW.allocO (cs := [i64 0, i64 0, i64 0, i64 0, i64 0, i64 0, i64 0, i64 0, i64 0, i64 0, i64 0, i64 0, i64 0, .slice none 0 0, .slice none 0 0, .slice none 0 0, .slice none 0 0]) Try.zeroValue72 rfl ?_ (by decide))
                      intro g14 w616 heg14 hlg14 hO14 hx618
                      have := World.grownBy.size hx618
                      refine WL.op rfl (OW.storeOA hO14 rfl rfl rfl ((opAt_nil w hgx.E).ones _) Try.sizeOf72 ?_)
                      intro w620 hO14 hx622
                      have := World.grownBy.size hx622
                      replace hO2 := (hO2.ext hx618).keptO hx622 (by omega)
                      replace hO3 := (hO3.ext hx618).keptO hx622 (by omega)
                      replace oxT := (oxT.ext hx618).keptO hx622 (by omega)
                      replace odx := (odx.ext hx618).keptO hx622 (by omega)
                      replace hO6 := (hO6.ext hx618).keptO hx622 (by omega)
                      replace hO7 := (hO7.ext hx618).keptO hx622 (by omega)
                      replace oyT := (oyT.ext hx618).keptO hx622 (by omega)
                      replace ody := (ody.ext hx618).keptO hx622 (by omega)
                      replace hO8 := (hO8.ext hx618).keptO hx622 (by omega)
                      replace hO9 := (hO9.ext hx618).keptO hx622 (by omega)
                      replace hO13 := (hO13.ext hx618).keptO hx622 (by omega)
                      refine WL.nil ?_
                      refine thn_n ?_
                      refine WF.seq ?_
                      refine WF.region ?_
                      refine WL.va rfl rfl rfl (X.loadOA hO13 (Ext.refl _) rfl rfl Try.isAgg51 Try.sizeOf51) ?_
                      refine WL.va rfl rfl rfl (X.loadOA hO14 (Ext.refl _) rfl rfl Try.isAgg72 Try.sizeOf72) ?_
                      refine WL.c rfl rfl rfl (X.call Try.call45 (evl_cons rfl (evl_cons rfl evl_nil))) (apply_ok ⟨(appF d o.n).1.m, []⟩ vx nilS nilS nilS nilS nilS ⟨(aN (appF d o.n).1.m.E), [], [], [], []⟩ _ ⟨oxT.rng.rd, sess_nil _⟩ hgx (Nat.zero_le _) (fun s hs => by cases hs) (opAt_nil _ hgx.E)) ?_
                      rintro v625 w624 ⟨⟨vw, uw, dw, Fw, rfl, hFw, owT, odw, _⟩, hx626⟩
                      have := World.grownBy.size hx626
                      have owS := owT.ses
                      have hFw0 : Fw.length = 0 := by have := congrArg List.length hFw; rw [hd1.2.2.2] at this; simpa using this
                      have hw0 : (Fw.length : Int) = 0 := by omega
                      refine WL.va rfl rfl rfl (X.move rfl) ?_
                      refine WL.va rfl rfl rfl (X.extract rfl rfl) ?_
                      refine WL.va rfl rfl rfl (X.extract rfl rfl) ?_
                      refine WL.op rfl (OW.allocO (cs := [i64 0, .slice none 0 0]) Try.zeroValue53 rfl ?_ (by decide))
                      intro g15 w627 heg15 hlg15 hO15 hx629
                      have := World.grownBy.size hx629
                      refine WL.op rfl (OW.storeOA (hO13.ext (Ext.trans hx626 hx629)) rfl rfl rfl (Dr.c_one _ owT.rng.rd (own_one owT.ses.own.row)) Try.sizeOf51 ?_)
                      intro w631 hO13 hx633
                      have := World.grownBy.size hx633
                      replace hO2 := (hO2.ext (Ext.trans hx626 hx629)).keptO hx633 (by omega)
                      replace hO3 := (hO3.ext (Ext.trans hx626 hx629)).keptO hx633 (by omega)
                      replace oxT := (oxT.ext (Ext.trans hx626 hx629)).keptO hx633 (by omega)
                      replace odx := (odx.ext (Ext.trans hx626 hx629)).keptO hx633 (by omega)
                      replace hO6 := (hO6.ext (Ext.trans hx626 hx629)).keptO hx633 (by omega)
                      replace hO7 := (hO7.ext (Ext.trans hx626 hx629)).keptO hx633 (by omega)
                      replace oyT := (oyT.ext (Ext.trans hx626 hx629)).keptO hx633 (by omega)
                      replace ody := (ody.ext (Ext.trans hx626 hx629)).keptO hx633 (by omega)
                      replace hO8 := (hO8.ext (Ext.trans hx626 hx629)).keptO hx633 (by omega)
                      replace hO9 := (hO9.ext (Ext.trans hx626 hx629)).keptO hx633 (by omega)
                      replace hO14 := (hO14.ext (Ext.trans hx626 hx629)).keptO hx633 (by omega)
                      replace owT := (owT.ext hx629).keptO hx633 (by omega)
                      replace odw := (odw.ext hx629).keptO hx633 (by omega)
                      replace owS := (owS.ext hx629).keptO hx633 (by omega)
                      replace hO15 := hO15.keptO hx633 (by omega)
                      replace hO13 : Blk _ _ _ ((appF ⟨(appF d o.n).1.m, []⟩ (aN (appF d o.n).1.m.E)).1.c vw uw) := hO13
                      refine WL.op rfl (OW.storeOA hO15 rfl rfl rfl (ones2 _ (own_one odw.own)) Try.sizeOf53 ?_)
                      intro w635 hO15 hx637
                      have := World.grownBy.size hx637
                      replace hO2 := hO2.keptO hx637 (by omega)
                      replace hO3 := hO3.keptO hx637 (by omega)
                      replace oxT := oxT.keptO hx637 (by omega)
                      replace odx := odx.keptO hx637 (by omega)
                      replace hO6 := hO6.keptO hx637 (by omega)
                      replace hO7 := hO7.keptO hx637 (by omega)
                      replace oyT := oyT.keptO hx637 (by omega)
                      replace ody := ody.keptO hx637 (by omega)
                      replace hO8 := hO8.keptO hx637 (by omega)
                      replace hO9 := hO9.keptO hx637 (by omega)
                      replace hO13 := hO13.keptO hx637 (by omega)
                      replace hO14 := hO14.keptO hx637 (by omega)
                      replace owT := owT.keptO hx637 (by omega)
                      replace odw := odw.keptO hx637 (by omega)
                      replace owS := owS.keptO hx637 (by omega)
                      refine WL.nil ?_
                      refine thn_n ?_
                      refine WF.seq ?_
                      refine WF.region ?_
                      refine WL.va rfl rfl rfl (X.loadOA hO13 (Ext.refl _) rfl rfl Try.isAgg51 Try.sizeOf51) ?_
                      refine WL.va rfl rfl rfl (X.loadOA hO14 (Ext.refl _) rfl rfl Try.isAgg72 Try.sizeOf72) ?_
                      refine WL.c rfl rfl rfl (X.call Try.call45 (evl_cons rfl (evl_cons rfl evl_nil))) (apply_ok (appF ⟨(appF d o.n).1.m, []⟩ (aN (appF d o.n).1.m.E)).1 vw uw nilS nilS nilS nilS ⟨(aN (appF d o.n).1.m.E), [], [], [], []⟩ _ (owT.at hFw) (app_good (d := ⟨(appF d o.n).1.m, []⟩) hgx (aN (appF d o.n).1.m.E)) (by rw [hd1.2.2.2]; decide) (by rw [hd1.2.2.2]; exact fun s hs => by cases hs) (opAt_nil _ hgx.E)) ?_
                      rintro v640 w639 ⟨⟨vv, uv, dv, Fv, rfl, hFv, ovT, odv, _⟩, hx641⟩
                      have := World.grownBy.size hx641
                      refine WL.va rfl rfl rfl (X.move rfl) ?_
                      refine WL.va rfl rfl rfl (X.extract rfl rfl) ?_
                      refine WL.va rfl rfl rfl (X.extract rfl rfl) ?_
                      refine WL.op rfl (OW.allocO (cs := [.slice none 0 0, i64 0, i64 0, i64 0, i64 0, i64 0, i64 0, .slice none 0 0]) Try.zeroValue51 rfl ?_ (by decide))
                      intro g16 w642 heg16 hlg16 hO16 hx644
                      have := World.grownBy.size hx644
                      refine WL.op rfl (OW.allocO (cs := [i64 0, .slice none 0 0]) Try.zeroValue53 rfl ?_ (by decide))
                      intro g17 w646 heg17 hlg17 hO17 hx648
                      have := World.grownBy.size hx648
                      refine WL.op rfl (OW.storeOA (hO16.ext hx648) rfl rfl rfl (Dr.c_one _ ovT.rng.rd (own_one ovT.ses.own.row)) Try.sizeOf51 ?_)
                      intro w650 hO16 hx652
                      have := World.grownBy.size hx652
                      replace hO2 := (hO2.ext (Ext.trans (Ext.trans hx641 hx644) hx648)).keptO hx652 (by omega)
                      replace hO3 := (hO3.ext (Ext.trans (Ext.trans hx641 hx644) hx648)).keptO hx652 (by omega)
                      replace oxT := (oxT.ext (Ext.trans (Ext.trans hx641 hx644) hx648)).keptO hx652 (by omega)
                      replace odx := (odx.ext (Ext.trans (Ext.trans hx641 hx644) hx648)).keptO hx652 (by omega)
                      replace hO6 := (hO6.ext (Ext.trans (Ext.trans hx641 hx644) hx648)).keptO hx652 (by omega)
                      replace hO7 := (hO7.ext (Ext.trans (Ext.trans hx641 hx644) hx648)).keptO hx652 (by omega)
                      replace oyT := (oyT.ext (Ext.trans (Ext.trans hx641 hx644) hx648)).keptO hx652 (by omega)
                      replace ody := (ody.ext (Ext.trans (Ext.trans hx641 hx644) hx648)).keptO hx652 (by omega)
                      replace hO8 := (hO8.ext (Ext.trans (Ext.trans hx641 hx644) hx648)).keptO hx652 (by omega)
                      replace hO9 := (hO9.ext (Ext.trans (Ext.trans hx641 hx644) hx648)).keptO hx652 (by omega)
                      replace hO13 := (hO13.ext (Ext.trans (Ext.trans hx641 hx644) hx648)).keptO hx652 (by omega)
                      replace hO14 := (hO14.ext (Ext.trans (Ext.trans hx641 hx644) hx648)).keptO hx652 (by omega)
                      replace owT := (owT.ext (Ext.trans (Ext.trans hx641 hx644) hx648)).keptO hx652 (by omega)
                      replace odw := (odw.ext (Ext.trans (Ext.trans hx641 hx644) hx648)).keptO hx652 (by omega)
                      replace owS := (owS.ext (Ext.trans (Ext.trans hx641 hx644) hx648)).keptO hx652 (by omega)
                      replace hO15 := (hO15.ext (Ext.trans (Ext.trans hx641 hx644) hx648)).keptO hx652 (by omega)
                      replace ovT := (ovT.ext (Ext.trans hx644 hx648)).keptO hx652 (by omega)
                      replace odv := (odv.ext (Ext.trans hx644 hx648)).keptO hx652 (by omega)
                      replace hO17 := hO17.keptO hx652 (by omega)
                      replace hO16 : Blk _ _ _ ((appF (appF ⟨(appF d o.n).1.m, []⟩ (aN (appF d o.n).1.m.E)).1 (aN (appF d o.n).1.m.E)).1.c vv uv) := hO16
                      refine WL.op rfl (OW.storeOA hO17 rfl rfl rfl (ones2 _ (own_one odv.own)) Try.sizeOf53 ?_)
                      intro w654 hO17 hx656
                      have := World.grownBy.size hx656
                      replace hO2 := hO2.keptO hx656 (by omega)
                      replace hO3 := hO3.keptO hx656 (by omega)
                      replace oxT := oxT.keptO hx656 (by omega)
                      replace odx := odx.keptO hx656 (by omega)
                      replace hO6 := hO6.keptO hx656 (by omega)
                      replace hO7 := hO7.keptO hx656 (by omega)
                      replace oyT := oyT.keptO hx656 (by omega)
                      replace ody := ody.keptO hx656 (by omega)
                      replace hO8 := hO8.keptO hx656 (by omega)
                      replace hO9 := hO9.keptO hx656 (by omega)
                      replace hO13 := hO13.keptO hx656 (by omega)
                      replace hO14 := hO14.keptO hx656 (by omega)
                      replace owT := owT.keptO hx656 (by omega)
                      replace odw := odw.keptO hx656 (by omega)
                      replace owS := owS.keptO hx656 (by omega)
                      replace hO15 := hO15.keptO hx656 (by omega)
                      replace ovT := ovT.keptO hx656 (by omega)
                      replace odv := odv.keptO hx656 (by omega)
                      replace hO16 := hO16.keptO hx656 (by omega)
                      refine WL.nil ?_
                      refine thn_n ?_
                      refine WF.seq ?_
                      refine WF.region ?_
                      refine WL.va rfl rfl rfl (X.fieldAddrO (off := 0) rfl Try.underlying53 rfl rfl Try.sizeOf28) ?_
                      refine WL.va rfl rfl rfl (X.loadO hO15 (Ext.refl _) rfl rfl Try.isAgg28) ?_
                      refine WL.va rfl rfl rfl (X.eql rfl rfl) ?_
                      refine WL.va rfl rfl rfl (X.moveB rfl) ?_
                      refine WL.split (j := 3) rfl (fun h659 => ?_) (fun h659 => ?_)
                      · have gh659 := (of_decide_eq_true h659)
                        refine WL.vg rfl (congrArg some h659) rfl rfl (X.fieldAddrO (off := 0) rfl Try.underlying53 rfl rfl Try.sizeOf28) ?_
                        refine WL.vg rfl (congrArg some h659) rfl rfl (X.loadO hO17 (Ext.refl _) rfl rfl Try.isAgg28) ?_
                        refine WL.vg rfl (congrArg some h659) rfl rfl (X.eql rfl rfl) ?_
                        refine WL.va rfl rfl rfl (X.pickT rfl h659 rfl) ?_
                        refine WL.va rfl rfl rfl (X.moveB rfl) ?_
                        refine WL.split (j := 8) rfl (fun h661 => ?_) (fun h661 => ?_)
                        · have gh661 := (of_decide_eq_true h661)
                          refine WL.vg rfl (congrArg some h661) rfl rfl (X.fieldAddrO (off := 0) rfl Try.underlying51 rfl rfl Try.sizeOf26) ?_
                          refine WL.vg rfl (congrArg some h661) rfl rfl (X.fieldAddrP (off := 2) rfl Try.underlying26 rfl rfl Try.sizeOf24) ?_
                          refine WL.vg rfl (congrArg some h661) rfl rfl (X.loadOP hO13 (Ext.refl _) rfl rfl rfl Try.isAgg24 Try.sizeOf24) ?_
                          refine WL.vg rfl (congrArg some h661) rfl rfl (X.buildL (P := Try.prog) (t := 24) (cs := (Mv.c Mv.zero)) evp_nil Try.type24 Try.underlying24 rfl rfl trivial rfl) ?_
                          refine WL.vg rfl (congrArg some h661) rfl rfl (X.eqlA (na := (appF ⟨(appF d o.n).1.m, []⟩ (aN (appF d o.n).1.m.E)).1.m.M.ints) (nb := Mv.zero.ints) flatM fieldsM offsM rfl rfl rfl rfl (Mv.eqB _ _)) ?_
                          refine WL.va rfl rfl rfl (X.pickT rfl h661 rfl) ?_
                          refine WL.va rfl rfl rfl (X.moveB rfl) ?_
                          refine WL.split (j := 15) rfl (fun h663 => ?_) (fun h663 => ?_)
                          · have gh663 := h663
                            refine WL.vg rfl (congrArg some h663) rfl rfl (X.fieldAddrO (off := 0) rfl Try.underlying51 rfl rfl Try.sizeOf26) ?_
                            refine WL.vg rfl (congrArg some h663) rfl rfl (X.loadOP hO16 (Ext.refl _) rfl rfl rfl Try.isAgg26 Try.sizeOf26) ?_
                            refine WL.vg rfl (congrArg some h663) rfl rfl (X.fieldAddrO (off := 0) rfl Try.underlying51 rfl rfl Try.sizeOf26) ?_
                            refine WL.vg rfl (congrArg some h663) rfl rfl (X.loadOP hO13 (Ext.refl _) rfl rfl rfl Try.isAgg26 Try.sizeOf26) ?_
                            refine WL.cg rfl (congrArg some h663) rfl rfl (X.call Try.call19 (evl_cons rfl (evl_cons rfl evl_nil))) (sameMap_self (ovT).rng.rd (owT).rng.rd hd2.2) ?_
                            rintro v665 w664 ⟨rfl, hx666⟩
                            have := World.grownBy.size hx666
                            refine WL.va rfl rfl rfl (X.pickT rfl h663 rfl) ?_
                            refine WL.va rfl rfl rfl (X.moveB rfl) ?_
                            refine WL.vg rfl rfl rfl rfl (X.fieldAddrO (off := 7) rfl Try.underlying51 rfl rfl Try.sizeOf49) ?_
                            refine WL.vg rfl rfl rfl rfl (X.loadO hO13 hx666 rfl rfl Try.isAgg49) ?_
                            refine WL.vg rfl rfl rfl rfl (X.len (owS.rd) rfl Try.underlying49) ?_
                            refine WL.vg rfl rfl rfl rfl (X.eql rfl rfl) ?_
                            refine WL.va rfl rfl rfl (X.pickT rfl rfl rfl) ?_
                            refine WL.va rfl rfl rfl (X.moveB rfl) ?_
                            refine WL.split (j := 28) rfl (fun h669 => ?_) (fun h669 => ?_)
                            · have gh669 := (of_decide_eq_true h669)
                              refine WL.cg rfl (congrArg some h669) rfl rfl (X.call Try.call13 evl_nil) (known_ok _) ?_
                              rintro v671 w670 ⟨rfl, hx672⟩
                              have := World.grownBy.size hx672
                              refine WL.va rfl rfl rfl (X.pickT rfl h669 rfl) ?_
                              refine WL.va rfl rfl rfl (X.assignB rfl) ?_
                              refine WL.nil ?_
                              refine thn_n ?_
                              refine WF.ret ?_
                              refine fin_r ?_
                              exact ⟨rfl, (Ext.trans (Ext.trans (Ext.store (Ext.trans (Ext.trans (Ext.store (Ext.trans (Ext.store (Ext.trans (Ext.trans (Ext.store (Ext.trans (Ext.trans (Ext.trans (Ext.trans hx3 hx6) hwL0) hx48) (Ext.store (Ext.trans hx51 hx55) hx59 (by omega))) hx63 (by omega)) hx86) (Ext.store (Ext.trans hx89 hx93) hx97 (by omega))) hx101 (by omega)) (Ext.store (Ext.trans (Ext.trans (Ext.trans (Ext.store hx610 hx614 (by omega)) (Ext.store hx618 hx622 (by omega))) hx626) hx629) hx633 (by omega))) hx637 (by omega)) hx641) (Ext.store (Ext.trans hx644 hx648) hx652 (by omega))) hx656 (by omega)) hx666) hx672)⟩
                            · have gh669 := (of_decide_eq_false h669)
                              exact absurd hw0 gh669
                          · have gh663 := h663
                            rw [decide_eq_true hd1.2.1] at gh663; cases gh663
                        · have gh661 := (of_decide_eq_false h661)
                          exact absurd hd2.1 gh661
                      · have gh659 := (of_decide_eq_false h659)
                        exact absurd hd1.1 gh659
                  · have gh430 := (Decidable.of_not_not (of_decide_eq_false h430))
                    refine WL.p rfl rfl rfl (congrArg some h430) ?_
                    refine WL.p rfl rfl rfl (congrArg some h430) ?_
                    refine WL.p rfl rfl rfl (congrArg some h430) ?_
                    refine WL.va rfl rfl rfl (X.pickF rfl h430 rfl) ?_
                    refine WL.va rfl rfl rfl (X.moveB rfl) ?_
                    refine WL.p rfl rfl rfl rfl ?_
                    refine WL.p rfl rfl rfl rfl ?_
                    refine WL.p rfl rfl rfl rfl ?_
                    refine WL.va rfl rfl rfl (X.pickF rfl rfl rfl) ?_
                    refine WL.nil ?_
                    refine thn_n ?_
                    refine WF.cond_f rfl ?_
                    refine WF.skip ?_
                    refine thn_n ?_
                    refine WF.seq ?_
                    refine WF.region ?_
                    refine WL.va rfl rfl rfl (X.fieldAddrO (off := 0) ((hACr9.eq 6).trans (congrFun hF67 6)) Try.underlying51 rfl rfl Try.sizeOf26) ?_
                    refine WL.va rfl rfl rfl (X.loadOP hO6 (Ext.refl _) rfl rfl rfl Try.isAgg26 Try.sizeOf26) ?_
                    refine WL.va rfl rfl rfl (X.buildF (P := Try.prog) (t := 51) (cs := (Dr.c ⟨(appF d o.n).1.m, []⟩ vx nilS)) (evp_cons rfl evp_nil) Try.type51 Try.underlying51 rfl rfl (fill51a _ _ _ _ _ _ _)) ?_
                    refine WL.op rfl (OW.allocO (cs := [.slice none 0 0, i64 0, i64 0, i64 0, i64 0, i64 0, i64 0, .slice none 0 0]) Try.zeroValue51 rfl ?_ (by decide))
                    intro g13 w676 heg13 hlg13 hO13 hx678
                    have := World.grownBy.size hx678
                    refine WL.op rfl (OW.storeOA hO13 rfl rfl rfl (Dr.c_one ⟨(appF d o.n).1.m, []⟩ ((oxT.ext hx678)).rng.rd rfl) Try.sizeOf51 ?_)
                    intro w680 hO13 hx682
                    have := World.grownBy.size hx682
                    replace hO2 := (hO2.ext hx678).keptO hx682 (by omega)
                    replace hO3 := (hO3.ext hx678).keptO hx682 (by omega)
                    replace oxT := (oxT.ext hx678).keptO hx682 (by omega)
                    replace odx := (odx.ext hx678).keptO hx682 (by omega)
                    replace hO6 := (hO6.ext hx678).keptO hx682 (by omega)
                    replace hO7 := (hO7.ext hx678).keptO hx682 (by omega)
                    replace oyT := (oyT.ext hx678).keptO hx682 (by omega)
                    replace ody := (ody.ext hx678).keptO hx682 (by omega)
                    replace hO8 := (hO8.ext hx678).keptO hx682 (by omega)
                    replace hO9 := (hO9.ext hx678).keptO hx682 (by omega)
                    refine WL.nil ?_
                    refine thn_n ?_
                    refine WF.seq ?_
                    refine WF.region ?_
                    refine WL.va rfl rfl rfl (X.fieldAddrO (off := 0) ((hACr9.eq 6).trans (congrFun hF67 6)) Try.underlying51 rfl rfl Try.sizeOf26) ?_
                    refine WL.va rfl rfl rfl (X.fieldAddrP (off := 1) rfl Try.underlying26 rfl rfl Try.sizeOf3) ?_
                    refine WL.va rfl rfl rfl (X.loadO hO6 (Ext.refl _) rfl rfl Try.isAgg3) ?_
                    refine WL.va rfl rfl rfl (X.buildT (P := Try.prog) (t := 72) (cs := (Op.oc (aN (appF d o.n).1.m.E) nilS nilS nilS nilS)) (zs := [i64 0, i64 0, i64 0, i64 0, i64 0, i64 0, i64 0, i64 0, i64 0, i64 0, i64 0, i64 0, i64 0, .slice none 0 0, .slice none 0 0, .slice none 0 0, .slice none 0 0]) (places := [(0, 1), (1, 1), (2, 1), (3, 1), (4, 1), (5, 1), (6, 1), (7, 1), (8, 1), (9, 1), (10, 1), (11, 1), (12, 1), (13, 1), (14, 1), (15, 1), (16, 1)]) (n := 17) (evp_cons rfl (evp_cons rfl evp_nil)) Try.type72 Try.underlying72 rfl rfl ⟨rfl, rfl, trivial⟩ rfl rfl rfl) ?_
                    refine WL.op rfl (OW.allocO (cs := [i64 0, i64 0, i64 0, i64 0, i64 0, i64 0, i64 0, i64 0, i64 0, i64 0, i64 0, i64 0, i64 0, .slice none 0 0, .slice none 0 0, .slice none 0 0, .slice none 0 0]) Try.zeroValue72 rfl ?_ (by decide))
                    intro g14 w684 heg14 hlg14 hO14 hx686
                    have := World.grownBy.size hx686
                    refine WL.op rfl (OW.storeOA hO14 rfl rfl rfl ((opAt_nil w hgx.E).ones _) Try.sizeOf72 ?_)
                    intro w688 hO14 hx690
                    have := World.grownBy.size hx690
                    replace hO2 := (hO2.ext hx686).keptO hx690 (by omega)
                    replace hO3 := (hO3.ext hx686).keptO hx690 (by omega)
                    replace oxT := (oxT.ext hx686).keptO hx690 (by omega)
                    replace odx := (odx.ext hx686).keptO hx690 (by omega)
                    replace hO6 := (hO6.ext hx686).keptO hx690 (by omega)
                    replace hO7 := (hO7.ext hx686).keptO hx690 (by omega)
                    replace oyT := (oyT.ext hx686).keptO hx690 (by omega)
                    replace ody := (ody.ext hx686).keptO hx690 (by omega)
                    replace hO8 := (hO8.ext hx686).keptO hx690 (by omega)
                    replace hO9 := (hO9.ext hx686).keptO hx690 (by omega)
                    replace hO13 := (hO13.ext hx686).keptO hx690 (by omega)
                    refine WL.nil ?_
                    refine thn_n ?_
                    refine WF.seq ?_
                    refine WF.region ?_
                    refine WL.va rfl rfl rfl (X.loadOA hO13 (Ext.refl _) rfl rfl Try.isAgg51 Try.sizeOf51) ?_
                    refine WL.va rfl rfl rfl (X.loadOA hO14 (Ext.refl _) rfl rfl Try.isAgg72 Try.sizeOf72) ?_
                    refine WL.c rfl rfl rfl (X.call Try.call45 (evl_cons rfl (evl_cons rfl evl_nil))) (apply_ok ⟨(appF d o.n).1.m, []⟩ vx nilS nilS nilS nilS nilS ⟨(aN (appF d o.n).1.m.E), [], [], [], []⟩ _ ⟨oxT.rng.rd, sess_nil _⟩ hgx (Nat.zero_le _) (fun s hs => by cases hs) (opAt_nil _ hgx.E)) ?_
                    rintro v693 w692 ⟨⟨vw, uw, dw, Fw, rfl, hFw, owT, odw, _⟩, hx694⟩
                    have := World.grownBy.size hx694
                    have owS := owT.ses
                    have hFw0 : Fw.length = 0 := by have := congrArg List.length hFw; rw [hd1.2.2.2] at this; simpa using this
                    have hw0 : (Fw.length : Int) = 0 := by omega
                    refine WL.va rfl rfl rfl (X.move rfl) ?_
                    refine WL.va rfl rfl rfl (X.extract rfl rfl) ?_
                    refine WL.va rfl rfl rfl (X.extract rfl rfl) ?_
                    refine WL.op rfl (OW.allocO (cs := [i64 0, .slice none 0 0]) Try.zeroValue53 rfl ?_ (by decide))
                    intro g15 w695 heg15 hlg15 hO15 hx697
                    have := World.grownBy.size hx697
                    refine WL.op rfl (OW.storeOA (hO13.ext (Ext.trans hx694 hx697)) rfl rfl rfl (Dr.c_one _ owT.rng.rd (own_one owT.ses.own.row)) Try.sizeOf51 ?_)
                    intro w699 hO13 hx701
                    have := World.grownBy.size hx701
                    replace hO2 := (hO2.ext (Ext.trans hx694 hx697)).keptO hx701 (by omega)
                    replace hO3 := (hO3.ext (Ext.trans hx694 hx697)).keptO hx701 (by omega)
                    replace oxT := (oxT.ext (Ext.trans hx694 hx697)).keptO hx701 (by omega)
                    replace odx := (odx.ext (Ext.trans hx694 hx697)).keptO hx701 (by omega)
                    replace hO6 := (hO6.ext (Ext.trans hx694 hx697)).keptO hx701 (by omega)
                    replace hO7 := (hO7.ext (Ext.trans hx694 hx697)).keptO hx701 (by omega)
                    replace oyT := (oyT.ext (Ext.trans hx694 hx697)).keptO hx701 (by omega)
                    replace ody := (ody.ext (Ext.trans hx694 hx697)).keptO hx701 (by omega)
                    replace hO8 := (hO8.ext (Ext.trans hx694 hx697)).keptO hx701 (by omega)
                    replace hO9 := (hO9.ext (Ext.trans hx694 hx697)).keptO hx701 (by omega)
                    replace hO14 := (hO14.ext (Ext.trans hx694 hx697)).keptO hx701 (by omega)
                    replace owT := (owT.ext hx697).keptO hx701 (by omega)
                    replace odw := (odw.ext hx697).keptO hx701 (by omega)
                    replace owS := (owS.ext hx697).keptO hx701 (by omega)
                    replace hO15 := hO15.keptO hx701 (by omega)
                    replace hO13 : Blk _ _ _ ((appF ⟨(appF d o.n).1.m, []⟩ (aN (appF d o.n).1.m.E)).1.c vw uw) := hO13
                    refine WL.op rfl (OW.storeOA hO15 rfl rfl rfl (ones2 _ (own_one odw.own)) Try.sizeOf53 ?_)
                    intro w703 hO15 hx705
                    have := World.grownBy.size hx705
                    replace hO2 := hO2.keptO hx705 (by omega)
                    replace hO3 := hO3.keptO hx705 (by omega)
                    replace oxT := oxT.keptO hx705 (by omega)
                    replace odx := odx.keptO hx705 (by omega)
                    replace hO6 := hO6.keptO hx705 (by omega)
                    replace hO7 := hO7.keptO hx705 (by omega)
                    replace oyT := oyT.keptO hx705 (by omega)
                    replace ody := ody.keptO hx705 (by omega)
                    replace hO8 := hO8.keptO hx705 (by omega)
                    replace hO9 := hO9.keptO hx705 (by omega)
                    replace hO13 := hO13.keptO hx705 (by omega)
                    replace hO14 := hO14.keptO hx705 (by omega)
                    replace owT := owT.keptO hx705 (by omega)
                    replace odw := odw.keptO hx705 (by omega)
                    replace owS := owS.keptO hx705 (by omega)
                    refine WL.nil ?_
                    refine thn_n ?_
                    refine WF.seq ?_
                    refine WF.region ?_
                    refine WL.va rfl rfl rfl (X.loadOA hO13 (Ext.refl _) rfl rfl Try.isAgg51 Try.sizeOf51) ?_
                    refine WL.va rfl rfl rfl (X.loadOA hO14 (Ext.refl _) rfl rfl Try.isAgg72 Try.sizeOf72) ?_
                    refine WL.c rfl rfl rfl (X.call Try.call45 (evl_cons rfl (evl_cons rfl evl_nil))) (apply_ok (appF ⟨(appF d o.n).1.m, []⟩ (aN (appF d o.n).1.m.E)).1 vw uw nilS nilS nilS nilS ⟨(aN (appF d o.n).1.m.E), [], [], [], []⟩ _ (owT.at hFw) (app_good (d := ⟨(appF d o.n).1.m, []⟩) hgx (aN (appF d o.n).1.m.E)) (by rw [hd1.2.2.2]; decide) (by rw [hd1.2.2.2]; exact fun s hs => by cases hs) (opAt_nil _ hgx.E)) ?_
                    rintro v708 w707 ⟨⟨vv, uv, dv, Fv, rfl, hFv, ovT, odv, _⟩, hx709⟩
                    have := World.grownBy.size hx709
                    refine WL.va rfl rfl rfl (X.move rfl) ?_
                    refine WL.va rfl rfl rfl (X.extract rfl rfl) ?_
                    refine WL.va rfl rfl rfl (X.extract rfl rfl) ?_
                    refine WL.op rfl (OW.allocO (cs := [.slice none 0 0, i64 0, i64 0, i64 0, i64 0, i64 0, i64 0, .slice none 0 0]) Try.zeroValue51 rfl ?_ (by decide))
                    intro g16 w710 heg16 hlg16 hO16 hx712
                    have := World.grownBy.size hx712
                    refine WL.op rfl (OW.allocO (cs := [i64 0, .slice none 0 0]) Try.zeroValue53 rfl ?_ (by decide))
                    intro g17 w714 heg17 hlg17 hO17 hx716
                    have := World.grownBy.size hx716
                    refine WL.op rfl (OW.storeOA (hO16.ext hx716) rfl rfl rfl (Dr.c_one _ ovT.rng.rd (own_one ovT.ses.own.row)) Try.sizeOf51 ?_)
                    intro w718 hO16 hx720
                    have := World.grownBy.size hx720
                    replace hO2 := (hO2.ext (Ext.trans (Ext.trans hx709 hx712) hx716)).keptO hx720 (by omega)
                    replace hO3 := (hO3.ext (Ext.trans (Ext.trans hx709 hx712) hx716)).keptO hx720 (by omega)
                    replace oxT := (oxT.ext (Ext.trans (Ext.trans hx709 hx712) hx716)).keptO hx720 (by omega)
                    replace odx := (odx.ext (Ext.trans (Ext.trans hx709 hx712) hx716)).keptO hx720 (by omega)
                    replace hO6 := (hO6.ext (Ext.trans (Ext.trans hx709 hx712) hx716)).keptO hx720 (by omega)
                    replace hO7 := (hO7.ext (Ext.trans (Ext.trans hx709 hx712) hx716)).keptO hx720 (by omega)
                    replace oyT := (oyT.ext (Ext.trans (Ext.trans hx709 hx712) hx716)).keptO hx720 (by omega)
                    replace ody := (ody.ext (Ext.trans (Ext.trans hx709 hx712) hx716)).keptO hx720 (by omega)
                    replace hO8 := (hO8.ext (Ext.trans (Ext.trans hx709 hx712) hx716)).keptO hx720 (by omega)
                    replace hO9 := (hO9.ext (Ext.trans (Ext.trans hx709 hx712) hx716)).keptO hx720 (by omega)
                    replace hO13 := (hO13.ext (Ext.trans (Ext.trans hx709 hx712) hx716)).keptO hx720 (by omega)
                    replace hO14 := (hO14.ext (Ext.trans (Ext.trans hx709 hx712) hx716)).keptO hx720 (by omega)
                    replace owT := (owT.ext (Ext.trans (Ext.trans hx709 hx712) hx716)).keptO hx720 (by omega)
                    replace odw := (odw.ext (Ext.trans (Ext.trans hx709 hx712) hx716)).keptO hx720 (by omega)
                    replace owS := (owS.ext (Ext.trans (Ext.trans hx709 hx712) hx716)).keptO hx720 (by omega)
                    replace hO15 := (hO15.ext (Ext.trans (Ext.trans hx709 hx712) hx716)).keptO hx720 (by omega)
                    replace ovT := (ovT.ext (Ext.trans hx712 hx716)).keptO hx720 (by omega)
                    replace odv := (odv.ext (Ext.trans hx712 hx716)).keptO hx720 (by omega)
                    replace hO17 := hO17.keptO hx720 (by omega)
                    replace hO16 : Blk _ _ _ ((appF (appF ⟨(appF d o.n).1.m, []⟩ (aN (appF d o.n).1.m.E)).1 (aN (appF d o.n).1.m.E)).1.c vv uv) := hO16
                    refine WL.op rfl (OW.storeOA hO17 rfl rfl rfl (ones2 _ (own_one odv.own)) Try.sizeOf53 ?_)
                    intro w722 hO17 hx724
                    have := World.grownBy.size hx724
                    replace hO2 := hO2.keptO hx724 (by omega)
                    replace hO3 := hO3.keptO hx724 (by omega)
                    replace oxT := oxT.keptO hx724 (by omega)
                    replace odx := odx.keptO hx724 (by omega)
                    replace hO6 := hO6.keptO hx724 (by omega)
                    replace hO7 := hO7.keptO hx724 (by omega)
                    replace oyT := oyT.keptO hx724 (by omega)
                    replace ody := ody.keptO hx724 (by omega)
                    replace hO8 := hO8.keptO hx724 (by omega)
                    replace hO9 := hO9.keptO hx724 (by omega)
                    replace hO13 := hO13.keptO hx724 (by omega)
                    replace hO14 := hO14.keptO hx724 (by omega)
                    replace owT := owT.keptO hx724 (by omega)
                    replace odw := odw.keptO hx724 (by omega)
                    replace owS := owS.keptO hx724 (by omega)
                    replace hO15 := hO15.keptO hx724 (by omega)
                    replace ovT := ovT.keptO hx724 (by omega)
                    replace odv := odv.keptO hx724 (by omega)
                    replace hO16 := hO16.keptO hx724 (by omega)
                    refine WL.nil ?_
                    refine thn_n ?_
                    refine WF.seq ?_
                    refine WF.region ?_
                    refine WL.va rfl rfl rfl (X.fieldAddrO (off := 0) rfl Try.underlying53 rfl rfl Try.sizeOf28) ?_
                    refine WL.va rfl rfl rfl (X.loadO hO15 (Ext.refl _) rfl rfl Try.isAgg28) ?_
                    refine WL.va rfl rfl rfl (X.eql rfl rfl) ?_
                    refine WL.va rfl rfl rfl (X.moveB rfl) ?_
                    refine WL.split (j := 3) rfl (fun h727 => ?_) (fun h727 => ?_)
                    · have gh727 := (of_decide_eq_true h727)
                      refine WL.vg rfl (congrArg some h727) rfl rfl (X.fieldAddrO (off := 0) rfl Try.underlying53 rfl rfl Try.sizeOf28) ?_
                      refine WL.vg rfl (congrArg some h727) rfl rfl (X.loadO hO17 (Ext.refl _) rfl rfl Try.isAgg28) ?_
                      refine WL.vg rfl (congrArg some h727) rfl rfl (X.eql rfl rfl) ?_
                      refine WL.va rfl rfl rfl (X.pickT rfl h727 rfl) ?_
                      refine WL.va rfl rfl rfl (X.moveB rfl) ?_
                      refine WL.split (j := 8) rfl (fun h729 => ?_) (fun h729 => ?_)
                      · have gh729 := (of_decide_eq_true h729)
                        refine WL.vg rfl (congrArg some h729) rfl rfl (X.fieldAddrO (off := 0) rfl Try.underlying51 rfl rfl Try.sizeOf26) ?_
                        refine WL.vg rfl (congrArg some h729) rfl rfl (X.fieldAddrP (off := 2) rfl Try.underlying26 rfl rfl Try.sizeOf24) ?_
                        refine WL.vg rfl (congrArg some h729) rfl rfl (X.loadOP hO13 (Ext.refl _) rfl rfl rfl Try.isAgg24 Try.sizeOf24) ?_
                        refine WL.vg rfl (congrArg some h729) rfl rfl (X.buildL (P := Try.prog) (t := 24) (cs := (Mv.c Mv.zero)) evp_nil Try.type24 Try.underlying24 rfl rfl trivial rfl) ?_
                        refine WL.vg rfl (congrArg some h729) rfl rfl (X.eqlA (na := (appF ⟨(appF d o.n).1.m, []⟩ (aN (appF d o.n).1.m.E)).1.m.M.ints) (nb := Mv.zero.ints) flatM fieldsM offsM rfl rfl rfl rfl (Mv.eqB _ _)) ?_
                        refine WL.va rfl rfl rfl (X.pickT rfl h729 rfl) ?_
                        refine WL.va rfl rfl rfl (X.moveB rfl) ?_
                        refine WL.split (j := 15) rfl (fun h731 => ?_) (fun h731 => ?_)
                        · have gh731 := h731
                          refine WL.vg rfl (congrArg some h731) rfl rfl (X.fieldAddrO (off := 0) rfl Try.underlying51 rfl rfl Try.sizeOf26) ?_
                          refine WL.vg rfl (congrArg some h731) rfl rfl (X.loadOP hO16 (Ext.refl _) rfl rfl rfl Try.isAgg26 Try.sizeOf26) ?_
                          refine WL.vg rfl (congrArg some h731) rfl rfl (X.fieldAddrO (off := 0) rfl Try.underlying51 rfl rfl Try.sizeOf26) ?_
                          refine WL.vg rfl (congrArg some h731) rfl rfl (X.loadOP hO13 (Ext.refl _) rfl rfl rfl Try.isAgg26 Try.sizeOf26) ?_
                          refine WL.cg rfl (congrArg some h731) rfl rfl (X.call Try.call19 (evl_cons rfl (evl_cons rfl evl_nil))) (sameMap_self (ovT).rng.rd (owT).rng.rd hd2.2) ?_
                          rintro v733 w732 ⟨rfl, hx734⟩
                          have := World.grownBy.size hx734
                          refine WL.va rfl rfl rfl (X.pickT rfl h731 rfl) ?_
                          refine WL.va rfl rfl rfl (X.moveB rfl) ?_
                          refine WL.vg rfl rfl rfl rfl (X.fieldAddrO (off := 7) rfl Try.underlying51 rfl rfl Try.sizeOf49) ?_
                          refine WL.vg rfl rfl rfl rfl (X.loadO hO13 hx734 rfl rfl Try.isAgg49) ?_
                          refine WL.vg rfl rfl rfl rfl (X.len (owS.rd) rfl Try.underlying49) ?_
                          refine WL.vg rfl rfl rfl rfl (X.eql rfl rfl) ?_
                          refine WL.va rfl rfl rfl (X.pickT rfl rfl rfl) ?_
                          refine WL.va rfl rfl rfl (X.moveB rfl) ?_
                          refine WL.split (j := 28) rfl (fun h737 => ?_) (fun h737 => ?_)
                          · have gh737 := (of_decide_eq_true h737)
                            refine WL.cg rfl (congrArg some h737) rfl rfl (X.call Try.call13 evl_nil) (known_ok _) ?_
                            rintro v739 w738 ⟨rfl, hx740⟩
                            have := World.grownBy.size hx740
                            refine WL.va rfl rfl rfl (X.pickT rfl h737 rfl) ?_
                            refine WL.va rfl rfl rfl (X.assignB rfl) ?_
                            refine WL.nil ?_
                            refine thn_n ?_
                            refine WF.ret ?_
                            refine fin_r ?_
                            exact ⟨rfl, (Ext.trans (Ext.trans (Ext.store (Ext.trans (Ext.trans (Ext.store (Ext.trans (Ext.store (Ext.trans (Ext.trans (Ext.store (Ext.trans (Ext.trans (Ext.trans (Ext.trans hx3 hx6) hwL0) hx48) (Ext.store (Ext.trans hx51 hx55) hx59 (by omega))) hx63 (by omega)) hx86) (Ext.store (Ext.trans hx89 hx93) hx97 (by omega))) hx101 (by omega)) (Ext.store (Ext.trans (Ext.trans (Ext.trans (Ext.store hx678 hx682 (by omega)) (Ext.store hx686 hx690 (by omega))) hx694) hx697) hx701 (by omega))) hx705 (by omega)) hx709) (Ext.store (Ext.trans hx712 hx716) hx720 (by omega))) hx724 (by omega)) hx734) hx740)⟩
                          · have gh737 := (of_decide_eq_false h737)
                            exact absurd hw0 gh737
                        · have gh731 := h731
                          rw [decide_eq_true hd1.2.1] at gh731; cases gh731
                      · have gh729 := (of_decide_eq_false h729)
                        exact absurd hd2.1 gh729
                    · have gh727 := (of_decide_eq_false h727)
                      exact absurd hd1.1 gh727

end Go.Proofs.Ytpimnlgfhpnjnaa
