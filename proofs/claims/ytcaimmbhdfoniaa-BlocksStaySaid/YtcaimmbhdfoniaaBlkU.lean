/- The walks of BlocksSet, BlocksStay and BlocksKnown. -/
import Derived.Test.YtcaimmbhdfoniaaBlkSet
namespace Go.Proofs.Ytcaimmbhdfoniaa
open Go Go.RowKit Kf

set_option maxHeartbeats 8000000 in
theorem blocksSet_walk (v : Value) (l : List Bl) (w : World) (h : Bls w v l) : FnOk Try.prog 4 [v] w (fun r w' => r = .bool true ∧ Ext w w') := by
  obtain ⟨E, rfl, re, de⟩ := h
  have hle : (E.length : Int) ≤ 9223372036854775807 := by obtain ⟨_, c, _, h1, h2, _⟩ := re.shape; unfold maxLen at h2; omega
  refine FnOk.enter (rs := [2]) Try.func4 rfl Try.ntmps4 Try.results4 rfl rfl ?_
  refine WF.seq ?_
  refine WF.region ?_
  refine WL.va rfl rfl rfl (X.assignB rfl) ?_
  refine WL.nil ?_
  refine thn_n ?_
  refine WF.seq ?_
  refine WF.region ?_
  refine WL.va rfl rfl rfl (X.assign rfl) ?_
  refine WL.nil ?_
  refine thn_n ?_
  refine WF.seq ?_
  refine WF.region ?_
  refine WL.op rfl (OW.allocO (cs := [.slice none 0 0, .slice none 0 0, .slice none 0 0, .slice none 0 0, .slice none 0 0, .slice none 0 0, .slice none 0 0, .slice none 0 0, .slice none 0 0, .slice none 0 0, .slice none 0 0, .slice none 0 0, .slice none 0 0, .slice none 0 0, .slice none 0 0, .slice none 0 0, .slice none 0 0, .slice none 0 0, .slice none 0 0, .slice none 0 0, .slice none 0 0, .slice none 0 0, .slice none 0 0, .slice none 0 0, .slice none 0 0, .slice none 0 0, .slice none 0 0, .slice none 0 0, .slice none 0 0, .slice none 0 0, .slice none 0 0, .slice none 0 0, .slice none 0 0, .slice none 0 0, .slice none 0 0, .slice none 0 0, .slice none 0 0, .slice none 0 0, .slice none 0 0, .slice none 0 0, .slice none 0 0, .slice none 0 0, .slice none 0 0, .slice none 0 0, .slice none 0 0, .slice none 0 0, .slice none 0 0, .slice none 0 0, .slice none 0 0, .slice none 0 0, .slice none 0 0, .slice none 0 0, .slice none 0 0, .slice none 0 0, .slice none 0 0, .slice none 0 0, .slice none 0 0, .slice none 0 0, .slice none 0 0, .slice none 0 0, .slice none 0 0, .slice none 0 0, .slice none 0 0, .slice none 0 0]) Try.zeroValue44 rfl ?_ (by decide))
  intro g4 wb heg4 hlg4 hO4 hx3
  have := World.grownBy.size hx3
  have hwb0 := hx3
  refine WL.nil ?_
  refine thn_n ?_
  refine WF.seq ?_
  refine WF.seq ?_
  refine WF.region ?_
  refine WL.va rfl rfl rfl (X.assignI rfl) ?_
  refine WL.nil ?_
  refine thn_n ?_
  refine WF.block ?_
  refine WF.named (fun F5 hF6 => ?_)
  refine WF.loopN (fun mL0 f' w' => ∃ (k : Nat) (vs : Value) (F : List BV) (cs : List Value) (f : Nat → List UInt8), mL0 = E.length - k ∧ f' 5 = .int .i64 (k : Int) ∧ f' 3 = vs ∧ Agree [0, 4] f' F5 ∧ Ext w w' ∧ k ≤ E.length ∧ BOwn w' wb.heap.size vs F ∧ RightB (F.map Prod.fst) ∧ Blk w' g4 44 cs ∧ Want w cs f ∧ Says (F.map Prod.fst) f ∧ wb.heap.size ≤ w'.heap.size) ?_ ?_
  · exact ⟨_, 0, (.slice none 0 0), [], _, _, rfl, (congrFun hF6 5), (congrFun hF6 3), (Agree.refl _ _), hx3, ⟨Nat.zero_le _, BOwn.nil _ _, RightB.nil, hO4, Want.nil w, Says.nil, Nat.le_refl _⟩⟩
  · rintro mL0 fL0 wL0 ⟨k, vs, F, cs, f, hmL0, e5_L0, e3_L0, hAL0, hwL0, ⟨hk0, oF, hrS, hO4, hW, hS, hwx⟩⟩
    have := World.grownBy.size hwL0
    refine WF.seq ?_
    refine WF.seq ?_
    refine WF.region ?_
    refine WL.va rfl rfl rfl (X.moveI e5_L0) ?_
    refine WL.va rfl rfl rfl (X.move ((hAL0.eq 0).trans (congrFun hF6 0))) ?_
    refine WL.va rfl rfl rfl (X.len re rfl Try.underlying43) ?_
    refine WL.va rfl rfl rfl (X.lss rfl rfl) ?_
    refine WL.va rfl rfl rfl (X.moveB rfl) ?_
    refine WL.split (j := 4) rfl (fun h8 => ?_) (fun h8 => ?_)
    · have gh8 := (of_decide_eq_true h8)
      have hk : k < E.length := by omega
      refine WL.vg rfl (congrArg some h8) rfl rfl (X.moveI e5_L0) ?_
      refine WL.vg rfl (congrArg some h8) rfl rfl (X.lss rfl rfl) ?_
      refine WL.va rfl rfl rfl (X.pickT rfl h8 rfl) ?_
      refine WL.nil ?_
      refine thn_n ?_
      refine WF.cond rfl (fun h0_9 => ?_) (fun h0_9 => ?_)
      · have gh0_9 := (of_decide_eq_true h0_9)
        refine WF.skip ?_
        refine thn_n ?_
        refine WF.seq ?_
        refine WF.block ?_
        refine WF.seq ?_
        refine WF.seq ?_
        refine WF.region ?_
        refine WL.va rfl rfl rfl (X.move ((hAL0.eq 0).trans (congrFun hF6 0))) ?_
        refine WL.va rfl rfl rfl (X.moveI e5_L0) ?_
        refine WL.va rfl rfl rfl (X.idx re rfl rfl (by omega) Try.underlying43 Try.sizeOf46) ?_
        refine WL.va rfl rfl rfl (X.fieldAddrA rfl Try.underlying46 rfl rfl Try.sizeOf34) ?_
        refine WL.va rfl rfl rfl (X.loadE re hwL0 rfl (by omega) ((BRow.get hk (by decide)).trans rfl) Try.isAgg34) ?_
        refine WL.va rfl rfl rfl (X.len (de _ (List.getElem_mem hk)) rfl Try.underlying34) ?_
        refine WL.va rfl rfl rfl (X.gtr rfl rfl) ?_
        refine WL.nil ?_
        refine thn_n ?_
        refine WF.cond rfl (fun h1_11 => ?_) (fun h1_11 => ?_)
        · have gh1_11 := (of_decide_eq_true h1_11)
          refine WF.seq ?_
          refine WF.region ?_
          refine WL.c rfl rfl rfl (X.call Try.call12 evl_nil) (known_ok _) ?_
          rintro v14 w13 ⟨rfl, hx15⟩
          have := World.grownBy.size hx15
          refine WL.va rfl rfl rfl (X.assignB rfl) ?_
          refine WL.nil ?_
          refine thn_n ?_
          refine WF.ret ?_
          refine thn_r ?_
          refine blk_r ?_
          refine thn_r ?_
          refine thn_r ?_
          refine blk_r ?_
          refine thn_r ?_
          refine fin_r ?_
          first | exact ⟨rfl, (Ext.trans hwL0 hx15)⟩ | exact ⟨congrArg Value.bool (decide_eq_true rfl), (Ext.trans hwL0 hx15)⟩
        · have gh1_11 := (of_decide_eq_false h1_11)
          refine WF.skip ?_
          refine thn_n ?_
          refine WF.seq ?_
          refine WF.drawn (.q 0 (.q 1 (.q 2 (.q 3 (.q 4 (.q 5 (.q 6 (.q 7 (.q 8 (.q 9 (.q 10 (.l 11 (.q 12 .nil))))))))))))) (fun w' => Ext wL0 w') 13 (by kernel_rfl) (by kernel_rfl) (Ext.drew _) ?_
          have := World.grownBy.size (Ext.drew wL0)
          refine WO.q rfl rfl rfl rfl (fun w' hE17 => (X.move e3_L0)) ?_
          refine WO.q rfl rfl rfl rfl (fun w' hE17 => (X.move ((hAL0.eq 0).trans (congrFun hF6 0)))) ?_
          refine WO.q rfl rfl rfl rfl (fun w' hE17 => (X.moveI e5_L0)) ?_
          refine WO.q rfl rfl rfl rfl (fun w' hE17 => (X.idx re rfl rfl (by omega) Try.underlying43 Try.sizeOf46)) ?_
          refine WO.q rfl rfl rfl rfl (fun w' hE17 => (X.fieldAddrA rfl Try.underlying46 rfl rfl Try.sizeOf3)) ?_
          refine WO.q rfl rfl rfl rfl (fun w' hE17 => (X.loadE re (Ext.trans hwL0 hE17) rfl (by omega) ((BRow.get hk (by decide)).trans rfl) Try.isAgg3)) ?_
          refine WO.q rfl rfl rfl rfl (fun w' hE17 => (X.move ((hAL0.eq 0).trans (congrFun hF6 0)))) ?_
          refine WO.q rfl rfl rfl rfl (fun w' hE17 => (X.moveI e5_L0)) ?_
          refine WO.q rfl rfl rfl rfl (fun w' hE17 => (X.idx re rfl rfl (by omega) Try.underlying43 Try.sizeOf46)) ?_
          refine WO.q rfl rfl rfl rfl (fun w' hE17 => (X.fieldAddrA rfl Try.underlying46 rfl rfl Try.sizeOf34)) ?_
          refine WO.q rfl rfl rfl rfl (fun w' hE17 => (X.loadE re (Ext.trans hwL0 hE17) rfl (by omega) ((BRow.get hk (by decide)).trans rfl) Try.isAgg34)) ?_
          refine WO.l ?_
          have szS0 := World.grownBy.size (show Ext wL0 wL0.drew from (Ext.drew _))
          have szS : wb.heap.size ≤ wL0.drew.heap.size := by omega
          refine LO.go rfl rfl (OW.enter rfl (by decide) (X.call Try.call24 (evl_cons rfl (evl_cons rfl (evl_cons rfl evl_nil)))) (set_ok _ (F.map Prod.fst) (E[k]'hk).1.No _ (E[k]'hk).1.Data _ (oF.sess.ext (Ext.drew _)) hrS (Row.ext (de _ (List.getElem_mem hk)) (Ext.trans hwL0 (Ext.drew _)))) ?_)
          rintro vS ws ⟨⟨G, hG, oG0⟩, hx18⟩
          have := World.grownBy.size hx18
          refine ⟨(Ext.trans (Ext.drew _) hx18), ?_⟩
          have oG := oG0.mono szS
          have hrG : RightB (G.map Prod.fst) := by rw [hG]; exact set_right hrS
          refine WO.q rfl rfl rfl rfl (fun w' hE17 => (X.assign rfl)) ?_
          refine WO.nil ?_
          refine WL.nil ?_
          refine thn_n ?_
          refine WF.seq ?_
          refine WF.region ?_
          refine WL.va rfl rfl rfl (X.move ((hAL0.eq 0).trans (congrFun hF6 0))) ?_
          refine WL.va rfl rfl rfl (X.moveI e5_L0) ?_
          refine WL.va rfl rfl rfl (X.idx re rfl rfl (by omega) Try.underlying43 Try.sizeOf46) ?_
          refine WL.va rfl rfl rfl (X.fieldAddrA rfl Try.underlying46 rfl rfl Try.sizeOf3) ?_
          refine WL.va rfl rfl rfl (X.loadE re (Ext.trans (Ext.trans hwL0 (Ext.drew _)) hx18) rfl (by omega) ((BRow.get hk (by decide)).trans rfl) Try.isAgg3) ?_
          refine WL.va rfl rfl rfl (X.geq rfl rfl) ?_
          refine WL.va rfl rfl rfl (X.moveB rfl) ?_
          refine WL.split (j := 6) rfl (fun h20 => ?_) (fun h20 => ?_)
          · have gh20 := (of_decide_eq_true h20)
            refine WL.vg rfl (congrArg some h20) rfl rfl (X.move ((hAL0.eq 0).trans (congrFun hF6 0))) ?_
            refine WL.vg rfl (congrArg some h20) rfl rfl (X.moveI e5_L0) ?_
            refine WL.vg rfl (congrArg some h20) rfl rfl (X.idx re rfl rfl (by omega) Try.underlying43 Try.sizeOf46) ?_
            refine WL.vg rfl (congrArg some h20) rfl rfl (X.fieldAddrA rfl Try.underlying46 rfl rfl Try.sizeOf3) ?_
            refine WL.vg rfl (congrArg some h20) rfl rfl (X.loadE re (Ext.trans (Ext.trans hwL0 (Ext.drew _)) hx18) rfl (by omega) ((BRow.get hk (by decide)).trans rfl) Try.isAgg3) ?_
            refine WL.vg rfl (congrArg some h20) rfl rfl (X.lss rfl rfl) ?_
            refine WL.va rfl rfl rfl (X.pickT rfl h20 rfl) ?_
            refine WL.va rfl rfl rfl (X.moveB rfl) ?_
            refine WL.split (j := 14) rfl (fun h22 => ?_) (fun h22 => ?_)
            · have gh22 := (of_decide_eq_true h22)
              refine WL.vg rfl (congrArg some h22) rfl rfl (X.move ((hAL0.eq 0).trans (congrFun hF6 0))) ?_
              refine WL.vg rfl (congrArg some h22) rfl rfl (X.moveI e5_L0) ?_
              refine WL.vg rfl (congrArg some h22) rfl rfl (X.idx re rfl rfl (by omega) Try.underlying43 Try.sizeOf46) ?_
              refine WL.vg rfl (congrArg some h22) rfl rfl (X.fieldAddrA rfl Try.underlying46 rfl rfl Try.sizeOf34) ?_
              refine WL.vg rfl (congrArg some h22) rfl rfl (X.loadE re (Ext.trans (Ext.trans hwL0 (Ext.drew _)) hx18) rfl (by omega) ((BRow.get hk (by decide)).trans rfl) Try.isAgg34) ?_
              refine WL.vg rfl (congrArg some h22) rfl rfl (X.len (de _ (List.getElem_mem hk)) rfl Try.underlying34) ?_
              refine WL.vg rfl (congrArg some h22) rfl rfl (X.eql rfl rfl) ?_
              refine WL.va rfl rfl rfl (X.pickT rfl h22 rfl) ?_
              refine WL.nil ?_
              refine thn_n ?_
              refine WF.cond rfl (fun h2_23 => ?_) (fun h2_23 => ?_)
              · have gh2_23 := (of_decide_eq_true h2_23)
                have hb4 : (E[k]'hk).1.Data.length = 4 := by omega
                obtain ⟨m, hm⟩ : ∃ m : Nat, (E[k]'hk).1.No = (m : Int) := ⟨((E[k]'hk).1.No).toNat, by omega⟩
                have hok : okB (m : Int) (E[k]'hk).1.Data = true := decide_eq_true ⟨by omega, by omega, hb4⟩
                refine WF.drawn (.q 0 (.q 1 (.q 2 (.q 3 (.q 4 (.q 5 (.q 6 (.q 7 (.q 8 (.q 9 (.q 10 .nil))))))))))) (fun w' => Ext ws w') 11 (by kernel_rfl) (by kernel_rfl) (Ext.drew _) ?_
                have := World.grownBy.size (Ext.drew ws)
                refine WO.q rfl rfl rfl rfl (fun w' hE25 => (X.move ((hAL0.eq 0).trans (congrFun hF6 0)))) ?_
                refine WO.q rfl rfl rfl rfl (fun w' hE25 => (X.moveI e5_L0)) ?_
                refine WO.q rfl rfl rfl rfl (fun w' hE25 => (X.idx re rfl rfl (by omega) Try.underlying43 Try.sizeOf46)) ?_
                refine WO.q rfl rfl rfl rfl (fun w' hE25 => (X.fieldAddrA rfl Try.underlying46 rfl rfl Try.sizeOf3)) ?_
                refine WO.q rfl rfl rfl rfl (fun w' hE25 => (X.loadE re (Ext.trans (Ext.trans (Ext.trans hwL0 (Ext.drew _)) hx18) hE25) rfl (by omega) ((BRow.get hk (by decide)).trans rfl) Try.isAgg3)) ?_
                refine WO.q rfl rfl rfl rfl (fun w' hE25 => (X.move ((hAL0.eq 0).trans (congrFun hF6 0)))) ?_
                refine WO.q rfl rfl rfl rfl (fun w' hE25 => (X.moveI e5_L0)) ?_
                refine WO.q rfl rfl rfl rfl (fun w' hE25 => (X.idx re rfl rfl (by omega) Try.underlying43 Try.sizeOf46)) ?_
                refine WO.q rfl rfl rfl rfl (fun w' hE25 => (X.fieldAddrA rfl Try.underlying46 rfl rfl Try.sizeOf34)) ?_
                refine WO.q rfl rfl rfl rfl (fun w' hE25 => (X.loadE re (Ext.trans (Ext.trans (Ext.trans hwL0 (Ext.drew _)) hx18) hE25) rfl (by omega) ((BRow.get hk (by decide)).trans rfl) Try.isAgg34)) ?_
                refine WO.q rfl rfl rfl rfl (fun w' hE25 => (X.idxArr ((hAL0.eq 4).trans (congrFun hF6 4)) ((rfl : _ = i64 (E[k]'hk).1.No).trans (congrArg i64 hm)) (by omega) Try.underlying44 Try.sizeOf34)) ?_
                refine WO.nil ?_
                have oGx := oG.ext (Ext.drew _)
                refine WL.op rfl (OW.storeO (hO4.ext (Ext.trans (Ext.trans (Ext.drew _) hx18) (Ext.drew _))) (by rw [hW.len]; omega) rfl rfl (Row.one (de _ (List.getElem_mem hk))) Try.sizeOf34 ?_)
                intro w26 hO4 hx28
                have := World.grownBy.size hx28
                have hW2 := hW.set (m := m) (by omega) (de _ (List.getElem_mem hk)) hb4
                have hS2 := hS.set hok
                have oF2 := oGx.chg (Chg.of hx28 (B := g4) (T := g4 + 1) (fun b hb => by injection hb with hb; omega)) (.inl (by omega))
                refine WL.nil ?_
                refine blk_n ?_
                refine thn_n ?_
                refine WF.region ?_
                refine WL.va rfl rfl rfl (X.moveI e5_L0) ?_
                refine WL.va rfl rfl rfl (X.add rfl rfl (w64 (by omega))) ?_
                refine WL.va rfl rfl rfl (X.assignI rfl) ?_
                refine WL.nil ?_
                first | exact thn_n ⟨_, (by omega), k + 1, _, _, _, _, rfl, rfl, rfl, (by repeat (first | exact hAL0 | refine Agree.put ?_ rfl | refine Agree.named hF6 ?_)), (Ext.store (Ext.trans (Ext.trans (Ext.trans hwL0 (Ext.drew _)) hx18) (Ext.drew _)) hx28 (by omega)), ⟨by omega, oF2, hrG, hO4, hW2, (by rw [hG, hm]; exact hS2), by omega⟩⟩ | exact thn_n ⟨_, (by omega), k + 1, _, _, _, _, rfl, rfl, rfl, (by repeat (first | exact hAL0 | refine Agree.put ?_ rfl | refine Agree.named hF6 ?_)), (Ext.store (Ext.trans (Ext.trans (Ext.trans hwL0 (Ext.drew _)) hx18) (Ext.drew _)) hx28 (by omega)), ⟨by omega, oG9, hrG, hO9, hW, (by rw [hG]; exact hS.no hbad), by omega⟩⟩
              · have gh2_23 := (of_decide_eq_false h2_23)
                have hbad : okB (E[k]'hk).1.No (E[k]'hk).1.Data = false := decide_eq_false (by omega)
                have oG9 := oG.ext (show Ext ws ws from (Ext.refl _))
                have hO9 := (hO4.ext (Ext.trans (Ext.drew _) hx18))
                refine WF.skip ?_
                refine blk_n ?_
                refine thn_n ?_
                refine WF.region ?_
                refine WL.va rfl rfl rfl (X.moveI e5_L0) ?_
                refine WL.va rfl rfl rfl (X.add rfl rfl (w64 (by omega))) ?_
                refine WL.va rfl rfl rfl (X.assignI rfl) ?_
                refine WL.nil ?_
                first | exact thn_n ⟨_, (by omega), k + 1, _, _, _, _, rfl, rfl, rfl, (by repeat (first | exact hAL0 | refine Agree.put ?_ rfl | refine Agree.named hF6 ?_)), (Ext.trans (Ext.trans hwL0 (Ext.drew _)) hx18), ⟨by omega, oF2, hrG, (hO4.ext (Ext.trans (Ext.drew _) hx18)), hW2, (by rw [hG, hm]; exact hS2), by omega⟩⟩ | exact thn_n ⟨_, (by omega), k + 1, _, _, _, _, rfl, rfl, rfl, (by repeat (first | exact hAL0 | refine Agree.put ?_ rfl | refine Agree.named hF6 ?_)), (Ext.trans (Ext.trans hwL0 (Ext.drew _)) hx18), ⟨by omega, oG9, hrG, hO9, hW, (by rw [hG]; exact hS.no hbad), by omega⟩⟩
            · have gh22 := (of_decide_eq_false h22)
              have hbad : okB (E[k]'hk).1.No (E[k]'hk).1.Data = false := decide_eq_false (by omega)
              have oG9 := oG.ext (show Ext ws ws from (Ext.refl _))
              have hO9 := (hO4.ext (Ext.trans (Ext.drew _) hx18))
              refine WL.p rfl rfl rfl (congrArg some h22) ?_
              refine WL.p rfl rfl rfl (congrArg some h22) ?_
              refine WL.p rfl rfl rfl (congrArg some h22) ?_
              refine WL.p rfl rfl rfl (congrArg some h22) ?_
              refine WL.p rfl rfl rfl (congrArg some h22) ?_
              refine WL.p rfl rfl rfl (congrArg some h22) ?_
              refine WL.p rfl rfl rfl (congrArg some h22) ?_
              refine WL.va rfl rfl rfl (X.pickF rfl h22 rfl) ?_
              refine WL.nil ?_
              refine thn_n ?_
              refine WF.cond_f rfl ?_
              refine WF.skip ?_
              refine blk_n ?_
              refine thn_n ?_
              refine WF.region ?_
              refine WL.va rfl rfl rfl (X.moveI e5_L0) ?_
              refine WL.va rfl rfl rfl (X.add rfl rfl (w64 (by omega))) ?_
              refine WL.va rfl rfl rfl (X.assignI rfl) ?_
              refine WL.nil ?_
              first | exact thn_n ⟨_, (by omega), k + 1, _, _, _, _, rfl, rfl, rfl, (by repeat (first | exact hAL0 | refine Agree.put ?_ rfl | refine Agree.named hF6 ?_)), (Ext.trans (Ext.trans hwL0 (Ext.drew _)) hx18), ⟨by omega, oF2, hrG, (hO4.ext (Ext.trans (Ext.drew _) hx18)), hW2, (by rw [hG, hm]; exact hS2), by omega⟩⟩ | exact thn_n ⟨_, (by omega), k + 1, _, _, _, _, rfl, rfl, rfl, (by repeat (first | exact hAL0 | refine Agree.put ?_ rfl | refine Agree.named hF6 ?_)), (Ext.trans (Ext.trans hwL0 (Ext.drew _)) hx18), ⟨by omega, oG9, hrG, hO9, hW, (by rw [hG]; exact hS.no hbad), by omega⟩⟩
          · have gh20 := (of_decide_eq_false h20)
            have hbad : okB (E[k]'hk).1.No (E[k]'hk).1.Data = false := decide_eq_false (by omega)
            have oG9 := oG.ext (show Ext ws ws from (Ext.refl _))
            have hO9 := (hO4.ext (Ext.trans (Ext.drew _) hx18))
            refine WL.p rfl rfl rfl (congrArg some h20) ?_
            refine WL.p rfl rfl rfl (congrArg some h20) ?_
            refine WL.p rfl rfl rfl (congrArg some h20) ?_
            refine WL.p rfl rfl rfl (congrArg some h20) ?_
            refine WL.p rfl rfl rfl (congrArg some h20) ?_
            refine WL.p rfl rfl rfl (congrArg some h20) ?_
            refine WL.va rfl rfl rfl (X.pickF rfl h20 rfl) ?_
            refine WL.va rfl rfl rfl (X.moveB rfl) ?_
            refine WL.p rfl rfl rfl rfl ?_
            refine WL.p rfl rfl rfl rfl ?_
            refine WL.p rfl rfl rfl rfl ?_
            refine WL.p rfl rfl rfl rfl ?_
            refine WL.p rfl rfl rfl rfl ?_
            refine WL.p rfl rfl rfl rfl ?_
            refine WL.p rfl rfl rfl rfl ?_
            refine WL.va rfl rfl rfl (X.pickF rfl rfl rfl) ?_
            refine WL.nil ?_
            refine thn_n ?_
            refine WF.cond_f rfl ?_
            refine WF.skip ?_
            refine blk_n ?_
            refine thn_n ?_
            refine WF.region ?_
            refine WL.va rfl rfl rfl (X.moveI e5_L0) ?_
            refine WL.va rfl rfl rfl (X.add rfl rfl (w64 (by omega))) ?_
            refine WL.va rfl rfl rfl (X.assignI rfl) ?_
            refine WL.nil ?_
            first | exact thn_n ⟨_, (by omega), k + 1, _, _, _, _, rfl, rfl, rfl, (by repeat (first | exact hAL0 | refine Agree.put ?_ rfl | refine Agree.named hF6 ?_)), (Ext.trans (Ext.trans hwL0 (Ext.drew _)) hx18), ⟨by omega, oF2, hrG, (hO4.ext (Ext.trans (Ext.drew _) hx18)), hW2, (by rw [hG, hm]; exact hS2), by omega⟩⟩ | exact thn_n ⟨_, (by omega), k + 1, _, _, _, _, rfl, rfl, rfl, (by repeat (first | exact hAL0 | refine Agree.put ?_ rfl | refine Agree.named hF6 ?_)), (Ext.trans (Ext.trans hwL0 (Ext.drew _)) hx18), ⟨by omega, oG9, hrG, hO9, hW, (by rw [hG]; exact hS.no hbad), by omega⟩⟩
      · have gh0_9 := (of_decide_eq_false h0_9)
        refine WF.exit ?_
        refine thn_x ?_
        refine thn_x ?_
        refine blk_eq ?_
        refine thn_n ?_
        refine WF.seq ?_
        refine WF.region ?_
        refine WL.va rfl rfl rfl (X.assign rfl) ?_
        refine WL.nil ?_
        refine thn_n ?_
        refine WF.seq ?_
        refine WF.seq ?_
        refine WF.region ?_
        refine WL.va rfl rfl rfl (X.assignI rfl) ?_
        refine WL.nil ?_
        refine thn_n ?_
        refine WF.block ?_
        refine WF.named (fun F33 hF34 => ?_)
        refine WF.loopN (fun mL1 f' w' => ∃ (z : Int) (va : Value) (A : List BV), mL1 = (z + 1).toNat ∧ f' 7 = .int .i64 z ∧ f' 6 = va ∧ Agree [0, 3, 4, 5, 9, 10, 11, 12, 13, 14, 15, 16] f' F33 ∧ Ext wL0 w' ∧ -1 ≤ z ∧ z ≤ 63 ∧ BOwn w' w.heap.size va A ∧ RightB (A.map Prod.fst) ∧ Anew (F.map Prod.fst) (A.map Prod.fst) z) ?_ ?_
        · exact ⟨_, 63, (.slice none 0 0), [], rfl, (congrFun hF34 7), (congrFun hF34 6), (Agree.refl _ _), (Ext.refl _), ⟨by omega, by omega, BOwn.nil _ _, RightB.nil, Anew.nil⟩⟩
        · rintro mL1 fL1 wL1 ⟨z, va, A, hmL1, e7_L1, e6_L1, hAL1, hwL1, ⟨hz1, hz2, oA, hrA, hAn⟩⟩
          have := World.grownBy.size hwL1
          refine WF.seq ?_
          refine WF.seq ?_
          refine WF.region ?_
          refine WL.va rfl rfl rfl (X.moveI e7_L1) ?_
          refine WL.va rfl rfl rfl (X.geq rfl rfl) ?_
          refine WL.nil ?_
          refine thn_n ?_
          refine WF.cond rfl (fun h3_35 => ?_) (fun h3_35 => ?_)
          · have gh3_35 := (of_decide_eq_true h3_35)
            obtain ⟨j, rfl⟩ : ∃ j : Nat, z = (j : Int) := ⟨z.toNat, by omega⟩
            have hj : j < 64 := by omega
            refine WF.skip ?_
            refine thn_n ?_
            refine WF.seq ?_
            refine WF.block ?_
            refine WF.seq ?_
            refine WF.region ?_
            refine WL.va rfl rfl rfl (X.moveI e7_L1) ?_
            refine WL.va rfl rfl rfl (X.idxArr ((hAL1.eq 4).trans ((congrFun hF34 4).trans ((hAL0.eq 4).trans (congrFun hF6 4)))) rfl (by omega) Try.underlying44 Try.sizeOf34) ?_
            refine WL.va rfl rfl rfl (X.loadO hO4 hwL1 rfl (getD_some (by rw [hW.len]; omega)) Try.isAgg34) ?_
            refine WL.va rfl rfl rfl (X.assign rfl) ?_
            refine WL.nil ?_
            refine thn_n ?_
            refine WF.named (fun F37 hF38 => ?_)
            refine WF.cut (fun f' w' => ∃ (vX : Value), f' 8 = vX ∧ Agree [0, 3, 4, 5, 6, 7, 9, 10, 11, 12, 13, 14, 15, 16, 73, 74, 77, 78, 79] f' F37 ∧ Ext wL1 w' ∧ Bytes w' vX (getB (F.map Prod.fst) (j : Int))) ?_ ?_
            · refine WF.seq ?_
              refine WF.region ?_
              refine WL.va rfl rfl rfl (X.move (congrFun hF38 8)) ?_
              refine WL.va rfl rfl rfl (X.len (hW.data j (by omega)) rfl Try.underlying34) ?_
              refine WL.va rfl rfl rfl (X.eql rfl rfl) ?_
              refine WL.nil ?_
              refine thn_n ?_
              refine WF.cond rfl (fun h4_39 => ?_) (fun h4_39 => ?_)
              · have gh4_39 := (of_decide_eq_true h4_39)
                have hnil : f j = [] := List.eq_nil_of_length_eq_zero (by omega)
                have hget : getB (F.map Prod.fst) (j : Int) = zero4 := by rw [hS j hj]; unfold wantV; rw [if_pos hnil]
                refine WF.region ?_
                refine WL.op rfl (OW.makeB (n := 4) rfl rfl Try.underlying34 Try.type5 rfl rfl rfl (by omega) ?_ (by decide))
                intro v42 w41 ho44 hx43
                have omx : Bytes w41 v42 (getB (F.map Prod.fst) (j : Int)) := by rw [hget]; exact Bytes.of_own ho44
                refine WL.va rfl rfl rfl (X.assign rfl) ?_
                refine WL.nil ?_
                refine thn_n ?_
                exact ⟨_, rfl, (by repeat (first | exact (Agree.refl _ F37) | refine Agree.put ?_ rfl | refine Agree.sub hAL1 rfl ?_ | refine Agree.sub hAL0 rfl ?_ | refine Agree.named hF38 ?_ | refine Agree.named hF34 ?_ | refine Agree.named hF6 ?_)), hx43, omx⟩
              · have gh4_39 := (of_decide_eq_false h4_39)
                have hnn : ¬ f j = [] := fun e => gh4_39 (by rw [e]; rfl)
                have hget : getB (F.map Prod.fst) (j : Int) = f j := by rw [hS j hj]; unfold wantV; rw [if_neg hnn]
                have omx : Bytes wL1 (cs.getD j undef) (getB (F.map Prod.fst) (j : Int)) := by rw [hget]; exact Row.ext (hW.data j hj) (Ext.trans hwL0 hwL1)
                refine WF.skip ?_
                refine thn_n ?_
                exact ⟨_, (congrFun hF38 8), (by repeat (first | exact (Agree.refl _ F37) | refine Agree.put ?_ rfl | refine Agree.sub hAL1 rfl ?_ | refine Agree.sub hAL0 rfl ?_ | refine Agree.named hF38 ?_ | refine Agree.named hF34 ?_ | refine Agree.named hF6 ?_)), (Ext.refl _), omx⟩
            · rintro fCs16 wCs16 ⟨vX, e8_Cs16, hACs16, hwCs16, om⟩
              have := World.grownBy.size hwCs16
              refine WF.seq ?_
              refine WF.seq ?_
              refine WF.region ?_
              refine WL.va rfl rfl rfl (X.move ((hACs16.eq 3).trans ((congrFun hF38 3).trans ((hAL1.eq 3).trans ((congrFun hF34 3).trans e3_L0))))) ?_
              refine WL.va rfl rfl rfl (X.moveI ((hACs16.eq 7).trans ((congrFun hF38 7).trans e7_L1))) ?_
              refine WL.c rfl rfl rfl (X.call Try.call25 (evl_cons rfl (evl_cons rfl evl_nil))) (get_ok _ (F.map Prod.fst) (j : Int) _ (oF.sess.ext (Ext.trans hwL1 hwCs16)) hrS) ?_
              rintro vg wg ⟨og, hx45⟩
              have := World.grownBy.size hx45
              refine WL.va rfl rfl rfl (X.move e8_Cs16) ?_
              refine WL.c rfl rfl rfl (X.call Try.call20 (evl_cons rfl (evl_cons rfl evl_nil))) (sameBytes_ok _ _ _ _ _ (Row.ext (Bytes.of_own og) (Ext.refl wg)) (Row.ext om hx45)) ?_
              rintro v47 w46 ⟨rfl, hx48⟩
              have := World.grownBy.size hx48
              refine WL.va rfl rfl rfl (X.not rfl) ?_
              refine WL.nil ?_
              refine thn_n ?_
              refine WF.cond rfl (fun h5_50 => ?_) (fun h5_50 => ?_)
              · have gh5_50 := (of_decide_eq_false (nt h5_50))
                exact absurd rfl gh5_50
              · have gh5_50 := (of_decide_eq_true (nf h5_50))
                refine WF.skip ?_
                refine thn_n ?_
                refine WF.region ?_
                refine WL.va rfl rfl rfl (X.move ((hACs16.eq 6).trans ((congrFun hF38 6).trans e6_L1))) ?_
                refine WL.va rfl rfl rfl (X.moveI ((hACs16.eq 7).trans ((congrFun hF38 7).trans e7_L1))) ?_
                refine WL.va rfl rfl rfl (X.move e8_Cs16) ?_
                have szA := World.grownBy.size (show Ext w w46 from (Ext.trans (Ext.trans (Ext.trans (Ext.trans hwL0 hwL1) hwCs16) hx45) hx48))
                refine WL.c rfl rfl rfl (X.call Try.call24 (evl_cons rfl (evl_cons rfl (evl_cons rfl evl_nil)))) (set_ok _ (A.map Prod.fst) (j : Int) _ (getB (F.map Prod.fst) (j : Int)) _ (oA.sess.ext (Ext.trans (Ext.trans hwCs16 hx45) hx48)) hrA (Row.ext om (Ext.trans hx45 hx48))) ?_
                rintro v53 w52 ⟨⟨A2, hA2, oA2⟩, hx54⟩
                have := World.grownBy.size hx54
                refine WL.va rfl rfl rfl (X.assign rfl) ?_
                refine WL.nil ?_
                refine blk_n ?_
                refine thn_n ?_
                refine WF.region ?_
                refine WL.va rfl rfl rfl (X.moveI ((hACs16.eq 7).trans ((congrFun hF38 7).trans e7_L1))) ?_
                refine WL.va rfl rfl rfl (X.sub rfl rfl (w64 (by omega))) ?_
                refine WL.va rfl rfl rfl (X.assignI rfl) ?_
                refine WL.nil ?_
                exact thn_n ⟨_, (by omega), (j : Int) - 1, _, _, rfl, rfl, rfl, (by repeat (first | exact hAL1 | refine Agree.put ?_ rfl | refine Agree.sub hACs16 rfl ?_ | refine Agree.sub hAL0 rfl ?_ | refine Agree.named hF38 ?_ | refine Agree.named hF34 ?_ | refine Agree.named hF6 ?_)), (Ext.trans (Ext.trans (Ext.trans (Ext.trans hwL1 hwCs16) hx45) hx48) hx54), ⟨by omega, by omega, oA2.mono szA, (by rw [hA2]; exact set_right hrA), (by rw [hA2]; exact hAn.set hrS hj)⟩⟩
          · have gh3_35 := (of_decide_eq_false h3_35)
            refine WF.exit ?_
            refine thn_x ?_
            refine thn_x ?_
            refine blk_eq ?_
            refine thn_n ?_
            refine WF.seq ?_
            refine WF.region ?_
            refine WL.va rfl rfl rfl (X.move ((hAL1.eq 3).trans ((congrFun hF34 3).trans e3_L0))) ?_
            refine WL.c rfl rfl rfl (X.call Try.call10 (evl_cons rfl evl_nil)) (right_ok _ (F.map Prod.fst) _ (oF.sess.ext hwL1)) ?_
            rintro v56 w55 ⟨rfl, hx57⟩
            have := World.grownBy.size hx57
            refine WL.va rfl rfl rfl (X.moveB rfl) ?_
            refine WL.split (j := 2) rfl (fun h59 => ?_) (fun h59 => ?_)
            · have gh59 := h59
              refine WL.vg rfl (congrArg some h59) rfl rfl (X.move ((hAL1.eq 3).trans ((congrFun hF34 3).trans e3_L0))) ?_
              refine WL.vg rfl (congrArg some h59) rfl rfl (X.move e6_L1) ?_
              refine WL.cg rfl (congrArg some h59) rfl rfl (X.call Try.call23 (evl_cons rfl (evl_cons rfl evl_nil))) (sameBs_ok _ _ (F.map Prod.fst) (A.map Prod.fst) _ (oF.sess.ext (Ext.trans hwL1 hx57)) (oA.sess.ext hx57)) ?_
              rintro v61 w60 ⟨rfl, hx62⟩
              have := World.grownBy.size hx62
              refine WL.va rfl rfl rfl (X.pickT rfl h59 rfl) ?_
              refine WL.va rfl rfl rfl (X.moveB rfl) ?_
              refine WL.split (j := 7) rfl (fun h65 => ?_) (fun h65 => ?_)
              · have gh65 := (of_decide_eq_true h65)
                refine WL.cg rfl (congrArg some h65) rfl rfl (X.call Try.call12 evl_nil) (known_ok _) ?_
                rintro v67 w66 ⟨rfl, hx68⟩
                have := World.grownBy.size hx68
                refine WL.va rfl rfl rfl (X.pickT rfl h65 rfl) ?_
                refine WL.va rfl rfl rfl (X.assignB rfl) ?_
                refine WL.nil ?_
                refine thn_n ?_
                refine WF.ret ?_
                refine fin_r ?_
                first | exact ⟨rfl, (Ext.trans (Ext.trans (Ext.trans (Ext.trans hwL0 hwL1) hx57) hx62) hx68)⟩ | exact ⟨congrArg Value.bool (decide_eq_true rfl), (Ext.trans (Ext.trans (Ext.trans (Ext.trans hwL0 hwL1) hx57) hx62) hx68)⟩
              · have gh65 := (of_decide_eq_false h65)
                exact absurd (hAn.all (by omega) hrS hrA) gh65
            · have gh59 := h59
              exact absurd (rightB_iff.2 hrS) (by rw [gh59]; simp)
    · have gh8 := (of_decide_eq_false h8)
      refine WL.p rfl rfl rfl (congrArg some h8) ?_
      refine WL.p rfl rfl rfl (congrArg some h8) ?_
      refine WL.va rfl rfl rfl (X.pickF rfl h8 rfl) ?_
      refine WL.nil ?_
      refine thn_n ?_
      refine WF.cond_f rfl ?_
      refine WF.exit ?_
      refine thn_x ?_
      refine thn_x ?_
      refine blk_eq ?_
      refine thn_n ?_
      refine WF.seq ?_
      refine WF.region ?_
      refine WL.va rfl rfl rfl (X.assign rfl) ?_
      refine WL.nil ?_
      refine thn_n ?_
      refine WF.seq ?_
      refine WF.seq ?_
      refine WF.region ?_
      refine WL.va rfl rfl rfl (X.assignI rfl) ?_
      refine WL.nil ?_
      refine thn_n ?_
      refine WF.block ?_
      refine WF.named (fun F71 hF72 => ?_)
      refine WF.loopN (fun mL1 f' w' => ∃ (z : Int) (va : Value) (A : List BV), mL1 = (z + 1).toNat ∧ f' 7 = .int .i64 z ∧ f' 6 = va ∧ Agree [0, 3, 4, 5, 9, 10, 11, 12, 13, 14, 15, 16] f' F71 ∧ Ext wL0 w' ∧ -1 ≤ z ∧ z ≤ 63 ∧ BOwn w' w.heap.size va A ∧ RightB (A.map Prod.fst) ∧ Anew (F.map Prod.fst) (A.map Prod.fst) z) ?_ ?_
      · exact ⟨_, 63, (.slice none 0 0), [], rfl, (congrFun hF72 7), (congrFun hF72 6), (Agree.refl _ _), (Ext.refl _), ⟨by omega, by omega, BOwn.nil _ _, RightB.nil, Anew.nil⟩⟩
      · rintro mL1 fL1 wL1 ⟨z, va, A, hmL1, e7_L1, e6_L1, hAL1, hwL1, ⟨hz1, hz2, oA, hrA, hAn⟩⟩
        have := World.grownBy.size hwL1
        refine WF.seq ?_
        refine WF.seq ?_
        refine WF.region ?_
        refine WL.va rfl rfl rfl (X.moveI e7_L1) ?_
        refine WL.va rfl rfl rfl (X.geq rfl rfl) ?_
        refine WL.nil ?_
        refine thn_n ?_
        refine WF.cond rfl (fun h3_73 => ?_) (fun h3_73 => ?_)
        · have gh3_73 := (of_decide_eq_true h3_73)
          obtain ⟨j, rfl⟩ : ∃ j : Nat, z = (j : Int) := ⟨z.toNat, by omega⟩
          have hj : j < 64 := by omega
          refine WF.skip ?_
          refine thn_n ?_
          refine WF.seq ?_
          refine WF.block ?_
          refine WF.seq ?_
          refine WF.region ?_
          refine WL.va rfl rfl rfl (X.moveI e7_L1) ?_
          refine WL.va rfl rfl rfl (X.idxArr ((hAL1.eq 4).trans ((congrFun hF72 4).trans ((hAL0.eq 4).trans (congrFun hF6 4)))) rfl (by omega) Try.underlying44 Try.sizeOf34) ?_
          refine WL.va rfl rfl rfl (X.loadO hO4 hwL1 rfl (getD_some (by rw [hW.len]; omega)) Try.isAgg34) ?_
          refine WL.va rfl rfl rfl (X.assign rfl) ?_
          refine WL.nil ?_
          refine thn_n ?_
          refine WF.named (fun F75 hF76 => ?_)
          refine WF.cut (fun f' w' => ∃ (vX : Value), f' 8 = vX ∧ Agree [0, 3, 4, 5, 6, 7, 9, 10, 11, 12, 13, 14, 15, 16, 73, 74, 77, 78, 79] f' F75 ∧ Ext wL1 w' ∧ Bytes w' vX (getB (F.map Prod.fst) (j : Int))) ?_ ?_
          · refine WF.seq ?_
            refine WF.region ?_
            refine WL.va rfl rfl rfl (X.move (congrFun hF76 8)) ?_
            refine WL.va rfl rfl rfl (X.len (hW.data j (by omega)) rfl Try.underlying34) ?_
            refine WL.va rfl rfl rfl (X.eql rfl rfl) ?_
            refine WL.nil ?_
            refine thn_n ?_
            refine WF.cond rfl (fun h4_77 => ?_) (fun h4_77 => ?_)
            · have gh4_77 := (of_decide_eq_true h4_77)
              have hnil : f j = [] := List.eq_nil_of_length_eq_zero (by omega)
              have hget : getB (F.map Prod.fst) (j : Int) = zero4 := by rw [hS j hj]; unfold wantV; rw [if_pos hnil]
              refine WF.region ?_
              refine WL.op rfl (OW.makeB (n := 4) rfl rfl Try.underlying34 Try.type5 rfl rfl rfl (by omega) ?_ (by decide))
              intro v80 w79 ho82 hx81
              have omx : Bytes w79 v80 (getB (F.map Prod.fst) (j : Int)) := by rw [hget]; exact Bytes.of_own ho82
              refine WL.va rfl rfl rfl (X.assign rfl) ?_
              refine WL.nil ?_
              refine thn_n ?_
              exact ⟨_, rfl, (by repeat (first | exact (Agree.refl _ F75) | refine Agree.put ?_ rfl | refine Agree.sub hAL1 rfl ?_ | refine Agree.sub hAL0 rfl ?_ | refine Agree.named hF76 ?_ | refine Agree.named hF72 ?_ | refine Agree.named hF6 ?_)), hx81, omx⟩
            · have gh4_77 := (of_decide_eq_false h4_77)
              have hnn : ¬ f j = [] := fun e => gh4_77 (by rw [e]; rfl)
              have hget : getB (F.map Prod.fst) (j : Int) = f j := by rw [hS j hj]; unfold wantV; rw [if_neg hnn]
              have omx : Bytes wL1 (cs.getD j undef) (getB (F.map Prod.fst) (j : Int)) := by rw [hget]; exact Row.ext (hW.data j hj) (Ext.trans hwL0 hwL1)
              refine WF.skip ?_
              refine thn_n ?_
              exact ⟨_, (congrFun hF76 8), (by repeat (first | exact (Agree.refl _ F75) | refine Agree.put ?_ rfl | refine Agree.sub hAL1 rfl ?_ | refine Agree.sub hAL0 rfl ?_ | refine Agree.named hF76 ?_ | refine Agree.named hF72 ?_ | refine Agree.named hF6 ?_)), (Ext.refl _), omx⟩
          · rintro fCs16 wCs16 ⟨vX, e8_Cs16, hACs16, hwCs16, om⟩
            have := World.grownBy.size hwCs16
            refine WF.seq ?_
            refine WF.seq ?_
            refine WF.region ?_
            refine WL.va rfl rfl rfl (X.move ((hACs16.eq 3).trans ((congrFun hF76 3).trans ((hAL1.eq 3).trans ((congrFun hF72 3).trans e3_L0))))) ?_
            refine WL.va rfl rfl rfl (X.moveI ((hACs16.eq 7).trans ((congrFun hF76 7).trans e7_L1))) ?_
            refine WL.c rfl rfl rfl (X.call Try.call25 (evl_cons rfl (evl_cons rfl evl_nil))) (get_ok _ (F.map Prod.fst) (j : Int) _ (oF.sess.ext (Ext.trans hwL1 hwCs16)) hrS) ?_
            rintro vg wg ⟨og, hx83⟩
            have := World.grownBy.size hx83
            refine WL.va rfl rfl rfl (X.move e8_Cs16) ?_
            refine WL.c rfl rfl rfl (X.call Try.call20 (evl_cons rfl (evl_cons rfl evl_nil))) (sameBytes_ok _ _ _ _ _ (Row.ext (Bytes.of_own og) (Ext.refl wg)) (Row.ext om hx83)) ?_
            rintro v85 w84 ⟨rfl, hx86⟩
            have := World.grownBy.size hx86
            refine WL.va rfl rfl rfl (X.not rfl) ?_
            refine WL.nil ?_
            refine thn_n ?_
            refine WF.cond rfl (fun h5_88 => ?_) (fun h5_88 => ?_)
            · have gh5_88 := (of_decide_eq_false (nt h5_88))
              exact absurd rfl gh5_88
            · have gh5_88 := (of_decide_eq_true (nf h5_88))
              refine WF.skip ?_
              refine thn_n ?_
              refine WF.region ?_
              refine WL.va rfl rfl rfl (X.move ((hACs16.eq 6).trans ((congrFun hF76 6).trans e6_L1))) ?_
              refine WL.va rfl rfl rfl (X.moveI ((hACs16.eq 7).trans ((congrFun hF76 7).trans e7_L1))) ?_
              refine WL.va rfl rfl rfl (X.move e8_Cs16) ?_
              have szA := World.grownBy.size (show Ext w w84 from (Ext.trans (Ext.trans (Ext.trans (Ext.trans hwL0 hwL1) hwCs16) hx83) hx86))
              refine WL.c rfl rfl rfl (X.call Try.call24 (evl_cons rfl (evl_cons rfl (evl_cons rfl evl_nil)))) (set_ok _ (A.map Prod.fst) (j : Int) _ (getB (F.map Prod.fst) (j : Int)) _ (oA.sess.ext (Ext.trans (Ext.trans hwCs16 hx83) hx86)) hrA (Row.ext om (Ext.trans hx83 hx86))) ?_
              rintro v91 w90 ⟨⟨A2, hA2, oA2⟩, hx92⟩
              have := World.grownBy.size hx92
              refine WL.va rfl rfl rfl (X.assign rfl) ?_
              refine WL.nil ?_
              refine blk_n ?_
              refine thn_n ?_
              refine WF.region ?_
              refine WL.va rfl rfl rfl (X.moveI ((hACs16.eq 7).trans ((congrFun hF76 7).trans e7_L1))) ?_
              refine WL.va rfl rfl rfl (X.sub rfl rfl (w64 (by omega))) ?_
              refine WL.va rfl rfl rfl (X.assignI rfl) ?_
              refine WL.nil ?_
              exact thn_n ⟨_, (by omega), (j : Int) - 1, _, _, rfl, rfl, rfl, (by repeat (first | exact hAL1 | refine Agree.put ?_ rfl | refine Agree.sub hACs16 rfl ?_ | refine Agree.sub hAL0 rfl ?_ | refine Agree.named hF76 ?_ | refine Agree.named hF72 ?_ | refine Agree.named hF6 ?_)), (Ext.trans (Ext.trans (Ext.trans (Ext.trans hwL1 hwCs16) hx83) hx86) hx92), ⟨by omega, by omega, oA2.mono szA, (by rw [hA2]; exact set_right hrA), (by rw [hA2]; exact hAn.set hrS hj)⟩⟩
        · have gh3_73 := (of_decide_eq_false h3_73)
          refine WF.exit ?_
          refine thn_x ?_
          refine thn_x ?_
          refine blk_eq ?_
          refine thn_n ?_
          refine WF.seq ?_
          refine WF.region ?_
          refine WL.va rfl rfl rfl (X.move ((hAL1.eq 3).trans ((congrFun hF72 3).trans e3_L0))) ?_
          refine WL.c rfl rfl rfl (X.call Try.call10 (evl_cons rfl evl_nil)) (right_ok _ (F.map Prod.fst) _ (oF.sess.ext hwL1)) ?_
          rintro v94 w93 ⟨rfl, hx95⟩
          have := World.grownBy.size hx95
          refine WL.va rfl rfl rfl (X.moveB rfl) ?_
          refine WL.split (j := 2) rfl (fun h97 => ?_) (fun h97 => ?_)
          · have gh97 := h97
            refine WL.vg rfl (congrArg some h97) rfl rfl (X.move ((hAL1.eq 3).trans ((congrFun hF72 3).trans e3_L0))) ?_
            refine WL.vg rfl (congrArg some h97) rfl rfl (X.move e6_L1) ?_
            refine WL.cg rfl (congrArg some h97) rfl rfl (X.call Try.call23 (evl_cons rfl (evl_cons rfl evl_nil))) (sameBs_ok _ _ (F.map Prod.fst) (A.map Prod.fst) _ (oF.sess.ext (Ext.trans hwL1 hx95)) (oA.sess.ext hx95)) ?_
            rintro v99 w98 ⟨rfl, hx100⟩
            have := World.grownBy.size hx100
            refine WL.va rfl rfl rfl (X.pickT rfl h97 rfl) ?_
            refine WL.va rfl rfl rfl (X.moveB rfl) ?_
            refine WL.split (j := 7) rfl (fun h102 => ?_) (fun h102 => ?_)
            · have gh102 := (of_decide_eq_true h102)
              refine WL.cg rfl (congrArg some h102) rfl rfl (X.call Try.call12 evl_nil) (known_ok _) ?_
              rintro v104 w103 ⟨rfl, hx105⟩
              have := World.grownBy.size hx105
              refine WL.va rfl rfl rfl (X.pickT rfl h102 rfl) ?_
              refine WL.va rfl rfl rfl (X.assignB rfl) ?_
              refine WL.nil ?_
              refine thn_n ?_
              refine WF.ret ?_
              refine fin_r ?_
              first | exact ⟨rfl, (Ext.trans (Ext.trans (Ext.trans (Ext.trans hwL0 hwL1) hx95) hx100) hx105)⟩ | exact ⟨congrArg Value.bool (decide_eq_true rfl), (Ext.trans (Ext.trans (Ext.trans (Ext.trans hwL0 hwL1) hx95) hx100) hx105)⟩
            · have gh102 := (of_decide_eq_false h102)
              exact absurd (hAn.all (by omega) hrS hrA) gh102
          · have gh97 := h97
            exact absurd (rightB_iff.2 hrS) (by rw [gh97]; simp)

theorem ins_last {lo hi z : Int} (h0 : 0 ≤ z) (h1 : z < 64) (h2 : lo ≤ z) : decide (z < hi) = insB lo hi z := by
  unfold insB
  rw [decide_eq_decide]
  exact ⟨fun h => ⟨h0, h1, h2, h⟩, fun h => h.2.2.2⟩
set_option maxHeartbeats 8000000 in
theorem blocksStay_walk (vl : Value) (l : List Bl) (no lo hi ask blk : Int) (v : Value) (wl : List Bl) (w : World) (hl : Bls w vl l) (_hx : True) (h : Bls w v wl) : FnOk Try.prog 5 [vl, agg [i64 no, i64 lo, i64 hi, i64 ask, i64 blk], v] w (fun r w' => r = .bool true ∧ Ext w w') := by
  obtain ⟨E, rfl, re, de⟩ := h
  have hle : (E.length : Int) ≤ 9223372036854775807 := by obtain ⟨_, c, _, h1, h2, _⟩ := re.shape; unfold maxLen at h2; omega
  refine FnOk.enter (rs := [6]) Try.func5 rfl Try.ntmps5 Try.results5 rfl rfl ?_
  refine WF.seq ?_
  refine WF.region ?_
  refine WL.op rfl (OW.boxA (cs := [i64 no, i64 lo, i64 hi, i64 ask, i64 blk]) rfl ?_ (by decide))
  intro g4 w1 heg4 hlg4 hO4 hx3
  have := World.grownBy.size hx3
  refine WL.va rfl rfl rfl (X.assignB rfl) ?_
  refine WL.nil ?_
  refine thn_n ?_
  refine WF.seq ?_
  refine WF.seq ?_
  refine WF.region ?_
  refine WL.va rfl rfl rfl (X.move rfl) ?_
  refine WL.c rfl rfl rfl (X.call Try.call10 (evl_cons rfl evl_nil)) (right_ok _ l _ (hl.ext hx3)) ?_
  rintro v7 w6 ⟨rfl, hx8⟩
  have := World.grownBy.size hx8
  refine WL.va rfl rfl rfl (X.not rfl) ?_
  refine WL.nil ?_
  refine thn_n ?_
  refine WF.cond rfl (fun h0_10 => ?_) (fun h0_10 => ?_)
  · have gh0_10 := (nt h0_10)
    refine WF.seq ?_
    refine WF.region ?_
    refine WL.c rfl rfl rfl (X.call Try.call12 evl_nil) (known_ok _) ?_
    rintro v13 w12 ⟨rfl, hx14⟩
    have := World.grownBy.size hx14
    refine WL.va rfl rfl rfl (X.assignB rfl) ?_
    refine WL.nil ?_
    refine thn_n ?_
    refine WF.ret ?_
    refine thn_r ?_
    refine fin_r ?_
    first | exact ⟨rfl, (Ext.trans (Ext.trans hx3 hx8) hx14)⟩ | exact ⟨congrArg Value.bool (decide_eq_true rfl), (Ext.trans (Ext.trans hx3 hx8) hx14)⟩
  · have gh0_10 := (nf h0_10)
    have hr := rightB_iff.1 gh0_10
    refine WF.skip ?_
    refine thn_n ?_
    refine WF.seq ?_
    refine WF.region ?_
    refine WL.va rfl rfl rfl (X.fieldAddrO (off := 1) rfl Try.underlying24 rfl rfl Try.sizeOf3) ?_
    refine WL.va rfl rfl rfl (X.loadO hO4 hx8 rfl rfl Try.isAgg3) ?_
    refine WL.va rfl rfl rfl (X.fieldAddrO (off := 2) rfl Try.underlying24 rfl rfl Try.sizeOf3) ?_
    refine WL.va rfl rfl rfl (X.loadO hO4 hx8 rfl rfl Try.isAgg3) ?_
    refine WL.va rfl rfl rfl (X.buildL (P := Try.prog) (t := 30) (cs := [i64 lo, i64 hi]) (evp_cons rfl (evp_cons rfl evp_nil)) Try.type30 Try.underlying30 rfl rfl ⟨rfl, rfl, trivial⟩ rfl) ?_
    refine WL.op rfl (OW.allocO (cs := [i64 0, i64 0]) Try.zeroValue30 rfl ?_ (by decide))
    intro g7 w16 heg7 hlg7 hO7 hx18
    have := World.grownBy.size hx18
    refine WL.op rfl (OW.storeOA hO7 rfl rfl rfl (res_one rfl rfl) Try.sizeOf30 ?_)
    intro w20 hO7 hx22
    have := World.grownBy.size hx22
    replace hO4 := (hO4.ext (Ext.trans hx8 hx18)).keptO hx22 (by omega)
    replace hO7 : Blk _ _ _ [i64 lo, i64 hi] := hO7
    refine WL.nil ?_
    refine thn_n ?_
    refine WF.seq ?_
    refine WF.region ?_
    refine WL.va rfl rfl rfl (X.fieldAddrO (off := 0) rfl Try.underlying24 rfl rfl Try.sizeOf3) ?_
    refine WL.va rfl rfl rfl (X.loadO hO4 (Ext.refl _) rfl rfl Try.isAgg3) ?_
    refine WL.va rfl rfl rfl (X.loadOA hO7 (Ext.refl _) rfl rfl Try.isAgg30 Try.sizeOf30) ?_
    refine WL.va rfl rfl rfl (X.move rfl) ?_
    refine WL.c rfl rfl rfl (X.call Try.call15 (evl_cons rfl (evl_cons rfl (evl_cons rfl (evl_cons rfl evl_nil))))) (keep_ok _ [] no lo hi _ l _ (Kps.nil _) RightK.nil (by decide) (hl.ext (Ext.trans (Ext.trans hx3 hx8) (Ext.store hx18 hx22 (by omega)))) hr) ?_
    rintro vk0 wk0 ⟨⟨FK, hFK, oFK⟩, hx24⟩
    have := World.grownBy.size hx24
    have sK0 : Kps wk0 vk0 (keepK [] no lo hi l) := oFK.sessE hFK
    have hrK0 := keep_right (s := no) (lo := lo) (hi := hi) RightK.nil hr
    have hlK0 := keep_len (kk := []) (s := no) (lo := lo) (hi := hi) (bl := l)
    rw [List.length_nil, Nat.zero_add] at hlK0
    refine WL.va rfl rfl rfl (X.assign rfl) ?_
    refine WL.nil ?_
    refine thn_n ?_
    refine WF.seq ?_
    refine WF.region ?_
    refine WL.va rfl rfl rfl (X.move rfl) ?_
    refine WL.va rfl rfl rfl (X.assign rfl) ?_
    refine WL.nil ?_
    refine thn_n ?_
    refine WF.seq ?_
    refine WF.seq ?_
    refine WF.region ?_
    refine WL.va rfl rfl rfl (X.assignI rfl) ?_
    refine WL.nil ?_
    refine thn_n ?_
    refine WF.block ?_
    refine WF.named (fun F25 hF26 => ?_)
    refine WF.loopN (fun mL0 f' w' => ∃ (k : Nat) (vs : Value) (S : List Bl) (vk : Value) (K : List Kp), mL0 = E.length - k ∧ f' 10 = .int .i64 (k : Int) ∧ f' 9 = vs ∧ f' 8 = vk ∧ Agree [0, 1, 2, 4, 7, 15, 16, 17, 19, 20, 21, 22, 23, 24, 25, 26, 27, 28, 29] f' F25 ∧ Ext wk0 w' ∧ k ≤ E.length ∧ k ≤ 100 ∧ Bls w' vs S ∧ RightB S ∧ Kps w' vk K ∧ RightK K ∧ K.length ≤ 64 + 9 * ((k + 6) / 10) ∧ ∀ n, kepO K no n = kepO (keepK [] no lo hi l) no n) ?_ ?_
    · exact ⟨_, 0, _, l, _, (keepK [] no lo hi l), rfl, (congrFun hF26 10), (congrFun hF26 9), (congrFun hF26 8), (Agree.refl _ _), (Ext.refl _), ⟨Nat.zero_le _, by omega, hl.ext (Ext.trans (Ext.trans (Ext.trans hx3 hx8) (Ext.store hx18 hx22 (by omega))) hx24), hr, sK0.ext (Ext.refl wk0), hrK0, hlK0, fun _ => rfl⟩⟩
    · rintro mL0 fL0 wL0 ⟨k, vs, S, vk, K, hmL0, e10_L0, e9_L0, e8_L0, hAL0, hwL0, ⟨hk0, hk100, sS, hrS, sK, hrK, hKl, hK0⟩⟩
      have := World.grownBy.size hwL0
      refine WF.seq ?_
      refine WF.seq ?_
      refine WF.region ?_
      refine WL.va rfl rfl rfl (X.moveI e10_L0) ?_
      refine WL.va rfl rfl rfl (X.move ((hAL0.eq 2).trans (congrFun hF26 2))) ?_
      refine WL.va rfl rfl rfl (X.len re rfl Try.underlying43) ?_
      refine WL.va rfl rfl rfl (X.lss rfl rfl) ?_
      refine WL.va rfl rfl rfl (X.moveB rfl) ?_
      refine WL.split (j := 4) rfl (fun h28 => ?_) (fun h28 => ?_)
      · have gh28 := (of_decide_eq_true h28)
        have hk : k < E.length := by omega
        refine WL.vg rfl (congrArg some h28) rfl rfl (X.moveI e10_L0) ?_
        refine WL.vg rfl (congrArg some h28) rfl rfl (X.lss rfl rfl) ?_
        refine WL.va rfl rfl rfl (X.pickT rfl h28 rfl) ?_
        refine WL.nil ?_
        refine thn_n ?_
        refine WF.cond rfl (fun h1_29 => ?_) (fun h1_29 => ?_)
        · have gh1_29 := (of_decide_eq_true h1_29)
          have hi1 : k < 100 := by omega
          refine WF.skip ?_
          refine thn_n ?_
          refine WF.seq ?_
          refine WF.block ?_
          refine WF.seq ?_
          refine WF.seq ?_
          refine WF.region ?_
          refine WL.va rfl rfl rfl (X.move ((hAL0.eq 2).trans (congrFun hF26 2))) ?_
          refine WL.va rfl rfl rfl (X.moveI e10_L0) ?_
          refine WL.va rfl rfl rfl (X.idx re rfl rfl (by omega) Try.underlying43 Try.sizeOf46) ?_
          refine WL.va rfl rfl rfl (X.fieldAddrA rfl Try.underlying46 rfl rfl Try.sizeOf34) ?_
          refine WL.va rfl rfl rfl (X.loadE re (Ext.trans (Ext.trans (Ext.trans (Ext.trans hx3 hx8) (Ext.store hx18 hx22 (by omega))) hx24) hwL0) rfl (by omega) ((BRow.get hk (by decide)).trans rfl) Try.isAgg34) ?_
          refine WL.va rfl rfl rfl (X.len (de _ (List.getElem_mem hk)) rfl Try.underlying34) ?_
          refine WL.va rfl rfl rfl (X.gtr rfl rfl) ?_
          refine WL.nil ?_
          refine thn_n ?_
          refine WF.cond rfl (fun h2_31 => ?_) (fun h2_31 => ?_)
          · have gh2_31 := (of_decide_eq_true h2_31)
            refine WF.seq ?_
            refine WF.region ?_
            refine WL.c rfl rfl rfl (X.call Try.call12 evl_nil) (known_ok _) ?_
            rintro v34 w33 ⟨rfl, hx35⟩
            have := World.grownBy.size hx35
            refine WL.va rfl rfl rfl (X.assignB rfl) ?_
            refine WL.nil ?_
            refine thn_n ?_
            refine WF.ret ?_
            refine thn_r ?_
            refine blk_r ?_
            refine thn_r ?_
            refine thn_r ?_
            refine blk_r ?_
            refine thn_r ?_
            refine fin_r ?_
            first | exact ⟨rfl, (Ext.trans (Ext.trans (Ext.trans (Ext.trans (Ext.trans hx3 hx8) (Ext.store hx18 hx22 (by omega))) hx24) hwL0) hx35)⟩ | exact ⟨congrArg Value.bool (decide_eq_true rfl), (Ext.trans (Ext.trans (Ext.trans (Ext.trans (Ext.trans hx3 hx8) (Ext.store hx18 hx22 (by omega))) hx24) hwL0) hx35)⟩
          · have gh2_31 := (of_decide_eq_false h2_31)
            refine WF.skip ?_
            refine thn_n ?_
            refine WF.seq ?_
            refine WF.drawn (.q 0 (.q 1 (.q 2 (.q 3 (.q 4 (.q 5 (.q 6 (.q 7 (.q 8 (.q 9 (.q 10 (.l 11 (.q 12 .nil))))))))))))) (fun w' => Ext wL0 w') 13 (by kernel_rfl) (by kernel_rfl) (Ext.drew _) ?_
            have := World.grownBy.size (Ext.drew wL0)
            refine WO.q rfl rfl rfl rfl (fun w' hE37 => (X.move e9_L0)) ?_
            refine WO.q rfl rfl rfl rfl (fun w' hE37 => (X.move ((hAL0.eq 2).trans (congrFun hF26 2)))) ?_
            refine WO.q rfl rfl rfl rfl (fun w' hE37 => (X.moveI e10_L0)) ?_
            refine WO.q rfl rfl rfl rfl (fun w' hE37 => (X.idx re rfl rfl (by omega) Try.underlying43 Try.sizeOf46)) ?_
            refine WO.q rfl rfl rfl rfl (fun w' hE37 => (X.fieldAddrA rfl Try.underlying46 rfl rfl Try.sizeOf3)) ?_
            refine WO.q rfl rfl rfl rfl (fun w' hE37 => (X.loadE re (Ext.trans (Ext.trans (Ext.trans (Ext.trans (Ext.trans hx3 hx8) (Ext.store hx18 hx22 (by omega))) hx24) hwL0) hE37) rfl (by omega) ((BRow.get hk (by decide)).trans rfl) Try.isAgg3)) ?_
            refine WO.q rfl rfl rfl rfl (fun w' hE37 => (X.move ((hAL0.eq 2).trans (congrFun hF26 2)))) ?_
            refine WO.q rfl rfl rfl rfl (fun w' hE37 => (X.moveI e10_L0)) ?_
            refine WO.q rfl rfl rfl rfl (fun w' hE37 => (X.idx re rfl rfl (by omega) Try.underlying43 Try.sizeOf46)) ?_
            refine WO.q rfl rfl rfl rfl (fun w' hE37 => (X.fieldAddrA rfl Try.underlying46 rfl rfl Try.sizeOf34)) ?_
            refine WO.q rfl rfl rfl rfl (fun w' hE37 => (X.loadE re (Ext.trans (Ext.trans (Ext.trans (Ext.trans (Ext.trans hx3 hx8) (Ext.store hx18 hx22 (by omega))) hx24) hwL0) hE37) rfl (by omega) ((BRow.get hk (by decide)).trans rfl) Try.isAgg34)) ?_
            refine WO.l ?_
            refine LO.go rfl rfl (OW.enter rfl (by decide) (X.call Try.call24 (evl_cons rfl (evl_cons rfl (evl_cons rfl evl_nil)))) (set_ok _ S (E[k]'hk).1.No _ (E[k]'hk).1.Data _ (sS.ext (Ext.drew _)) hrS (Row.ext (de _ (List.getElem_mem hk)) (Ext.trans (Ext.trans (Ext.trans (Ext.trans (Ext.trans hx3 hx8) (Ext.store hx18 hx22 (by omega))) hx24) hwL0) (Ext.drew _)))) ?_)
            rintro vg wg ⟨⟨G, hG, oG⟩, hx38⟩
            have := World.grownBy.size hx38
            refine ⟨(Ext.trans (Ext.drew _) hx38), ?_⟩
            have sG : Bls wg vg (setB S (E[k]'hk).1.No (E[k]'hk).1.Data) := oG.sessE hG
            have hrG : RightB (setB S (E[k]'hk).1.No (E[k]'hk).1.Data) := set_right hrS
            refine WO.q rfl rfl rfl rfl (fun w' hE37 => (X.assign rfl)) ?_
            refine WO.nil ?_
            refine WL.nil ?_
            refine thn_n ?_
            refine WF.seq ?_
            refine WF.drawn (.q 0 (.q 1 (.q 2 (.q 3 (.q 4 (.q 5 (.q 6 (.q 7 (.q 8 (.q 9 (.q 10 (.q 11 (.q 12 .nil))))))))))))) (fun w' => Ext wg w') 13 (by kernel_rfl) (by kernel_rfl) (Ext.drew _) ?_
            have := World.grownBy.size (Ext.drew wg)
            refine WO.q rfl rfl rfl rfl (fun w' hE39 => (X.moveI e10_L0)) ?_
            refine WO.q rfl rfl rfl rfl (fun w' hE39 => (X.rem rfl rfl (by omega) (IntWalk.rem_in _ _ (by omega)))) ?_
            refine WO.q rfl rfl rfl rfl (fun w' hE39 => (X.eql rfl rfl)) ?_
            refine WO.q rfl rfl rfl rfl (fun w' hE39 => (X.moveB rfl)) ?_
            refine WO.split (j := 3) rfl (fun h41 => ?_) (fun h41 => ?_)
            · have gh41 := (of_decide_eq_true h41)
              have h3 := gh41
              refine WO.qg rfl rfl (congrArg some h41) rfl rfl (fun w' hE39 => (X.move ((hAL0.eq 2).trans (congrFun hF26 2)))) ?_
              refine WO.qg rfl rfl (congrArg some h41) rfl rfl (fun w' hE39 => (X.moveI e10_L0)) ?_
              refine WO.qg rfl rfl (congrArg some h41) rfl rfl (fun w' hE39 => (X.idx re rfl rfl (by omega) Try.underlying43 Try.sizeOf46)) ?_
              refine WO.qg rfl rfl (congrArg some h41) rfl rfl (fun w' hE39 => (X.fieldAddrA rfl Try.underlying46 rfl rfl Try.sizeOf3)) ?_
              refine WO.qg rfl rfl (congrArg some h41) rfl rfl (fun w' hE39 => (X.loadE re (Ext.trans (Ext.trans (Ext.trans (Ext.trans (Ext.trans (Ext.trans (Ext.trans hx3 hx8) (Ext.store hx18 hx22 (by omega))) hx24) hwL0) (Ext.drew _)) hx38) hE39) rfl (by omega) ((BRow.get hk (by decide)).trans rfl) Try.isAgg3)) ?_
              refine WO.qg rfl rfl (congrArg some h41) rfl rfl (fun w' hE39 => (X.fieldAddrO (off := 0) ((hAL0.eq 4).trans (congrFun hF26 4)) Try.underlying24 rfl rfl Try.sizeOf3)) ?_
              refine WO.qg rfl rfl (congrArg some h41) rfl rfl (fun w' hE39 => (X.loadO hO4 (Ext.trans (Ext.trans (Ext.trans (Ext.trans hx24 hwL0) (Ext.drew _)) hx38) hE39) rfl rfl Try.isAgg3)) ?_
              refine WO.qg rfl rfl (congrArg some h41) rfl rfl (fun w' hE39 => (X.neq rfl rfl)) ?_
              refine WO.q rfl rfl rfl rfl (fun w' hE39 => (X.pickT rfl h41 rfl)) ?_
              refine WO.nil ?_
              refine WL.nil ?_
              refine thn_n ?_
              refine WF.cond rfl (fun h3_42 => ?_) (fun h3_42 => ?_)
              · have gh3_42 := (of_decide_eq_true h3_42)
                have hne : (E[k]'hk).1.No ≠ no := gh3_42
                have hr0 : (0 : Int) ≤ (Int.tmod (k : Int) 64) := by rw [show (64 : Int) = ((64 : Nat) : Int) from rfl, tmod_nat]; omega
                have hr1 := Int.tmod_lt_of_pos (k : Int) (show (0 : Int) < 64 by omega)
                have h10 : k % 10 = 3 := by omega
                have h9 := keep_len9 (kk := K) (s := (E[k]'hk).1.No) (bl := (setB S (E[k]'hk).1.No (E[k]'hk).1.Data)) hr0
                refine WF.region ?_
                refine WL.va rfl rfl rfl (X.move e8_L0) ?_
                refine WL.va rfl rfl rfl (X.move ((hAL0.eq 2).trans (congrFun hF26 2))) ?_
                refine WL.va rfl rfl rfl (X.moveI e10_L0) ?_
                refine WL.va rfl rfl rfl (X.idx re rfl rfl (by omega) Try.underlying43 Try.sizeOf46) ?_
                refine WL.va rfl rfl rfl (X.fieldAddrA rfl Try.underlying46 rfl rfl Try.sizeOf3) ?_
                refine WL.va rfl rfl rfl (X.loadE re (Ext.trans (Ext.trans (Ext.trans (Ext.trans (Ext.trans (Ext.trans (Ext.trans hx3 hx8) (Ext.store hx18 hx22 (by omega))) hx24) hwL0) (Ext.drew _)) hx38) (Ext.drew _)) rfl (by omega) ((BRow.get hk (by decide)).trans rfl) Try.isAgg3) ?_
                refine WL.va rfl rfl rfl (X.moveI e10_L0) ?_
                refine WL.va rfl rfl rfl (X.rem rfl rfl (by omega) (IntWalk.rem_in _ _ (by omega))) ?_
                refine WL.va rfl rfl rfl (X.moveI e10_L0) ?_
                refine WL.va rfl rfl rfl (X.rem rfl rfl (by omega) (IntWalk.rem_in _ _ (by omega))) ?_
                refine WL.va rfl rfl rfl (X.add rfl rfl (w64 (by omega))) ?_
                refine WL.va rfl rfl rfl (X.buildL (P := Try.prog) (t := 30) (cs := [i64 (Int.tmod (k : Int) 64), i64 ((Int.tmod (k : Int) 64) + 9)]) (evp_cons rfl (evp_cons rfl evp_nil)) Try.type30 Try.underlying30 rfl rfl ⟨rfl, rfl, trivial⟩ rfl) ?_
                refine WL.va rfl rfl rfl (X.move rfl) ?_
                refine WL.c rfl rfl rfl (X.call Try.call15 (evl_cons rfl (evl_cons rfl (evl_cons rfl (evl_cons rfl evl_nil))))) (keep_ok _ K (E[k]'hk).1.No (Int.tmod (k : Int) 64) ((Int.tmod (k : Int) 64) + 9) _ (setB S (E[k]'hk).1.No (E[k]'hk).1.Data) _ (sK.ext (Ext.trans (Ext.trans (Ext.drew _) hx38) (Ext.drew _))) hrK (by omega) (sG.ext (Ext.drew _)) hrG) ?_
                rintro vk2 wk2 ⟨⟨FK2, hFK2, oFK2⟩, hx44⟩
                have := World.grownBy.size hx44
                have sK2 : Kps wk2 vk2 (keepK K (E[k]'hk).1.No (Int.tmod (k : Int) 64) ((Int.tmod (k : Int) 64) + 9) (setB S (E[k]'hk).1.No (E[k]'hk).1.Data)) := oFK2.sessE hFK2
                have hrK2 : RightK (keepK K (E[k]'hk).1.No (Int.tmod (k : Int) 64) ((Int.tmod (k : Int) 64) + 9) (setB S (E[k]'hk).1.No (E[k]'hk).1.Data)) := keep_right hrK hrG
                refine WL.va rfl rfl rfl (X.assign rfl) ?_
                refine WL.nil ?_
                refine blk_n ?_
                refine thn_n ?_
                refine WF.region ?_
                refine WL.va rfl rfl rfl (X.moveI e10_L0) ?_
                refine WL.va rfl rfl rfl (X.add rfl rfl (w64 (by omega))) ?_
                refine WL.va rfl rfl rfl (X.assignI rfl) ?_
                refine WL.nil ?_
                first | exact thn_n ⟨_, (by omega), k + 1, _, (setB S (E[k]'hk).1.No (E[k]'hk).1.Data), _, (keepK K (E[k]'hk).1.No (Int.tmod (k : Int) 64) ((Int.tmod (k : Int) 64) + 9) (setB S (E[k]'hk).1.No (E[k]'hk).1.Data)), rfl, rfl, rfl, rfl, (by repeat (first | exact hAL0 | refine Agree.put ?_ rfl | refine Agree.named hF26 ?_)), (Ext.trans (Ext.trans (Ext.trans (Ext.trans hwL0 (Ext.drew _)) hx38) (Ext.drew _)) hx44), ⟨by omega, by omega, sG.ext (Ext.trans (Ext.drew _) hx44), hrG, sK2, hrK2, by omega, fun n => (keep_other hne).trans (hK0 n)⟩⟩ | exact thn_n ⟨_, (by omega), k + 1, _, (setB S (E[k]'hk).1.No (E[k]'hk).1.Data), _, K, rfl, rfl, rfl, rfl, (by repeat (first | exact hAL0 | refine Agree.put ?_ rfl | refine Agree.named hF26 ?_)), (Ext.trans (Ext.trans (Ext.trans (Ext.trans hwL0 (Ext.drew _)) hx38) (Ext.drew _)) hx44), ⟨by omega, by omega, sG.ext (Ext.trans (Ext.drew _) hx44), hrG, sK.ext (Ext.trans (Ext.trans (Ext.trans (Ext.drew _) hx38) (Ext.drew _)) hx44), hrK, by omega, hK0⟩⟩
              · have gh3_42 := (Decidable.of_not_not (of_decide_eq_false h3_42))
                refine WF.skip ?_
                refine blk_n ?_
                refine thn_n ?_
                refine WF.region ?_
                refine WL.va rfl rfl rfl (X.moveI e10_L0) ?_
                refine WL.va rfl rfl rfl (X.add rfl rfl (w64 (by omega))) ?_
                refine WL.va rfl rfl rfl (X.assignI rfl) ?_
                refine WL.nil ?_
                first | exact thn_n ⟨_, (by omega), k + 1, _, (setB S (E[k]'hk).1.No (E[k]'hk).1.Data), _, (keepK K (E[k]'hk).1.No (Int.tmod (k : Int) 64) ((Int.tmod (k : Int) 64) + 9) (setB S (E[k]'hk).1.No (E[k]'hk).1.Data)), rfl, rfl, rfl, e8_L0, (by repeat (first | exact hAL0 | refine Agree.put ?_ rfl | refine Agree.named hF26 ?_)), (Ext.trans (Ext.trans (Ext.trans hwL0 (Ext.drew _)) hx38) (Ext.drew _)), ⟨by omega, by omega, sG.ext (Ext.drew _), hrG, sK2, hrK2, by omega, fun n => (keep_other hne).trans (hK0 n)⟩⟩ | exact thn_n ⟨_, (by omega), k + 1, _, (setB S (E[k]'hk).1.No (E[k]'hk).1.Data), _, K, rfl, rfl, rfl, e8_L0, (by repeat (first | exact hAL0 | refine Agree.put ?_ rfl | refine Agree.named hF26 ?_)), (Ext.trans (Ext.trans (Ext.trans hwL0 (Ext.drew _)) hx38) (Ext.drew _)), ⟨by omega, by omega, sG.ext (Ext.drew _), hrG, sK.ext (Ext.trans (Ext.trans (Ext.drew _) hx38) (Ext.drew _)), hrK, by omega, hK0⟩⟩
            · have gh41 := (of_decide_eq_false h41)
              refine WO.qp rfl rfl rfl rfl (congrArg some h41) ?_
              refine WO.qp rfl rfl rfl rfl (congrArg some h41) ?_
              refine WO.qp rfl rfl rfl rfl (congrArg some h41) ?_
              refine WO.qp rfl rfl rfl rfl (congrArg some h41) ?_
              refine WO.qp rfl rfl rfl rfl (congrArg some h41) ?_
              refine WO.qp rfl rfl rfl rfl (congrArg some h41) ?_
              refine WO.qp rfl rfl rfl rfl (congrArg some h41) ?_
              refine WO.qp rfl rfl rfl rfl (congrArg some h41) ?_
              refine WO.q rfl rfl rfl rfl (fun w' hE39 => (X.pickF rfl h41 rfl)) ?_
              refine WO.nil ?_
              refine WL.nil ?_
              refine thn_n ?_
              refine WF.cond_f rfl ?_
              refine WF.skip ?_
              refine blk_n ?_
              refine thn_n ?_
              refine WF.region ?_
              refine WL.va rfl rfl rfl (X.moveI e10_L0) ?_
              refine WL.va rfl rfl rfl (X.add rfl rfl (w64 (by omega))) ?_
              refine WL.va rfl rfl rfl (X.assignI rfl) ?_
              refine WL.nil ?_
              first | exact thn_n ⟨_, (by omega), k + 1, _, (setB S (E[k]'hk).1.No (E[k]'hk).1.Data), _, (keepK K (E[k]'hk).1.No (Int.tmod (k : Int) 64) ((Int.tmod (k : Int) 64) + 9) (setB S (E[k]'hk).1.No (E[k]'hk).1.Data)), rfl, rfl, rfl, e8_L0, (by repeat (first | exact hAL0 | refine Agree.put ?_ rfl | refine Agree.named hF26 ?_)), (Ext.trans (Ext.trans (Ext.trans hwL0 (Ext.drew _)) hx38) (Ext.drew _)), ⟨by omega, by omega, sG.ext (Ext.drew _), hrG, sK2, hrK2, by omega, fun n => (keep_other hne).trans (hK0 n)⟩⟩ | exact thn_n ⟨_, (by omega), k + 1, _, (setB S (E[k]'hk).1.No (E[k]'hk).1.Data), _, K, rfl, rfl, rfl, e8_L0, (by repeat (first | exact hAL0 | refine Agree.put ?_ rfl | refine Agree.named hF26 ?_)), (Ext.trans (Ext.trans (Ext.trans hwL0 (Ext.drew _)) hx38) (Ext.drew _)), ⟨by omega, by omega, sG.ext (Ext.drew _), hrG, sK.ext (Ext.trans (Ext.trans (Ext.drew _) hx38) (Ext.drew _)), hrK, by omega, hK0⟩⟩
        · have gh1_29 := (of_decide_eq_false h1_29)
          refine WF.exit ?_
          refine thn_x ?_
          refine thn_x ?_
          refine blk_eq ?_
          refine thn_n ?_
          refine WF.seq ?_
          refine WF.seq ?_
          refine WF.region ?_
          refine WL.va rfl rfl rfl (X.assignI rfl) ?_
          refine WL.nil ?_
          refine thn_n ?_
          refine WF.block ?_
          refine WF.named (fun F46 hF47 => ?_)
          refine WF.loopN (fun mL1 f' w' => ∃ (z : Int), mL1 = (65 - z).toNat ∧ f' 11 = .int .i64 z ∧ Agree [0, 1, 2, 4, 7, 8, 9, 10, 15, 16, 17, 19, 20, 21, 22, 23, 24, 25, 26, 27, 28, 29, 30, 31, 32, 33, 34, 35, 36, 37] f' F46 ∧ Ext wL0 w' ∧ -1 ≤ z ∧ z ≤ 65) ?_ ?_
          · exact ⟨_, -1, rfl, (congrFun hF47 11), (Agree.refl _ _), (Ext.refl _), (by omega)⟩
          · rintro mL1 fL1 wL1 ⟨z, hmL1, e11_L1, hAL1, hwL1, ⟨hz1, hz2⟩⟩
            have := World.grownBy.size hwL1
            refine WF.seq ?_
            refine WF.seq ?_
            refine WF.region ?_
            refine WL.va rfl rfl rfl (X.moveI e11_L1) ?_
            refine WL.va rfl rfl rfl (X.leq rfl rfl) ?_
            refine WL.nil ?_
            refine thn_n ?_
            refine WF.cond rfl (fun h4_48 => ?_) (fun h4_48 => ?_)
            · have gh4_48 := (of_decide_eq_true h4_48)
              refine WF.skip ?_
              refine thn_n ?_
              refine WF.seq ?_
              refine WF.block ?_
              refine WF.seq ?_
              refine WF.region ?_
              refine WL.va rfl rfl rfl (X.move ((hAL1.eq 8).trans ((congrFun hF47 8).trans e8_L0))) ?_
              refine WL.va rfl rfl rfl (X.fieldAddrO (off := 0) ((hAL1.eq 4).trans ((congrFun hF47 4).trans ((hAL0.eq 4).trans (congrFun hF26 4)))) Try.underlying24 rfl rfl Try.sizeOf3) ?_
              refine WL.va rfl rfl rfl (X.loadO hO4 (Ext.trans (Ext.trans hx24 hwL0) hwL1) rfl rfl Try.isAgg3) ?_
              refine WL.va rfl rfl rfl (X.moveI e11_L1) ?_
              refine WL.c rfl rfl rfl (X.call Try.call17 (evl_cons rfl (evl_cons rfl (evl_cons rfl evl_nil)))) (kept_ok _ K no z _ (sK.ext hwL1) hrK.sort (rightK_dat hrK)) ?_
              rintro tk wk ⟨⟨db, rfl, ob⟩, hx50⟩
              have := World.grownBy.size hx50
              have hko : kepO K no z = if insB lo hi z = true then some (getB l z) else none := by rw [hK0, keep_ins]
              have hks : hasK K no z = insB lo hi z := by rw [has_some hrK.sort, hko]; cases insB lo hi z <;> rfl
              refine WL.va rfl rfl rfl (X.move rfl) ?_
              refine WL.va rfl rfl rfl (X.extract rfl rfl) ?_
              refine WL.va rfl rfl rfl (X.extract rfl rfl) ?_
              refine WL.va rfl rfl rfl (X.assign rfl) ?_
              refine WL.va rfl rfl rfl (X.assignB rfl) ?_
              refine WL.nil ?_
              refine thn_n ?_
              refine WF.named (fun F52 hF53 => ?_)
              refine WF.cut (fun f' w' => f' 14 = .bool (insB lo hi z) ∧ Agree [0, 1, 2, 4, 7, 8, 9, 10, 11, 12, 13, 15, 16, 17, 19, 20, 21, 22, 23, 24, 25, 26, 27, 28, 29, 30, 31, 32, 33, 34, 35, 36, 37, 87, 88, 91, 92, 93, 94, 95, 96, 97, 98] f' F52 ∧ wk = w') ?_ ?_
              · refine WF.region ?_
                refine WL.va rfl rfl rfl (X.moveI ((congrFun hF53 11).trans e11_L1)) ?_
                refine WL.va rfl rfl rfl (X.geq rfl rfl) ?_
                refine WL.va rfl rfl rfl (X.moveB rfl) ?_
                refine WL.split (j := 2) rfl (fun h55 => ?_) (fun h55 => ?_)
                · have gh55 := (of_decide_eq_true h55)
                  have z0 := gh55
                  refine WL.vg rfl (congrArg some h55) rfl rfl (X.moveI ((congrFun hF53 11).trans e11_L1)) ?_
                  refine WL.vg rfl (congrArg some h55) rfl rfl (X.lss rfl rfl) ?_
                  refine WL.va rfl rfl rfl (X.pickT rfl h55 rfl) ?_
                  refine WL.va rfl rfl rfl (X.moveB rfl) ?_
                  refine WL.split (j := 6) rfl (fun h57 => ?_) (fun h57 => ?_)
                  · have gh57 := (of_decide_eq_true h57)
                    have z1 := gh57
                    refine WL.vg rfl (congrArg some h57) rfl rfl (X.moveI ((congrFun hF53 11).trans e11_L1)) ?_
                    refine WL.vg rfl (congrArg some h57) rfl rfl (X.fieldAddrO (off := 1) ((congrFun hF53 4).trans ((hAL1.eq 4).trans ((congrFun hF47 4).trans ((hAL0.eq 4).trans (congrFun hF26 4))))) Try.underlying24 rfl rfl Try.sizeOf3) ?_
                    refine WL.vg rfl (congrArg some h57) rfl rfl (X.loadO hO4 (Ext.trans (Ext.trans (Ext.trans hx24 hwL0) hwL1) hx50) rfl rfl Try.isAgg3) ?_
                    refine WL.vg rfl (congrArg some h57) rfl rfl (X.geq rfl rfl) ?_
                    refine WL.va rfl rfl rfl (X.pickT rfl h57 rfl) ?_
                    refine WL.va rfl rfl rfl (X.moveB rfl) ?_
                    refine WL.split (j := 12) rfl (fun h59 => ?_) (fun h59 => ?_)
                    · have gh59 := (of_decide_eq_true h59)
                      have z2 := gh59
                      refine WL.vg rfl (congrArg some h59) rfl rfl (X.moveI ((congrFun hF53 11).trans e11_L1)) ?_
                      refine WL.vg rfl (congrArg some h59) rfl rfl (X.fieldAddrO (off := 2) ((congrFun hF53 4).trans ((hAL1.eq 4).trans ((congrFun hF47 4).trans ((hAL0.eq 4).trans (congrFun hF26 4))))) Try.underlying24 rfl rfl Try.sizeOf3) ?_
                      refine WL.vg rfl (congrArg some h59) rfl rfl (X.loadO hO4 (Ext.trans (Ext.trans (Ext.trans hx24 hwL0) hwL1) hx50) rfl rfl Try.isAgg3) ?_
                      refine WL.vg rfl (congrArg some h59) rfl rfl (X.lss rfl rfl) ?_
                      refine WL.va rfl rfl rfl (X.pickT rfl h59 rfl) ?_
                      refine WL.va rfl rfl rfl (X.assignB rfl) ?_
                      refine WL.nil ?_
                      refine thn_n ?_
                      exact ⟨(by first | exact congrArg Value.bool hf.symm | exact congrArg Value.bool (ins_last z0 z1 z2)), (by repeat (first | exact (Agree.refl _ F52) | refine Agree.put ?_ rfl | refine Agree.sub hAL1 rfl ?_ | refine Agree.sub hAL0 rfl ?_ | refine Agree.named hF53 ?_ | refine Agree.named hF47 ?_ | refine Agree.named hF26 ?_)), rfl⟩
                    · have gh59 := (of_decide_eq_false h59)
                      have hf : insB lo hi z = false := by unfold insB; rw [decide_eq_false_iff_not]; omega
                      refine WL.p rfl rfl rfl (congrArg some h59) ?_
                      refine WL.p rfl rfl rfl (congrArg some h59) ?_
                      refine WL.p rfl rfl rfl (congrArg some h59) ?_
                      refine WL.p rfl rfl rfl (congrArg some h59) ?_
                      refine WL.va rfl rfl rfl (X.pickF rfl h59 rfl) ?_
                      refine WL.va rfl rfl rfl (X.assignB rfl) ?_
                      refine WL.nil ?_
                      refine thn_n ?_
                      exact ⟨(by first | exact congrArg Value.bool hf.symm | exact congrArg Value.bool (ins_last z0 z1 z2)), (by repeat (first | exact (Agree.refl _ F52) | refine Agree.put ?_ rfl | refine Agree.sub hAL1 rfl ?_ | refine Agree.sub hAL0 rfl ?_ | refine Agree.named hF53 ?_ | refine Agree.named hF47 ?_ | refine Agree.named hF26 ?_)), rfl⟩
                  · have gh57 := (of_decide_eq_false h57)
                    have hf : insB lo hi z = false := by unfold insB; rw [decide_eq_false_iff_not]; omega
                    refine WL.p rfl rfl rfl (congrArg some h57) ?_
                    refine WL.p rfl rfl rfl (congrArg some h57) ?_
                    refine WL.p rfl rfl rfl (congrArg some h57) ?_
                    refine WL.p rfl rfl rfl (congrArg some h57) ?_
                    refine WL.va rfl rfl rfl (X.pickF rfl h57 rfl) ?_
                    refine WL.va rfl rfl rfl (X.moveB rfl) ?_
                    refine WL.p rfl rfl rfl rfl ?_
                    refine WL.p rfl rfl rfl rfl ?_
                    refine WL.p rfl rfl rfl rfl ?_
                    refine WL.p rfl rfl rfl rfl ?_
                    refine WL.va rfl rfl rfl (X.pickF rfl rfl rfl) ?_
                    refine WL.va rfl rfl rfl (X.assignB rfl) ?_
                    refine WL.nil ?_
                    refine thn_n ?_
                    exact ⟨(by first | exact congrArg Value.bool hf.symm | exact congrArg Value.bool (ins_last z0 z1 z2)), (by repeat (first | exact (Agree.refl _ F52) | refine Agree.put ?_ rfl | refine Agree.sub hAL1 rfl ?_ | refine Agree.sub hAL0 rfl ?_ | refine Agree.named hF53 ?_ | refine Agree.named hF47 ?_ | refine Agree.named hF26 ?_)), rfl⟩
                · have gh55 := (of_decide_eq_false h55)
                  have hf : insB lo hi z = false := by unfold insB; rw [decide_eq_false_iff_not]; omega
                  refine WL.p rfl rfl rfl (congrArg some h55) ?_
                  refine WL.p rfl rfl rfl (congrArg some h55) ?_
                  refine WL.va rfl rfl rfl (X.pickF rfl h55 rfl) ?_
                  refine WL.va rfl rfl rfl (X.moveB rfl) ?_
                  refine WL.p rfl rfl rfl rfl ?_
                  refine WL.p rfl rfl rfl rfl ?_
                  refine WL.p rfl rfl rfl rfl ?_
                  refine WL.p rfl rfl rfl rfl ?_
                  refine WL.va rfl rfl rfl (X.pickF rfl rfl rfl) ?_
                  refine WL.va rfl rfl rfl (X.moveB rfl) ?_
                  refine WL.p rfl rfl rfl rfl ?_
                  refine WL.p rfl rfl rfl rfl ?_
                  refine WL.p rfl rfl rfl rfl ?_
                  refine WL.p rfl rfl rfl rfl ?_
                  refine WL.va rfl rfl rfl (X.pickF rfl rfl rfl) ?_
                  refine WL.va rfl rfl rfl (X.assignB rfl) ?_
                  refine WL.nil ?_
                  refine thn_n ?_
                  exact ⟨(by first | exact congrArg Value.bool hf.symm | exact congrArg Value.bool (ins_last z0 z1 z2)), (by repeat (first | exact (Agree.refl _ F52) | refine Agree.put ?_ rfl | refine Agree.sub hAL1 rfl ?_ | refine Agree.sub hAL0 rfl ?_ | refine Agree.named hF53 ?_ | refine Agree.named hF47 ?_ | refine Agree.named hF26 ?_)), rfl⟩
              · rintro fCr18 wCr18 ⟨e14_Cr18, hACr18, rfl⟩
                refine WF.seq ?_
                refine WF.region ?_
                refine WL.va rfl rfl rfl (X.moveB ((hACr18.eq 13).trans (congrFun hF53 13))) ?_
                refine WL.va rfl rfl rfl (X.moveB e14_Cr18) ?_
                refine WL.va rfl rfl rfl (X.neqB rfl rfl Try.underlying4) ?_
                refine WL.va rfl rfl rfl (X.moveB rfl) ?_
                refine WL.split (j := 3) rfl (fun h70 => ?_) (fun h70 => ?_)
                · have gh70 := h70
                  exact absurd gh70 (by rw [hks]; simp)
                · have gh70 := h70
                  refine WL.vg rfl (congrArg some h70) rfl rfl (X.moveB ((hACr18.eq 13).trans (congrFun hF53 13))) ?_
                  refine WL.vg rfl (congrArg some h70) rfl rfl (X.moveB rfl) ?_
                  refine WL.split (j := 5) rfl (fun h71 => ?_) (fun h71 => ?_)
                  · have gh71 := h71
                    have hkv : kepO K no z = some (getB l z) := by rw [hko, if_pos (by rw [← hks]; exact gh71)]
                    refine WL.vg rfl (congrArg some h71) rfl rfl (X.move ((hACr18.eq 12).trans (congrFun hF53 12))) ?_
                    refine WL.vg rfl (congrArg some h71) rfl rfl (X.move ((hACr18.eq 0).trans ((congrFun hF53 0).trans ((hAL1.eq 0).trans ((congrFun hF47 0).trans ((hAL0.eq 0).trans (congrFun hF26 0))))))) ?_
                    refine WL.vg rfl (congrArg some h71) rfl rfl (X.moveI ((hACr18.eq 11).trans ((congrFun hF53 11).trans e11_L1))) ?_
                    refine WL.cg rfl (congrArg some h71) rfl rfl (X.call Try.call25 (evl_cons rfl (evl_cons rfl evl_nil))) (get_ok _ l z _ (hl.ext (Ext.trans (Ext.trans (Ext.trans (Ext.trans (Ext.trans (Ext.trans hx3 hx8) (Ext.store hx18 hx22 (by omega))) hx24) hwL0) hwL1) hx50)) hr) ?_
                    rintro v72 wgz ⟨og, hx73⟩
                    have := World.grownBy.size hx73
                    refine WL.cg rfl (congrArg some h71) rfl rfl (X.call Try.call20 (evl_cons rfl (evl_cons rfl evl_nil))) (sameBytes_ok _ _ ((kepO K no z).getD []) (getB l z) _ (Row.ext (Bytes.of_own ob) hx73) (Row.ext (Bytes.of_own og) (Ext.refl wgz))) ?_
                    rintro v75 w74 ⟨rfl, hx76⟩
                    have := World.grownBy.size hx76
                    refine WL.vg rfl (congrArg some h71) rfl rfl (X.not rfl) ?_
                    refine WL.vg rfl (congrArg some h70) rfl rfl (X.pickT rfl h71 rfl) ?_
                    refine WL.va rfl rfl rfl (X.pickF rfl h70 rfl) ?_
                    refine WL.va rfl rfl rfl (X.moveB rfl) ?_
                    refine WL.split (j := 14) rfl (fun h79 => ?_) (fun h79 => ?_)
                    · have gh79 := (of_decide_eq_false (nt h79))
                      exact absurd (by rw [hkv]; rfl) gh79
                    · have gh79 := (of_decide_eq_true (nf h79))
                      refine WL.vg rfl (congrArg some h79) rfl rfl (X.moveB ((hACr18.eq 13).trans (congrFun hF53 13))) ?_
                      refine WL.vg rfl (congrArg some h79) rfl rfl (X.not rfl) ?_
                      refine WL.vg rfl (congrArg some h79) rfl rfl (X.moveB rfl) ?_
                      refine WL.p rfl rfl rfl (congrArg some (congrArg (fun z => !z) h71)) ?_
                      refine WL.p rfl rfl rfl (congrArg some (congrArg (fun z => !z) h71)) ?_
                      refine WL.p rfl rfl rfl (congrArg some (congrArg (fun z => !z) h71)) ?_
                      refine WL.vg rfl (congrArg some h79) rfl rfl (X.pickF rfl (congrArg (fun z => !z) h71) rfl) ?_
                      refine WL.va rfl rfl rfl (X.pickF rfl h79 rfl) ?_
                      refine WL.nil ?_
                      refine thn_n ?_
                      refine WF.cond_f rfl ?_
                      refine WF.skip ?_
                      refine blk_n ?_
                      refine thn_n ?_
                      refine WF.region ?_
                      refine WL.va rfl rfl rfl (X.moveI ((hACr18.eq 11).trans ((congrFun hF53 11).trans e11_L1))) ?_
                      refine WL.va rfl rfl rfl (X.add rfl rfl (w64 (by omega))) ?_
                      refine WL.va rfl rfl rfl (X.assignI rfl) ?_
                      refine WL.nil ?_
                      exact thn_n ⟨_, (by omega), z + 1, rfl, rfl, (by repeat (first | exact hAL1 | refine Agree.put ?_ rfl | refine Agree.sub hACr18 rfl ?_ | refine Agree.sub hAL0 rfl ?_ | refine Agree.named hF53 ?_ | refine Agree.named hF47 ?_ | refine Agree.named hF26 ?_)), (Ext.trans (Ext.trans (Ext.trans hwL1 hx50) hx73) hx76), (by omega)⟩
                  · have gh71 := h71
                    have hko0 : kepO K no z = none := by rw [hko, if_neg (by rw [← hks, gh71]; simp)]
                    refine WL.p rfl rfl rfl (congrArg some h71) ?_
                    refine WL.p rfl rfl rfl (congrArg some h71) ?_
                    refine WL.p rfl rfl rfl (congrArg some h71) ?_
                    refine WL.p rfl rfl rfl (congrArg some h71) ?_
                    refine WL.p rfl rfl rfl (congrArg some h71) ?_
                    refine WL.p rfl rfl rfl (congrArg some h71) ?_
                    refine WL.vg rfl (congrArg some h70) rfl rfl (X.pickF rfl h71 rfl) ?_
                    refine WL.va rfl rfl rfl (X.pickF rfl h70 rfl) ?_
                    refine WL.va rfl rfl rfl (X.moveB rfl) ?_
                    refine WL.vg rfl rfl rfl rfl (X.moveB ((hACr18.eq 13).trans (congrFun hF53 13))) ?_
                    refine WL.vg rfl rfl rfl rfl (X.not rfl) ?_
                    refine WL.vg rfl rfl rfl rfl (X.moveB rfl) ?_
                    refine WL.vg rfl (congrArg some (congrArg (fun z => !z) h71)) rfl rfl (X.move ((hACr18.eq 12).trans (congrFun hF53 12))) ?_
                    refine WL.vg rfl (congrArg some (congrArg (fun z => !z) h71)) rfl rfl (X.len (Bytes.of_own ob) rfl Try.underlying34) ?_
                    refine WL.vg rfl (congrArg some (congrArg (fun z => !z) h71)) rfl rfl (X.gtr rfl rfl) ?_
                    refine WL.vg rfl rfl rfl rfl (X.pickT rfl (congrArg (fun z => !z) h71) rfl) ?_
                    refine WL.va rfl rfl rfl (X.pickF rfl rfl rfl) ?_
                    refine WL.nil ?_
                    refine thn_n ?_
                    refine WF.cond rfl (fun h5_84 => ?_) (fun h5_84 => ?_)
                    · have gh5_84 := (of_decide_eq_true h5_84)
                      exact absurd gh5_84 (by rw [hko0]; simp)
                    · have gh5_84 := (of_decide_eq_false h5_84)
                      refine WF.skip ?_
                      refine blk_n ?_
                      refine thn_n ?_
                      refine WF.region ?_
                      refine WL.va rfl rfl rfl (X.moveI ((hACr18.eq 11).trans ((congrFun hF53 11).trans e11_L1))) ?_
                      refine WL.va rfl rfl rfl (X.add rfl rfl (w64 (by omega))) ?_
                      refine WL.va rfl rfl rfl (X.assignI rfl) ?_
                      refine WL.nil ?_
                      exact thn_n ⟨_, (by omega), z + 1, rfl, rfl, (by repeat (first | exact hAL1 | refine Agree.put ?_ rfl | refine Agree.sub hACr18 rfl ?_ | refine Agree.sub hAL0 rfl ?_ | refine Agree.named hF53 ?_ | refine Agree.named hF47 ?_ | refine Agree.named hF26 ?_)), (Ext.trans hwL1 hx50), (by omega)⟩
            · have gh4_48 := (of_decide_eq_false h4_48)
              refine WF.exit ?_
              refine thn_x ?_
              refine thn_x ?_
              refine blk_eq ?_
              refine thn_n ?_
              refine WF.seq ?_
              refine WF.region ?_
              refine WL.va rfl rfl rfl (X.move ((hAL1.eq 8).trans ((congrFun hF47 8).trans e8_L0))) ?_
              refine WL.c rfl rfl rfl (X.call Try.call11 (evl_cons rfl evl_nil)) (rightK_ok _ K _ (sK.ext hwL1)) ?_
              rintro v87 w86 ⟨rfl, hx88⟩
              have := World.grownBy.size hx88
              refine WL.va rfl rfl rfl (X.moveB rfl) ?_
              refine WL.split (j := 2) rfl (fun h90 => ?_) (fun h90 => ?_)
              · have gh90 := h90
                refine WL.cg rfl (congrArg some h90) rfl rfl (X.call Try.call12 evl_nil) (known_ok _) ?_
                rintro v92 w91 ⟨rfl, hx93⟩
                have := World.grownBy.size hx93
                refine WL.va rfl rfl rfl (X.pickT rfl h90 rfl) ?_
                refine WL.va rfl rfl rfl (X.assignB rfl) ?_
                refine WL.nil ?_
                refine thn_n ?_
                refine WF.ret ?_
                refine fin_r ?_
                first | exact ⟨rfl, (Ext.trans (Ext.trans (Ext.trans (Ext.trans (Ext.trans (Ext.trans (Ext.trans hx3 hx8) (Ext.store hx18 hx22 (by omega))) hx24) hwL0) hwL1) hx88) hx93)⟩ | exact ⟨congrArg Value.bool (decide_eq_true rfl), (Ext.trans (Ext.trans (Ext.trans (Ext.trans (Ext.trans (Ext.trans (Ext.trans hx3 hx8) (Ext.store hx18 hx22 (by omega))) hx24) hwL0) hwL1) hx88) hx93)⟩
              · have gh90 := h90
                exact absurd (right5_iff.2 ⟨by omega, hrK⟩) (by rw [gh90]; simp)
      · have gh28 := (of_decide_eq_false h28)
        refine WL.p rfl rfl rfl (congrArg some h28) ?_
        refine WL.p rfl rfl rfl (congrArg some h28) ?_
        refine WL.va rfl rfl rfl (X.pickF rfl h28 rfl) ?_
        refine WL.nil ?_
        refine thn_n ?_
        refine WF.cond_f rfl ?_
        refine WF.exit ?_
        refine thn_x ?_
        refine thn_x ?_
        refine blk_eq ?_
        refine thn_n ?_
        refine WF.seq ?_
        refine WF.seq ?_
        refine WF.region ?_
        refine WL.va rfl rfl rfl (X.assignI rfl) ?_
        refine WL.nil ?_
        refine thn_n ?_
        refine WF.block ?_
        refine WF.named (fun F96 hF97 => ?_)
        refine WF.loopN (fun mL1 f' w' => ∃ (z : Int), mL1 = (65 - z).toNat ∧ f' 11 = .int .i64 z ∧ Agree [0, 1, 2, 4, 7, 8, 9, 10, 15, 16, 17, 19, 20, 21, 22, 23, 24, 25, 26, 27, 28, 29, 30, 31, 32, 33, 34, 35, 36, 37] f' F96 ∧ Ext wL0 w' ∧ -1 ≤ z ∧ z ≤ 65) ?_ ?_
        · exact ⟨_, -1, rfl, (congrFun hF97 11), (Agree.refl _ _), (Ext.refl _), (by omega)⟩
        · rintro mL1 fL1 wL1 ⟨z, hmL1, e11_L1, hAL1, hwL1, ⟨hz1, hz2⟩⟩
          have := World.grownBy.size hwL1
          refine WF.seq ?_
          refine WF.seq ?_
          refine WF.region ?_
          refine WL.va rfl rfl rfl (X.moveI e11_L1) ?_
          refine WL.va rfl rfl rfl (X.leq rfl rfl) ?_
          refine WL.nil ?_
          refine thn_n ?_
          refine WF.cond rfl (fun h4_98 => ?_) (fun h4_98 => ?_)
          · have gh4_98 := (of_decide_eq_true h4_98)
            refine WF.skip ?_
            refine thn_n ?_
            refine WF.seq ?_
            refine WF.block ?_
            refine WF.seq ?_
            refine WF.region ?_
            refine WL.va rfl rfl rfl (X.move ((hAL1.eq 8).trans ((congrFun hF97 8).trans e8_L0))) ?_
            refine WL.va rfl rfl rfl (X.fieldAddrO (off := 0) ((hAL1.eq 4).trans ((congrFun hF97 4).trans ((hAL0.eq 4).trans (congrFun hF26 4)))) Try.underlying24 rfl rfl Try.sizeOf3) ?_
            refine WL.va rfl rfl rfl (X.loadO hO4 (Ext.trans (Ext.trans hx24 hwL0) hwL1) rfl rfl Try.isAgg3) ?_
            refine WL.va rfl rfl rfl (X.moveI e11_L1) ?_
            refine WL.c rfl rfl rfl (X.call Try.call17 (evl_cons rfl (evl_cons rfl (evl_cons rfl evl_nil)))) (kept_ok _ K no z _ (sK.ext hwL1) hrK.sort (rightK_dat hrK)) ?_
            rintro tk wk ⟨⟨db, rfl, ob⟩, hx100⟩
            have := World.grownBy.size hx100
            have hko : kepO K no z = if insB lo hi z = true then some (getB l z) else none := by rw [hK0, keep_ins]
            have hks : hasK K no z = insB lo hi z := by rw [has_some hrK.sort, hko]; cases insB lo hi z <;> rfl
            refine WL.va rfl rfl rfl (X.move rfl) ?_
            refine WL.va rfl rfl rfl (X.extract rfl rfl) ?_
            refine WL.va rfl rfl rfl (X.extract rfl rfl) ?_
            refine WL.va rfl rfl rfl (X.assign rfl) ?_
            refine WL.va rfl rfl rfl (X.assignB rfl) ?_
            refine WL.nil ?_
            refine thn_n ?_
            refine WF.named (fun F102 hF103 => ?_)
            refine WF.cut (fun f' w' => f' 14 = .bool (insB lo hi z) ∧ Agree [0, 1, 2, 4, 7, 8, 9, 10, 11, 12, 13, 15, 16, 17, 19, 20, 21, 22, 23, 24, 25, 26, 27, 28, 29, 30, 31, 32, 33, 34, 35, 36, 37, 87, 88, 91, 92, 93, 94, 95, 96, 97, 98] f' F102 ∧ wk = w') ?_ ?_
            · refine WF.region ?_
              refine WL.va rfl rfl rfl (X.moveI ((congrFun hF103 11).trans e11_L1)) ?_
              refine WL.va rfl rfl rfl (X.geq rfl rfl) ?_
              refine WL.va rfl rfl rfl (X.moveB rfl) ?_
              refine WL.split (j := 2) rfl (fun h105 => ?_) (fun h105 => ?_)
              · have gh105 := (of_decide_eq_true h105)
                have z0 := gh105
                refine WL.vg rfl (congrArg some h105) rfl rfl (X.moveI ((congrFun hF103 11).trans e11_L1)) ?_
                refine WL.vg rfl (congrArg some h105) rfl rfl (X.lss rfl rfl) ?_
                refine WL.va rfl rfl rfl (X.pickT rfl h105 rfl) ?_
                refine WL.va rfl rfl rfl (X.moveB rfl) ?_
                refine WL.split (j := 6) rfl (fun h107 => ?_) (fun h107 => ?_)
                · have gh107 := (of_decide_eq_true h107)
                  have z1 := gh107
                  refine WL.vg rfl (congrArg some h107) rfl rfl (X.moveI ((congrFun hF103 11).trans e11_L1)) ?_
                  refine WL.vg rfl (congrArg some h107) rfl rfl (X.fieldAddrO (off := 1) ((congrFun hF103 4).trans ((hAL1.eq 4).trans ((congrFun hF97 4).trans ((hAL0.eq 4).trans (congrFun hF26 4))))) Try.underlying24 rfl rfl Try.sizeOf3) ?_
                  refine WL.vg rfl (congrArg some h107) rfl rfl (X.loadO hO4 (Ext.trans (Ext.trans (Ext.trans hx24 hwL0) hwL1) hx100) rfl rfl Try.isAgg3) ?_
                  refine WL.vg rfl (congrArg some h107) rfl rfl (X.geq rfl rfl) ?_
                  refine WL.va rfl rfl rfl (X.pickT rfl h107 rfl) ?_
                  refine WL.va rfl rfl rfl (X.moveB rfl) ?_
                  refine WL.split (j := 12) rfl (fun h109 => ?_) (fun h109 => ?_)
                  · have gh109 := (of_decide_eq_true h109)
                    have z2 := gh109
                    refine WL.vg rfl (congrArg some h109) rfl rfl (X.moveI ((congrFun hF103 11).trans e11_L1)) ?_
                    refine WL.vg rfl (congrArg some h109) rfl rfl (X.fieldAddrO (off := 2) ((congrFun hF103 4).trans ((hAL1.eq 4).trans ((congrFun hF97 4).trans ((hAL0.eq 4).trans (congrFun hF26 4))))) Try.underlying24 rfl rfl Try.sizeOf3) ?_
                    refine WL.vg rfl (congrArg some h109) rfl rfl (X.loadO hO4 (Ext.trans (Ext.trans (Ext.trans hx24 hwL0) hwL1) hx100) rfl rfl Try.isAgg3) ?_
                    refine WL.vg rfl (congrArg some h109) rfl rfl (X.lss rfl rfl) ?_
                    refine WL.va rfl rfl rfl (X.pickT rfl h109 rfl) ?_
                    refine WL.va rfl rfl rfl (X.assignB rfl) ?_
                    refine WL.nil ?_
                    refine thn_n ?_
                    exact ⟨(by first | exact congrArg Value.bool hf.symm | exact congrArg Value.bool (ins_last z0 z1 z2)), (by repeat (first | exact (Agree.refl _ F102) | refine Agree.put ?_ rfl | refine Agree.sub hAL1 rfl ?_ | refine Agree.sub hAL0 rfl ?_ | refine Agree.named hF103 ?_ | refine Agree.named hF97 ?_ | refine Agree.named hF26 ?_)), rfl⟩
                  · have gh109 := (of_decide_eq_false h109)
                    have hf : insB lo hi z = false := by unfold insB; rw [decide_eq_false_iff_not]; omega
                    refine WL.p rfl rfl rfl (congrArg some h109) ?_
                    refine WL.p rfl rfl rfl (congrArg some h109) ?_
                    refine WL.p rfl rfl rfl (congrArg some h109) ?_
                    refine WL.p rfl rfl rfl (congrArg some h109) ?_
                    refine WL.va rfl rfl rfl (X.pickF rfl h109 rfl) ?_
                    refine WL.va rfl rfl rfl (X.assignB rfl) ?_
                    refine WL.nil ?_
                    refine thn_n ?_
                    exact ⟨(by first | exact congrArg Value.bool hf.symm | exact congrArg Value.bool (ins_last z0 z1 z2)), (by repeat (first | exact (Agree.refl _ F102) | refine Agree.put ?_ rfl | refine Agree.sub hAL1 rfl ?_ | refine Agree.sub hAL0 rfl ?_ | refine Agree.named hF103 ?_ | refine Agree.named hF97 ?_ | refine Agree.named hF26 ?_)), rfl⟩
                · have gh107 := (of_decide_eq_false h107)
                  have hf : insB lo hi z = false := by unfold insB; rw [decide_eq_false_iff_not]; omega
                  refine WL.p rfl rfl rfl (congrArg some h107) ?_
                  refine WL.p rfl rfl rfl (congrArg some h107) ?_
                  refine WL.p rfl rfl rfl (congrArg some h107) ?_
                  refine WL.p rfl rfl rfl (congrArg some h107) ?_
                  refine WL.va rfl rfl rfl (X.pickF rfl h107 rfl) ?_
                  refine WL.va rfl rfl rfl (X.moveB rfl) ?_
                  refine WL.p rfl rfl rfl rfl ?_
                  refine WL.p rfl rfl rfl rfl ?_
                  refine WL.p rfl rfl rfl rfl ?_
                  refine WL.p rfl rfl rfl rfl ?_
                  refine WL.va rfl rfl rfl (X.pickF rfl rfl rfl) ?_
                  refine WL.va rfl rfl rfl (X.assignB rfl) ?_
                  refine WL.nil ?_
                  refine thn_n ?_
                  exact ⟨(by first | exact congrArg Value.bool hf.symm | exact congrArg Value.bool (ins_last z0 z1 z2)), (by repeat (first | exact (Agree.refl _ F102) | refine Agree.put ?_ rfl | refine Agree.sub hAL1 rfl ?_ | refine Agree.sub hAL0 rfl ?_ | refine Agree.named hF103 ?_ | refine Agree.named hF97 ?_ | refine Agree.named hF26 ?_)), rfl⟩
              · have gh105 := (of_decide_eq_false h105)
                have hf : insB lo hi z = false := by unfold insB; rw [decide_eq_false_iff_not]; omega
                refine WL.p rfl rfl rfl (congrArg some h105) ?_
                refine WL.p rfl rfl rfl (congrArg some h105) ?_
                refine WL.va rfl rfl rfl (X.pickF rfl h105 rfl) ?_
                refine WL.va rfl rfl rfl (X.moveB rfl) ?_
                refine WL.p rfl rfl rfl rfl ?_
                refine WL.p rfl rfl rfl rfl ?_
                refine WL.p rfl rfl rfl rfl ?_
                refine WL.p rfl rfl rfl rfl ?_
                refine WL.va rfl rfl rfl (X.pickF rfl rfl rfl) ?_
                refine WL.va rfl rfl rfl (X.moveB rfl) ?_
                refine WL.p rfl rfl rfl rfl ?_
                refine WL.p rfl rfl rfl rfl ?_
                refine WL.p rfl rfl rfl rfl ?_
                refine WL.p rfl rfl rfl rfl ?_
                refine WL.va rfl rfl rfl (X.pickF rfl rfl rfl) ?_
                refine WL.va rfl rfl rfl (X.assignB rfl) ?_
                refine WL.nil ?_
                refine thn_n ?_
                exact ⟨(by first | exact congrArg Value.bool hf.symm | exact congrArg Value.bool (ins_last z0 z1 z2)), (by repeat (first | exact (Agree.refl _ F102) | refine Agree.put ?_ rfl | refine Agree.sub hAL1 rfl ?_ | refine Agree.sub hAL0 rfl ?_ | refine Agree.named hF103 ?_ | refine Agree.named hF97 ?_ | refine Agree.named hF26 ?_)), rfl⟩
            · rintro fCr18 wCr18 ⟨e14_Cr18, hACr18, rfl⟩
              refine WF.seq ?_
              refine WF.region ?_
              refine WL.va rfl rfl rfl (X.moveB ((hACr18.eq 13).trans (congrFun hF103 13))) ?_
              refine WL.va rfl rfl rfl (X.moveB e14_Cr18) ?_
              refine WL.va rfl rfl rfl (X.neqB rfl rfl Try.underlying4) ?_
              refine WL.va rfl rfl rfl (X.moveB rfl) ?_
              refine WL.split (j := 3) rfl (fun h119 => ?_) (fun h119 => ?_)
              · have gh119 := h119
                exact absurd gh119 (by rw [hks]; simp)
              · have gh119 := h119
                refine WL.vg rfl (congrArg some h119) rfl rfl (X.moveB ((hACr18.eq 13).trans (congrFun hF103 13))) ?_
                refine WL.vg rfl (congrArg some h119) rfl rfl (X.moveB rfl) ?_
                refine WL.split (j := 5) rfl (fun h120 => ?_) (fun h120 => ?_)
                · have gh120 := h120
                  have hkv : kepO K no z = some (getB l z) := by rw [hko, if_pos (by rw [← hks]; exact gh120)]
                  refine WL.vg rfl (congrArg some h120) rfl rfl (X.move ((hACr18.eq 12).trans (congrFun hF103 12))) ?_
                  refine WL.vg rfl (congrArg some h120) rfl rfl (X.move ((hACr18.eq 0).trans ((congrFun hF103 0).trans ((hAL1.eq 0).trans ((congrFun hF97 0).trans ((hAL0.eq 0).trans (congrFun hF26 0))))))) ?_
                  refine WL.vg rfl (congrArg some h120) rfl rfl (X.moveI ((hACr18.eq 11).trans ((congrFun hF103 11).trans e11_L1))) ?_
                  refine WL.cg rfl (congrArg some h120) rfl rfl (X.call Try.call25 (evl_cons rfl (evl_cons rfl evl_nil))) (get_ok _ l z _ (hl.ext (Ext.trans (Ext.trans (Ext.trans (Ext.trans (Ext.trans (Ext.trans hx3 hx8) (Ext.store hx18 hx22 (by omega))) hx24) hwL0) hwL1) hx100)) hr) ?_
                  rintro v121 wgz ⟨og, hx122⟩
                  have := World.grownBy.size hx122
                  refine WL.cg rfl (congrArg some h120) rfl rfl (X.call Try.call20 (evl_cons rfl (evl_cons rfl evl_nil))) (sameBytes_ok _ _ ((kepO K no z).getD []) (getB l z) _ (Row.ext (Bytes.of_own ob) hx122) (Row.ext (Bytes.of_own og) (Ext.refl wgz))) ?_
                  rintro v124 w123 ⟨rfl, hx125⟩
                  have := World.grownBy.size hx125
                  refine WL.vg rfl (congrArg some h120) rfl rfl (X.not rfl) ?_
                  refine WL.vg rfl (congrArg some h119) rfl rfl (X.pickT rfl h120 rfl) ?_
                  refine WL.va rfl rfl rfl (X.pickF rfl h119 rfl) ?_
                  refine WL.va rfl rfl rfl (X.moveB rfl) ?_
                  refine WL.split (j := 14) rfl (fun h128 => ?_) (fun h128 => ?_)
                  · have gh128 := (of_decide_eq_false (nt h128))
                    exact absurd (by rw [hkv]; rfl) gh128
                  · have gh128 := (of_decide_eq_true (nf h128))
                    refine WL.vg rfl (congrArg some h128) rfl rfl (X.moveB ((hACr18.eq 13).trans (congrFun hF103 13))) ?_
                    refine WL.vg rfl (congrArg some h128) rfl rfl (X.not rfl) ?_
                    refine WL.vg rfl (congrArg some h128) rfl rfl (X.moveB rfl) ?_
                    refine WL.p rfl rfl rfl (congrArg some (congrArg (fun z => !z) h120)) ?_
                    refine WL.p rfl rfl rfl (congrArg some (congrArg (fun z => !z) h120)) ?_
                    refine WL.p rfl rfl rfl (congrArg some (congrArg (fun z => !z) h120)) ?_
                    refine WL.vg rfl (congrArg some h128) rfl rfl (X.pickF rfl (congrArg (fun z => !z) h120) rfl) ?_
                    refine WL.va rfl rfl rfl (X.pickF rfl h128 rfl) ?_
                    refine WL.nil ?_
                    refine thn_n ?_
                    refine WF.cond_f rfl ?_
                    refine WF.skip ?_
                    refine blk_n ?_
                    refine thn_n ?_
                    refine WF.region ?_
                    refine WL.va rfl rfl rfl (X.moveI ((hACr18.eq 11).trans ((congrFun hF103 11).trans e11_L1))) ?_
                    refine WL.va rfl rfl rfl (X.add rfl rfl (w64 (by omega))) ?_
                    refine WL.va rfl rfl rfl (X.assignI rfl) ?_
                    refine WL.nil ?_
                    exact thn_n ⟨_, (by omega), z + 1, rfl, rfl, (by repeat (first | exact hAL1 | refine Agree.put ?_ rfl | refine Agree.sub hACr18 rfl ?_ | refine Agree.sub hAL0 rfl ?_ | refine Agree.named hF103 ?_ | refine Agree.named hF97 ?_ | refine Agree.named hF26 ?_)), (Ext.trans (Ext.trans (Ext.trans hwL1 hx100) hx122) hx125), (by omega)⟩
                · have gh120 := h120
                  have hko0 : kepO K no z = none := by rw [hko, if_neg (by rw [← hks, gh120]; simp)]
                  refine WL.p rfl rfl rfl (congrArg some h120) ?_
                  refine WL.p rfl rfl rfl (congrArg some h120) ?_
                  refine WL.p rfl rfl rfl (congrArg some h120) ?_
                  refine WL.p rfl rfl rfl (congrArg some h120) ?_
                  refine WL.p rfl rfl rfl (congrArg some h120) ?_
                  refine WL.p rfl rfl rfl (congrArg some h120) ?_
                  refine WL.vg rfl (congrArg some h119) rfl rfl (X.pickF rfl h120 rfl) ?_
                  refine WL.va rfl rfl rfl (X.pickF rfl h119 rfl) ?_
                  refine WL.va rfl rfl rfl (X.moveB rfl) ?_
                  refine WL.vg rfl rfl rfl rfl (X.moveB ((hACr18.eq 13).trans (congrFun hF103 13))) ?_
                  refine WL.vg rfl rfl rfl rfl (X.not rfl) ?_
                  refine WL.vg rfl rfl rfl rfl (X.moveB rfl) ?_
                  refine WL.vg rfl (congrArg some (congrArg (fun z => !z) h120)) rfl rfl (X.move ((hACr18.eq 12).trans (congrFun hF103 12))) ?_
                  refine WL.vg rfl (congrArg some (congrArg (fun z => !z) h120)) rfl rfl (X.len (Bytes.of_own ob) rfl Try.underlying34) ?_
                  refine WL.vg rfl (congrArg some (congrArg (fun z => !z) h120)) rfl rfl (X.gtr rfl rfl) ?_
                  refine WL.vg rfl rfl rfl rfl (X.pickT rfl (congrArg (fun z => !z) h120) rfl) ?_
                  refine WL.va rfl rfl rfl (X.pickF rfl rfl rfl) ?_
                  refine WL.nil ?_
                  refine thn_n ?_
                  refine WF.cond rfl (fun h5_133 => ?_) (fun h5_133 => ?_)
                  · have gh5_133 := (of_decide_eq_true h5_133)
                    exact absurd gh5_133 (by rw [hko0]; simp)
                  · have gh5_133 := (of_decide_eq_false h5_133)
                    refine WF.skip ?_
                    refine blk_n ?_
                    refine thn_n ?_
                    refine WF.region ?_
                    refine WL.va rfl rfl rfl (X.moveI ((hACr18.eq 11).trans ((congrFun hF103 11).trans e11_L1))) ?_
                    refine WL.va rfl rfl rfl (X.add rfl rfl (w64 (by omega))) ?_
                    refine WL.va rfl rfl rfl (X.assignI rfl) ?_
                    refine WL.nil ?_
                    exact thn_n ⟨_, (by omega), z + 1, rfl, rfl, (by repeat (first | exact hAL1 | refine Agree.put ?_ rfl | refine Agree.sub hACr18 rfl ?_ | refine Agree.sub hAL0 rfl ?_ | refine Agree.named hF103 ?_ | refine Agree.named hF97 ?_ | refine Agree.named hF26 ?_)), (Ext.trans hwL1 hx100), (by omega)⟩
          · have gh4_98 := (of_decide_eq_false h4_98)
            refine WF.exit ?_
            refine thn_x ?_
            refine thn_x ?_
            refine blk_eq ?_
            refine thn_n ?_
            refine WF.seq ?_
            refine WF.region ?_
            refine WL.va rfl rfl rfl (X.move ((hAL1.eq 8).trans ((congrFun hF97 8).trans e8_L0))) ?_
            refine WL.c rfl rfl rfl (X.call Try.call11 (evl_cons rfl evl_nil)) (rightK_ok _ K _ (sK.ext hwL1)) ?_
            rintro v136 w135 ⟨rfl, hx137⟩
            have := World.grownBy.size hx137
            refine WL.va rfl rfl rfl (X.moveB rfl) ?_
            refine WL.split (j := 2) rfl (fun h139 => ?_) (fun h139 => ?_)
            · have gh139 := h139
              refine WL.cg rfl (congrArg some h139) rfl rfl (X.call Try.call12 evl_nil) (known_ok _) ?_
              rintro v141 w140 ⟨rfl, hx142⟩
              have := World.grownBy.size hx142
              refine WL.va rfl rfl rfl (X.pickT rfl h139 rfl) ?_
              refine WL.va rfl rfl rfl (X.assignB rfl) ?_
              refine WL.nil ?_
              refine thn_n ?_
              refine WF.ret ?_
              refine fin_r ?_
              first | exact ⟨rfl, (Ext.trans (Ext.trans (Ext.trans (Ext.trans (Ext.trans (Ext.trans (Ext.trans hx3 hx8) (Ext.store hx18 hx22 (by omega))) hx24) hwL0) hwL1) hx137) hx142)⟩ | exact ⟨congrArg Value.bool (decide_eq_true rfl), (Ext.trans (Ext.trans (Ext.trans (Ext.trans (Ext.trans (Ext.trans (Ext.trans hx3 hx8) (Ext.store hx18 hx22 (by omega))) hx24) hwL0) hwL1) hx137) hx142)⟩
            · have gh139 := h139
              exact absurd (right5_iff.2 ⟨by omega, hrK⟩) (by rw [gh139]; simp)

set_option maxHeartbeats 8000000 in
theorem blocksKnown_walk (w : World) : FnOk Try.prog 8 [] w (fun r w' => r = .bool true ∧ Ext w w') := by
  have hel : ends.length = 8 := rfl
  have hnl : n3.length = 3 := rfl
  refine FnOk.enter (rs := [0]) Try.func8 rfl Try.ntmps8 Try.results8 rfl rfl ?_
  refine WF.seq ?_
  refine WF.region ?_
  refine WL.va rfl rfl rfl (X.assignB rfl) ?_
  refine WL.nil ?_
  refine thn_n ?_
  refine WF.seq ?_
  refine WF.region ?_
  refine WL.op rfl (OW.lits (vs := [u8 1, u8 2, u8 3, u8 4]) (evp_cons rfl (evp_cons rfl (evp_cons rfl (evp_cons rfl evp_nil)))) Try.underlying34 Try.sizeOf5 Try.zeroValue5 ⟨rfl, rfl, rfl, rfl, trivial⟩ rfl rfl rfl ?_ (by decide))
  intro vf wv ho3 hx2
  have bf : Bytes wv vf four := Row.of_own ho3
  have b3 : Bytes wv (Kf.part vf 0 3 1) [1, 2, 3] := Bytes.part bf 0 3 (by omega) (by decide)
  refine WL.va rfl rfl rfl (X.assign rfl) ?_
  refine WL.nil ?_
  refine thn_n ?_
  refine WF.seq ?_
  refine WF.seq ?_
  refine WF.region ?_
  refine WL.va rfl rfl rfl (X.move rfl) ?_
  refine WL.c rfl rfl rfl (X.call Try.call24 (evl_cons rfl (evl_cons rfl (evl_cons rfl evl_nil)))) (set_ok _ [] (64) _ four _ (Bls.nil _) RightB.nil (Row.ext bf (Ext.refl wv))) ?_
  rintro v5 w4 ⟨⟨F0, hF0, oF0⟩, hx6⟩
  have hlF0 : F0.length = 0 := by have h := congrArg List.length (hF0.trans (show setB [] (64) four = _ from rfl)); rw [List.length_map] at h; rw [h]; decide
  refine WL.va rfl rfl rfl (X.len oF0.srow rfl Try.underlying25) ?_
  refine WL.va rfl rfl rfl (X.neq rfl rfl) ?_
  refine WL.va rfl rfl rfl (X.moveB rfl) ?_
  refine WL.split (j := 4) rfl (fun h8 => ?_) (fun h8 => ?_)
  · have gh8 := (of_decide_eq_true h8)
    exact absurd (by rw [hlF0]; rfl) gh8
  · have gh8 := (Decidable.of_not_not (of_decide_eq_false h8))
    refine WL.vg rfl (congrArg some h8) rfl rfl (X.move rfl) ?_
    refine WL.cg rfl (congrArg some h8) rfl rfl (X.call Try.call24 (evl_cons rfl (evl_cons rfl (evl_cons rfl evl_nil)))) (set_ok _ [] (-1) _ four _ (Bls.nil _) RightB.nil (Row.ext bf hx6)) ?_
    rintro v10 w9 ⟨⟨F1, hF1, oF1⟩, hx11⟩
    have hlF1 : F1.length = 0 := by have h := congrArg List.length (hF1.trans (show setB [] (-1) four = _ from rfl)); rw [List.length_map] at h; rw [h]; decide
    refine WL.vg rfl (congrArg some h8) rfl rfl (X.len oF1.srow rfl Try.underlying25) ?_
    refine WL.vg rfl (congrArg some h8) rfl rfl (X.neq rfl rfl) ?_
    refine WL.va rfl rfl rfl (X.pickF rfl h8 rfl) ?_
    refine WL.va rfl rfl rfl (X.moveB rfl) ?_
    refine WL.split (j := 10) rfl (fun h13 => ?_) (fun h13 => ?_)
    · have gh13 := (of_decide_eq_true h13)
      exact absurd (by rw [hlF1]; rfl) gh13
    · have gh13 := (Decidable.of_not_not (of_decide_eq_false h13))
      refine WL.vg rfl (congrArg some h13) rfl rfl (X.move rfl) ?_
      refine WL.vg rfl (congrArg some h13) rfl rfl (X.slH (show Bytes _ _ [1, 2, 3, 4] from Row.of_own ho3) rfl rfl (by decide) Try.underlying34 Try.sizeOf5) ?_
      refine WL.cg rfl (congrArg some h13) rfl rfl (X.call Try.call24 (evl_cons rfl (evl_cons rfl (evl_cons rfl evl_nil)))) (set_ok _ [] (5) _ [1, 2, 3] _ (Bls.nil _) RightB.nil (Row.ext b3 (Ext.trans hx6 hx11))) ?_
      rintro v15 w14 ⟨⟨F2, hF2, oF2⟩, hx16⟩
      have hlF2 : F2.length = 0 := by have h := congrArg List.length (hF2.trans (show setB [] (5) [1, 2, 3] = _ from rfl)); rw [List.length_map] at h; rw [h]; decide
      refine WL.vg rfl (congrArg some h13) rfl rfl (X.len oF2.srow rfl Try.underlying25) ?_
      refine WL.vg rfl (congrArg some h13) rfl rfl (X.neq rfl rfl) ?_
      refine WL.va rfl rfl rfl (X.pickF rfl h13 rfl) ?_
      refine WL.va rfl rfl rfl (X.moveB rfl) ?_
      refine WL.split (j := 17) rfl (fun h18 => ?_) (fun h18 => ?_)
      · have gh18 := (of_decide_eq_true h18)
        exact absurd (by rw [hlF2]; rfl) gh18
      · have gh18 := (Decidable.of_not_not (of_decide_eq_false h18))
        refine WL.vg rfl (congrArg some h18) rfl rfl (X.move rfl) ?_
        refine WL.cg rfl (congrArg some h18) rfl rfl (X.call Try.call24 (evl_cons rfl (evl_cons rfl (evl_cons rfl evl_nil)))) (set_ok _ [] (63) _ four _ (Bls.nil _) RightB.nil (Row.ext bf (Ext.trans (Ext.trans hx6 hx11) hx16))) ?_
        rintro v20 w19 ⟨⟨F3, hF3, oF3⟩, hx21⟩
        have hlF3 : F3.length = 1 := by have h := congrArg List.length (hF3.trans (show setB [] (63) four = _ from rfl)); rw [List.length_map] at h; rw [h]; decide
        refine WL.vg rfl (congrArg some h18) rfl rfl (X.len oF3.srow rfl Try.underlying25) ?_
        refine WL.vg rfl (congrArg some h18) rfl rfl (X.neq rfl rfl) ?_
        refine WL.va rfl rfl rfl (X.pickF rfl h18 rfl) ?_
        refine WL.va rfl rfl rfl (X.moveB rfl) ?_
        refine WL.split (j := 23) rfl (fun h23 => ?_) (fun h23 => ?_)
        · have gh23 := (of_decide_eq_true h23)
          exact absurd (by rw [hlF3]; rfl) gh23
        · have gh23 := (Decidable.of_not_not (of_decide_eq_false h23))
          refine WL.vg rfl (congrArg some h23) rfl rfl (X.move rfl) ?_
          refine WL.cg rfl (congrArg some h23) rfl rfl (X.call Try.call24 (evl_cons rfl (evl_cons rfl (evl_cons rfl evl_nil)))) (set_ok _ [] (0) _ four _ (Bls.nil _) RightB.nil (Row.ext bf (Ext.trans (Ext.trans (Ext.trans hx6 hx11) hx16) hx21))) ?_
          rintro v25 w24 ⟨⟨F4, hF4, oF4⟩, hx26⟩
          have hlF4 : F4.length = 1 := by have h := congrArg List.length (hF4.trans (show setB [] (0) four = _ from rfl)); rw [List.length_map] at h; rw [h]; decide
          refine WL.vg rfl (congrArg some h23) rfl rfl (X.len oF4.srow rfl Try.underlying25) ?_
          refine WL.vg rfl (congrArg some h23) rfl rfl (X.neq rfl rfl) ?_
          refine WL.va rfl rfl rfl (X.pickF rfl h23 rfl) ?_
          refine WL.nil ?_
          refine thn_n ?_
          refine WF.cond rfl (fun h0_27 => ?_) (fun h0_27 => ?_)
          · have gh0_27 := (of_decide_eq_true h0_27)
            exact absurd (by rw [hlF4]; rfl) gh0_27
          · have gh0_27 := (Decidable.of_not_not (of_decide_eq_false h0_27))
            refine WF.skip ?_
            refine thn_n ?_
            refine WF.seq ?_
            refine WF.region ?_
            refine WL.va rfl rfl rfl (X.assign rfl) ?_
            refine WL.nil ?_
            refine thn_n ?_
            refine WF.seq ?_
            refine WF.region ?_
            refine WL.op rfl (OW.lits (vs := [_, _, _]) (evp_cons rfl (evp_cons rfl (evp_cons rfl evp_nil))) Try.underlying56 Try.sizeOf3 Try.zeroValue3 ⟨rfl, rfl, rfl, trivial⟩ rfl rfl rfl ?_ (by decide))
            intro v29 wn3 ho31 hx30
            refine WL.va rfl rfl rfl (X.assign rfl) ?_
            refine WL.nil ?_
            refine thn_n ?_
            refine WF.seq ?_
            refine WF.seq ?_
            refine WF.region ?_
            refine WL.va rfl rfl rfl (X.assignI rfl) ?_
            refine WL.nil ?_
            refine thn_n ?_
            refine WF.block ?_
            refine WF.named (fun F32 hF33 => ?_)
            refine WF.loopN (fun mL0 f' w' => ∃ (i : Nat) (vs : Value), mL0 = 3 - i ∧ f' 4 = .int .i64 (i : Int) ∧ f' 2 = vs ∧ Agree [0, 1, 3, 11, 12, 13, 14, 15, 16, 17, 18, 19, 20, 21, 22, 23, 24, 25, 26, 27, 28, 29, 30, 31, 32, 33, 34, 35, 36, 37, 38, 39, 40, 41] f' F32 ∧ Ext wn3 w' ∧ i ≤ 3 ∧ Bls w' vs (kL i)) ?_ ?_
            · exact ⟨_, 0, (.slice none 0 0), rfl, (congrFun hF33 4), (congrFun hF33 2), (Agree.refl _ _), (Ext.refl _), ⟨Nat.zero_le _, Bls.nil _⟩⟩
            · rintro mL0 fL0 wL0 ⟨i, vs, hmL0, e4_L0, e2_L0, hAL0, hwL0, ⟨hi0, sL⟩⟩
              refine WF.seq ?_
              refine WF.seq ?_
              refine WF.region ?_
              refine WL.va rfl rfl rfl (X.moveI e4_L0) ?_
              refine WL.va rfl rfl rfl (X.lss rfl rfl) ?_
              refine WL.nil ?_
              refine thn_n ?_
              refine WF.cond rfl (fun h1_34 => ?_) (fun h1_34 => ?_)
              · have gh1_34 := (of_decide_eq_true h1_34)
                have hi3 : i < n3.length := by omega
                refine WF.skip ?_
                refine thn_n ?_
                refine WF.seq ?_
                refine WF.block ?_
                refine WF.region ?_
                refine WL.va rfl rfl rfl (X.move e2_L0) ?_
                refine WL.va rfl rfl rfl (X.move ((hAL0.eq 3).trans (congrFun hF33 3))) ?_
                refine WL.va rfl rfl rfl (X.moveI e4_L0) ?_
                refine WL.va rfl rfl rfl (X.idx (show Ints _ _ n3 from Row.of_own ho31) rfl rfl (by omega) Try.underlying56 Try.sizeOf3) ?_
                refine WL.va rfl rfl rfl (X.loadI (show Ints _ _ n3 from Row.of_own ho31) hwL0 rfl (by omega) Try.isAgg3) ?_
                refine WL.va rfl rfl rfl (X.move ((hAL0.eq 1).trans (congrFun hF33 1))) ?_
                refine WL.c rfl rfl rfl (X.call Try.call24 (evl_cons rfl (evl_cons rfl (evl_cons rfl evl_nil)))) (set_ok _ (kL i) (n3.getD i 0) _ four _ (sL.ext (Ext.refl wL0)) (kL_right (by omega)) (Row.ext bf (Ext.trans (Ext.trans (Ext.trans (Ext.trans (Ext.trans (Ext.trans hx6 hx11) hx16) hx21) hx26) hx30) hwL0))) ?_
                rintro v37 w36 ⟨⟨G, hG, oG⟩, hx38⟩
                have sG : Bls w36 v37 (kL (i + 1)) := oG.sessE (hG.trans (kL_step (by omega)).symm)
                refine WL.va rfl rfl rfl (X.assign rfl) ?_
                refine WL.nil ?_
                refine blk_n ?_
                refine thn_n ?_
                refine WF.region ?_
                refine WL.va rfl rfl rfl (X.moveI e4_L0) ?_
                refine WL.va rfl rfl rfl (X.add rfl rfl (w64 (by omega))) ?_
                refine WL.va rfl rfl rfl (X.assignI rfl) ?_
                refine WL.nil ?_
                exact thn_n ⟨_, (by omega), i + 1, _, rfl, rfl, rfl, (by repeat (first | exact hAL0 | refine Agree.put ?_ rfl | refine Agree.named hF33 ?_)), (Ext.trans hwL0 hx38), ⟨by omega, sG⟩⟩
              · have gh1_34 := (of_decide_eq_false h1_34)
                obtain rfl : i = 3 := by omega
                refine WF.exit ?_
                refine thn_x ?_
                refine thn_x ?_
                refine blk_eq ?_
                refine thn_n ?_
                refine WF.seq ?_
                refine WF.region ?_
                refine WL.va rfl rfl rfl (X.move e2_L0) ?_
                refine WL.va rfl rfl rfl (X.buildL (P := Try.prog) (t := 30) (cs := [i64 4, i64 9]) (evp_cons rfl (evp_cons rfl evp_nil)) Try.type30 Try.underlying30 rfl rfl ⟨rfl, rfl, trivial⟩ rfl) ?_
                refine WL.c rfl rfl rfl (X.call Try.call30 (evl_cons rfl (evl_cons rfl evl_nil))) (in_ok _ (kL 3) 4 9 _ (sL.ext (Ext.refl wL0)) (right_le (kL_right (by omega))) (right_dat (kL_right (by omega)))) ?_
                rintro va wa ⟨⟨Fa, hFa, oFa⟩, hx39⟩
                have hFa1 : Fa.map Prod.fst = [⟨5, four⟩] := hFa.trans (by decide)
                have hla : Fa.length = 1 := by have h := congrArg List.length hFa1; simpa using h
                have ha0 : (Fa[0]'(by omega)).1 = ⟨5, four⟩ := by have h := congrArg (fun z => z[0]?) hFa1; simpa [List.getElem?_eq_getElem (show 0 < Fa.length by omega)] using h
                refine WL.va rfl rfl rfl (X.assign rfl) ?_
                refine WL.nil ?_
                refine thn_n ?_
                refine WF.seq ?_
                refine WF.region ?_
                refine WL.va rfl rfl rfl (X.move e2_L0) ?_
                refine WL.va rfl rfl rfl (X.buildL (P := Try.prog) (t := 30) (cs := [i64 4, i64 9]) (evp_cons rfl (evp_cons rfl evp_nil)) Try.type30 Try.underlying30 rfl rfl ⟨rfl, rfl, trivial⟩ rfl) ?_
                refine WL.c rfl rfl rfl (X.call Try.call31 (evl_cons rfl (evl_cons rfl evl_nil))) (without_ok _ (kL 3) 4 9 _ (sL.ext hx39) (right_le (kL_right (by omega))) (right_dat (kL_right (by omega)))) ?_
                rintro vb wb ⟨⟨Fb, hFb, oFb⟩, hx40⟩
                have hFb1 : Fb.map Prod.fst = [⟨3, four⟩, ⟨9, four⟩] := hFb.trans (by decide)
                have hlb : Fb.length = 2 := by have h := congrArg List.length hFb1; simpa using h
                have hb0 : (Fb[0]'(by omega)).1 = ⟨3, four⟩ := by have h := congrArg (fun z => z[0]?) hFb1; simpa [List.getElem?_eq_getElem (show 0 < Fb.length by omega)] using h
                have hb1 : (Fb[1]'(by omega)).1 = ⟨9, four⟩ := by have h := congrArg (fun z => z[1]?) hFb1; simpa [List.getElem?_eq_getElem (show 1 < Fb.length by omega)] using h
                refine WL.va rfl rfl rfl (X.assign rfl) ?_
                refine WL.nil ?_
                refine thn_n ?_
                refine WF.seq ?_
                refine WF.seq ?_
                refine WF.region ?_
                refine WL.va rfl rfl rfl (X.move rfl) ?_
                refine WL.va rfl rfl rfl (X.len oFa.srow rfl Try.underlying25) ?_
                refine WL.va rfl rfl rfl (X.neq rfl rfl) ?_
                refine WL.va rfl rfl rfl (X.moveB rfl) ?_
                refine WL.split (j := 3) rfl (fun h42 => ?_) (fun h42 => ?_)
                · have gh42 := (of_decide_eq_true h42)
                  exact absurd (by rw [hla]; rfl) gh42
                · have gh42 := (Decidable.of_not_not (of_decide_eq_false h42))
                  refine WL.vg rfl (congrArg some h42) rfl rfl (X.move rfl) ?_
                  refine WL.vg rfl (congrArg some h42) rfl rfl (X.idx (k := 0) oFa.srow rfl rfl (by omega) Try.underlying25 Try.sizeOf58) ?_
                  refine WL.vg rfl (congrArg some h42) rfl rfl (X.fieldAddrA rfl Try.underlying58 rfl rfl Try.sizeOf3) ?_
                  refine WL.vg rfl (congrArg some h42) rfl rfl (X.loadE oFa.srow hx40 rfl (by omega) ((BRow.get (E := Fa) (k := 0) (by omega) (by decide)).trans rfl) Try.isAgg3) ?_
                  refine WL.vg rfl (congrArg some h42) rfl rfl (X.neq rfl rfl) ?_
                  refine WL.va rfl rfl rfl (X.pickF rfl h42 rfl) ?_
                  refine WL.va rfl rfl rfl (X.moveB rfl) ?_
                  refine WL.split (j := 10) rfl (fun h44 => ?_) (fun h44 => ?_)
                  · have gh44 := (of_decide_eq_true h44)
                    exact absurd (by rw [ha0]) gh44
                  · have gh44 := (Decidable.of_not_not (of_decide_eq_false h44))
                    refine WL.vg rfl (congrArg some h44) rfl rfl (X.move rfl) ?_
                    refine WL.vg rfl (congrArg some h44) rfl rfl (X.len oFb.srow rfl Try.underlying25) ?_
                    refine WL.vg rfl (congrArg some h44) rfl rfl (X.neq rfl rfl) ?_
                    refine WL.va rfl rfl rfl (X.pickF rfl h44 rfl) ?_
                    refine WL.va rfl rfl rfl (X.moveB rfl) ?_
                    refine WL.split (j := 15) rfl (fun h46 => ?_) (fun h46 => ?_)
                    · have gh46 := (of_decide_eq_true h46)
                      exact absurd (by rw [hlb]; rfl) gh46
                    · have gh46 := (Decidable.of_not_not (of_decide_eq_false h46))
                      refine WL.vg rfl (congrArg some h46) rfl rfl (X.move rfl) ?_
                      refine WL.vg rfl (congrArg some h46) rfl rfl (X.idx (k := 0) oFb.srow rfl rfl (by omega) Try.underlying25 Try.sizeOf58) ?_
                      refine WL.vg rfl (congrArg some h46) rfl rfl (X.fieldAddrA rfl Try.underlying58 rfl rfl Try.sizeOf3) ?_
                      refine WL.vg rfl (congrArg some h46) rfl rfl (X.loadE oFb.srow (Ext.refl _) rfl (by omega) ((BRow.get (E := Fb) (k := 0) (by omega) (by decide)).trans rfl) Try.isAgg3) ?_
                      refine WL.vg rfl (congrArg some h46) rfl rfl (X.neq rfl rfl) ?_
                      refine WL.va rfl rfl rfl (X.pickF rfl h46 rfl) ?_
                      refine WL.va rfl rfl rfl (X.moveB rfl) ?_
                      refine WL.split (j := 22) rfl (fun h48 => ?_) (fun h48 => ?_)
                      · have gh48 := (of_decide_eq_true h48)
                        exact absurd (by rw [hb0]) gh48
                      · have gh48 := (Decidable.of_not_not (of_decide_eq_false h48))
                        refine WL.vg rfl (congrArg some h48) rfl rfl (X.move rfl) ?_
                        refine WL.vg rfl (congrArg some h48) rfl rfl (X.idx (k := 1) oFb.srow rfl rfl (by omega) Try.underlying25 Try.sizeOf58) ?_
                        refine WL.vg rfl (congrArg some h48) rfl rfl (X.fieldAddrA rfl Try.underlying58 rfl rfl Try.sizeOf3) ?_
                        refine WL.vg rfl (congrArg some h48) rfl rfl (X.loadE oFb.srow (Ext.refl _) rfl (by omega) ((BRow.get (E := Fb) (k := 1) (by omega) (by decide)).trans rfl) Try.isAgg3) ?_
                        refine WL.vg rfl (congrArg some h48) rfl rfl (X.neq rfl rfl) ?_
                        refine WL.va rfl rfl rfl (X.pickF rfl h48 rfl) ?_
                        refine WL.nil ?_
                        refine thn_n ?_
                        refine WF.cond rfl (fun h2_49 => ?_) (fun h2_49 => ?_)
                        · have gh2_49 := (of_decide_eq_true h2_49)
                          exact absurd (by rw [hb1]) gh2_49
                        · have gh2_49 := (Decidable.of_not_not (of_decide_eq_false h2_49))
                          refine WF.skip ?_
                          refine thn_n ?_
                          refine WF.seq ?_
                          refine WF.region ?_
                          refine WL.op rfl (OW.lits (vs := [_, _, _, _, _, _, _, _]) (evp_cons rfl (evp_cons rfl (evp_cons rfl (evp_cons rfl (evp_cons rfl (evp_cons rfl (evp_cons rfl (evp_cons rfl evp_nil)))))))) Try.underlying56 Try.sizeOf3 Try.zeroValue3 ⟨rfl, rfl, rfl, rfl, rfl, rfl, rfl, rfl, trivial⟩ rfl rfl rfl ?_ (by decide))
                          intro v51 wen ho53 hx52
                          refine WL.va rfl rfl rfl (X.assign rfl) ?_
                          refine WL.nil ?_
                          refine thn_n ?_
                          refine WF.seq ?_
                          refine WF.seq ?_
                          refine WF.region ?_
                          refine WL.va rfl rfl rfl (X.assignI rfl) ?_
                          refine WL.nil ?_
                          refine thn_n ?_
                          refine WF.block ?_
                          refine WF.named (fun F54 hF55 => ?_)
                          refine WF.loopN (fun mL1 f' w' => ∃ (a : Nat), mL1 = ends.length - a ∧ f' 8 = .int .i64 (a : Int) ∧ Agree [1, 2, 3, 4, 5, 6, 7, 11, 12, 13, 14, 15, 16, 17, 18, 19, 20, 21, 22, 23, 24, 25, 26, 27, 28, 29, 30, 31, 32, 33, 34, 35, 36, 37, 38, 39, 40, 41, 42, 43, 53, 54, 55, 56, 57, 58, 59, 60, 61, 62, 63, 64, 65, 66, 67, 68, 69, 70, 71, 72, 73, 74, 75, 76, 77, 78, 79, 80, 81, 82, 83, 84, 85, 86, 87, 88] f' F54 ∧ Ext wen w' ∧ a ≤ ends.length) ?_ ?_
                          · exact ⟨_, 0, rfl, (congrFun hF55 8), (Agree.refl _ _), (Ext.refl _), (Nat.zero_le _)⟩
                          · rintro mL1 fL1 wL1 ⟨a, hmL1, e8_L1, hAL1, hwL1, ha0x⟩
                            refine WF.seq ?_
                            refine WF.seq ?_
                            refine WF.region ?_
                            refine WL.va rfl rfl rfl (X.moveI e8_L1) ?_
                            refine WL.va rfl rfl rfl (X.move ((hAL1.eq 7).trans (congrFun hF55 7))) ?_
                            refine WL.va rfl rfl rfl (X.len (show Ints _ _ ends from Row.of_own ho53) rfl Try.underlying56) ?_
                            refine WL.va rfl rfl rfl (X.lss rfl rfl) ?_
                            refine WL.nil ?_
                            refine thn_n ?_
                            refine WF.cond rfl (fun h3_56 => ?_) (fun h3_56 => ?_)
                            · have gh3_56 := (of_decide_eq_true h3_56)
                              have ha8 : a < ends.length := by omega
                              refine WF.skip ?_
                              refine thn_n ?_
                              refine WF.seq ?_
                              refine WF.block ?_
                              refine WF.seq ?_
                              refine WF.named (fun F58 hF59 => ?_)
                              refine WF.cut (fun f' w' => f' 103 = .bool false ∧ Agree [1, 2, 3, 4, 5, 6, 7, 8, 11, 12, 13, 14, 15, 16, 17, 18, 19, 20, 21, 22, 23, 24, 25, 26, 27, 28, 29, 30, 31, 32, 33, 34, 35, 36, 37, 38, 39, 40, 41, 42, 43, 53, 54, 55, 56, 57, 58, 59, 60, 61, 62, 63, 64, 65, 66, 67, 68, 69, 70, 71, 72, 73, 74, 75, 76, 77, 78, 79, 80, 81, 82, 83, 84, 85, 86, 87, 88, 89, 90, 91, 92] f' F58 ∧ Ext wL1 w') ?_ ?_
                              · refine WF.drawn (.q 0 (.q 1 (.q 2 (.q 3 (.q 4 (.b 5 6 (.l 6 (.l 7 (.q 8 .nil))) (.l 5 (.l 7 (.q 8 .nil))))))))) (fun w' => Ext wL1 w') 9 (by kernel_rfl) (by kernel_rfl) (Ext.drew _) ?_
                                refine WO.q rfl rfl rfl rfl (fun w' hE60 => (X.move ((congrFun hF59 2).trans ((hAL1.eq 2).trans ((congrFun hF55 2).trans e2_L0))))) ?_
                                refine WO.q rfl rfl rfl rfl (fun w' hE60 => (X.move ((congrFun hF59 7).trans ((hAL1.eq 7).trans (congrFun hF55 7))))) ?_
                                refine WO.q rfl rfl rfl rfl (fun w' hE60 => (X.moveI ((congrFun hF59 8).trans e8_L1))) ?_
                                refine WO.q rfl rfl rfl rfl (fun w' hE60 => (X.idx (show Ints _ _ ends from Row.of_own ho53) rfl rfl (by omega) Try.underlying56 Try.sizeOf3)) ?_
                                refine WO.q rfl rfl rfl rfl (fun w' hE60 => (X.loadI (show Ints _ _ ends from Row.of_own ho53) (Ext.trans hwL1 hE60) rfl (by omega) Try.isAgg3)) ?_
                                refine WO.b2 ?_ ?_
                                · refine LO.go rfl rfl (OW.enter rfl (by decide) (X.call Try.call25 (evl_cons rfl (evl_cons rfl evl_nil))) (get_ok _ (kL 3) (ends.getD a 0) _ (sL.ext (Ext.trans (Ext.trans (Ext.trans (Ext.trans hx39 hx40) hx52) hwL1) (Ext.drew _))) (kL_right (by omega))) ?_)
                                  rintro vg wg ⟨og, hx61⟩
                                  refine ⟨(Ext.trans (Ext.drew _) hx61), ?_⟩
                                  refine WO.l ?_
                                  refine LO.go rfl rfl (OW.makeB (n := 4) rfl rfl Try.underlying34 Try.type5 rfl rfl rfl (by omega) ?_ (by decide))
                                  intro v62 wz ho65 hx63
                                  have om := ho65
                                  refine ⟨(Ext.trans (Ext.trans (Ext.drew _) hx61) hx63), ?_⟩
                                  refine WO.l ?_
                                  refine LO.go rfl rfl (OW.enter rfl (by decide) (X.call Try.call20 (evl_cons rfl (evl_cons rfl evl_nil))) (sameBytes_ok _ _ _ zero4 _ (Row.ext (Bytes.of_own og) hx63) (Row.ext (Bytes.of_own om) (Ext.refl wz))) ?_)
                                  rintro v67 w66 ⟨rfl, hx68⟩
                                  have := World.grownBy.size hx68
                                  refine ⟨(Ext.trans (Ext.trans (Ext.trans (Ext.drew _) hx61) hx63) hx68), ?_⟩
                                  refine WO.q rfl rfl rfl rfl (fun w' hE60 => (X.not rfl)) ?_
                                  refine WO.nil ?_
                                  refine WL.nil ?_
                                  refine thn_n ?_
                                  exact ⟨(congrArg Value.bool (by rw [ends_zero]; rfl)), (by repeat (first | exact (Agree.refl _ F58) | refine Agree.put ?_ rfl | refine Agree.sub hAL1 rfl ?_ | refine Agree.sub hAL0 rfl ?_ | refine Agree.named hF59 ?_ | refine Agree.named hF55 ?_ | refine Agree.named hF33 ?_)), (Ext.trans (Ext.trans (Ext.trans (Ext.drew _) hx61) hx63) hx68)⟩
                                · refine LO.go rfl rfl (OW.makeB (n := 4) rfl rfl Try.underlying34 Try.type5 rfl rfl rfl (by omega) ?_ (by decide))
                                  intro v71 wz ho73 hx72
                                  have om := ho73
                                  refine ⟨(Ext.trans (Ext.drew _) hx72), ?_⟩
                                  refine WO.l ?_
                                  refine LO.go rfl rfl (OW.enter rfl (by decide) (X.call Try.call25 (evl_cons rfl (evl_cons rfl evl_nil))) (get_ok _ (kL 3) (ends.getD a 0) _ (sL.ext (Ext.trans (Ext.trans (Ext.trans (Ext.trans (Ext.trans hx39 hx40) hx52) hwL1) (Ext.drew _)) hx72)) (kL_right (by omega))) ?_)
                                  rintro vg wg ⟨og, hx74⟩
                                  refine ⟨(Ext.trans (Ext.trans (Ext.drew _) hx72) hx74), ?_⟩
                                  refine WO.l ?_
                                  refine LO.go rfl rfl (OW.enter rfl (by decide) (X.call Try.call20 (evl_cons rfl (evl_cons rfl evl_nil))) (sameBytes_ok _ _ _ zero4 _ (Row.ext (Bytes.of_own og) (Ext.refl wg)) (Row.ext (Bytes.of_own om) hx74)) ?_)
                                  rintro v76 w75 ⟨rfl, hx77⟩
                                  have := World.grownBy.size hx77
                                  refine ⟨(Ext.trans (Ext.trans (Ext.trans (Ext.drew _) hx72) hx74) hx77), ?_⟩
                                  refine WO.q rfl rfl rfl rfl (fun w' hE60 => (X.not rfl)) ?_
                                  refine WO.nil ?_
                                  refine WL.nil ?_
                                  refine thn_n ?_
                                  exact ⟨(congrArg Value.bool (by rw [ends_zero]; rfl)), (by repeat (first | exact (Agree.refl _ F58) | refine Agree.put ?_ rfl | refine Agree.sub hAL1 rfl ?_ | refine Agree.sub hAL0 rfl ?_ | refine Agree.named hF59 ?_ | refine Agree.named hF55 ?_ | refine Agree.named hF33 ?_)), (Ext.trans (Ext.trans (Ext.trans (Ext.drew _) hx72) hx74) hx77)⟩
                              · rintro fCr18 wCr18 ⟨e103_Cr18, hACr18, hwCr18⟩
                                refine WF.cond_f e103_Cr18 ?_
                                refine WF.skip ?_
                                refine thn_n ?_
                                refine WF.seq ?_
                                refine WF.region ?_
                                refine WL.va rfl rfl rfl (X.assignI rfl) ?_
                                refine WL.nil ?_
                                refine thn_n ?_
                                refine WF.block ?_
                                refine WF.named (fun F81 hF82 => ?_)
                                refine WF.loopN (fun mL2 f' w' => ∃ (b : Nat), mL2 = ends.length - b ∧ f' 9 = .int .i64 (b : Int) ∧ Agree [1, 2, 3, 4, 5, 6, 7, 8, 11, 12, 13, 14, 15, 16, 17, 18, 19, 20, 21, 22, 23, 24, 25, 26, 27, 28, 29, 30, 31, 32, 33, 34, 35, 36, 37, 38, 39, 40, 41, 42, 43, 53, 54, 55, 56, 57, 58, 59, 60, 61, 62, 63, 64, 65, 66, 67, 68, 69, 70, 71, 72, 73, 74, 75, 76, 77, 78, 79, 80, 81, 82, 83, 84, 85, 86, 87, 88, 89, 90, 91, 92, 103] f' F81 ∧ Ext wen w' ∧ b ≤ ends.length) ?_ ?_
                                · exact ⟨_, 0, rfl, (congrFun hF82 9), (Agree.refl _ _), (Ext.trans hwL1 hwCr18), (Nat.zero_le _)⟩
                                · rintro mL2 fL2 wL2 ⟨b, hmL2, e9_L2, hAL2, hwL2, hb0x⟩
                                  refine WF.seq ?_
                                  refine WF.seq ?_
                                  refine WF.region ?_
                                  refine WL.va rfl rfl rfl (X.moveI e9_L2) ?_
                                  refine WL.va rfl rfl rfl (X.move ((hAL2.eq 7).trans ((congrFun hF82 7).trans ((hACr18.eq 7).trans ((congrFun hF59 7).trans ((hAL1.eq 7).trans (congrFun hF55 7))))))) ?_
                                  refine WL.va rfl rfl rfl (X.len (show Ints _ _ ends from Row.of_own ho53) rfl Try.underlying56) ?_
                                  refine WL.va rfl rfl rfl (X.lss rfl rfl) ?_
                                  refine WL.nil ?_
                                  refine thn_n ?_
                                  refine WF.cond rfl (fun h5_83 => ?_) (fun h5_83 => ?_)
                                  · have gh5_83 := (of_decide_eq_true h5_83)
                                    have hb8 : b < ends.length := by omega
                                    refine WF.skip ?_
                                    refine thn_n ?_
                                    refine WF.seq ?_
                                    refine WF.block ?_
                                    refine WF.seq ?_
                                    refine WF.drawn (.q 0 (.q 1 (.q 2 (.q 3 (.q 4 (.q 5 (.q 6 (.q 7 (.q 8 (.q 9 (.l 10 (.q 11 .nil)))))))))))) (fun w' => Ext wL2 w') 12 (by kernel_rfl) (by kernel_rfl) (Ext.drew _) ?_
                                    refine WO.q rfl rfl rfl rfl (fun w' hE85 => (X.move ((hAL2.eq 7).trans ((congrFun hF82 7).trans ((hACr18.eq 7).trans ((congrFun hF59 7).trans ((hAL1.eq 7).trans (congrFun hF55 7)))))))) ?_
                                    refine WO.q rfl rfl rfl rfl (fun w' hE85 => (X.moveI ((hAL2.eq 8).trans ((congrFun hF82 8).trans ((hACr18.eq 8).trans ((congrFun hF59 8).trans e8_L1)))))) ?_
                                    refine WO.q rfl rfl rfl rfl (fun w' hE85 => (X.idx (show Ints _ _ ends from Row.of_own ho53) rfl rfl (by omega) Try.underlying56 Try.sizeOf3)) ?_
                                    refine WO.q rfl rfl rfl rfl (fun w' hE85 => (X.loadI (show Ints _ _ ends from Row.of_own ho53) (Ext.trans hwL2 hE85) rfl (by omega) Try.isAgg3)) ?_
                                    refine WO.q rfl rfl rfl rfl (fun w' hE85 => (X.move ((hAL2.eq 7).trans ((congrFun hF82 7).trans ((hACr18.eq 7).trans ((congrFun hF59 7).trans ((hAL1.eq 7).trans (congrFun hF55 7)))))))) ?_
                                    refine WO.q rfl rfl rfl rfl (fun w' hE85 => (X.moveI e9_L2)) ?_
                                    refine WO.q rfl rfl rfl rfl (fun w' hE85 => (X.idx (show Ints _ _ ends from Row.of_own ho53) rfl rfl (by omega) Try.underlying56 Try.sizeOf3)) ?_
                                    refine WO.q rfl rfl rfl rfl (fun w' hE85 => (X.loadI (show Ints _ _ ends from Row.of_own ho53) (Ext.trans hwL2 hE85) rfl (by omega) Try.isAgg3)) ?_
                                    refine WO.q rfl rfl rfl rfl (fun w' hE85 => (X.buildL (P := Try.prog) (t := 30) (cs := [i64 (ends.getD a 0), i64 (ends.getD b 0)]) (evp_cons rfl (evp_cons rfl evp_nil)) Try.type30 Try.underlying30 rfl rfl ⟨rfl, rfl, trivial⟩ rfl)) ?_
                                    refine WO.q rfl rfl rfl rfl (fun w' hE85 => (X.move ((hAL2.eq 2).trans ((congrFun hF82 2).trans ((hACr18.eq 2).trans ((congrFun hF59 2).trans ((hAL1.eq 2).trans ((congrFun hF55 2).trans e2_L0)))))))) ?_
                                    refine WO.l ?_
                                    refine LO.go rfl rfl (OW.enter rfl (by decide) (X.call Try.call15 (evl_cons rfl (evl_cons rfl (evl_cons rfl (evl_cons rfl evl_nil))))) (keep_ok _ [] 1 (ends.getD a 0) (ends.getD b 0) _ (kL 3) _ (Kps.nil _) RightK.nil (by decide) (sL.ext (Ext.trans (Ext.trans (Ext.trans (Ext.trans hx39 hx40) hx52) hwL2) (Ext.drew _))) (kL_right (by omega))) ?_)
                                    rintro v87 w86 ⟨⟨FK, hFK, oFK⟩, hx88⟩
                                    refine ⟨(Ext.trans (Ext.drew _) hx88), ?_⟩
                                    have hFl : FK.length = (min (ends.getD b 0) 64 - max 0 (ends.getD a 0)).toNat := by have h := congrArg List.length hFK; rw [List.length_map] at h; rw [h]; exact keepC_len0 _
                                    refine WO.q rfl rfl rfl rfl (fun w' hE85 => (X.assign rfl)) ?_
                                    refine WO.nil ?_
                                    refine WL.nil ?_
                                    refine thn_n ?_
                                    refine WF.seq ?_
                                    refine WF.drawn (.q 0 (.q 1 (.q 2 (.q 3 (.q 4 (.q 5 (.q 6 (.q 7 (.q 8 (.q 9 (.q 10 (.q 11 (.q 12 (.q 13 (.q 14 (.q 15 .nil)))))))))))))))) (fun w' => Ext w86 w') 16 (by kernel_rfl) (by kernel_rfl) (Ext.drew _) ?_
                                    refine WO.q rfl rfl rfl rfl (fun w' hE89 => (X.move rfl)) ?_
                                    refine WO.q rfl rfl rfl rfl (fun w' hE89 => (X.len oFK.srow rfl Try.underlying22)) ?_
                                    refine WO.q rfl rfl rfl rfl (fun w' hE89 => (X.move ((hAL2.eq 7).trans ((congrFun hF82 7).trans ((hACr18.eq 7).trans ((congrFun hF59 7).trans ((hAL1.eq 7).trans (congrFun hF55 7)))))))) ?_
                                    refine WO.q rfl rfl rfl rfl (fun w' hE89 => (X.moveI e9_L2)) ?_
                                    refine WO.q rfl rfl rfl rfl (fun w' hE89 => (X.idx (show Ints _ _ ends from Row.of_own ho53) rfl rfl (by omega) Try.underlying56 Try.sizeOf3)) ?_
                                    refine WO.q rfl rfl rfl rfl (fun w' hE89 => (X.loadI (show Ints _ _ ends from Row.of_own ho53) (Ext.trans (Ext.trans (Ext.trans hwL2 (Ext.drew _)) hx88) hE89) rfl (by omega) Try.isAgg3)) ?_
                                    refine WO.q rfl rfl rfl rfl (fun w' hE89 => (X.min2 rfl rfl)) ?_
                                    refine WO.q rfl rfl rfl rfl (fun w' hE89 => (X.max2 rfl rfl)) ?_
                                    refine WO.q rfl rfl rfl rfl (fun w' hE89 => (X.move ((hAL2.eq 7).trans ((congrFun hF82 7).trans ((hACr18.eq 7).trans ((congrFun hF59 7).trans ((hAL1.eq 7).trans (congrFun hF55 7)))))))) ?_
                                    refine WO.q rfl rfl rfl rfl (fun w' hE89 => (X.moveI ((hAL2.eq 8).trans ((congrFun hF82 8).trans ((hACr18.eq 8).trans ((congrFun hF59 8).trans e8_L1)))))) ?_
                                    refine WO.q rfl rfl rfl rfl (fun w' hE89 => (X.idx (show Ints _ _ ends from Row.of_own ho53) rfl rfl (by omega) Try.underlying56 Try.sizeOf3)) ?_
                                    refine WO.q rfl rfl rfl rfl (fun w' hE89 => (X.loadI (show Ints _ _ ends from Row.of_own ho53) (Ext.trans (Ext.trans (Ext.trans hwL2 (Ext.drew _)) hx88) hE89) rfl (by omega) Try.isAgg3)) ?_
                                    refine WO.q rfl rfl rfl rfl (fun w' hE89 => (X.max2 rfl rfl)) ?_
                                    refine WO.q rfl rfl rfl rfl (fun w' hE89 => (X.sub rfl rfl (w64 (by have h1 := ends_in a; have h2 := ends_in b; omega)))) ?_
                                    refine WO.q rfl rfl rfl rfl (fun w' hE89 => (X.max2 rfl rfl)) ?_
                                    refine WO.q rfl rfl rfl rfl (fun w' hE89 => (X.neq rfl rfl)) ?_
                                    refine WO.nil ?_
                                    refine WL.nil ?_
                                    refine thn_n ?_
                                    refine WF.cond rfl (fun h6_90 => ?_) (fun h6_90 => ?_)
                                    · have gh6_90 := (of_decide_eq_true h6_90)
                                      exact absurd (by omega) gh6_90
                                    · have gh6_90 := (Decidable.of_not_not (of_decide_eq_false h6_90))
                                      refine WF.skip ?_
                                      refine blk_n ?_
                                      refine thn_n ?_
                                      refine WF.region ?_
                                      refine WL.va rfl rfl rfl (X.moveI e9_L2) ?_
                                      refine WL.va rfl rfl rfl (X.add rfl rfl (w64 (by omega))) ?_
                                      refine WL.va rfl rfl rfl (X.assignI rfl) ?_
                                      refine WL.nil ?_
                                      exact thn_n ⟨_, (by omega), b + 1, rfl, rfl, (by repeat (first | exact hAL2 | refine Agree.put ?_ rfl | refine Agree.sub hACr18 rfl ?_ | refine Agree.sub hAL1 rfl ?_ | refine Agree.sub hAL0 rfl ?_ | refine Agree.named hF82 ?_ | refine Agree.named hF59 ?_ | refine Agree.named hF55 ?_ | refine Agree.named hF33 ?_)), (Ext.trans (Ext.trans (Ext.trans hwL2 (Ext.drew _)) hx88) (Ext.drew _)), (by omega)⟩
                                  · have gh5_83 := (of_decide_eq_false h5_83)
                                    refine WF.exit ?_
                                    refine thn_x ?_
                                    refine thn_x ?_
                                    refine blk_eq ?_
                                    refine blk_n ?_
                                    refine thn_n ?_
                                    refine WF.region ?_
                                    refine WL.va rfl rfl rfl (X.moveI ((hAL2.eq 8).trans ((congrFun hF82 8).trans ((hACr18.eq 8).trans ((congrFun hF59 8).trans e8_L1))))) ?_
                                    refine WL.va rfl rfl rfl (X.add rfl rfl (w64 (by omega))) ?_
                                    refine WL.va rfl rfl rfl (X.assignI rfl) ?_
                                    refine WL.nil ?_
                                    exact thn_n ⟨_, (by omega), a + 1, rfl, rfl, (by repeat (first | exact hAL1 | refine Agree.put ?_ rfl | refine Agree.sub hAL2 rfl ?_ | refine Agree.sub hACr18 rfl ?_ | refine Agree.sub hAL0 rfl ?_ | refine Agree.named hF82 ?_ | refine Agree.named hF59 ?_ | refine Agree.named hF55 ?_ | refine Agree.named hF33 ?_)), hwL2, (by omega)⟩
                            · have gh3_56 := (of_decide_eq_false h3_56)
                              refine WF.exit ?_
                              refine thn_x ?_
                              refine thn_x ?_
                              refine blk_eq ?_
                              refine thn_n ?_
                              refine WF.seq ?_
                              refine WF.region ?_
                              refine WL.c rfl rfl rfl (X.call Try.call12 evl_nil) (known_ok _) ?_
                              rintro v93 w92 ⟨rfl, hx94⟩
                              refine WL.va rfl rfl rfl (X.assignB rfl) ?_
                              refine WL.nil ?_
                              refine thn_n ?_
                              refine WF.ret ?_
                              refine fin_r ?_
                              first | exact ⟨rfl, (Ext.trans (Ext.trans (Ext.trans (Ext.trans (Ext.trans (Ext.trans (Ext.trans (Ext.trans (Ext.trans (Ext.trans (Ext.trans (Ext.trans hx2 hx6) hx11) hx16) hx21) hx26) hx30) hwL0) hx39) hx40) hx52) hwL1) hx94)⟩ | exact ⟨congrArg Value.bool (decide_eq_true rfl), (Ext.trans (Ext.trans (Ext.trans (Ext.trans (Ext.trans (Ext.trans (Ext.trans (Ext.trans (Ext.trans (Ext.trans (Ext.trans (Ext.trans hx2 hx6) hx11) hx16) hx21) hx26) hx30) hwL0) hx39) hx40) hx52) hwL1) hx94)⟩

end Go.Proofs.Ytcaimmbhdfoniaa
