/- The walk of the reference's Check. -/
import Derived.Test.YthaojdpeimlngaaOpD
namespace Go.Proofs.Ythaojdpeimlngaa
open Go Go.RowKit Kf
set_option maxRecDepth 20000

theorem size_bad {E : List WV} {o : Od} (hE : E.map Prod.fst = o.W) {k : Nat} (hk : k < E.length) (h : ¬ ((E[k].1.Data.length : Nat) : Int) = 4) : ¬ sizeP o.W := fun q => h (by rw [q _ (hE ▸ List.mem_map.2 ⟨_, List.getElem_mem hk, rfl⟩)]; rfl)
theorem size_ok {E : List WV} {o : Od} (hE : E.map Prod.fst = o.W) (h : ∀ j (hj : j < E.length), E[j].1.Data.length = 4) : sizeP o.W := fun x hx => by
  rw [← hE] at hx
  obtain ⟨e, he, rfl⟩ := List.mem_map.1 hx
  obtain ⟨j, hj, rfl⟩ := List.getElem_of_mem he
  exact h j hj
theorem fieldL_len (k : Int) : (fieldL k).length ≤ 6 := by
  unfold fieldL fields
  repeat' split
  all_goals decide
set_option maxHeartbeats 4000000 in
theorem checkR_ok (vP vR vW vD : Value) (o : Od) (w : World) (h : OpAt w vP vR vW vD o) (hm : o.small) : FnOk Try.prog 15 [agg (oc o.n vP vR vW vD)] w (fun r w' => r = i64 (chk o) ∧ Ext w w') := by
  obtain ⟨hmP, hmR, hmW, hmD, hmWD⟩ := hm
  obtain ⟨E, hE, rE, dE⟩ := h.W
  have hEl : E.length = o.W.length := by rw [← hE]; simp
  have hbl : o.bl.length = o.W.length := by simp [Od.bl]
  have hfl6 := fieldL_len (o.g 0)
  refine FnOk.enter (rs := [2]) Try.func15 rfl Try.ntmps15 Try.results15 rfl rfl ?_
  refine WF.seq ?_
  refine WF.region ?_
  refine WL.op rfl (OW.boxA (cs := (oc o.n vP vR vW vD)) rfl ?_ (by decide))
  intro g1 wb heg1 hlg1 hO1 hx2
  have := World.grownBy.size hx2
  refine WL.va rfl rfl rfl (X.assignI rfl) ?_
  refine WL.nil ?_
  refine thn_n ?_
  refine WF.seq ?_
  refine WF.region ?_
  refine WL.va rfl rfl rfl (X.fieldAddrO (off := 0) rfl Try.underlying26 rfl rfl Try.sizeOf3) ?_
  refine WL.va rfl rfl rfl (X.loadO hO1 (Ext.refl _) rfl rfl Try.isAgg3) ?_
  refine WL.c rfl rfl rfl (X.call Try.call39 (evl_cons rfl evl_nil)) (fields_ok (o.g 0) _) ?_
  rintro vf0 wf ⟨⟨vf, rfl, hvf⟩, hx4⟩
  have := World.grownBy.size hx4
  refine WL.va rfl rfl rfl (X.move rfl) ?_
  refine WL.va rfl rfl rfl (X.extract rfl rfl) ?_
  refine WL.va rfl rfl rfl (X.extract rfl rfl) ?_
  refine WL.va rfl rfl rfl (X.assign rfl) ?_
  refine WL.va rfl rfl rfl (X.assignB rfl) ?_
  refine WL.nil ?_
  refine thn_n ?_
  refine WF.seq ?_
  refine WF.seq ?_
  refine WF.region ?_
  refine WL.va rfl rfl rfl (X.moveB rfl) ?_
  refine WL.va rfl rfl rfl (X.not rfl) ?_
  refine WL.nil ?_
  refine thn_n ?_
  refine WF.cond rfl (fun h0_6 => ?_) (fun h0_6 => ?_)
  · have gh0_6 := (nt h0_6)
    refine WF.seq ?_
    refine WF.region ?_
    refine WL.va rfl rfl rfl (X.assignI rfl) ?_
    refine WL.nil ?_
    refine thn_n ?_
    refine WF.ret ?_
    refine thn_r ?_
    refine fin_r ?_
    exact ⟨congrArg i64 (chk13 (fields_none (by assumption))).symm, (Ext.trans hx2 hx4)⟩
  · have gh0_6 := (nf h0_6)
    have c0 : 1 ≤ o.g 0 ∧ o.g 0 ≤ 11 := fields_some gh0_6
    refine WF.skip ?_
    refine thn_n ?_
    refine WF.seq ?_
    refine WF.region ?_
    refine WL.va rfl rfl rfl (X.loadOA hO1 hx4 rfl rfl Try.isAgg26 Try.sizeOf26) ?_
    refine WL.c rfl rfl rfl (X.call Try.call40 (evl_cons rfl evl_nil)) (row_ok vP vR vW vD o _ (h.ext (Ext.trans hx2 hx4)) ⟨hmP, hmR, hmW, hmD, hmWD⟩) ?_
    rintro vrow wr ⟨orow, hx8⟩
    have := World.grownBy.size hx8
    refine WL.va rfl rfl rfl (X.assign rfl) ?_
    refine WL.nil ?_
    refine thn_n ?_
    refine WF.seq ?_
    refine WF.seq ?_
    refine WF.region ?_
    refine WL.va rfl rfl rfl (X.assignI rfl) ?_
    refine WL.nil ?_
    refine thn_n ?_
    refine WF.block ?_
    refine WF.named (fun F9 hF10 => ?_)
    refine WF.loopN (fun mL0 f' w' => ∃ (f : Nat), mL0 = 10 - f ∧ f' 6 = .int .i64 (f : Int) ∧ Agree [0, 1, 3, 4, 5, 9, 10, 11, 12, 13, 14, 15, 16, 17, 18] f' F9 ∧ Ext wr w' ∧ f ≤ 10 ∧ ∀ j, j < f → (rowL o.n).getD j 0 = 0 ∨ j ∈ fieldL (o.g 0)) ?_ ?_
    · exact ⟨_, 0, rfl, (congrFun hF10 6), (Agree.refl _ _), (Ext.refl _), ⟨Nat.zero_le _, fun j hj => by omega⟩⟩
    · rintro mL0 fL0 wL0 ⟨f, hmL0, e6_L0, hAL0, hwL0, ⟨hf, hno⟩⟩
      have := World.grownBy.size hwL0
      refine WF.seq ?_
      refine WF.seq ?_
      refine WF.region ?_
      refine WL.va rfl rfl rfl (X.moveI e6_L0) ?_
      refine WL.va rfl rfl rfl (X.move ((hAL0.eq 5).trans (congrFun hF10 5))) ?_
      refine WL.va rfl rfl rfl (X.len orow rfl Try.underlying22) ?_
      refine WL.va rfl rfl rfl (X.lss rfl rfl) ?_
      refine WL.nil ?_
      refine thn_n ?_
      refine WF.cond rfl (fun h1_11 => ?_) (fun h1_11 => ?_)
      · have gh1_11 := (of_decide_eq_true h1_11)
        have hf10 : f < 10 := by have hq := gh1_11; simp only [rowL, List.length_cons, List.length_nil] at hq; omega
        refine WF.skip ?_
        refine thn_n ?_
        refine WF.seq ?_
        refine WF.block ?_
        refine WF.seq ?_
        refine WF.region ?_
        refine WL.va rfl rfl rfl (X.move ((hAL0.eq 5).trans (congrFun hF10 5))) ?_
        refine WL.va rfl rfl rfl (X.moveI e6_L0) ?_
        refine WL.va rfl rfl rfl (X.idx orow rfl rfl (by omega) Try.underlying22 Try.sizeOf3) ?_
        refine WL.va rfl rfl rfl (X.loadI orow hwL0 rfl (by omega) Try.isAgg3) ?_
        refine WL.va rfl rfl rfl (X.neq rfl rfl) ?_
        refine WL.va rfl rfl rfl (X.moveB rfl) ?_
        refine WL.split (j := 5) rfl (fun h14 => ?_) (fun h14 => ?_)
        · have gh14 := (of_decide_eq_true h14)
          refine WL.vg rfl (congrArg some h14) rfl rfl (X.move ((hAL0.eq 3).trans (congrFun hF10 3))) ?_
          refine WL.vg rfl (congrArg some h14) rfl rfl (X.moveI e6_L0) ?_
          refine WL.cg rfl (congrArg some h14) rfl rfl (X.call Try.call51 (evl_cons rfl (evl_cons rfl evl_nil))) (has_ok _ (fints (fieldL (o.g 0))) _ _ (Row.ext hvf (Ext.trans hx8 hwL0)) (by simp only [List.length_map]; omega)) ?_
          rintro v16 w15 ⟨rfl, hx17⟩
          have := World.grownBy.size hx17
          refine WL.vg rfl (congrArg some h14) rfl rfl (X.not rfl) ?_
          refine WL.va rfl rfl rfl (X.pickT rfl h14 rfl) ?_
          refine WL.nil ?_
          refine thn_n ?_
          refine WF.cond rfl (fun h2_19 => ?_) (fun h2_19 => ?_)
          · have gh2_19 := (of_decide_eq_false (nt h2_19))
            refine WF.seq ?_
            refine WF.region ?_
            refine WL.va rfl rfl rfl (X.assignI rfl) ?_
            refine WL.nil ?_
            refine thn_n ?_
            refine WF.ret ?_
            refine blk_r ?_
            refine thn_r ?_
            refine thn_r ?_
            refine blk_r ?_
            refine thn_r ?_
            refine fin_r ?_
            exact ⟨congrArg i64 (chk14 c0 (fun q => by rcases ((bare_ref o).1 q).1 f hf10 with q | q; exact absurd q (by assumption); exact absurd (mem_fints.2 q) (by assumption))).symm, (Ext.trans (Ext.trans (Ext.trans (Ext.trans hx2 hx4) hx8) hwL0) hx17)⟩
          · have gh2_19 := (of_decide_eq_true (nf h2_19))
            refine WF.skip ?_
            refine blk_n ?_
            refine thn_n ?_
            refine WF.region ?_
            refine WL.va rfl rfl rfl (X.moveI e6_L0) ?_
            refine WL.va rfl rfl rfl (X.add rfl rfl (w64 (by omega))) ?_
            refine WL.va rfl rfl rfl (X.assignI rfl) ?_
            refine WL.nil ?_
            exact thn_n ⟨_, (by omega), f + 1, rfl, rfl, (by repeat (first | exact hAL0 | refine Agree.put ?_ rfl | refine Agree.named hF10 ?_)), (Ext.trans hwL0 hx17), ⟨by omega, fun j hj => by rcases Nat.lt_succ_iff_lt_or_eq.1 hj with hj | rfl; exact hno j hj; first | exact .inl (by assumption) | exact .inr (mem_fints.1 (by assumption))⟩⟩
        · have gh14 := (Decidable.of_not_not (of_decide_eq_false h14))
          refine WL.p rfl rfl rfl (congrArg some h14) ?_
          refine WL.p rfl rfl rfl (congrArg some h14) ?_
          refine WL.p rfl rfl rfl (congrArg some h14) ?_
          refine WL.p rfl rfl rfl (congrArg some h14) ?_
          refine WL.va rfl rfl rfl (X.pickF rfl h14 rfl) ?_
          refine WL.nil ?_
          refine thn_n ?_
          refine WF.cond_f rfl ?_
          refine WF.skip ?_
          refine blk_n ?_
          refine thn_n ?_
          refine WF.region ?_
          refine WL.va rfl rfl rfl (X.moveI e6_L0) ?_
          refine WL.va rfl rfl rfl (X.add rfl rfl (w64 (by omega))) ?_
          refine WL.va rfl rfl rfl (X.assignI rfl) ?_
          refine WL.nil ?_
          exact thn_n ⟨_, (by omega), f + 1, rfl, rfl, (by repeat (first | exact hAL0 | refine Agree.put ?_ rfl | refine Agree.named hF10 ?_)), hwL0, ⟨by omega, fun j hj => by rcases Nat.lt_succ_iff_lt_or_eq.1 hj with hj | rfl; exact hno j hj; first | exact .inl (by assumption) | exact .inr (mem_fints.1 (by assumption))⟩⟩
      · have gh1_11 := (of_decide_eq_false h1_11)
        have hz : ∀ j, j < 10 → (rowL o.n).getD j 0 = 0 ∨ j ∈ fieldL (o.g 0) := fun j hj => hno j (by have hq := gh1_11; simp only [rowL, List.length_cons, List.length_nil] at hq; omega)
        refine WF.exit ?_
        refine thn_x ?_
        refine thn_x ?_
        refine blk_eq ?_
        refine thn_n ?_
        refine WF.named (fun F22 hF23 => ?_)
        refine WF.cut (fun f' w' => Agree [0, 1, 3, 4, 5, 6, 9, 10, 11, 12, 13, 14, 15, 16, 17, 18, 19, 20, 21, 22] f' F22 ∧ Ext wL0 w' ∧ o.bareP) ?_ ?_
        · refine WF.seq ?_
          refine WF.region ?_
          refine WL.va rfl rfl rfl (X.fieldAddrO (off := 0) ((congrFun hF23 1).trans ((hAL0.eq 1).trans (congrFun hF10 1))) Try.underlying26 rfl rfl Try.sizeOf3) ?_
          refine WL.va rfl rfl rfl (X.loadO hO1 (Ext.trans (Ext.trans hx4 hx8) hwL0) rfl rfl Try.isAgg3) ?_
          refine WL.va rfl rfl rfl (X.neq rfl rfl) ?_
          refine WL.va rfl rfl rfl (X.moveB rfl) ?_
          refine WL.split (j := 3) rfl (fun h25 => ?_) (fun h25 => ?_)
          · have gh25 := (of_decide_eq_true h25)
            refine WL.vg rfl (congrArg some h25) rfl rfl (X.fieldAddrO (off := 13) ((congrFun hF23 1).trans ((hAL0.eq 1).trans (congrFun hF10 1))) Try.underlying26 rfl rfl Try.sizeOf22) ?_
            refine WL.vg rfl (congrArg some h25) rfl rfl (X.loadO hO1 (Ext.trans (Ext.trans hx4 hx8) hwL0) rfl rfl Try.isAgg22) ?_
            refine WL.vg rfl (congrArg some h25) rfl rfl (X.len h.P rfl Try.underlying22) ?_
            refine WL.vg rfl (congrArg some h25) rfl rfl (X.fieldAddrO (off := 14) ((congrFun hF23 1).trans ((hAL0.eq 1).trans (congrFun hF10 1))) Try.underlying26 rfl rfl Try.sizeOf22) ?_
            refine WL.vg rfl (congrArg some h25) rfl rfl (X.loadO hO1 (Ext.trans (Ext.trans hx4 hx8) hwL0) rfl rfl Try.isAgg22) ?_
            refine WL.vg rfl (congrArg some h25) rfl rfl (X.len h.R rfl Try.underlying22) ?_
            refine WL.vg rfl (congrArg some h25) rfl rfl (X.add rfl rfl (w64 (by omega))) ?_
            refine WL.vg rfl (congrArg some h25) rfl rfl (X.fieldAddrO (off := 15) ((congrFun hF23 1).trans ((hAL0.eq 1).trans (congrFun hF10 1))) Try.underlying26 rfl rfl Try.sizeOf23) ?_
            refine WL.vg rfl (congrArg some h25) rfl rfl (X.loadO hO1 (Ext.trans (Ext.trans hx4 hx8) hwL0) rfl rfl Try.isAgg23) ?_
            refine WL.vg rfl (congrArg some h25) rfl rfl (X.len rE rfl Try.underlying23) ?_
            refine WL.vg rfl (congrArg some h25) rfl rfl (X.add rfl rfl (w64 (by omega))) ?_
            refine WL.vg rfl (congrArg some h25) rfl rfl (X.gtr rfl rfl) ?_
            refine WL.va rfl rfl rfl (X.pickT rfl h25 rfl) ?_
            refine WL.va rfl rfl rfl (X.moveB rfl) ?_
            refine WL.split (j := 17) rfl (fun h27 => ?_) (fun h27 => ?_)
            · have gh27 := (of_decide_eq_true h27)
              refine WL.p rfl rfl rfl (congrArg some h27) ?_
              refine WL.p rfl rfl rfl (congrArg some h27) ?_
              refine WL.p rfl rfl rfl (congrArg some h27) ?_
              refine WL.p rfl rfl rfl (congrArg some h27) ?_
              refine WL.pn rfl rfl rfl rfl ?_
              refine WL.pn rfl rfl rfl rfl ?_
              refine WL.pn rfl rfl rfl rfl ?_
              refine WL.pn rfl rfl rfl rfl ?_
              refine WL.p rfl rfl rfl (congrArg some h27) ?_
              refine WL.va rfl rfl rfl (X.pickT rfl h27 rfl) ?_
              refine WL.nil ?_
              refine thn_n ?_
              refine WF.cond_t rfl ?_
              refine WF.seq ?_
              refine WF.region ?_
              refine WL.va rfl rfl rfl (X.assignI rfl) ?_
              refine WL.nil ?_
              refine thn_n ?_
              refine WF.ret ?_
              refine thn_r ?_
              refine fin_r ?_
              exact ⟨congrArg i64 (chk14 c0 (fun q => ((bare_ref o).1 q).2 (by simp only [Od.g]; omega))).symm, (Ext.trans (Ext.trans (Ext.trans hx2 hx4) hx8) hwL0)⟩
            · have gh27 := (of_decide_eq_false h27)
              refine WL.vg rfl (congrArg some h27) rfl rfl (X.fieldAddrO (off := 0) ((congrFun hF23 1).trans ((hAL0.eq 1).trans (congrFun hF10 1))) Try.underlying26 rfl rfl Try.sizeOf3) ?_
              refine WL.vg rfl (congrArg some h27) rfl rfl (X.loadO hO1 (Ext.trans (Ext.trans hx4 hx8) hwL0) rfl rfl Try.isAgg3) ?_
              refine WL.vg rfl (congrArg some h27) rfl rfl (X.neq rfl rfl) ?_
              refine WL.vg rfl (congrArg some h27) rfl rfl (X.moveB rfl) ?_
              refine WL.split (j := 21) rfl (fun h30 => ?_) (fun h30 => ?_)
              · have gh30 := (of_decide_eq_true h30)
                refine WL.vg rfl (congrArg some h30) rfl rfl (X.fieldAddrO (off := 16) ((congrFun hF23 1).trans ((hAL0.eq 1).trans (congrFun hF10 1))) Try.underlying26 rfl rfl Try.sizeOf24) ?_
                refine WL.vg rfl (congrArg some h30) rfl rfl (X.loadO hO1 (Ext.trans (Ext.trans hx4 hx8) hwL0) rfl rfl Try.isAgg24) ?_
                refine WL.vg rfl (congrArg some h30) rfl rfl (X.len h.D rfl Try.underlying24) ?_
                refine WL.vg rfl (congrArg some h30) rfl rfl (X.gtr rfl rfl) ?_
                refine WL.vg rfl (congrArg some h27) rfl rfl (X.pickT rfl h30 rfl) ?_
                refine WL.va rfl rfl rfl (X.pickF rfl h27 rfl) ?_
                refine WL.nil ?_
                refine thn_n ?_
                refine WF.cond rfl (fun h3_31 => ?_) (fun h3_31 => ?_)
                · have gh3_31 := (of_decide_eq_true h3_31)
                  refine WF.seq ?_
                  refine WF.region ?_
                  refine WL.va rfl rfl rfl (X.assignI rfl) ?_
                  refine WL.nil ?_
                  refine thn_n ?_
                  refine WF.ret ?_
                  refine thn_r ?_
                  refine fin_r ?_
                  exact ⟨congrArg i64 (chk14 c0 (fun q => ((bare_ref o).1 q).2 (by simp only [Od.g]; omega))).symm, (Ext.trans (Ext.trans (Ext.trans hx2 hx4) hx8) hwL0)⟩
                · have gh3_31 := (of_decide_eq_false h3_31)
                  refine WF.skip ?_
                  refine thn_n ?_
                  exact ⟨(by repeat (first | exact (Agree.refl _ F22) | refine Agree.put ?_ rfl | refine Agree.sub hAL0 rfl ?_ | refine Agree.named hF23 ?_ | refine Agree.named hF10 ?_)), (Ext.refl _), ((bare_ref o).2 ⟨hz, by simp only [Od.g]; omega⟩)⟩
              · have gh30 := (Decidable.of_not_not (of_decide_eq_false h30))
                refine WL.p rfl rfl rfl (congrArg some h30) ?_
                refine WL.p rfl rfl rfl (congrArg some h30) ?_
                refine WL.p rfl rfl rfl (congrArg some h30) ?_
                refine WL.p rfl rfl rfl (congrArg some h30) ?_
                refine WL.vg rfl (congrArg some h27) rfl rfl (X.pickF rfl h30 rfl) ?_
                refine WL.va rfl rfl rfl (X.pickF rfl h27 rfl) ?_
                refine WL.nil ?_
                refine thn_n ?_
                refine WF.cond_f rfl ?_
                refine WF.skip ?_
                refine thn_n ?_
                exact ⟨(by repeat (first | exact (Agree.refl _ F22) | refine Agree.put ?_ rfl | refine Agree.sub hAL0 rfl ?_ | refine Agree.named hF23 ?_ | refine Agree.named hF10 ?_)), (Ext.refl _), ((bare_ref o).2 ⟨hz, by simp only [Od.g]; omega⟩)⟩
          · have gh25 := (Decidable.of_not_not (of_decide_eq_false h25))
            refine WL.p rfl rfl rfl (congrArg some h25) ?_
            refine WL.p rfl rfl rfl (congrArg some h25) ?_
            refine WL.p rfl rfl rfl (congrArg some h25) ?_
            refine WL.p rfl rfl rfl (congrArg some h25) ?_
            refine WL.p rfl rfl rfl (congrArg some h25) ?_
            refine WL.p rfl rfl rfl (congrArg some h25) ?_
            refine WL.p rfl rfl rfl (congrArg some h25) ?_
            refine WL.p rfl rfl rfl (congrArg some h25) ?_
            refine WL.p rfl rfl rfl (congrArg some h25) ?_
            refine WL.p rfl rfl rfl (congrArg some h25) ?_
            refine WL.p rfl rfl rfl (congrArg some h25) ?_
            refine WL.p rfl rfl rfl (congrArg some h25) ?_
            refine WL.va rfl rfl rfl (X.pickF rfl h25 rfl) ?_
            refine WL.va rfl rfl rfl (X.moveB rfl) ?_
            refine WL.vg rfl rfl rfl rfl (X.fieldAddrO (off := 0) ((congrFun hF23 1).trans ((hAL0.eq 1).trans (congrFun hF10 1))) Try.underlying26 rfl rfl Try.sizeOf3) ?_
            refine WL.vg rfl rfl rfl rfl (X.loadO hO1 (Ext.trans (Ext.trans hx4 hx8) hwL0) rfl rfl Try.isAgg3) ?_
            refine WL.vg rfl rfl rfl rfl (X.neq rfl rfl) ?_
            refine WL.vg rfl rfl rfl rfl (X.moveB rfl) ?_
            refine WL.split (j := 21) rfl (fun h36 => ?_) (fun h36 => ?_)
            · have gh36 := (of_decide_eq_true h36)
              refine WL.vg rfl (congrArg some h36) rfl rfl (X.fieldAddrO (off := 16) ((congrFun hF23 1).trans ((hAL0.eq 1).trans (congrFun hF10 1))) Try.underlying26 rfl rfl Try.sizeOf24) ?_
              refine WL.vg rfl (congrArg some h36) rfl rfl (X.loadO hO1 (Ext.trans (Ext.trans hx4 hx8) hwL0) rfl rfl Try.isAgg24) ?_
              refine WL.vg rfl (congrArg some h36) rfl rfl (X.len h.D rfl Try.underlying24) ?_
              refine WL.vg rfl (congrArg some h36) rfl rfl (X.gtr rfl rfl) ?_
              refine WL.vg rfl rfl rfl rfl (X.pickT rfl h36 rfl) ?_
              refine WL.va rfl rfl rfl (X.pickF rfl rfl rfl) ?_
              refine WL.nil ?_
              refine thn_n ?_
              refine WF.cond rfl (fun h3_37 => ?_) (fun h3_37 => ?_)
              · have gh3_37 := (of_decide_eq_true h3_37)
                refine WF.seq ?_
                refine WF.region ?_
                refine WL.va rfl rfl rfl (X.assignI rfl) ?_
                refine WL.nil ?_
                refine thn_n ?_
                refine WF.ret ?_
                refine thn_r ?_
                refine fin_r ?_
                exact ⟨congrArg i64 (chk14 c0 (fun q => ((bare_ref o).1 q).2 (by simp only [Od.g]; omega))).symm, (Ext.trans (Ext.trans (Ext.trans hx2 hx4) hx8) hwL0)⟩
              · have gh3_37 := (of_decide_eq_false h3_37)
                refine WF.skip ?_
                refine thn_n ?_
                exact ⟨(by repeat (first | exact (Agree.refl _ F22) | refine Agree.put ?_ rfl | refine Agree.sub hAL0 rfl ?_ | refine Agree.named hF23 ?_ | refine Agree.named hF10 ?_)), (Ext.refl _), ((bare_ref o).2 ⟨hz, by simp only [Od.g]; omega⟩)⟩
            · have gh36 := (Decidable.of_not_not (of_decide_eq_false h36))
              refine WL.p rfl rfl rfl (congrArg some h36) ?_
              refine WL.p rfl rfl rfl (congrArg some h36) ?_
              refine WL.p rfl rfl rfl (congrArg some h36) ?_
              refine WL.p rfl rfl rfl (congrArg some h36) ?_
              refine WL.vg rfl rfl rfl rfl (X.pickF rfl h36 rfl) ?_
              refine WL.va rfl rfl rfl (X.pickF rfl rfl rfl) ?_
              refine WL.nil ?_
              refine thn_n ?_
              refine WF.cond_f rfl ?_
              refine WF.skip ?_
              refine thn_n ?_
              exact ⟨(by repeat (first | exact (Agree.refl _ F22) | refine Agree.put ?_ rfl | refine Agree.sub hAL0 rfl ?_ | refine Agree.named hF23 ?_ | refine Agree.named hF10 ?_)), (Ext.refl _), ((bare_ref o).2 ⟨hz, by simp only [Od.g]; omega⟩)⟩
        · rintro fCs10 wCs10 ⟨hACs10, hwCs10, c1⟩
          have := World.grownBy.size hwCs10
          refine WF.named (fun F40 hF41 => ?_)
          refine WF.cut (fun f' w' => Agree [0, 1, 3, 4, 5, 6, 9, 10, 11, 12, 13, 14, 15, 16, 17, 18, 19, 20, 21, 22] f' F40 ∧ Ext wCs10 w' ∧ ¬ (4 < o.P.length ∨ 16 < o.R.length ∨ 8 < o.W.length)) ?_ ?_
          · refine WF.seq ?_
            refine WF.region ?_
            refine WL.va rfl rfl rfl (X.fieldAddrO (off := 13) ((congrFun hF41 1).trans ((hACs10.eq 1).trans ((congrFun hF23 1).trans ((hAL0.eq 1).trans (congrFun hF10 1))))) Try.underlying26 rfl rfl Try.sizeOf22) ?_
            refine WL.va rfl rfl rfl (X.loadO hO1 (Ext.trans (Ext.trans (Ext.trans hx4 hx8) hwL0) hwCs10) rfl rfl Try.isAgg22) ?_
            refine WL.va rfl rfl rfl (X.len h.P rfl Try.underlying22) ?_
            refine WL.va rfl rfl rfl (X.gtr rfl rfl) ?_
            refine WL.va rfl rfl rfl (X.moveB rfl) ?_
            refine WL.split (j := 4) rfl (fun h43 => ?_) (fun h43 => ?_)
            · have gh43 := (of_decide_eq_true h43)
              refine WL.p rfl rfl rfl (congrArg some h43) ?_
              refine WL.p rfl rfl rfl (congrArg some h43) ?_
              refine WL.p rfl rfl rfl (congrArg some h43) ?_
              refine WL.p rfl rfl rfl (congrArg some h43) ?_
              refine WL.va rfl rfl rfl (X.pickT rfl h43 rfl) ?_
              refine WL.va rfl rfl rfl (X.moveB rfl) ?_
              refine WL.p rfl rfl rfl rfl ?_
              refine WL.p rfl rfl rfl rfl ?_
              refine WL.p rfl rfl rfl rfl ?_
              refine WL.p rfl rfl rfl rfl ?_
              refine WL.va rfl rfl rfl (X.pickT rfl rfl rfl) ?_
              refine WL.nil ?_
              refine thn_n ?_
              refine WF.cond_t rfl ?_
              refine WF.seq ?_
              refine WF.region ?_
              refine WL.va rfl rfl rfl (X.assignI rfl) ?_
              refine WL.nil ?_
              refine thn_n ?_
              refine WF.ret ?_
              refine thn_r ?_
              refine fin_r ?_
              exact ⟨congrArg i64 (chk17 c0 c1 (by omega)).symm, (Ext.trans (Ext.trans (Ext.trans (Ext.trans hx2 hx4) hx8) hwL0) hwCs10)⟩
            · have gh43 := (of_decide_eq_false h43)
              refine WL.vg rfl (congrArg some h43) rfl rfl (X.fieldAddrO (off := 14) ((congrFun hF41 1).trans ((hACs10.eq 1).trans ((congrFun hF23 1).trans ((hAL0.eq 1).trans (congrFun hF10 1))))) Try.underlying26 rfl rfl Try.sizeOf22) ?_
              refine WL.vg rfl (congrArg some h43) rfl rfl (X.loadO hO1 (Ext.trans (Ext.trans (Ext.trans hx4 hx8) hwL0) hwCs10) rfl rfl Try.isAgg22) ?_
              refine WL.vg rfl (congrArg some h43) rfl rfl (X.len h.R rfl Try.underlying22) ?_
              refine WL.vg rfl (congrArg some h43) rfl rfl (X.gtr rfl rfl) ?_
              refine WL.va rfl rfl rfl (X.pickF rfl h43 rfl) ?_
              refine WL.va rfl rfl rfl (X.moveB rfl) ?_
              refine WL.split (j := 10) rfl (fun h47 => ?_) (fun h47 => ?_)
              · have gh47 := (of_decide_eq_true h47)
                refine WL.p rfl rfl rfl (congrArg some h47) ?_
                refine WL.p rfl rfl rfl (congrArg some h47) ?_
                refine WL.p rfl rfl rfl (congrArg some h47) ?_
                refine WL.p rfl rfl rfl (congrArg some h47) ?_
                refine WL.va rfl rfl rfl (X.pickT rfl h47 rfl) ?_
                refine WL.nil ?_
                refine thn_n ?_
                refine WF.cond_t rfl ?_
                refine WF.seq ?_
                refine WF.region ?_
                refine WL.va rfl rfl rfl (X.assignI rfl) ?_
                refine WL.nil ?_
                refine thn_n ?_
                refine WF.ret ?_
                refine thn_r ?_
                refine fin_r ?_
                exact ⟨congrArg i64 (chk17 c0 c1 (by omega)).symm, (Ext.trans (Ext.trans (Ext.trans (Ext.trans hx2 hx4) hx8) hwL0) hwCs10)⟩
              · have gh47 := (of_decide_eq_false h47)
                refine WL.vg rfl (congrArg some h47) rfl rfl (X.fieldAddrO (off := 15) ((congrFun hF41 1).trans ((hACs10.eq 1).trans ((congrFun hF23 1).trans ((hAL0.eq 1).trans (congrFun hF10 1))))) Try.underlying26 rfl rfl Try.sizeOf23) ?_
                refine WL.vg rfl (congrArg some h47) rfl rfl (X.loadO hO1 (Ext.trans (Ext.trans (Ext.trans hx4 hx8) hwL0) hwCs10) rfl rfl Try.isAgg23) ?_
                refine WL.vg rfl (congrArg some h47) rfl rfl (X.len rE rfl Try.underlying23) ?_
                refine WL.vg rfl (congrArg some h47) rfl rfl (X.gtr rfl rfl) ?_
                refine WL.va rfl rfl rfl (X.pickF rfl h47 rfl) ?_
                refine WL.nil ?_
                refine thn_n ?_
                refine WF.cond rfl (fun h4_49 => ?_) (fun h4_49 => ?_)
                · have gh4_49 := (of_decide_eq_true h4_49)
                  refine WF.seq ?_
                  refine WF.region ?_
                  refine WL.va rfl rfl rfl (X.assignI rfl) ?_
                  refine WL.nil ?_
                  refine thn_n ?_
                  refine WF.ret ?_
                  refine thn_r ?_
                  refine fin_r ?_
                  exact ⟨congrArg i64 (chk17 c0 c1 (by omega)).symm, (Ext.trans (Ext.trans (Ext.trans (Ext.trans hx2 hx4) hx8) hwL0) hwCs10)⟩
                · have gh4_49 := (of_decide_eq_false h4_49)
                  refine WF.skip ?_
                  refine thn_n ?_
                  exact ⟨(by repeat (first | exact (Agree.refl _ F40) | refine Agree.put ?_ rfl | refine Agree.sub hACs10 rfl ?_ | refine Agree.sub hAL0 rfl ?_ | refine Agree.named hF41 ?_ | refine Agree.named hF23 ?_ | refine Agree.named hF10 ?_)), (Ext.refl _), (by omega)⟩
          · rintro fCs12 wCs12 ⟨hACs12, hwCs12, c2⟩
            have := World.grownBy.size hwCs12
            refine WF.seq ?_
            refine WF.seq ?_
            refine WF.region ?_
            refine WL.va rfl rfl rfl (X.fieldAddrO (off := 16) ((hACs12.eq 1).trans ((congrFun hF41 1).trans ((hACs10.eq 1).trans ((congrFun hF23 1).trans ((hAL0.eq 1).trans (congrFun hF10 1)))))) Try.underlying26 rfl rfl Try.sizeOf24) ?_
            refine WL.va rfl rfl rfl (X.loadO hO1 (Ext.trans (Ext.trans (Ext.trans (Ext.trans hx4 hx8) hwL0) hwCs10) hwCs12) rfl rfl Try.isAgg24) ?_
            refine WL.va rfl rfl rfl (X.len h.D rfl Try.underlying24) ?_
            refine WL.va rfl rfl rfl (X.gtr rfl rfl) ?_
            refine WL.nil ?_
            refine thn_n ?_
            refine WF.cond rfl (fun h5_51 => ?_) (fun h5_51 => ?_)
            · have gh5_51 := (of_decide_eq_true h5_51)
              refine WF.seq ?_
              refine WF.region ?_
              refine WL.va rfl rfl rfl (X.assignI rfl) ?_
              refine WL.nil ?_
              refine thn_n ?_
              refine WF.ret ?_
              refine thn_r ?_
              refine fin_r ?_
              exact ⟨congrArg i64 (chk2 c0 c1 c2 (by omega)).symm, (Ext.trans (Ext.trans (Ext.trans (Ext.trans (Ext.trans hx2 hx4) hx8) hwL0) hwCs10) hwCs12)⟩
            · have gh5_51 := (of_decide_eq_false h5_51)
              have c3 : ¬ 32768 < o.D.length := by omega
              refine WF.skip ?_
              refine thn_n ?_
              refine WF.named (fun F53 hF54 => ?_)
              refine WF.cut (fun f' w' => Agree [0, 1, 3, 4, 5, 6, 9, 10, 11, 12, 13, 14, 15, 16, 17, 18, 19, 20, 21, 22, 80, 81, 82, 83] f' F53 ∧ Ext wCs12 w' ∧ (0 ≤ o.n.getD 1 0 ∧ o.n.getD 1 0 ≤ 4) ∧ inM (o.n.getD 2 0) ∧ ¬ (o.n.getD 0 0 = 2 ∧ o.P.length = 0)) ?_ ?_
              · refine WF.seq ?_
                refine WF.region ?_
                refine WL.va rfl rfl rfl (X.fieldAddrO (off := 1) ((congrFun hF54 1).trans ((hACs12.eq 1).trans ((congrFun hF41 1).trans ((hACs10.eq 1).trans ((congrFun hF23 1).trans ((hAL0.eq 1).trans (congrFun hF10 1))))))) Try.underlying26 rfl rfl Try.sizeOf3) ?_
                refine WL.va rfl rfl rfl (X.loadO hO1 (Ext.trans (Ext.trans (Ext.trans (Ext.trans hx4 hx8) hwL0) hwCs10) hwCs12) rfl rfl Try.isAgg3) ?_
                refine WL.c rfl rfl rfl (X.call Try.call52 (evl_cons rfl (evl_cons rfl (evl_cons rfl evl_nil)))) (between_ok _ _ _ _) ?_
                rintro v56 w55 ⟨rfl, hx57⟩
                have := World.grownBy.size hx57
                refine WL.va rfl rfl rfl (X.not rfl) ?_
                refine WL.va rfl rfl rfl (X.moveB rfl) ?_
                refine WL.split (j := 4) rfl (fun h60 => ?_) (fun h60 => ?_)
                · have gh60 := (of_decide_eq_false (nt h60))
                  refine WL.p rfl rfl rfl (congrArg some h60) ?_
                  refine WL.p rfl rfl rfl (congrArg some h60) ?_
                  refine WL.p rfl rfl rfl (congrArg some h60) ?_
                  refine WL.p rfl rfl rfl (congrArg some h60) ?_
                  refine WL.va rfl rfl rfl (X.pickT rfl h60 rfl) ?_
                  refine WL.va rfl rfl rfl (X.moveB rfl) ?_
                  refine WL.p rfl rfl rfl rfl ?_
                  refine WL.p rfl rfl rfl rfl ?_
                  refine WL.p rfl rfl rfl rfl ?_
                  refine WL.p rfl rfl rfl rfl ?_
                  refine WL.pn rfl rfl rfl rfl ?_
                  refine WL.pn rfl rfl rfl rfl ?_
                  refine WL.pn rfl rfl rfl rfl ?_
                  refine WL.pn rfl rfl rfl rfl ?_
                  refine WL.p rfl rfl rfl rfl ?_
                  refine WL.va rfl rfl rfl (X.pickT rfl rfl rfl) ?_
                  refine WL.nil ?_
                  refine thn_n ?_
                  refine WF.cond_t rfl ?_
                  refine WF.seq ?_
                  refine WF.region ?_
                  refine WL.va rfl rfl rfl (X.assignI rfl) ?_
                  refine WL.nil ?_
                  refine thn_n ?_
                  refine WF.ret ?_
                  refine thn_r ?_
                  refine fin_r ?_
                  exact ⟨congrArg i64 (chk3 c0 c1 c2 c3 (fun q => by have hq := ((place_ref c0 c1).1 q.1).1; simp only [Od.g, inM] at hq; omega)).symm, (Ext.trans (Ext.trans (Ext.trans (Ext.trans (Ext.trans (Ext.trans hx2 hx4) hx8) hwL0) hwCs10) hwCs12) hx57)⟩
                · have gh60 := (of_decide_eq_true (nf h60))
                  refine WL.vg rfl (congrArg some h60) rfl rfl (X.fieldAddrO (off := 2) ((congrFun hF54 1).trans ((hACs12.eq 1).trans ((congrFun hF41 1).trans ((hACs10.eq 1).trans ((congrFun hF23 1).trans ((hAL0.eq 1).trans (congrFun hF10 1))))))) Try.underlying26 rfl rfl Try.sizeOf3) ?_
                  refine WL.vg rfl (congrArg some h60) rfl rfl (X.loadO hO1 (Ext.trans (Ext.trans (Ext.trans (Ext.trans (Ext.trans hx4 hx8) hwL0) hwCs10) hwCs12) hx57) rfl rfl Try.isAgg3) ?_
                  refine WL.cg rfl (congrArg some h60) rfl rfl (X.call Try.call52 (evl_cons rfl (evl_cons rfl (evl_cons rfl evl_nil)))) (between_ok _ _ _ _) ?_
                  rintro v65 w63 ⟨rfl, hx66⟩
                  have := World.grownBy.size hx66
                  refine WL.vg rfl (congrArg some h60) rfl rfl (X.not rfl) ?_
                  refine WL.va rfl rfl rfl (X.pickF rfl h60 rfl) ?_
                  refine WL.va rfl rfl rfl (X.moveB rfl) ?_
                  refine WL.split (j := 10) rfl (fun h69 => ?_) (fun h69 => ?_)
                  · have gh69 := (of_decide_eq_false (nt h69))
                    refine WL.p rfl rfl rfl (congrArg some h69) ?_
                    refine WL.p rfl rfl rfl (congrArg some h69) ?_
                    refine WL.p rfl rfl rfl (congrArg some h69) ?_
                    refine WL.p rfl rfl rfl (congrArg some h69) ?_
                    refine WL.pn rfl rfl rfl rfl ?_
                    refine WL.pn rfl rfl rfl rfl ?_
                    refine WL.pn rfl rfl rfl rfl ?_
                    refine WL.pn rfl rfl rfl rfl ?_
                    refine WL.p rfl rfl rfl (congrArg some h69) ?_
                    refine WL.va rfl rfl rfl (X.pickT rfl h69 rfl) ?_
                    refine WL.nil ?_
                    refine thn_n ?_
                    refine WF.cond_t rfl ?_
                    refine WF.seq ?_
                    refine WF.region ?_
                    refine WL.va rfl rfl rfl (X.assignI rfl) ?_
                    refine WL.nil ?_
                    refine thn_n ?_
                    refine WF.ret ?_
                    refine thn_r ?_
                    refine fin_r ?_
                    exact ⟨congrArg i64 (chk3 c0 c1 c2 c3 (fun q => by have hq := ((place_ref c0 c1).1 q.1).1; simp only [Od.g, inM] at hq; omega)).symm, (Ext.trans (Ext.trans (Ext.trans (Ext.trans (Ext.trans (Ext.trans (Ext.trans hx2 hx4) hx8) hwL0) hwCs10) hwCs12) hx57) hx66)⟩
                  · have gh69 := (of_decide_eq_true (nf h69))
                    refine WL.vg rfl (congrArg some h69) rfl rfl (X.fieldAddrO (off := 0) ((congrFun hF54 1).trans ((hACs12.eq 1).trans ((congrFun hF41 1).trans ((hACs10.eq 1).trans ((congrFun hF23 1).trans ((hAL0.eq 1).trans (congrFun hF10 1))))))) Try.underlying26 rfl rfl Try.sizeOf3) ?_
                    refine WL.vg rfl (congrArg some h69) rfl rfl (X.loadO hO1 (Ext.trans (Ext.trans (Ext.trans (Ext.trans (Ext.trans (Ext.trans hx4 hx8) hwL0) hwCs10) hwCs12) hx57) hx66) rfl rfl Try.isAgg3) ?_
                    refine WL.vg rfl (congrArg some h69) rfl rfl (X.eql rfl rfl) ?_
                    refine WL.vg rfl (congrArg some h69) rfl rfl (X.moveB rfl) ?_
                    refine WL.split (j := 14) rfl (fun h72 => ?_) (fun h72 => ?_)
                    · have gh72 := (of_decide_eq_true h72)
                      refine WL.vg rfl (congrArg some h72) rfl rfl (X.fieldAddrO (off := 13) ((congrFun hF54 1).trans ((hACs12.eq 1).trans ((congrFun hF41 1).trans ((hACs10.eq 1).trans ((congrFun hF23 1).trans ((hAL0.eq 1).trans (congrFun hF10 1))))))) Try.underlying26 rfl rfl Try.sizeOf22) ?_
                      refine WL.vg rfl (congrArg some h72) rfl rfl (X.loadO hO1 (Ext.trans (Ext.trans (Ext.trans (Ext.trans (Ext.trans (Ext.trans hx4 hx8) hwL0) hwCs10) hwCs12) hx57) hx66) rfl rfl Try.isAgg22) ?_
                      refine WL.vg rfl (congrArg some h72) rfl rfl (X.len h.P rfl Try.underlying22) ?_
                      refine WL.vg rfl (congrArg some h72) rfl rfl (X.eql rfl rfl) ?_
                      refine WL.vg rfl (congrArg some h69) rfl rfl (X.pickT rfl h72 rfl) ?_
                      refine WL.va rfl rfl rfl (X.pickF rfl h69 rfl) ?_
                      refine WL.nil ?_
                      refine thn_n ?_
                      refine WF.cond rfl (fun h6_73 => ?_) (fun h6_73 => ?_)
                      · have gh6_73 := (of_decide_eq_true h6_73)
                        refine WF.seq ?_
                        refine WF.region ?_
                        refine WL.va rfl rfl rfl (X.assignI rfl) ?_
                        refine WL.nil ?_
                        refine thn_n ?_
                        refine WF.ret ?_
                        refine thn_r ?_
                        refine fin_r ?_
                        exact ⟨congrArg i64 (chk3 c0 c1 c2 c3 (fun q => by have hq := ((place_ref c0 c1).1 q.1).1; simp only [Od.g, inM] at hq; omega)).symm, (Ext.trans (Ext.trans (Ext.trans (Ext.trans (Ext.trans (Ext.trans (Ext.trans hx2 hx4) hx8) hwL0) hwCs10) hwCs12) hx57) hx66)⟩
                      · have gh6_73 := (of_decide_eq_false h6_73)
                        refine WF.skip ?_
                        refine thn_n ?_
                        exact ⟨(by repeat (first | exact (Agree.refl _ F53) | refine Agree.put ?_ rfl | refine Agree.sub hACs12 rfl ?_ | refine Agree.sub hACs10 rfl ?_ | refine Agree.sub hAL0 rfl ?_ | refine Agree.named hF54 ?_ | refine Agree.named hF41 ?_ | refine Agree.named hF23 ?_ | refine Agree.named hF10 ?_)), (Ext.trans hx57 hx66), (by simp only [inM]; omega)⟩
                    · have gh72 := (of_decide_eq_false h72)
                      refine WL.p rfl rfl rfl (congrArg some h72) ?_
                      refine WL.p rfl rfl rfl (congrArg some h72) ?_
                      refine WL.p rfl rfl rfl (congrArg some h72) ?_
                      refine WL.p rfl rfl rfl (congrArg some h72) ?_
                      refine WL.vg rfl (congrArg some h69) rfl rfl (X.pickF rfl h72 rfl) ?_
                      refine WL.va rfl rfl rfl (X.pickF rfl h69 rfl) ?_
                      refine WL.nil ?_
                      refine thn_n ?_
                      refine WF.cond_f rfl ?_
                      refine WF.skip ?_
                      refine thn_n ?_
                      exact ⟨(by repeat (first | exact (Agree.refl _ F53) | refine Agree.put ?_ rfl | refine Agree.sub hACs12 rfl ?_ | refine Agree.sub hACs10 rfl ?_ | refine Agree.sub hAL0 rfl ?_ | refine Agree.named hF54 ?_ | refine Agree.named hF41 ?_ | refine Agree.named hF23 ?_ | refine Agree.named hF10 ?_)), (Ext.trans hx57 hx66), (by simp only [inM]; omega)⟩
              · rintro fCs16 wCs16 ⟨hACs16, hwCs16, cq⟩
                have := World.grownBy.size hwCs16
                refine WF.seq ?_
                refine WF.seq ?_
                refine WF.region ?_
                refine WL.va rfl rfl rfl (X.assignI rfl) ?_
                refine WL.nil ?_
                refine thn_n ?_
                refine WF.block ?_
                refine WF.named (fun F76 hF77 => ?_)
                refine WF.loopN (fun mL1 f' w' => ∃ (i : Nat), mL1 = (fieldL (o.g 0)).length - i ∧ f' 7 = .int .i64 (i : Int) ∧ Agree [0, 1, 3, 4, 5, 6, 9, 10, 11, 12, 13, 14, 15, 16, 17, 18, 19, 20, 21, 22, 80, 81, 82, 83] f' F76 ∧ Ext wCs16 w' ∧ i ≤ (fieldL (o.g 0)).length ∧ ∀ j (hj : j < (fieldL (o.g 0)).length), j < i → plR o (fieldL (o.g 0))[j]) ?_ ?_
                · exact ⟨_, 0, rfl, (congrFun hF77 7), (Agree.refl _ _), (Ext.refl _), ⟨Nat.zero_le _, fun j hj hq => by omega⟩⟩
                · rintro mL1 fL1 wL1 ⟨i, hmL1, e7_L1, hAL1, hwL1, ⟨hi0, hpi⟩⟩
                  have := World.grownBy.size hwL1
                  refine WF.seq ?_
                  refine WF.seq ?_
                  refine WF.region ?_
                  refine WL.va rfl rfl rfl (X.moveI e7_L1) ?_
                  refine WL.va rfl rfl rfl (X.move ((hAL1.eq 3).trans ((congrFun hF77 3).trans ((hACs16.eq 3).trans ((congrFun hF54 3).trans ((hACs12.eq 3).trans ((congrFun hF41 3).trans ((hACs10.eq 3).trans ((congrFun hF23 3).trans ((hAL0.eq 3).trans (congrFun hF10 3))))))))))) ?_
                  refine WL.va rfl rfl rfl (X.len hvf rfl Try.underlying22) ?_
                  refine WL.va rfl rfl rfl (X.lss rfl rfl) ?_
                  refine WL.nil ?_
                  refine thn_n ?_
                  refine WF.cond rfl (fun h7_78 => ?_) (fun h7_78 => ?_)
                  · have gh7_78 := (of_decide_eq_true h7_78)
                    have hi : i < (fieldL (o.g 0)).length := by have hq := gh7_78; simp only [List.length_map] at hq; omega
                    refine WF.skip ?_
                    refine thn_n ?_
                    refine WF.seq ?_
                    refine WF.block ?_
                    refine WF.seq ?_
                    refine WF.drawn (.q 0 (.q 1 (.q 2 (.q 3 (.q 4 (.l 5 (.q 6 .nil))))))) (fun w' => Ext wL1 w') 7 (by kernel_rfl) (by kernel_rfl) (Ext.drew _) ?_
                    have := World.grownBy.size (Ext.drew wL1)
                    refine WO.q rfl rfl rfl rfl (fun w' hE80 => (X.loadOA hO1 (Ext.trans (Ext.trans (Ext.trans (Ext.trans (Ext.trans (Ext.trans (Ext.trans hx4 hx8) hwL0) hwCs10) hwCs12) hwCs16) hwL1) hE80) ((hAL1.eq 1).trans ((congrFun hF77 1).trans ((hACs16.eq 1).trans ((congrFun hF54 1).trans ((hACs12.eq 1).trans ((congrFun hF41 1).trans ((hACs10.eq 1).trans ((congrFun hF23 1).trans ((hAL0.eq 1).trans (congrFun hF10 1)))))))))) rfl Try.isAgg26 Try.sizeOf26)) ?_
                    refine WO.q rfl rfl rfl rfl (fun w' hE80 => (X.move ((hAL1.eq 3).trans ((congrFun hF77 3).trans ((hACs16.eq 3).trans ((congrFun hF54 3).trans ((hACs12.eq 3).trans ((congrFun hF41 3).trans ((hACs10.eq 3).trans ((congrFun hF23 3).trans ((hAL0.eq 3).trans (congrFun hF10 3)))))))))))) ?_
                    refine WO.q rfl rfl rfl rfl (fun w' hE80 => (X.moveI e7_L1)) ?_
                    refine WO.q rfl rfl rfl rfl (fun w' hE80 => (X.idx hvf rfl rfl (by omega) Try.underlying22 Try.sizeOf3)) ?_
                    refine WO.q rfl rfl rfl rfl (fun w' hE80 => (X.loadI hvf (Ext.trans (Ext.trans (Ext.trans (Ext.trans (Ext.trans (Ext.trans hx8 hwL0) hwCs10) hwCs12) hwCs16) hwL1) hE80) rfl (by omega) Try.isAgg3)) ?_
                    refine WO.l ?_
                    refine LO.go rfl rfl (OW.enter rfl (by decide) (X.call Try.call53 (evl_cons rfl (evl_cons rfl evl_nil))) (by rw [fints_get hi]; exact placedR_ok vP vR vW vD o ((fieldL (o.g 0))[i]) (fieldL_lt (List.getElem_mem hi)) _ (h.ext (Ext.trans (Ext.trans (Ext.trans (Ext.trans (Ext.trans (Ext.trans (Ext.trans (Ext.trans hx2 hx4) hx8) hwL0) hwCs10) hwCs12) hwCs16) hwL1) (Ext.drew _))) ⟨hmP, hmR, hmW, hmD, hmWD⟩) ?_)
                    rintro v82 w81 ⟨rfl, hx83⟩
                    have := World.grownBy.size hx83
                    refine ⟨(Ext.trans (Ext.drew _) hx83), ?_⟩
                    refine WO.q rfl rfl rfl rfl (fun w' hE80 => (X.not rfl)) ?_
                    refine WO.nil ?_
                    refine WL.nil ?_
                    refine thn_n ?_
                    refine WF.cond rfl (fun h8_85 => ?_) (fun h8_85 => ?_)
                    · have gh8_85 := (of_decide_eq_false (nt h8_85))
                      refine WF.seq ?_
                      refine WF.region ?_
                      refine WL.va rfl rfl rfl (X.assignI rfl) ?_
                      refine WL.nil ?_
                      refine thn_n ?_
                      refine WF.ret ?_
                      refine blk_r ?_
                      refine thn_r ?_
                      refine thn_r ?_
                      refine blk_r ?_
                      refine thn_r ?_
                      refine fin_r ?_
                      exact ⟨congrArg i64 (chk3 c0 c1 c2 c3 (fun q => absurd (((place_ref c0 c1).1 q.1).2 _ (List.getElem_mem hi)) (by assumption))).symm, (Ext.trans (Ext.trans (Ext.trans (Ext.trans (Ext.trans (Ext.trans (Ext.trans (Ext.trans (Ext.trans hx2 hx4) hx8) hwL0) hwCs10) hwCs12) hwCs16) hwL1) (Ext.drew _)) hx83)⟩
                    · have gh8_85 := (of_decide_eq_true (nf h8_85))
                      refine WF.skip ?_
                      refine blk_n ?_
                      refine thn_n ?_
                      refine WF.region ?_
                      refine WL.va rfl rfl rfl (X.moveI e7_L1) ?_
                      refine WL.va rfl rfl rfl (X.add rfl rfl (w64 (by omega))) ?_
                      refine WL.va rfl rfl rfl (X.assignI rfl) ?_
                      refine WL.nil ?_
                      exact thn_n ⟨_, (by omega), i + 1, rfl, rfl, (by repeat (first | exact hAL1 | refine Agree.put ?_ rfl | refine Agree.sub hACs16 rfl ?_ | refine Agree.sub hACs12 rfl ?_ | refine Agree.sub hACs10 rfl ?_ | refine Agree.sub hAL0 rfl ?_ | refine Agree.named hF77 ?_ | refine Agree.named hF54 ?_ | refine Agree.named hF41 ?_ | refine Agree.named hF23 ?_ | refine Agree.named hF10 ?_)), (Ext.trans (Ext.trans hwL1 (Ext.drew _)) hx83), ⟨by omega, fun j hj hq => by rcases Nat.lt_succ_iff_lt_or_eq.1 hq with hq | rfl; exact hpi j hj hq; assumption⟩⟩
                  · have gh7_78 := (of_decide_eq_false h7_78)
                    have hpl : ∀ f ∈ fieldL (o.g 0), plR o f := fun f hf => by
                      obtain ⟨j, hj, rfl⟩ := List.getElem_of_mem hf
                      exact hpi j hj (by have hq := gh7_78; simp only [List.length_map] at hq; omega)
                    refine WF.exit ?_
                    refine thn_x ?_
                    refine thn_x ?_
                    refine blk_eq ?_
                    refine thn_n ?_
                    refine WF.named (fun F87 hF88 => ?_)
                    refine WF.cut (fun f' w' => Agree [0, 1, 3, 4, 5, 6, 7, 9, 10, 11, 12, 13, 14, 15, 16, 17, 18, 19, 20, 21, 22, 80, 81, 82, 83, 105, 106, 107, 108] f' F87 ∧ Ext wL1 w' ∧ allP o.P 1 4 ∧ allP o.R 0 63 ∧ allP o.bl 0 63) ?_ ?_
                    · refine WF.seq ?_
                      refine WF.region ?_
                      refine WL.va rfl rfl rfl (X.fieldAddrO (off := 13) ((congrFun hF88 1).trans ((hAL1.eq 1).trans ((congrFun hF77 1).trans ((hACs16.eq 1).trans ((congrFun hF54 1).trans ((hACs12.eq 1).trans ((congrFun hF41 1).trans ((hACs10.eq 1).trans ((congrFun hF23 1).trans ((hAL0.eq 1).trans (congrFun hF10 1))))))))))) Try.underlying26 rfl rfl Try.sizeOf22) ?_
                      refine WL.va rfl rfl rfl (X.loadO hO1 (Ext.trans (Ext.trans (Ext.trans (Ext.trans (Ext.trans (Ext.trans hx4 hx8) hwL0) hwCs10) hwCs12) hwCs16) hwL1) rfl rfl Try.isAgg22) ?_
                      refine WL.c rfl rfl rfl (X.call Try.call54 (evl_cons rfl (evl_cons rfl (evl_cons rfl evl_nil)))) (all_ok _ o.P _ _ _ (Row.ext h.P (Ext.trans (Ext.trans (Ext.trans (Ext.trans (Ext.trans (Ext.trans (Ext.trans hx2 hx4) hx8) hwL0) hwCs10) hwCs12) hwCs16) hwL1)) hmP) ?_
                      rintro v90 w89 ⟨rfl, hx91⟩
                      have := World.grownBy.size hx91
                      refine WL.va rfl rfl rfl (X.not rfl) ?_
                      refine WL.va rfl rfl rfl (X.moveB rfl) ?_
                      refine WL.split (j := 4) rfl (fun h94 => ?_) (fun h94 => ?_)
                      · have gh94 := (of_decide_eq_false (nt h94))
                        refine WL.p rfl rfl rfl (congrArg some h94) ?_
                        refine WL.p rfl rfl rfl (congrArg some h94) ?_
                        refine WL.p rfl rfl rfl (congrArg some h94) ?_
                        refine WL.p rfl rfl rfl (congrArg some h94) ?_
                        refine WL.va rfl rfl rfl (X.pickT rfl h94 rfl) ?_
                        refine WL.va rfl rfl rfl (X.moveB rfl) ?_
                        refine WL.p rfl rfl rfl rfl ?_
                        refine WL.p rfl rfl rfl rfl ?_
                        refine WL.p rfl rfl rfl rfl ?_
                        refine WL.p rfl rfl rfl rfl ?_
                        refine WL.va rfl rfl rfl (X.pickT rfl rfl rfl) ?_
                        refine WL.nil ?_
                        refine thn_n ?_
                        refine WF.cond_t rfl ?_
                        refine WF.seq ?_
                        refine WF.region ?_
                        refine WL.va rfl rfl rfl (X.assignI rfl) ?_
                        refine WL.nil ?_
                        refine thn_n ?_
                        refine WF.ret ?_
                        refine thn_r ?_
                        refine fin_r ?_
                        exact ⟨congrArg i64 (chk3 c0 c1 c2 c3 (by first | exact fun q => absurd q.2.1 (by assumption) | exact fun q => absurd q.2.2.1 (by assumption) | exact fun q => absurd q.2.2.2 (by assumption))).symm, (Ext.trans (Ext.trans (Ext.trans (Ext.trans (Ext.trans (Ext.trans (Ext.trans (Ext.trans hx2 hx4) hx8) hwL0) hwCs10) hwCs12) hwCs16) hwL1) hx91)⟩
                      · have gh94 := (of_decide_eq_true (nf h94))
                        refine WL.vg rfl (congrArg some h94) rfl rfl (X.fieldAddrO (off := 14) ((congrFun hF88 1).trans ((hAL1.eq 1).trans ((congrFun hF77 1).trans ((hACs16.eq 1).trans ((congrFun hF54 1).trans ((hACs12.eq 1).trans ((congrFun hF41 1).trans ((hACs10.eq 1).trans ((congrFun hF23 1).trans ((hAL0.eq 1).trans (congrFun hF10 1))))))))))) Try.underlying26 rfl rfl Try.sizeOf22) ?_
                        refine WL.vg rfl (congrArg some h94) rfl rfl (X.loadO hO1 (Ext.trans (Ext.trans (Ext.trans (Ext.trans (Ext.trans (Ext.trans (Ext.trans hx4 hx8) hwL0) hwCs10) hwCs12) hwCs16) hwL1) hx91) rfl rfl Try.isAgg22) ?_
                        refine WL.cg rfl (congrArg some h94) rfl rfl (X.call Try.call54 (evl_cons rfl (evl_cons rfl (evl_cons rfl evl_nil)))) (all_ok _ o.R _ _ _ (Row.ext h.R (Ext.trans (Ext.trans (Ext.trans (Ext.trans (Ext.trans (Ext.trans (Ext.trans (Ext.trans hx2 hx4) hx8) hwL0) hwCs10) hwCs12) hwCs16) hwL1) hx91)) hmR) ?_
                        rintro v98 w97 ⟨rfl, hx99⟩
                        have := World.grownBy.size hx99
                        refine WL.vg rfl (congrArg some h94) rfl rfl (X.not rfl) ?_
                        refine WL.va rfl rfl rfl (X.pickF rfl h94 rfl) ?_
                        refine WL.va rfl rfl rfl (X.moveB rfl) ?_
                        refine WL.split (j := 10) rfl (fun h102 => ?_) (fun h102 => ?_)
                        · have gh102 := (of_decide_eq_false (nt h102))
                          refine WL.p rfl rfl rfl (congrArg some h102) ?_
                          refine WL.p rfl rfl rfl (congrArg some h102) ?_
                          refine WL.p rfl rfl rfl (congrArg some h102) ?_
                          refine WL.p rfl rfl rfl (congrArg some h102) ?_
                          refine WL.va rfl rfl rfl (X.pickT rfl h102 rfl) ?_
                          refine WL.nil ?_
                          refine thn_n ?_
                          refine WF.cond_t rfl ?_
                          refine WF.seq ?_
                          refine WF.region ?_
                          refine WL.va rfl rfl rfl (X.assignI rfl) ?_
                          refine WL.nil ?_
                          refine thn_n ?_
                          refine WF.ret ?_
                          refine thn_r ?_
                          refine fin_r ?_
                          exact ⟨congrArg i64 (chk3 c0 c1 c2 c3 (by first | exact fun q => absurd q.2.1 (by assumption) | exact fun q => absurd q.2.2.1 (by assumption) | exact fun q => absurd q.2.2.2 (by assumption))).symm, (Ext.trans (Ext.trans (Ext.trans (Ext.trans (Ext.trans (Ext.trans (Ext.trans (Ext.trans (Ext.trans hx2 hx4) hx8) hwL0) hwCs10) hwCs12) hwCs16) hwL1) hx91) hx99)⟩
                        · have gh102 := (of_decide_eq_true (nf h102))
                          refine WL.vg rfl (congrArg some h102) rfl rfl (X.loadOA hO1 (Ext.trans (Ext.trans (Ext.trans (Ext.trans (Ext.trans (Ext.trans (Ext.trans (Ext.trans hx4 hx8) hwL0) hwCs10) hwCs12) hwCs16) hwL1) hx91) hx99) ((congrFun hF88 1).trans ((hAL1.eq 1).trans ((congrFun hF77 1).trans ((hACs16.eq 1).trans ((congrFun hF54 1).trans ((hACs12.eq 1).trans ((congrFun hF41 1).trans ((hACs10.eq 1).trans ((congrFun hF23 1).trans ((hAL0.eq 1).trans (congrFun hF10 1))))))))))) rfl Try.isAgg26 Try.sizeOf26) ?_
                          refine WL.cg rfl (congrArg some h102) rfl rfl (X.call Try.call55 (evl_cons rfl evl_nil)) (written_ok vP vR vW vD o _ (h.ext (Ext.trans (Ext.trans (Ext.trans (Ext.trans (Ext.trans (Ext.trans (Ext.trans (Ext.trans (Ext.trans hx2 hx4) hx8) hwL0) hwCs10) hwCs12) hwCs16) hwL1) hx91) hx99)) ⟨hmP, hmR, hmW, hmD, hmWD⟩) ?_
                          rintro vb1 wo1 ⟨ob1, hx104⟩
                          have := World.grownBy.size hx104
                          refine WL.cg rfl (congrArg some h102) rfl rfl (X.call Try.call54 (evl_cons rfl (evl_cons rfl (evl_cons rfl evl_nil)))) (all_ok _ o.bl _ _ _ (Row.ext (Row.of_own ob1) (Ext.refl wo1)) (by omega)) ?_
                          rintro v106 w105 ⟨rfl, hx107⟩
                          have := World.grownBy.size hx107
                          refine WL.vg rfl (congrArg some h102) rfl rfl (X.not rfl) ?_
                          refine WL.va rfl rfl rfl (X.pickF rfl h102 rfl) ?_
                          refine WL.nil ?_
                          refine thn_n ?_
                          refine WF.cond rfl (fun h9_109 => ?_) (fun h9_109 => ?_)
                          · have gh9_109 := (of_decide_eq_false (nt h9_109))
                            refine WF.seq ?_
                            refine WF.region ?_
                            refine WL.va rfl rfl rfl (X.assignI rfl) ?_
                            refine WL.nil ?_
                            refine thn_n ?_
                            refine WF.ret ?_
                            refine thn_r ?_
                            refine fin_r ?_
                            exact ⟨congrArg i64 (chk3 c0 c1 c2 c3 (by first | exact fun q => absurd q.2.1 (by assumption) | exact fun q => absurd q.2.2.1 (by assumption) | exact fun q => absurd q.2.2.2 (by assumption))).symm, (Ext.trans (Ext.trans (Ext.trans (Ext.trans (Ext.trans (Ext.trans (Ext.trans (Ext.trans (Ext.trans (Ext.trans (Ext.trans hx2 hx4) hx8) hwL0) hwCs10) hwCs12) hwCs16) hwL1) hx91) hx99) hx104) hx107)⟩
                          · have gh9_109 := (of_decide_eq_true (nf h9_109))
                            refine WF.skip ?_
                            refine thn_n ?_
                            exact ⟨(by repeat (first | exact (Agree.refl _ F87) | refine Agree.put ?_ rfl | refine Agree.sub hAL1 rfl ?_ | refine Agree.sub hACs16 rfl ?_ | refine Agree.sub hACs12 rfl ?_ | refine Agree.sub hACs10 rfl ?_ | refine Agree.sub hAL0 rfl ?_ | refine Agree.named hF88 ?_ | refine Agree.named hF77 ?_ | refine Agree.named hF54 ?_ | refine Agree.named hF41 ?_ | refine Agree.named hF23 ?_ | refine Agree.named hF10 ?_)), (Ext.trans (Ext.trans (Ext.trans hx91 hx99) hx104) hx107), (by refine ⟨?_, ?_, ?_⟩ <;> assumption)⟩
                    · rintro fCs23 wCs23 ⟨hACs23, hwCs23, ca⟩
                      have := World.grownBy.size hwCs23
                      refine WF.seq ?_
                      refine WF.seq ?_
                      refine WF.region ?_
                      refine WL.va rfl rfl rfl (X.assignI rfl) ?_
                      refine WL.nil ?_
                      refine thn_n ?_
                      refine WF.block ?_
                      refine WF.named (fun F111 hF112 => ?_)
                      refine WF.loopN (fun mL2 f' w' => ∃ (k : Nat), mL2 = E.length - k ∧ f' 8 = .int .i64 (k : Int) ∧ Agree [0, 1, 3, 4, 5, 6, 7, 9, 10, 11, 12, 13, 14, 15, 16, 17, 18, 19, 20, 21, 22, 80, 81, 82, 83, 105, 106, 107, 108] f' F111 ∧ Ext wCs23 w' ∧ k ≤ E.length ∧ ∀ j (hj : j < E.length), j < k → E[j].1.Data.length = 4) ?_ ?_
                      · exact ⟨_, 0, rfl, (congrFun hF112 8), (Agree.refl _ _), (Ext.refl _), ⟨Nat.zero_le _, fun j hj hq => by omega⟩⟩
                      · rintro mL2 fL2 wL2 ⟨k, hmL2, e8_L2, hAL2, hwL2, ⟨hk0, hsz⟩⟩
                        have := World.grownBy.size hwL2
                        refine WF.seq ?_
                        refine WF.seq ?_
                        refine WF.region ?_
                        refine WL.va rfl rfl rfl (X.moveI e8_L2) ?_
                        refine WL.va rfl rfl rfl (X.fieldAddrO (off := 15) ((hAL2.eq 1).trans ((congrFun hF112 1).trans ((hACs23.eq 1).trans ((congrFun hF88 1).trans ((hAL1.eq 1).trans ((congrFun hF77 1).trans ((hACs16.eq 1).trans ((congrFun hF54 1).trans ((hACs12.eq 1).trans ((congrFun hF41 1).trans ((hACs10.eq 1).trans ((congrFun hF23 1).trans ((hAL0.eq 1).trans (congrFun hF10 1)))))))))))))) Try.underlying26 rfl rfl Try.sizeOf23) ?_
                        refine WL.va rfl rfl rfl (X.loadO hO1 (Ext.trans (Ext.trans (Ext.trans (Ext.trans (Ext.trans (Ext.trans (Ext.trans (Ext.trans hx4 hx8) hwL0) hwCs10) hwCs12) hwCs16) hwL1) hwCs23) hwL2) rfl rfl Try.isAgg23) ?_
                        refine WL.va rfl rfl rfl (X.len rE rfl Try.underlying23) ?_
                        refine WL.va rfl rfl rfl (X.lss rfl rfl) ?_
                        refine WL.nil ?_
                        refine thn_n ?_
                        refine WF.cond rfl (fun h10_113 => ?_) (fun h10_113 => ?_)
                        · have gh10_113 := (of_decide_eq_true h10_113)
                          have hk : k < E.length := by omega
                          refine WF.skip ?_
                          refine thn_n ?_
                          refine WF.seq ?_
                          refine WF.block ?_
                          refine WF.seq ?_
                          refine WF.region ?_
                          refine WL.va rfl rfl rfl (X.fieldAddrO (off := 15) ((hAL2.eq 1).trans ((congrFun hF112 1).trans ((hACs23.eq 1).trans ((congrFun hF88 1).trans ((hAL1.eq 1).trans ((congrFun hF77 1).trans ((hACs16.eq 1).trans ((congrFun hF54 1).trans ((hACs12.eq 1).trans ((congrFun hF41 1).trans ((hACs10.eq 1).trans ((congrFun hF23 1).trans ((hAL0.eq 1).trans (congrFun hF10 1)))))))))))))) Try.underlying26 rfl rfl Try.sizeOf23) ?_
                          refine WL.va rfl rfl rfl (X.loadO hO1 (Ext.trans (Ext.trans (Ext.trans (Ext.trans (Ext.trans (Ext.trans (Ext.trans (Ext.trans hx4 hx8) hwL0) hwCs10) hwCs12) hwCs16) hwL1) hwCs23) hwL2) rfl rfl Try.isAgg23) ?_
                          refine WL.va rfl rfl rfl (X.moveI e8_L2) ?_
                          refine WL.va rfl rfl rfl (X.idx rE rfl rfl hk Try.underlying23 Try.sizeOf52) ?_
                          refine WL.va rfl rfl rfl (X.fieldAddrA rfl Try.underlying52 rfl rfl Try.sizeOf24) ?_
                          refine WL.va rfl rfl rfl (X.loadE rE (Ext.trans (Ext.trans (Ext.trans (Ext.trans (Ext.trans (Ext.trans (Ext.trans (Ext.trans (Ext.trans hx2 hx4) hx8) hwL0) hwCs10) hwCs12) hwCs16) hwL1) hwCs23) hwL2) rfl hk ((WRow.get hk (by decide)).trans rfl) Try.isAgg24) ?_
                          refine WL.va rfl rfl rfl (X.len (dE _ (List.getElem_mem hk)) rfl Try.underlying24) ?_
                          refine WL.va rfl rfl rfl (X.neq rfl rfl) ?_
                          refine WL.nil ?_
                          refine thn_n ?_
                          refine WF.cond rfl (fun h11_115 => ?_) (fun h11_115 => ?_)
                          · have gh11_115 := (of_decide_eq_true h11_115)
                            refine WF.seq ?_
                            refine WF.region ?_
                            refine WL.va rfl rfl rfl (X.assignI rfl) ?_
                            refine WL.nil ?_
                            refine thn_n ?_
                            refine WF.ret ?_
                            refine blk_r ?_
                            refine thn_r ?_
                            refine thn_r ?_
                            refine blk_r ?_
                            refine thn_r ?_
                            refine fin_r ?_
                            exact ⟨congrArg i64 (chk21 c0 c1 c2 c3 ⟨(place_ref c0 c1).2 ⟨cq, hpl⟩, ca⟩ (size_bad hE hk (by assumption))).symm, (Ext.trans (Ext.trans (Ext.trans (Ext.trans (Ext.trans (Ext.trans (Ext.trans (Ext.trans (Ext.trans hx2 hx4) hx8) hwL0) hwCs10) hwCs12) hwCs16) hwL1) hwCs23) hwL2)⟩
                          · have gh11_115 := (Decidable.of_not_not (of_decide_eq_false h11_115))
                            refine WF.skip ?_
                            refine blk_n ?_
                            refine thn_n ?_
                            refine WF.region ?_
                            refine WL.va rfl rfl rfl (X.moveI e8_L2) ?_
                            refine WL.va rfl rfl rfl (X.add rfl rfl (w64 (by omega))) ?_
                            refine WL.va rfl rfl rfl (X.assignI rfl) ?_
                            refine WL.nil ?_
                            exact thn_n ⟨_, (by omega), k + 1, rfl, rfl, (by repeat (first | exact hAL2 | refine Agree.put ?_ rfl | refine Agree.sub hACs23 rfl ?_ | refine Agree.sub hAL1 rfl ?_ | refine Agree.sub hACs16 rfl ?_ | refine Agree.sub hACs12 rfl ?_ | refine Agree.sub hACs10 rfl ?_ | refine Agree.sub hAL0 rfl ?_ | refine Agree.named hF112 ?_ | refine Agree.named hF88 ?_ | refine Agree.named hF77 ?_ | refine Agree.named hF54 ?_ | refine Agree.named hF41 ?_ | refine Agree.named hF23 ?_ | refine Agree.named hF10 ?_)), hwL2, ⟨by omega, fun j hj hq => by rcases Nat.lt_succ_iff_lt_or_eq.1 hq with hq | rfl; exact hsz j hj hq; omega⟩⟩
                        · have gh10_113 := (of_decide_eq_false h10_113)
                          have c5 : sizeP o.W := size_ok hE fun j hj => hsz j hj (by omega)
                          refine WF.exit ?_
                          refine thn_x ?_
                          refine thn_x ?_
                          refine blk_eq ?_
                          refine thn_n ?_
                          refine WF.seq ?_
                          refine WF.seq ?_
                          refine WF.region ?_
                          refine WL.va rfl rfl rfl (X.fieldAddrO (off := 13) ((hAL2.eq 1).trans ((congrFun hF112 1).trans ((hACs23.eq 1).trans ((congrFun hF88 1).trans ((hAL1.eq 1).trans ((congrFun hF77 1).trans ((hACs16.eq 1).trans ((congrFun hF54 1).trans ((hACs12.eq 1).trans ((congrFun hF41 1).trans ((hACs10.eq 1).trans ((congrFun hF23 1).trans ((hAL0.eq 1).trans (congrFun hF10 1)))))))))))))) Try.underlying26 rfl rfl Try.sizeOf22) ?_
                          refine WL.va rfl rfl rfl (X.loadO hO1 (Ext.trans (Ext.trans (Ext.trans (Ext.trans (Ext.trans (Ext.trans (Ext.trans (Ext.trans hx4 hx8) hwL0) hwCs10) hwCs12) hwCs16) hwL1) hwCs23) hwL2) rfl rfl Try.isAgg22) ?_
                          refine WL.c rfl rfl rfl (X.call Try.call56 (evl_cons rfl evl_nil)) (risesR_ok _ o.P _ (Row.ext h.P (Ext.trans (Ext.trans (Ext.trans (Ext.trans (Ext.trans (Ext.trans (Ext.trans (Ext.trans (Ext.trans hx2 hx4) hx8) hwL0) hwCs10) hwCs12) hwCs16) hwL1) hwCs23) hwL2)) hmP) ?_
                          rintro v118 w117 ⟨rfl, hx119⟩
                          have := World.grownBy.size hx119
                          refine WL.va rfl rfl rfl (X.not rfl) ?_
                          refine WL.va rfl rfl rfl (X.moveB rfl) ?_
                          refine WL.split (j := 4) rfl (fun h122 => ?_) (fun h122 => ?_)
                          · have gh122 := (of_decide_eq_false (nt h122))
                            refine WL.p rfl rfl rfl (congrArg some h122) ?_
                            refine WL.p rfl rfl rfl (congrArg some h122) ?_
                            refine WL.p rfl rfl rfl (congrArg some h122) ?_
                            refine WL.p rfl rfl rfl (congrArg some h122) ?_
                            refine WL.va rfl rfl rfl (X.pickT rfl h122 rfl) ?_
                            refine WL.va rfl rfl rfl (X.moveB rfl) ?_
                            refine WL.p rfl rfl rfl rfl ?_
                            refine WL.p rfl rfl rfl rfl ?_
                            refine WL.p rfl rfl rfl rfl ?_
                            refine WL.p rfl rfl rfl rfl ?_
                            refine WL.va rfl rfl rfl (X.pickT rfl rfl rfl) ?_
                            refine WL.nil ?_
                            refine thn_n ?_
                            refine WF.cond_t rfl ?_
                            refine WF.seq ?_
                            refine WF.region ?_
                            refine WL.va rfl rfl rfl (X.assignI rfl) ?_
                            refine WL.nil ?_
                            refine thn_n ?_
                            refine WF.ret ?_
                            refine thn_r ?_
                            refine fin_r ?_
                            exact ⟨congrArg i64 (chk15 c0 c1 c2 c3 ⟨(place_ref c0 c1).2 ⟨cq, hpl⟩, ca⟩ c5 (by first | exact fun q => absurd q.1 (by assumption) | exact fun q => absurd q.2.1 (by assumption) | exact fun q => absurd q.2.2 (by assumption))).symm, (Ext.trans (Ext.trans (Ext.trans (Ext.trans (Ext.trans (Ext.trans (Ext.trans (Ext.trans (Ext.trans (Ext.trans hx2 hx4) hx8) hwL0) hwCs10) hwCs12) hwCs16) hwL1) hwCs23) hwL2) hx119)⟩
                          · have gh122 := (of_decide_eq_true (nf h122))
                            refine WL.vg rfl (congrArg some h122) rfl rfl (X.fieldAddrO (off := 14) ((hAL2.eq 1).trans ((congrFun hF112 1).trans ((hACs23.eq 1).trans ((congrFun hF88 1).trans ((hAL1.eq 1).trans ((congrFun hF77 1).trans ((hACs16.eq 1).trans ((congrFun hF54 1).trans ((hACs12.eq 1).trans ((congrFun hF41 1).trans ((hACs10.eq 1).trans ((congrFun hF23 1).trans ((hAL0.eq 1).trans (congrFun hF10 1)))))))))))))) Try.underlying26 rfl rfl Try.sizeOf22) ?_
                            refine WL.vg rfl (congrArg some h122) rfl rfl (X.loadO hO1 (Ext.trans (Ext.trans (Ext.trans (Ext.trans (Ext.trans (Ext.trans (Ext.trans (Ext.trans (Ext.trans hx4 hx8) hwL0) hwCs10) hwCs12) hwCs16) hwL1) hwCs23) hwL2) hx119) rfl rfl Try.isAgg22) ?_
                            refine WL.cg rfl (congrArg some h122) rfl rfl (X.call Try.call56 (evl_cons rfl evl_nil)) (risesR_ok _ o.R _ (Row.ext h.R (Ext.trans (Ext.trans (Ext.trans (Ext.trans (Ext.trans (Ext.trans (Ext.trans (Ext.trans (Ext.trans (Ext.trans hx2 hx4) hx8) hwL0) hwCs10) hwCs12) hwCs16) hwL1) hwCs23) hwL2) hx119)) hmR) ?_
                            rintro v126 w125 ⟨rfl, hx127⟩
                            have := World.grownBy.size hx127
                            refine WL.vg rfl (congrArg some h122) rfl rfl (X.not rfl) ?_
                            refine WL.va rfl rfl rfl (X.pickF rfl h122 rfl) ?_
                            refine WL.va rfl rfl rfl (X.moveB rfl) ?_
                            refine WL.split (j := 10) rfl (fun h130 => ?_) (fun h130 => ?_)
                            · have gh130 := (of_decide_eq_false (nt h130))
                              refine WL.p rfl rfl rfl (congrArg some h130) ?_
                              refine WL.p rfl rfl rfl (congrArg some h130) ?_
                              refine WL.p rfl rfl rfl (congrArg some h130) ?_
                              refine WL.p rfl rfl rfl (congrArg some h130) ?_
                              refine WL.va rfl rfl rfl (X.pickT rfl h130 rfl) ?_
                              refine WL.nil ?_
                              refine thn_n ?_
                              refine WF.cond_t rfl ?_
                              refine WF.seq ?_
                              refine WF.region ?_
                              refine WL.va rfl rfl rfl (X.assignI rfl) ?_
                              refine WL.nil ?_
                              refine thn_n ?_
                              refine WF.ret ?_
                              refine thn_r ?_
                              refine fin_r ?_
                              exact ⟨congrArg i64 (chk15 c0 c1 c2 c3 ⟨(place_ref c0 c1).2 ⟨cq, hpl⟩, ca⟩ c5 (by first | exact fun q => absurd q.1 (by assumption) | exact fun q => absurd q.2.1 (by assumption) | exact fun q => absurd q.2.2 (by assumption))).symm, (Ext.trans (Ext.trans (Ext.trans (Ext.trans (Ext.trans (Ext.trans (Ext.trans (Ext.trans (Ext.trans (Ext.trans (Ext.trans hx2 hx4) hx8) hwL0) hwCs10) hwCs12) hwCs16) hwL1) hwCs23) hwL2) hx119) hx127)⟩
                            · have gh130 := (of_decide_eq_true (nf h130))
                              refine WL.vg rfl (congrArg some h130) rfl rfl (X.loadOA hO1 (Ext.trans (Ext.trans (Ext.trans (Ext.trans (Ext.trans (Ext.trans (Ext.trans (Ext.trans (Ext.trans (Ext.trans hx4 hx8) hwL0) hwCs10) hwCs12) hwCs16) hwL1) hwCs23) hwL2) hx119) hx127) ((hAL2.eq 1).trans ((congrFun hF112 1).trans ((hACs23.eq 1).trans ((congrFun hF88 1).trans ((hAL1.eq 1).trans ((congrFun hF77 1).trans ((hACs16.eq 1).trans ((congrFun hF54 1).trans ((hACs12.eq 1).trans ((congrFun hF41 1).trans ((hACs10.eq 1).trans ((congrFun hF23 1).trans ((hAL0.eq 1).trans (congrFun hF10 1)))))))))))))) rfl Try.isAgg26 Try.sizeOf26) ?_
                              refine WL.cg rfl (congrArg some h130) rfl rfl (X.call Try.call55 (evl_cons rfl evl_nil)) (written_ok vP vR vW vD o _ (h.ext (Ext.trans (Ext.trans (Ext.trans (Ext.trans (Ext.trans (Ext.trans (Ext.trans (Ext.trans (Ext.trans (Ext.trans (Ext.trans hx2 hx4) hx8) hwL0) hwCs10) hwCs12) hwCs16) hwL1) hwCs23) hwL2) hx119) hx127)) ⟨hmP, hmR, hmW, hmD, hmWD⟩) ?_
                              rintro vb2 wo2 ⟨ob2, hx132⟩
                              have := World.grownBy.size hx132
                              refine WL.cg rfl (congrArg some h130) rfl rfl (X.call Try.call56 (evl_cons rfl evl_nil)) (risesR_ok _ o.bl _ (Row.ext (Row.of_own ob2) (Ext.refl wo2)) (by omega)) ?_
                              rintro v134 w133 ⟨rfl, hx135⟩
                              have := World.grownBy.size hx135
                              refine WL.vg rfl (congrArg some h130) rfl rfl (X.not rfl) ?_
                              refine WL.va rfl rfl rfl (X.pickF rfl h130 rfl) ?_
                              refine WL.nil ?_
                              refine thn_n ?_
                              refine WF.cond rfl (fun h12_137 => ?_) (fun h12_137 => ?_)
                              · have gh12_137 := (of_decide_eq_false (nt h12_137))
                                refine WF.seq ?_
                                refine WF.region ?_
                                refine WL.va rfl rfl rfl (X.assignI rfl) ?_
                                refine WL.nil ?_
                                refine thn_n ?_
                                refine WF.ret ?_
                                refine thn_r ?_
                                refine fin_r ?_
                                exact ⟨congrArg i64 (chk15 c0 c1 c2 c3 ⟨(place_ref c0 c1).2 ⟨cq, hpl⟩, ca⟩ c5 (by first | exact fun q => absurd q.1 (by assumption) | exact fun q => absurd q.2.1 (by assumption) | exact fun q => absurd q.2.2 (by assumption))).symm, (Ext.trans (Ext.trans (Ext.trans (Ext.trans (Ext.trans (Ext.trans (Ext.trans (Ext.trans (Ext.trans (Ext.trans (Ext.trans (Ext.trans (Ext.trans hx2 hx4) hx8) hwL0) hwCs10) hwCs12) hwCs16) hwL1) hwCs23) hwL2) hx119) hx127) hx132) hx135)⟩
                              · have gh12_137 := (of_decide_eq_true (nf h12_137))
                                refine WF.skip ?_
                                refine thn_n ?_
                                refine WF.seq ?_
                                refine WF.region ?_
                                refine WL.va rfl rfl rfl (X.assignI rfl) ?_
                                refine WL.nil ?_
                                refine thn_n ?_
                                refine WF.ret ?_
                                refine fin_r ?_
                                exact ⟨congrArg i64 (chk0 c0 c1 c2 c3 ⟨(place_ref c0 c1).2 ⟨cq, hpl⟩, ca⟩ c5 (by refine ⟨?_, ?_, ?_⟩ <;> assumption)).symm, (Ext.trans (Ext.trans (Ext.trans (Ext.trans (Ext.trans (Ext.trans (Ext.trans (Ext.trans (Ext.trans (Ext.trans (Ext.trans (Ext.trans (Ext.trans hx2 hx4) hx8) hwL0) hwCs10) hwCs12) hwCs16) hwL1) hwCs23) hwL2) hx119) hx127) hx132) hx135)⟩

end Go.Proofs.Ythaojdpeimlngaa
