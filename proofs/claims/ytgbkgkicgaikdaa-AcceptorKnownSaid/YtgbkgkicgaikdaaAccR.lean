/- The walks of the reference's functions. -/
import Derived.Test.YtgbkgkicgaikdaaAccT
namespace Go.Proofs.Ytgbkgkicgaikdaa
open Go Go.RowKit Kf

theorem findA_drop {l : List Acc} {t p : Int} {k : Nat} (hk : k < l.length) : findA (l.drop k) t p = if mine t p l[k] then (l[k], true) else findA (l.drop (k + 1)) t p := by
  rw [List.drop_eq_getElem_cons hk]; rfl
theorem refFind_ok (v : Value) (l : List Acc) (t p : Int) (w : World) (hv : Votes w v l) : FnOk Try.prog 17 [v, i64 t, i64 p] w (fun r w' => r = .tuple #[agg (findA l t p).1.c, .bool (findA l t p).2] ∧ Ext w w') := by
  have hl := hv.le64
  refine FnOk.enterC (rs := [.cell 6 37, .tmp 7]) Try.func17 rfl Try.ntmps17 Try.results17 rfl rfl ?_
  refine WF.seq ?_
  refine WF.region ?_
  refine WL.op rfl (OW.allocO (cs := [i64 0, i64 0, i64 0, i64 0, i64 0]) Try.zeroValue37 rfl ?_ (by decide))
  intro g6 w1 heg6 hlg6 hO6 hx2
  have := World.grownBy.size hx2
  refine WL.va rfl rfl rfl (X.assignB rfl) ?_
  refine WL.nil ?_
  refine thn_n ?_
  refine WF.seq ?_
  refine WF.seq ?_
  refine WF.region ?_
  refine WL.va rfl rfl rfl (X.assignI rfl) ?_
  refine WL.nil ?_
  refine thn_n ?_
  refine WF.block ?_
  refine WF.named (fun F5 hF6 => ?_)
  refine WF.loopN (fun mL0 f' w' => ∃ (k : Nat), mL0 = l.length - k ∧ f' 8 = .int .i64 (k : Int) ∧ Agree [0, 1, 2, 6] f' F5 ∧ Ext w1 w' ∧ k ≤ l.length ∧ findA l t p = findA (l.drop k) t p) ?_ ?_
  · exact ⟨_, 0, rfl, (congrFun hF6 8), (Agree.refl _ _), (Ext.refl _), ⟨Nat.zero_le _, rfl⟩⟩
  · rintro mL0 fL0 wL0 ⟨k, hmL0, e8_L0, hAL0, hwL0, ⟨hk0, hno⟩⟩
    refine WF.seq ?_
    refine WF.seq ?_
    refine WF.region ?_
    refine WL.va rfl rfl rfl (X.moveI e8_L0) ?_
    refine WL.va rfl rfl rfl (X.move ((hAL0.eq 0).trans (congrFun hF6 0))) ?_
    refine WL.va rfl rfl rfl (X.len hv rfl Try.underlying22) ?_
    refine WL.va rfl rfl rfl (X.lss rfl rfl) ?_
    refine WL.nil ?_
    refine thn_n ?_
    refine WF.cond rfl (fun h0_7 => ?_) (fun h0_7 => ?_)
    · have gh0_7 := (of_decide_eq_true h0_7)
      have hk : k < l.length := by omega
      refine WF.skip ?_
      refine thn_n ?_
      refine WF.seq ?_
      refine WF.block ?_
      refine WF.seq ?_
      refine WF.region ?_
      refine WL.va rfl rfl rfl (X.move ((hAL0.eq 0).trans (congrFun hF6 0))) ?_
      refine WL.va rfl rfl rfl (X.moveI e8_L0) ?_
      refine WL.va rfl rfl rfl (X.idx hv rfl rfl (by omega) Try.underlying22 Try.sizeOf37) ?_
      refine WL.va rfl rfl rfl (X.fieldAddrA rfl Try.underlying37 rfl rfl Try.sizeOf3) ?_
      refine WL.va rfl rfl rfl (X.loadE hv (Ext.trans hx2 hwL0) rfl (by omega) ((Votes.get hk (by decide)).trans rfl) Try.isAgg3) ?_
      refine WL.va rfl rfl rfl (X.moveI ((hAL0.eq 1).trans (congrFun hF6 1))) ?_
      refine WL.va rfl rfl rfl (X.eql rfl rfl) ?_
      refine WL.va rfl rfl rfl (X.moveB rfl) ?_
      refine WL.split (j := 7) rfl (fun h10 => ?_) (fun h10 => ?_)
      · have gh10 := (of_decide_eq_true h10)
        have hq := gh10
        refine WL.vg rfl (congrArg some h10) rfl rfl (X.move ((hAL0.eq 0).trans (congrFun hF6 0))) ?_
        refine WL.vg rfl (congrArg some h10) rfl rfl (X.moveI e8_L0) ?_
        refine WL.vg rfl (congrArg some h10) rfl rfl (X.idx hv rfl rfl (by omega) Try.underlying22 Try.sizeOf37) ?_
        refine WL.vg rfl (congrArg some h10) rfl rfl (X.fieldAddrA rfl Try.underlying37 rfl rfl Try.sizeOf3) ?_
        refine WL.vg rfl (congrArg some h10) rfl rfl (X.loadE hv (Ext.trans hx2 hwL0) rfl (by omega) ((Votes.get hk (by decide)).trans rfl) Try.isAgg3) ?_
        refine WL.vg rfl (congrArg some h10) rfl rfl (X.moveI ((hAL0.eq 2).trans (congrFun hF6 2))) ?_
        refine WL.vg rfl (congrArg some h10) rfl rfl (X.eql rfl rfl) ?_
        refine WL.va rfl rfl rfl (X.pickT rfl h10 rfl) ?_
        refine WL.nil ?_
        refine thn_n ?_
        refine WF.cond rfl (fun h1_11 => ?_) (fun h1_11 => ?_)
        · have gh1_11 := (of_decide_eq_true h1_11)
          have hm : mine t p l[k] = true := by unfold mine; simp [hq, gh1_11]
          refine WF.seq ?_
          refine WF.region ?_
          refine WL.va rfl rfl rfl (X.move ((hAL0.eq 0).trans (congrFun hF6 0))) ?_
          refine WL.va rfl rfl rfl (X.moveI e8_L0) ?_
          refine WL.va rfl rfl rfl (X.idx hv rfl rfl (by omega) Try.underlying22 Try.sizeOf37) ?_
          refine WL.va rfl rfl rfl (X.loadEl hv (Ext.trans hx2 hwL0) rfl (by omega) (Votes.el (l := l) (k := k) hk) Try.isAgg37 Try.sizeOf37) ?_
          refine WL.op rfl (OW.storeOA (hO6.ext hwL0) ((hAL0.eq 6).trans (congrFun hF6 6)) rfl rfl (Acc.c_one _) Try.sizeOf37 ?_)
          intro w13 hO6 hx15
          have := World.grownBy.size hx15
          refine WL.va rfl rfl rfl (X.assignB rfl) ?_
          refine WL.nil ?_
          refine thn_n ?_
          refine WF.ret ?_
          refine blk_r ?_
          refine thn_r ?_
          refine thn_r ?_
          refine blk_r ?_
          refine thn_r ?_
          refine finC_r (vs := [_, _]) ⟨⟨_, ((hAL0.eq 6).trans (congrFun hF6 6)), readO hO6 Try.isAgg37 Try.sizeOf37⟩, rfl, trivial⟩ ?_
          rw [hno, findA_drop hk, hm]; exact ⟨rfl, (Ext.store (Ext.trans hx2 hwL0) hx15 (by omega))⟩
        · have gh1_11 := (of_decide_eq_false h1_11)
          have hm : mine t p l[k] = false := by unfold mine; simp [gh1_11]
          refine WF.skip ?_
          refine blk_n ?_
          refine thn_n ?_
          refine WF.region ?_
          refine WL.va rfl rfl rfl (X.moveI e8_L0) ?_
          refine WL.va rfl rfl rfl (X.add rfl rfl (w64 (by omega))) ?_
          refine WL.va rfl rfl rfl (X.assignI rfl) ?_
          refine WL.nil ?_
          exact thn_n ⟨_, (by omega), k + 1, rfl, rfl, (by repeat (first | exact hAL0 | refine Agree.put ?_ rfl | refine Agree.named hF6 ?_)), hwL0, ⟨by omega, by rw [hno, findA_drop hk, hm]; rfl⟩⟩
      · have gh10 := (of_decide_eq_false h10)
        have hm : mine t p l[k] = false := by unfold mine; simp [gh10]
        refine WL.p rfl rfl rfl (congrArg some h10) ?_
        refine WL.p rfl rfl rfl (congrArg some h10) ?_
        refine WL.p rfl rfl rfl (congrArg some h10) ?_
        refine WL.p rfl rfl rfl (congrArg some h10) ?_
        refine WL.p rfl rfl rfl (congrArg some h10) ?_
        refine WL.p rfl rfl rfl (congrArg some h10) ?_
        refine WL.p rfl rfl rfl (congrArg some h10) ?_
        refine WL.va rfl rfl rfl (X.pickF rfl h10 rfl) ?_
        refine WL.nil ?_
        refine thn_n ?_
        refine WF.cond_f rfl ?_
        refine WF.skip ?_
        refine blk_n ?_
        refine thn_n ?_
        refine WF.region ?_
        refine WL.va rfl rfl rfl (X.moveI e8_L0) ?_
        refine WL.va rfl rfl rfl (X.add rfl rfl (w64 (by omega))) ?_
        refine WL.va rfl rfl rfl (X.assignI rfl) ?_
        refine WL.nil ?_
        exact thn_n ⟨_, (by omega), k + 1, rfl, rfl, (by repeat (first | exact hAL0 | refine Agree.put ?_ rfl | refine Agree.named hF6 ?_)), hwL0, ⟨by omega, by rw [hno, findA_drop hk, hm]; rfl⟩⟩
    · have gh0_7 := (of_decide_eq_false h0_7)
      refine WF.exit ?_
      refine thn_x ?_
      refine thn_x ?_
      refine blk_eq ?_
      refine thn_n ?_
      refine WF.seq ?_
      refine WF.region ?_
      refine WL.va rfl rfl rfl (X.moveI ((hAL0.eq 1).trans (congrFun hF6 1))) ?_
      refine WL.va rfl rfl rfl (X.moveI ((hAL0.eq 2).trans (congrFun hF6 2))) ?_
      refine WL.va rfl rfl rfl (X.buildL (cs := (Acc.c ⟨t, p, 0, 0, 0⟩)) (evp_cons rfl (evp_cons rfl evp_nil)) Try.type37 Try.underlying37 rfl rfl ⟨rfl, rfl, trivial⟩ rfl) ?_
      refine WL.op rfl (OW.storeOA (hO6.ext hwL0) ((hAL0.eq 6).trans (congrFun hF6 6)) rfl rfl (Acc.c_one _) Try.sizeOf37 ?_)
      intro w19 hO6 hx21
      have := World.grownBy.size hx21
      refine WL.va rfl rfl rfl (X.assignB rfl) ?_
      refine WL.nil ?_
      refine thn_n ?_
      refine WF.ret ?_
      refine finC_r (vs := [_, _]) ⟨⟨_, ((hAL0.eq 6).trans (congrFun hF6 6)), readO hO6 Try.isAgg37 Try.sizeOf37⟩, rfl, trivial⟩ ?_
      rw [hno, List.drop_of_length_le (by omega)]; exact ⟨rfl, (Ext.store (Ext.trans hx2 hwL0) hx21 (by omega))⟩

set_option maxHeartbeats 2000000 in
theorem with_ok (v : Value) (l : List Acc) (a : Acc) (has : Bool) (w : World) (hv : Votes w v l) (hl : l.length ≤ 1100) : FnOk Try.prog 34 [v, agg a.c, .bool has] w (fun r w' => OwnV w' w.heap.size 37 r (withV has a l) ∧ Ext w w') := by
  refine FnOk.enter (rs := [6]) Try.func34 rfl Try.ntmps34 Try.results34 rfl rfl ?_
  refine WF.seq ?_
  refine WF.region ?_
  refine WL.op rfl (OW.boxA (cs := _) rfl ?_ (by decide))
  intro g4 wb heg4 hlg4 hO4 hx3
  have := World.grownBy.size hx3
  have hxb := hx3
  refine WL.va rfl rfl rfl (X.assign rfl) ?_
  refine WL.nil ?_
  refine thn_n ?_
  refine WF.seq ?_
  refine WF.region ?_
  refine WL.va rfl rfl rfl (X.assign rfl) ?_
  refine WL.nil ?_
  refine thn_n ?_
  refine WF.seq ?_
  refine WF.region ?_
  refine WL.va rfl rfl rfl (X.assignB rfl) ?_
  refine WL.nil ?_
  refine thn_n ?_
  refine WF.seq ?_
  refine WF.seq ?_
  refine WF.region ?_
  refine WL.va rfl rfl rfl (X.assignI rfl) ?_
  refine WL.nil ?_
  refine thn_n ?_
  refine WF.block ?_
  refine WF.named (fun F6 hF7 => ?_)
  refine WF.loopN (fun mL0 f' w' => ∃ (k : Nat) (vo : Value) (L : List Acc) (lb : Bool), mL0 = l.length - k ∧ f' 9 = .int .i64 (k : Int) ∧ f' 7 = vo ∧ f' 8 = .bool lb ∧ Agree [0, 1, 2, 4, 6] f' F6 ∧ Ext wb w' ∧ k ≤ l.length ∧ L.length ≤ 2 * k ∧ OwnV w' wb.heap.size 37 vo L ∧ withV has a l = L ++ tailV has lb a (l.drop k)) ?_ ?_
  · exact ⟨_, 0, (.slice none 0 0), [], false, rfl, (congrFun hF7 9), (congrFun hF7 7), (congrFun hF7 8), (Agree.refl _ _), (Ext.refl _), ⟨Nat.zero_le _, by simp, OwnV.nil _ _ _, rfl⟩⟩
  · rintro mL0 fL0 wL0 ⟨k, vo, L, lb, hmL0, e9_L0, e7_L0, e8_L0, hAL0, hwL0, ⟨hk0, hL, ho, he⟩⟩
    refine WF.seq ?_
    refine WF.seq ?_
    refine WF.region ?_
    refine WL.va rfl rfl rfl (X.moveI e9_L0) ?_
    refine WL.va rfl rfl rfl (X.move ((hAL0.eq 0).trans (congrFun hF7 0))) ?_
    refine WL.va rfl rfl rfl (X.len hv rfl Try.underlying22) ?_
    refine WL.va rfl rfl rfl (X.lss rfl rfl) ?_
    refine WL.nil ?_
    refine thn_n ?_
    refine WF.cond rfl (fun h0_9 => ?_) (fun h0_9 => ?_)
    · have gh0_9 := (of_decide_eq_true h0_9)
      have hk : k < l.length := by omega
      have hdk := List.drop_eq_getElem_cons hk
      refine WF.skip ?_
      refine thn_n ?_
      refine WF.seq ?_
      refine WF.block ?_
      refine WF.named (fun F11 hF12 => ?_)
      refine WF.cut (fun f' w' => f' 10 = .bool (mine a.Txn a.Part l[k]) ∧ Agree [0, 1, 2, 4, 6, 7, 8, 9, 12, 13, 14, 15] f' F11 ∧ Ext wL0 w') ?_ ?_
      · refine WF.drawn (.q 0 (.q 1 (.q 2 (.q 3 (.q 4 (.q 5 (.q 6 (.q 7 (.q 8 (.q 9 (.q 10 (.q 11 (.q 12 (.q 13 (.q 14 (.q 15 (.q 16 (.q 17 (.q 18 .nil))))))))))))))))))) (fun w' => Ext wL0 w') 19 (by kernel_rfl) (by kernel_rfl) (Ext.drew _) ?_
        have := World.grownBy.size (Ext.drew wL0)
        refine WO.q rfl rfl rfl rfl (fun w' hE13 => (X.move ((congrFun hF12 0).trans ((hAL0.eq 0).trans (congrFun hF7 0))))) ?_
        refine WO.q rfl rfl rfl rfl (fun w' hE13 => (X.moveI ((congrFun hF12 9).trans e9_L0))) ?_
        refine WO.q rfl rfl rfl rfl (fun w' hE13 => (X.idx hv rfl rfl (by omega) Try.underlying22 Try.sizeOf37)) ?_
        refine WO.q rfl rfl rfl rfl (fun w' hE13 => (X.fieldAddrA rfl Try.underlying37 rfl rfl Try.sizeOf3)) ?_
        refine WO.q rfl rfl rfl rfl (fun w' hE13 => (X.loadE hv (Ext.trans (Ext.trans hx3 hwL0) hE13) rfl (by omega) ((Votes.get hk (by decide)).trans rfl) Try.isAgg3)) ?_
        refine WO.q rfl rfl rfl rfl (fun w' hE13 => (X.fieldAddrO (off := 0) ((congrFun hF12 4).trans ((hAL0.eq 4).trans (congrFun hF7 4))) Try.underlying37 rfl rfl Try.sizeOf3)) ?_
        refine WO.q rfl rfl rfl rfl (fun w' hE13 => (X.loadO hO4 (Ext.trans hwL0 hE13) rfl rfl Try.isAgg3)) ?_
        refine WO.q rfl rfl rfl rfl (fun w' hE13 => (X.eql rfl rfl)) ?_
        refine WO.q rfl rfl rfl rfl (fun w' hE13 => (X.moveB rfl)) ?_
        refine WO.split (j := 8) rfl (fun h15 => ?_) (fun h15 => ?_)
        · have gh15 := (of_decide_eq_true h15)
          have hm : decide (l[k].Part = a.Part) = mine a.Txn a.Part l[k] := by unfold mine; simp [gh15]
          refine WO.qg rfl rfl (congrArg some h15) rfl rfl (fun w' hE13 => (X.move ((congrFun hF12 0).trans ((hAL0.eq 0).trans (congrFun hF7 0))))) ?_
          refine WO.qg rfl rfl (congrArg some h15) rfl rfl (fun w' hE13 => (X.moveI ((congrFun hF12 9).trans e9_L0))) ?_
          refine WO.qg rfl rfl (congrArg some h15) rfl rfl (fun w' hE13 => (X.idx hv rfl rfl (by omega) Try.underlying22 Try.sizeOf37)) ?_
          refine WO.qg rfl rfl (congrArg some h15) rfl rfl (fun w' hE13 => (X.fieldAddrA rfl Try.underlying37 rfl rfl Try.sizeOf3)) ?_
          refine WO.qg rfl rfl (congrArg some h15) rfl rfl (fun w' hE13 => (X.loadE hv (Ext.trans (Ext.trans hx3 hwL0) hE13) rfl (by omega) ((Votes.get hk (by decide)).trans rfl) Try.isAgg3)) ?_
          refine WO.qg rfl rfl (congrArg some h15) rfl rfl (fun w' hE13 => (X.fieldAddrO (off := 1) ((congrFun hF12 4).trans ((hAL0.eq 4).trans (congrFun hF7 4))) Try.underlying37 rfl rfl Try.sizeOf3)) ?_
          refine WO.qg rfl rfl (congrArg some h15) rfl rfl (fun w' hE13 => (X.loadO hO4 (Ext.trans hwL0 hE13) rfl rfl Try.isAgg3)) ?_
          refine WO.qg rfl rfl (congrArg some h15) rfl rfl (fun w' hE13 => (X.eql rfl rfl)) ?_
          refine WO.q rfl rfl rfl rfl (fun w' hE13 => (X.pickT rfl h15 rfl)) ?_
          refine WO.q rfl rfl rfl rfl (fun w' hE13 => (X.assignB rfl)) ?_
          refine WO.nil ?_
          refine WL.nil ?_
          refine thn_n ?_
          exact ⟨(congrArg Value.bool hm), (by repeat (first | exact (Agree.refl _ F11) | refine Agree.put ?_ rfl | refine Agree.sub hAL0 rfl ?_ | refine Agree.named hF12 ?_ | refine Agree.named hF7 ?_)), (Ext.drew _)⟩
        · have gh15 := (of_decide_eq_false h15)
          have hm : false = mine a.Txn a.Part l[k] := by unfold mine; simp [gh15]
          refine WO.qp rfl rfl rfl rfl (congrArg some h15) ?_
          refine WO.qp rfl rfl rfl rfl (congrArg some h15) ?_
          refine WO.qp rfl rfl rfl rfl (congrArg some h15) ?_
          refine WO.qp rfl rfl rfl rfl (congrArg some h15) ?_
          refine WO.qp rfl rfl rfl rfl (congrArg some h15) ?_
          refine WO.qp rfl rfl rfl rfl (congrArg some h15) ?_
          refine WO.qp rfl rfl rfl rfl (congrArg some h15) ?_
          refine WO.qp rfl rfl rfl rfl (congrArg some h15) ?_
          refine WO.q rfl rfl rfl rfl (fun w' hE13 => (X.pickF rfl h15 rfl)) ?_
          refine WO.q rfl rfl rfl rfl (fun w' hE13 => (X.assignB rfl)) ?_
          refine WO.nil ?_
          refine WL.nil ?_
          refine thn_n ?_
          exact ⟨(congrArg Value.bool hm), (by repeat (first | exact (Agree.refl _ F11) | refine Agree.put ?_ rfl | refine Agree.sub hAL0 rfl ?_ | refine Agree.named hF12 ?_ | refine Agree.named hF7 ?_)), (Ext.drew _)⟩
      · rintro fCr6 wCr6 ⟨e10_Cr6, hACr6, hwCr6⟩
        refine WF.seq ?_
        refine WF.seq ?_
        refine WF.region ?_
        refine WL.va rfl rfl rfl (X.moveB ((hACr6.eq 2).trans ((congrFun hF12 2).trans ((hAL0.eq 2).trans (congrFun hF7 2))))) ?_
        refine WL.va rfl rfl rfl (X.moveB rfl) ?_
        refine WL.split (j := 1) rfl (fun h19 => ?_) (fun h19 => ?_)
        · have gh19 := h19
          refine WL.vg rfl (congrArg some h19) rfl rfl (X.moveB ((hACr6.eq 8).trans ((congrFun hF12 8).trans e8_L0))) ?_
          refine WL.vg rfl (congrArg some h19) rfl rfl (X.not rfl) ?_
          refine WL.va rfl rfl rfl (X.pickT rfl h19 rfl) ?_
          refine WL.va rfl rfl rfl (X.moveB rfl) ?_
          refine WL.split (j := 5) rfl (fun h21 => ?_) (fun h21 => ?_)
          · have gh21 := (nt h21)
            refine WL.vg rfl (congrArg some h21) rfl rfl (X.moveB e10_Cr6) ?_
            refine WL.va rfl rfl rfl (X.pickT rfl h21 rfl) ?_
            refine WL.nil ?_
            refine thn_n ?_
            refine WF.cond rfl (fun h1_21 => ?_) (fun h1_21 => ?_)
            · have gh1_21 := h1_21
              refine WF.seq ?_
              refine WF.region ?_
              refine WL.va rfl rfl rfl (X.move ((hACr6.eq 7).trans ((congrFun hF12 7).trans e7_L0))) ?_
              refine WL.va rfl rfl rfl (X.loadOA hO4 (Ext.trans hwL0 hwCr6) ((hACr6.eq 4).trans ((congrFun hF12 4).trans ((hAL0.eq 4).trans (congrFun hF7 4)))) rfl Try.isAgg37 Try.sizeOf37) ?_
              refine WL.op rfl (OW.lits (vs := [agg a.c]) (evp_cons rfl evp_nil) Try.underlying22 Try.sizeOf37 Try.zeroValue37 ⟨rfl, trivial⟩ rfl rfl rfl ?_ (by decide))
              intro v24 w23 ho26 hx25
              have := World.grownBy.size hx25
              have o1 : OwnV w23 _ _ _ [a] := ho26
              have hq8 := (own_ext ho (Ext.trans hwCr6 hx25))
              refine WL.op rfl (OW.append (bytes := 40) hq8 (Row.of_own o1) votes_one rfl rfl Try.underlying22 Try.type37 rfl rfl rfl rfl (by decide) (by unfold maxLen; simp; omega) (by simp; omega) (World.grownBy.size (Ext.trans (Ext.trans hwL0 hwCr6) hx25)) ?_ (by decide))
              intro v28 w27 ho30 hx29 hmvhx29
              have ho : OwnV _ _ _ _ _ := OwnV.app ho30
              refine WL.va rfl rfl rfl (X.assign rfl) ?_
              refine WL.nil ?_
              refine thn_n ?_
              refine WF.seq ?_
              refine WF.region ?_
              refine WL.va rfl rfl rfl (X.assignB rfl) ?_
              refine WL.nil ?_
              refine thn_n ?_
              refine WF.exit ?_
              refine thn_x ?_
              refine blk_eq ?_
              refine thn_n ?_
              refine WF.region ?_
              refine WL.va rfl rfl rfl (X.moveI ((hACr6.eq 9).trans ((congrFun hF12 9).trans e9_L0))) ?_
              refine WL.va rfl rfl rfl (X.add rfl rfl (w64 (by omega))) ?_
              refine WL.va rfl rfl rfl (X.assignI rfl) ?_
              refine WL.nil ?_
              exact thn_n ⟨_, (by omega), k + 1, _, _, _, rfl, rfl, rfl, rfl, (by repeat (first | exact hAL0 | refine Agree.put ?_ rfl | refine Agree.sub hACr6 rfl ?_ | refine Agree.named hF12 ?_ | refine Agree.named hF7 ?_)), (Ext.own (Ext.trans (Ext.trans hwL0 hwCr6) hx25) hq8 (Nat.le_refl _) hx29), ⟨by omega, by simp; omega, ho, by first | exact tail_set hk (by assumption) (by assumption) (by assumption) he | exact tail_ins hk (by assumption) (by assumption) (by assumption) he | exact tail_go hk (by assumption) he | exact tail_set' hk (by assumption) (by assumption) he | exact tail_ins' hk (by assumption) (by assumption) he⟩⟩
            · have gh1_21 := h1_21
              refine WF.skip ?_
              refine thn_n ?_
              refine WF.named (fun F32 hF33 => ?_)
              refine WF.cut (fun f' w' => f' 11 = .bool (behind l[k] a) ∧ Agree [0, 1, 2, 4, 6, 7, 8, 9, 10, 12, 13, 14, 15, 36, 37, 38, 39, 40, 41, 42, 43] f' F32 ∧ Ext wCr6 w') ?_ ?_
              · refine WF.drawn (.q 0 (.q 1 (.q 2 (.q 3 (.q 4 (.q 5 (.q 6 (.q 7 (.q 8 (.q 9 (.q 10 (.q 11 (.q 12 (.q 13 (.q 14 (.q 15 (.q 16 (.q 17 (.q 18 (.q 19 (.q 20 (.q 21 (.q 22 (.q 23 (.q 24 (.q 25 (.q 26 (.q 27 (.q 28 .nil))))))))))))))))))))))))))))) (fun w' => Ext wCr6 w') 29 (by kernel_rfl) (by kernel_rfl) (Ext.drew _) ?_
                have := World.grownBy.size (Ext.drew wCr6)
                refine WO.q rfl rfl rfl rfl (fun w' hE34 => (X.move ((congrFun hF33 0).trans ((hACr6.eq 0).trans ((congrFun hF12 0).trans ((hAL0.eq 0).trans (congrFun hF7 0))))))) ?_
                refine WO.q rfl rfl rfl rfl (fun w' hE34 => (X.moveI ((congrFun hF33 9).trans ((hACr6.eq 9).trans ((congrFun hF12 9).trans e9_L0))))) ?_
                refine WO.q rfl rfl rfl rfl (fun w' hE34 => (X.idx hv rfl rfl (by omega) Try.underlying22 Try.sizeOf37)) ?_
                refine WO.q rfl rfl rfl rfl (fun w' hE34 => (X.fieldAddrA rfl Try.underlying37 rfl rfl Try.sizeOf3)) ?_
                refine WO.q rfl rfl rfl rfl (fun w' hE34 => (X.loadE hv (Ext.trans (Ext.trans (Ext.trans hx3 hwL0) hwCr6) hE34) rfl (by omega) ((Votes.get hk (by decide)).trans rfl) Try.isAgg3)) ?_
                refine WO.q rfl rfl rfl rfl (fun w' hE34 => (X.fieldAddrO (off := 0) ((congrFun hF33 4).trans ((hACr6.eq 4).trans ((congrFun hF12 4).trans ((hAL0.eq 4).trans (congrFun hF7 4))))) Try.underlying37 rfl rfl Try.sizeOf3)) ?_
                refine WO.q rfl rfl rfl rfl (fun w' hE34 => (X.loadO hO4 (Ext.trans (Ext.trans hwL0 hwCr6) hE34) rfl rfl Try.isAgg3)) ?_
                refine WO.q rfl rfl rfl rfl (fun w' hE34 => (X.gtr rfl rfl)) ?_
                refine WO.q rfl rfl rfl rfl (fun w' hE34 => (X.moveB rfl)) ?_
                refine WO.split (j := 8) rfl (fun h36 => ?_) (fun h36 => ?_)
                · have gh36 := (of_decide_eq_true h36)
                  have hm : true = behind l[k] a := by unfold behind; simp [gh36]
                  refine WO.qp rfl rfl rfl rfl (congrArg some h36) ?_
                  refine WO.qp rfl rfl rfl rfl (congrArg some h36) ?_
                  refine WO.qp rfl rfl rfl rfl (congrArg some h36) ?_
                  refine WO.qp rfl rfl rfl rfl (congrArg some h36) ?_
                  refine WO.qp rfl rfl rfl rfl (congrArg some h36) ?_
                  refine WO.qp rfl rfl rfl rfl (congrArg some h36) ?_
                  refine WO.qp rfl rfl rfl rfl (congrArg some h36) ?_
                  refine WO.qp rfl rfl rfl rfl (congrArg some h36) ?_
                  refine WO.qp rfl rfl rfl rfl (congrArg some h36) ?_
                  refine WO.qpn rfl rfl rfl rfl rfl ?_
                  refine WO.qpn rfl rfl rfl rfl rfl ?_
                  refine WO.qpn rfl rfl rfl rfl rfl ?_
                  refine WO.qpn rfl rfl rfl rfl rfl ?_
                  refine WO.qpn rfl rfl rfl rfl rfl ?_
                  refine WO.qpn rfl rfl rfl rfl rfl ?_
                  refine WO.qpn rfl rfl rfl rfl rfl ?_
                  refine WO.qpn rfl rfl rfl rfl rfl ?_
                  refine WO.qp rfl rfl rfl rfl (congrArg some h36) ?_
                  refine WO.q rfl rfl rfl rfl (fun w' hE34 => (X.pickT rfl h36 rfl)) ?_
                  refine WO.q rfl rfl rfl rfl (fun w' hE34 => (X.assignB rfl)) ?_
                  refine WO.nil ?_
                  refine WL.nil ?_
                  refine thn_n ?_
                  exact ⟨(congrArg Value.bool hm), (by repeat (first | exact (Agree.refl _ F32) | refine Agree.put ?_ rfl | refine Agree.sub hACr6 rfl ?_ | refine Agree.sub hAL0 rfl ?_ | refine Agree.named hF33 ?_ | refine Agree.named hF12 ?_ | refine Agree.named hF7 ?_)), (Ext.drew _)⟩
                · have gh36 := (of_decide_eq_false h36)
                  have hq := gh36
                  refine WO.qg rfl rfl (congrArg some h36) rfl rfl (fun w' hE34 => (X.move ((congrFun hF33 0).trans ((hACr6.eq 0).trans ((congrFun hF12 0).trans ((hAL0.eq 0).trans (congrFun hF7 0))))))) ?_
                  refine WO.qg rfl rfl (congrArg some h36) rfl rfl (fun w' hE34 => (X.moveI ((congrFun hF33 9).trans ((hACr6.eq 9).trans ((congrFun hF12 9).trans e9_L0))))) ?_
                  refine WO.qg rfl rfl (congrArg some h36) rfl rfl (fun w' hE34 => (X.idx hv rfl rfl (by omega) Try.underlying22 Try.sizeOf37)) ?_
                  refine WO.qg rfl rfl (congrArg some h36) rfl rfl (fun w' hE34 => (X.fieldAddrA rfl Try.underlying37 rfl rfl Try.sizeOf3)) ?_
                  refine WO.qg rfl rfl (congrArg some h36) rfl rfl (fun w' hE34 => (X.loadE hv (Ext.trans (Ext.trans (Ext.trans hx3 hwL0) hwCr6) hE34) rfl (by omega) ((Votes.get hk (by decide)).trans rfl) Try.isAgg3)) ?_
                  refine WO.qg rfl rfl (congrArg some h36) rfl rfl (fun w' hE34 => (X.fieldAddrO (off := 0) ((congrFun hF33 4).trans ((hACr6.eq 4).trans ((congrFun hF12 4).trans ((hAL0.eq 4).trans (congrFun hF7 4))))) Try.underlying37 rfl rfl Try.sizeOf3)) ?_
                  refine WO.qg rfl rfl (congrArg some h36) rfl rfl (fun w' hE34 => (X.loadO hO4 (Ext.trans (Ext.trans hwL0 hwCr6) hE34) rfl rfl Try.isAgg3)) ?_
                  refine WO.qg rfl rfl (congrArg some h36) rfl rfl (fun w' hE34 => (X.eql rfl rfl)) ?_
                  refine WO.qg rfl rfl (congrArg some h36) rfl rfl (fun w' hE34 => (X.moveB rfl)) ?_
                  refine WO.split (j := 17) rfl (fun h39 => ?_) (fun h39 => ?_)
                  · have gh39 := (of_decide_eq_true h39)
                    have hm : decide (a.Part < l[k].Part) = behind l[k] a := by unfold behind; simp [gh39]
                    refine WO.qg rfl rfl (congrArg some h39) rfl rfl (fun w' hE34 => (X.move ((congrFun hF33 0).trans ((hACr6.eq 0).trans ((congrFun hF12 0).trans ((hAL0.eq 0).trans (congrFun hF7 0))))))) ?_
                    refine WO.qg rfl rfl (congrArg some h39) rfl rfl (fun w' hE34 => (X.moveI ((congrFun hF33 9).trans ((hACr6.eq 9).trans ((congrFun hF12 9).trans e9_L0))))) ?_
                    refine WO.qg rfl rfl (congrArg some h39) rfl rfl (fun w' hE34 => (X.idx hv rfl rfl (by omega) Try.underlying22 Try.sizeOf37)) ?_
                    refine WO.qg rfl rfl (congrArg some h39) rfl rfl (fun w' hE34 => (X.fieldAddrA rfl Try.underlying37 rfl rfl Try.sizeOf3)) ?_
                    refine WO.qg rfl rfl (congrArg some h39) rfl rfl (fun w' hE34 => (X.loadE hv (Ext.trans (Ext.trans (Ext.trans hx3 hwL0) hwCr6) hE34) rfl (by omega) ((Votes.get hk (by decide)).trans rfl) Try.isAgg3)) ?_
                    refine WO.qg rfl rfl (congrArg some h39) rfl rfl (fun w' hE34 => (X.fieldAddrO (off := 1) ((congrFun hF33 4).trans ((hACr6.eq 4).trans ((congrFun hF12 4).trans ((hAL0.eq 4).trans (congrFun hF7 4))))) Try.underlying37 rfl rfl Try.sizeOf3)) ?_
                    refine WO.qg rfl rfl (congrArg some h39) rfl rfl (fun w' hE34 => (X.loadO hO4 (Ext.trans (Ext.trans hwL0 hwCr6) hE34) rfl rfl Try.isAgg3)) ?_
                    refine WO.qg rfl rfl (congrArg some h39) rfl rfl (fun w' hE34 => (X.gtr rfl rfl)) ?_
                    refine WO.qg rfl rfl (congrArg some h36) rfl rfl (fun w' hE34 => (X.pickT rfl h39 rfl)) ?_
                    refine WO.q rfl rfl rfl rfl (fun w' hE34 => (X.pickF rfl h36 rfl)) ?_
                    refine WO.q rfl rfl rfl rfl (fun w' hE34 => (X.assignB rfl)) ?_
                    refine WO.nil ?_
                    refine WL.nil ?_
                    refine thn_n ?_
                    exact ⟨(congrArg Value.bool hm), (by repeat (first | exact (Agree.refl _ F32) | refine Agree.put ?_ rfl | refine Agree.sub hACr6 rfl ?_ | refine Agree.sub hAL0 rfl ?_ | refine Agree.named hF33 ?_ | refine Agree.named hF12 ?_ | refine Agree.named hF7 ?_)), (Ext.drew _)⟩
                  · have gh39 := (of_decide_eq_false h39)
                    have hm : false = behind l[k] a := by unfold behind; simp [hq, gh39]
                    refine WO.qp rfl rfl rfl rfl (congrArg some h39) ?_
                    refine WO.qp rfl rfl rfl rfl (congrArg some h39) ?_
                    refine WO.qp rfl rfl rfl rfl (congrArg some h39) ?_
                    refine WO.qp rfl rfl rfl rfl (congrArg some h39) ?_
                    refine WO.qp rfl rfl rfl rfl (congrArg some h39) ?_
                    refine WO.qp rfl rfl rfl rfl (congrArg some h39) ?_
                    refine WO.qp rfl rfl rfl rfl (congrArg some h39) ?_
                    refine WO.qp rfl rfl rfl rfl (congrArg some h39) ?_
                    refine WO.qg rfl rfl (congrArg some h36) rfl rfl (fun w' hE34 => (X.pickF rfl h39 rfl)) ?_
                    refine WO.q rfl rfl rfl rfl (fun w' hE34 => (X.pickF rfl h36 rfl)) ?_
                    refine WO.q rfl rfl rfl rfl (fun w' hE34 => (X.assignB rfl)) ?_
                    refine WO.nil ?_
                    refine WL.nil ?_
                    refine thn_n ?_
                    exact ⟨(congrArg Value.bool hm), (by repeat (first | exact (Agree.refl _ F32) | refine Agree.put ?_ rfl | refine Agree.sub hACr6 rfl ?_ | refine Agree.sub hAL0 rfl ?_ | refine Agree.named hF33 ?_ | refine Agree.named hF12 ?_ | refine Agree.named hF7 ?_)), (Ext.drew _)⟩
              · rintro fCr10 wCr10 ⟨e11_Cr10, hACr10, hwCr10⟩
                refine WF.seq ?_
                refine WF.seq ?_
                refine WF.region ?_
                refine WL.va rfl rfl rfl (X.moveB ((hACr10.eq 2).trans ((congrFun hF33 2).trans ((hACr6.eq 2).trans ((congrFun hF12 2).trans ((hAL0.eq 2).trans (congrFun hF7 2))))))) ?_
                refine WL.va rfl rfl rfl (X.not rfl) ?_
                refine WL.va rfl rfl rfl (X.moveB rfl) ?_
                refine WL.p rfl rfl rfl (congrArg some (congrArg (fun z => !z) h19)) ?_
                refine WL.p rfl rfl rfl (congrArg some (congrArg (fun z => !z) h19)) ?_
                refine WL.va rfl rfl rfl (X.pickF rfl (congrArg (fun z => !z) h19) rfl) ?_
                refine WL.va rfl rfl rfl (X.moveB rfl) ?_
                refine WL.p rfl rfl rfl rfl ?_
                refine WL.va rfl rfl rfl (X.pickF rfl rfl rfl) ?_
                refine WL.nil ?_
                refine thn_n ?_
                refine WF.cond_f rfl ?_
                refine WF.skip ?_
                refine thn_n ?_
                refine WF.region ?_
                refine WL.va rfl rfl rfl (X.move ((hACr10.eq 7).trans ((congrFun hF33 7).trans ((hACr6.eq 7).trans ((congrFun hF12 7).trans e7_L0))))) ?_
                refine WL.va rfl rfl rfl (X.move ((hACr10.eq 0).trans ((congrFun hF33 0).trans ((hACr6.eq 0).trans ((congrFun hF12 0).trans ((hAL0.eq 0).trans (congrFun hF7 0))))))) ?_
                refine WL.va rfl rfl rfl (X.moveI ((hACr10.eq 9).trans ((congrFun hF33 9).trans ((hACr6.eq 9).trans ((congrFun hF12 9).trans e9_L0))))) ?_
                refine WL.va rfl rfl rfl (X.idx hv rfl rfl (by omega) Try.underlying22 Try.sizeOf37) ?_
                refine WL.va rfl rfl rfl (X.loadEl hv (Ext.trans (Ext.trans (Ext.trans hx3 hwL0) hwCr6) hwCr10) rfl (by omega) (Votes.el (l := l) (k := k) hk) Try.isAgg37 Try.sizeOf37) ?_
                refine WL.op rfl (OW.lits (vs := [agg (l[k]'hk).c]) (evp_cons rfl evp_nil) Try.underlying22 Try.sizeOf37 Try.zeroValue37 ⟨rfl, trivial⟩ rfl rfl rfl ?_ (by decide))
                intro v47 w46 ho49 hx48
                have := World.grownBy.size hx48
                have o1 : OwnV w46 _ _ _ [(l[k]'hk)] := ho49
                have hq14 := (own_ext ho (Ext.trans (Ext.trans hwCr6 hwCr10) hx48))
                refine WL.op rfl (OW.append (bytes := 40) hq14 (Row.of_own o1) votes_one rfl rfl Try.underlying22 Try.type37 rfl rfl rfl rfl (by decide) (by unfold maxLen; simp; omega) (by simp; omega) (World.grownBy.size (Ext.trans (Ext.trans (Ext.trans hwL0 hwCr6) hwCr10) hx48)) ?_ (by decide))
                intro v51 w50 ho53 hx52 hmvhx52
                have ho : OwnV _ _ _ _ _ := OwnV.app ho53
                refine WL.va rfl rfl rfl (X.assign rfl) ?_
                refine WL.nil ?_
                refine blk_n ?_
                refine thn_n ?_
                refine WF.region ?_
                refine WL.va rfl rfl rfl (X.moveI ((hACr10.eq 9).trans ((congrFun hF33 9).trans ((hACr6.eq 9).trans ((congrFun hF12 9).trans e9_L0))))) ?_
                refine WL.va rfl rfl rfl (X.add rfl rfl (w64 (by omega))) ?_
                refine WL.va rfl rfl rfl (X.assignI rfl) ?_
                refine WL.nil ?_
                exact thn_n ⟨_, (by omega), k + 1, _, _, _, rfl, rfl, rfl, ((hACr10.eq 8).trans ((congrFun hF33 8).trans ((hACr6.eq 8).trans ((congrFun hF12 8).trans e8_L0)))), (by repeat (first | exact hAL0 | refine Agree.put ?_ rfl | refine Agree.sub hACr10 rfl ?_ | refine Agree.sub hACr6 rfl ?_ | refine Agree.named hF33 ?_ | refine Agree.named hF12 ?_ | refine Agree.named hF7 ?_)), (Ext.own (Ext.trans (Ext.trans (Ext.trans hwL0 hwCr6) hwCr10) hx48) hq14 (Nat.le_refl _) hx52), ⟨by omega, by simp; omega, ho, by first | exact tail_set hk (by assumption) (by assumption) (by assumption) he | exact tail_ins hk (by assumption) (by assumption) (by assumption) he | exact tail_go hk (by assumption) he | exact tail_set' hk (by assumption) (by assumption) he | exact tail_ins' hk (by assumption) (by assumption) he⟩⟩
          · have gh21 := (nf h21)
            refine WL.p rfl rfl rfl (congrArg some h21) ?_
            refine WL.va rfl rfl rfl (X.pickF rfl h21 rfl) ?_
            refine WL.nil ?_
            refine thn_n ?_
            refine WF.cond_f rfl ?_
            refine WF.skip ?_
            refine thn_n ?_
            refine WF.named (fun F55 hF56 => ?_)
            refine WF.cut (fun f' w' => f' 11 = .bool (behind l[k] a) ∧ Agree [0, 1, 2, 4, 6, 7, 8, 9, 10, 12, 13, 14, 15, 36, 37, 38, 39, 40, 41, 42, 43] f' F55 ∧ Ext wCr6 w') ?_ ?_
            · refine WF.drawn (.q 0 (.q 1 (.q 2 (.q 3 (.q 4 (.q 5 (.q 6 (.q 7 (.q 8 (.q 9 (.q 10 (.q 11 (.q 12 (.q 13 (.q 14 (.q 15 (.q 16 (.q 17 (.q 18 (.q 19 (.q 20 (.q 21 (.q 22 (.q 23 (.q 24 (.q 25 (.q 26 (.q 27 (.q 28 .nil))))))))))))))))))))))))))))) (fun w' => Ext wCr6 w') 29 (by kernel_rfl) (by kernel_rfl) (Ext.drew _) ?_
              have := World.grownBy.size (Ext.drew wCr6)
              refine WO.q rfl rfl rfl rfl (fun w' hE57 => (X.move ((congrFun hF56 0).trans ((hACr6.eq 0).trans ((congrFun hF12 0).trans ((hAL0.eq 0).trans (congrFun hF7 0))))))) ?_
              refine WO.q rfl rfl rfl rfl (fun w' hE57 => (X.moveI ((congrFun hF56 9).trans ((hACr6.eq 9).trans ((congrFun hF12 9).trans e9_L0))))) ?_
              refine WO.q rfl rfl rfl rfl (fun w' hE57 => (X.idx hv rfl rfl (by omega) Try.underlying22 Try.sizeOf37)) ?_
              refine WO.q rfl rfl rfl rfl (fun w' hE57 => (X.fieldAddrA rfl Try.underlying37 rfl rfl Try.sizeOf3)) ?_
              refine WO.q rfl rfl rfl rfl (fun w' hE57 => (X.loadE hv (Ext.trans (Ext.trans (Ext.trans hx3 hwL0) hwCr6) hE57) rfl (by omega) ((Votes.get hk (by decide)).trans rfl) Try.isAgg3)) ?_
              refine WO.q rfl rfl rfl rfl (fun w' hE57 => (X.fieldAddrO (off := 0) ((congrFun hF56 4).trans ((hACr6.eq 4).trans ((congrFun hF12 4).trans ((hAL0.eq 4).trans (congrFun hF7 4))))) Try.underlying37 rfl rfl Try.sizeOf3)) ?_
              refine WO.q rfl rfl rfl rfl (fun w' hE57 => (X.loadO hO4 (Ext.trans (Ext.trans hwL0 hwCr6) hE57) rfl rfl Try.isAgg3)) ?_
              refine WO.q rfl rfl rfl rfl (fun w' hE57 => (X.gtr rfl rfl)) ?_
              refine WO.q rfl rfl rfl rfl (fun w' hE57 => (X.moveB rfl)) ?_
              refine WO.split (j := 8) rfl (fun h59 => ?_) (fun h59 => ?_)
              · have gh59 := (of_decide_eq_true h59)
                have hm : true = behind l[k] a := by unfold behind; simp [gh59]
                refine WO.qp rfl rfl rfl rfl (congrArg some h59) ?_
                refine WO.qp rfl rfl rfl rfl (congrArg some h59) ?_
                refine WO.qp rfl rfl rfl rfl (congrArg some h59) ?_
                refine WO.qp rfl rfl rfl rfl (congrArg some h59) ?_
                refine WO.qp rfl rfl rfl rfl (congrArg some h59) ?_
                refine WO.qp rfl rfl rfl rfl (congrArg some h59) ?_
                refine WO.qp rfl rfl rfl rfl (congrArg some h59) ?_
                refine WO.qp rfl rfl rfl rfl (congrArg some h59) ?_
                refine WO.qp rfl rfl rfl rfl (congrArg some h59) ?_
                refine WO.qpn rfl rfl rfl rfl rfl ?_
                refine WO.qpn rfl rfl rfl rfl rfl ?_
                refine WO.qpn rfl rfl rfl rfl rfl ?_
                refine WO.qpn rfl rfl rfl rfl rfl ?_
                refine WO.qpn rfl rfl rfl rfl rfl ?_
                refine WO.qpn rfl rfl rfl rfl rfl ?_
                refine WO.qpn rfl rfl rfl rfl rfl ?_
                refine WO.qpn rfl rfl rfl rfl rfl ?_
                refine WO.qp rfl rfl rfl rfl (congrArg some h59) ?_
                refine WO.q rfl rfl rfl rfl (fun w' hE57 => (X.pickT rfl h59 rfl)) ?_
                refine WO.q rfl rfl rfl rfl (fun w' hE57 => (X.assignB rfl)) ?_
                refine WO.nil ?_
                refine WL.nil ?_
                refine thn_n ?_
                exact ⟨(congrArg Value.bool hm), (by repeat (first | exact (Agree.refl _ F55) | refine Agree.put ?_ rfl | refine Agree.sub hACr6 rfl ?_ | refine Agree.sub hAL0 rfl ?_ | refine Agree.named hF56 ?_ | refine Agree.named hF12 ?_ | refine Agree.named hF7 ?_)), (Ext.drew _)⟩
              · have gh59 := (of_decide_eq_false h59)
                have hq := gh59
                refine WO.qg rfl rfl (congrArg some h59) rfl rfl (fun w' hE57 => (X.move ((congrFun hF56 0).trans ((hACr6.eq 0).trans ((congrFun hF12 0).trans ((hAL0.eq 0).trans (congrFun hF7 0))))))) ?_
                refine WO.qg rfl rfl (congrArg some h59) rfl rfl (fun w' hE57 => (X.moveI ((congrFun hF56 9).trans ((hACr6.eq 9).trans ((congrFun hF12 9).trans e9_L0))))) ?_
                refine WO.qg rfl rfl (congrArg some h59) rfl rfl (fun w' hE57 => (X.idx hv rfl rfl (by omega) Try.underlying22 Try.sizeOf37)) ?_
                refine WO.qg rfl rfl (congrArg some h59) rfl rfl (fun w' hE57 => (X.fieldAddrA rfl Try.underlying37 rfl rfl Try.sizeOf3)) ?_
                refine WO.qg rfl rfl (congrArg some h59) rfl rfl (fun w' hE57 => (X.loadE hv (Ext.trans (Ext.trans (Ext.trans hx3 hwL0) hwCr6) hE57) rfl (by omega) ((Votes.get hk (by decide)).trans rfl) Try.isAgg3)) ?_
                refine WO.qg rfl rfl (congrArg some h59) rfl rfl (fun w' hE57 => (X.fieldAddrO (off := 0) ((congrFun hF56 4).trans ((hACr6.eq 4).trans ((congrFun hF12 4).trans ((hAL0.eq 4).trans (congrFun hF7 4))))) Try.underlying37 rfl rfl Try.sizeOf3)) ?_
                refine WO.qg rfl rfl (congrArg some h59) rfl rfl (fun w' hE57 => (X.loadO hO4 (Ext.trans (Ext.trans hwL0 hwCr6) hE57) rfl rfl Try.isAgg3)) ?_
                refine WO.qg rfl rfl (congrArg some h59) rfl rfl (fun w' hE57 => (X.eql rfl rfl)) ?_
                refine WO.qg rfl rfl (congrArg some h59) rfl rfl (fun w' hE57 => (X.moveB rfl)) ?_
                refine WO.split (j := 17) rfl (fun h62 => ?_) (fun h62 => ?_)
                · have gh62 := (of_decide_eq_true h62)
                  have hm : decide (a.Part < l[k].Part) = behind l[k] a := by unfold behind; simp [gh62]
                  refine WO.qg rfl rfl (congrArg some h62) rfl rfl (fun w' hE57 => (X.move ((congrFun hF56 0).trans ((hACr6.eq 0).trans ((congrFun hF12 0).trans ((hAL0.eq 0).trans (congrFun hF7 0))))))) ?_
                  refine WO.qg rfl rfl (congrArg some h62) rfl rfl (fun w' hE57 => (X.moveI ((congrFun hF56 9).trans ((hACr6.eq 9).trans ((congrFun hF12 9).trans e9_L0))))) ?_
                  refine WO.qg rfl rfl (congrArg some h62) rfl rfl (fun w' hE57 => (X.idx hv rfl rfl (by omega) Try.underlying22 Try.sizeOf37)) ?_
                  refine WO.qg rfl rfl (congrArg some h62) rfl rfl (fun w' hE57 => (X.fieldAddrA rfl Try.underlying37 rfl rfl Try.sizeOf3)) ?_
                  refine WO.qg rfl rfl (congrArg some h62) rfl rfl (fun w' hE57 => (X.loadE hv (Ext.trans (Ext.trans (Ext.trans hx3 hwL0) hwCr6) hE57) rfl (by omega) ((Votes.get hk (by decide)).trans rfl) Try.isAgg3)) ?_
                  refine WO.qg rfl rfl (congrArg some h62) rfl rfl (fun w' hE57 => (X.fieldAddrO (off := 1) ((congrFun hF56 4).trans ((hACr6.eq 4).trans ((congrFun hF12 4).trans ((hAL0.eq 4).trans (congrFun hF7 4))))) Try.underlying37 rfl rfl Try.sizeOf3)) ?_
                  refine WO.qg rfl rfl (congrArg some h62) rfl rfl (fun w' hE57 => (X.loadO hO4 (Ext.trans (Ext.trans hwL0 hwCr6) hE57) rfl rfl Try.isAgg3)) ?_
                  refine WO.qg rfl rfl (congrArg some h62) rfl rfl (fun w' hE57 => (X.gtr rfl rfl)) ?_
                  refine WO.qg rfl rfl (congrArg some h59) rfl rfl (fun w' hE57 => (X.pickT rfl h62 rfl)) ?_
                  refine WO.q rfl rfl rfl rfl (fun w' hE57 => (X.pickF rfl h59 rfl)) ?_
                  refine WO.q rfl rfl rfl rfl (fun w' hE57 => (X.assignB rfl)) ?_
                  refine WO.nil ?_
                  refine WL.nil ?_
                  refine thn_n ?_
                  exact ⟨(congrArg Value.bool hm), (by repeat (first | exact (Agree.refl _ F55) | refine Agree.put ?_ rfl | refine Agree.sub hACr6 rfl ?_ | refine Agree.sub hAL0 rfl ?_ | refine Agree.named hF56 ?_ | refine Agree.named hF12 ?_ | refine Agree.named hF7 ?_)), (Ext.drew _)⟩
                · have gh62 := (of_decide_eq_false h62)
                  have hm : false = behind l[k] a := by unfold behind; simp [hq, gh62]
                  refine WO.qp rfl rfl rfl rfl (congrArg some h62) ?_
                  refine WO.qp rfl rfl rfl rfl (congrArg some h62) ?_
                  refine WO.qp rfl rfl rfl rfl (congrArg some h62) ?_
                  refine WO.qp rfl rfl rfl rfl (congrArg some h62) ?_
                  refine WO.qp rfl rfl rfl rfl (congrArg some h62) ?_
                  refine WO.qp rfl rfl rfl rfl (congrArg some h62) ?_
                  refine WO.qp rfl rfl rfl rfl (congrArg some h62) ?_
                  refine WO.qp rfl rfl rfl rfl (congrArg some h62) ?_
                  refine WO.qg rfl rfl (congrArg some h59) rfl rfl (fun w' hE57 => (X.pickF rfl h62 rfl)) ?_
                  refine WO.q rfl rfl rfl rfl (fun w' hE57 => (X.pickF rfl h59 rfl)) ?_
                  refine WO.q rfl rfl rfl rfl (fun w' hE57 => (X.assignB rfl)) ?_
                  refine WO.nil ?_
                  refine WL.nil ?_
                  refine thn_n ?_
                  exact ⟨(congrArg Value.bool hm), (by repeat (first | exact (Agree.refl _ F55) | refine Agree.put ?_ rfl | refine Agree.sub hACr6 rfl ?_ | refine Agree.sub hAL0 rfl ?_ | refine Agree.named hF56 ?_ | refine Agree.named hF12 ?_ | refine Agree.named hF7 ?_)), (Ext.drew _)⟩
            · rintro fCr10 wCr10 ⟨e11_Cr10, hACr10, hwCr10⟩
              refine WF.seq ?_
              refine WF.seq ?_
              refine WF.region ?_
              refine WL.va rfl rfl rfl (X.moveB ((hACr10.eq 2).trans ((congrFun hF56 2).trans ((hACr6.eq 2).trans ((congrFun hF12 2).trans ((hAL0.eq 2).trans (congrFun hF7 2))))))) ?_
              refine WL.va rfl rfl rfl (X.not rfl) ?_
              refine WL.va rfl rfl rfl (X.moveB rfl) ?_
              refine WL.p rfl rfl rfl (congrArg some (congrArg (fun z => !z) h19)) ?_
              refine WL.p rfl rfl rfl (congrArg some (congrArg (fun z => !z) h19)) ?_
              refine WL.va rfl rfl rfl (X.pickF rfl (congrArg (fun z => !z) h19) rfl) ?_
              refine WL.va rfl rfl rfl (X.moveB rfl) ?_
              refine WL.p rfl rfl rfl rfl ?_
              refine WL.va rfl rfl rfl (X.pickF rfl rfl rfl) ?_
              refine WL.nil ?_
              refine thn_n ?_
              refine WF.cond_f rfl ?_
              refine WF.skip ?_
              refine thn_n ?_
              refine WF.region ?_
              refine WL.va rfl rfl rfl (X.move ((hACr10.eq 7).trans ((congrFun hF56 7).trans ((hACr6.eq 7).trans ((congrFun hF12 7).trans e7_L0))))) ?_
              refine WL.va rfl rfl rfl (X.move ((hACr10.eq 0).trans ((congrFun hF56 0).trans ((hACr6.eq 0).trans ((congrFun hF12 0).trans ((hAL0.eq 0).trans (congrFun hF7 0))))))) ?_
              refine WL.va rfl rfl rfl (X.moveI ((hACr10.eq 9).trans ((congrFun hF56 9).trans ((hACr6.eq 9).trans ((congrFun hF12 9).trans e9_L0))))) ?_
              refine WL.va rfl rfl rfl (X.idx hv rfl rfl (by omega) Try.underlying22 Try.sizeOf37) ?_
              refine WL.va rfl rfl rfl (X.loadEl hv (Ext.trans (Ext.trans (Ext.trans hx3 hwL0) hwCr6) hwCr10) rfl (by omega) (Votes.el (l := l) (k := k) hk) Try.isAgg37 Try.sizeOf37) ?_
              refine WL.op rfl (OW.lits (vs := [agg (l[k]'hk).c]) (evp_cons rfl evp_nil) Try.underlying22 Try.sizeOf37 Try.zeroValue37 ⟨rfl, trivial⟩ rfl rfl rfl ?_ (by decide))
              intro v70 w69 ho72 hx71
              have := World.grownBy.size hx71
              have o1 : OwnV w69 _ _ _ [(l[k]'hk)] := ho72
              have hq14 := (own_ext ho (Ext.trans (Ext.trans hwCr6 hwCr10) hx71))
              refine WL.op rfl (OW.append (bytes := 40) hq14 (Row.of_own o1) votes_one rfl rfl Try.underlying22 Try.type37 rfl rfl rfl rfl (by decide) (by unfold maxLen; simp; omega) (by simp; omega) (World.grownBy.size (Ext.trans (Ext.trans (Ext.trans hwL0 hwCr6) hwCr10) hx71)) ?_ (by decide))
              intro v74 w73 ho76 hx75 hmvhx75
              have ho : OwnV _ _ _ _ _ := OwnV.app ho76
              refine WL.va rfl rfl rfl (X.assign rfl) ?_
              refine WL.nil ?_
              refine blk_n ?_
              refine thn_n ?_
              refine WF.region ?_
              refine WL.va rfl rfl rfl (X.moveI ((hACr10.eq 9).trans ((congrFun hF56 9).trans ((hACr6.eq 9).trans ((congrFun hF12 9).trans e9_L0))))) ?_
              refine WL.va rfl rfl rfl (X.add rfl rfl (w64 (by omega))) ?_
              refine WL.va rfl rfl rfl (X.assignI rfl) ?_
              refine WL.nil ?_
              exact thn_n ⟨_, (by omega), k + 1, _, _, _, rfl, rfl, rfl, ((hACr10.eq 8).trans ((congrFun hF56 8).trans ((hACr6.eq 8).trans ((congrFun hF12 8).trans e8_L0)))), (by repeat (first | exact hAL0 | refine Agree.put ?_ rfl | refine Agree.sub hACr10 rfl ?_ | refine Agree.sub hACr6 rfl ?_ | refine Agree.named hF56 ?_ | refine Agree.named hF12 ?_ | refine Agree.named hF7 ?_)), (Ext.own (Ext.trans (Ext.trans (Ext.trans hwL0 hwCr6) hwCr10) hx71) hq14 (Nat.le_refl _) hx75), ⟨by omega, by simp; omega, ho, by first | exact tail_set hk (by assumption) (by assumption) (by assumption) he | exact tail_ins hk (by assumption) (by assumption) (by assumption) he | exact tail_go hk (by assumption) he | exact tail_set' hk (by assumption) (by assumption) he | exact tail_ins' hk (by assumption) (by assumption) he⟩⟩
        · have gh19 := h19
          refine WL.p rfl rfl rfl (congrArg some h19) ?_
          refine WL.p rfl rfl rfl (congrArg some h19) ?_
          refine WL.va rfl rfl rfl (X.pickF rfl h19 rfl) ?_
          refine WL.va rfl rfl rfl (X.moveB rfl) ?_
          refine WL.p rfl rfl rfl rfl ?_
          refine WL.va rfl rfl rfl (X.pickF rfl rfl rfl) ?_
          refine WL.nil ?_
          refine thn_n ?_
          refine WF.cond_f rfl ?_
          refine WF.skip ?_
          refine thn_n ?_
          refine WF.named (fun F79 hF80 => ?_)
          refine WF.cut (fun f' w' => f' 11 = .bool (behind l[k] a) ∧ Agree [0, 1, 2, 4, 6, 7, 8, 9, 10, 12, 13, 14, 15, 36, 37, 38, 39, 40, 41, 42, 43] f' F79 ∧ Ext wCr6 w') ?_ ?_
          · refine WF.drawn (.q 0 (.q 1 (.q 2 (.q 3 (.q 4 (.q 5 (.q 6 (.q 7 (.q 8 (.q 9 (.q 10 (.q 11 (.q 12 (.q 13 (.q 14 (.q 15 (.q 16 (.q 17 (.q 18 (.q 19 (.q 20 (.q 21 (.q 22 (.q 23 (.q 24 (.q 25 (.q 26 (.q 27 (.q 28 .nil))))))))))))))))))))))))))))) (fun w' => Ext wCr6 w') 29 (by kernel_rfl) (by kernel_rfl) (Ext.drew _) ?_
            have := World.grownBy.size (Ext.drew wCr6)
            refine WO.q rfl rfl rfl rfl (fun w' hE81 => (X.move ((congrFun hF80 0).trans ((hACr6.eq 0).trans ((congrFun hF12 0).trans ((hAL0.eq 0).trans (congrFun hF7 0))))))) ?_
            refine WO.q rfl rfl rfl rfl (fun w' hE81 => (X.moveI ((congrFun hF80 9).trans ((hACr6.eq 9).trans ((congrFun hF12 9).trans e9_L0))))) ?_
            refine WO.q rfl rfl rfl rfl (fun w' hE81 => (X.idx hv rfl rfl (by omega) Try.underlying22 Try.sizeOf37)) ?_
            refine WO.q rfl rfl rfl rfl (fun w' hE81 => (X.fieldAddrA rfl Try.underlying37 rfl rfl Try.sizeOf3)) ?_
            refine WO.q rfl rfl rfl rfl (fun w' hE81 => (X.loadE hv (Ext.trans (Ext.trans (Ext.trans hx3 hwL0) hwCr6) hE81) rfl (by omega) ((Votes.get hk (by decide)).trans rfl) Try.isAgg3)) ?_
            refine WO.q rfl rfl rfl rfl (fun w' hE81 => (X.fieldAddrO (off := 0) ((congrFun hF80 4).trans ((hACr6.eq 4).trans ((congrFun hF12 4).trans ((hAL0.eq 4).trans (congrFun hF7 4))))) Try.underlying37 rfl rfl Try.sizeOf3)) ?_
            refine WO.q rfl rfl rfl rfl (fun w' hE81 => (X.loadO hO4 (Ext.trans (Ext.trans hwL0 hwCr6) hE81) rfl rfl Try.isAgg3)) ?_
            refine WO.q rfl rfl rfl rfl (fun w' hE81 => (X.gtr rfl rfl)) ?_
            refine WO.q rfl rfl rfl rfl (fun w' hE81 => (X.moveB rfl)) ?_
            refine WO.split (j := 8) rfl (fun h83 => ?_) (fun h83 => ?_)
            · have gh83 := (of_decide_eq_true h83)
              have hm : true = behind l[k] a := by unfold behind; simp [gh83]
              refine WO.qp rfl rfl rfl rfl (congrArg some h83) ?_
              refine WO.qp rfl rfl rfl rfl (congrArg some h83) ?_
              refine WO.qp rfl rfl rfl rfl (congrArg some h83) ?_
              refine WO.qp rfl rfl rfl rfl (congrArg some h83) ?_
              refine WO.qp rfl rfl rfl rfl (congrArg some h83) ?_
              refine WO.qp rfl rfl rfl rfl (congrArg some h83) ?_
              refine WO.qp rfl rfl rfl rfl (congrArg some h83) ?_
              refine WO.qp rfl rfl rfl rfl (congrArg some h83) ?_
              refine WO.qp rfl rfl rfl rfl (congrArg some h83) ?_
              refine WO.qpn rfl rfl rfl rfl rfl ?_
              refine WO.qpn rfl rfl rfl rfl rfl ?_
              refine WO.qpn rfl rfl rfl rfl rfl ?_
              refine WO.qpn rfl rfl rfl rfl rfl ?_
              refine WO.qpn rfl rfl rfl rfl rfl ?_
              refine WO.qpn rfl rfl rfl rfl rfl ?_
              refine WO.qpn rfl rfl rfl rfl rfl ?_
              refine WO.qpn rfl rfl rfl rfl rfl ?_
              refine WO.qp rfl rfl rfl rfl (congrArg some h83) ?_
              refine WO.q rfl rfl rfl rfl (fun w' hE81 => (X.pickT rfl h83 rfl)) ?_
              refine WO.q rfl rfl rfl rfl (fun w' hE81 => (X.assignB rfl)) ?_
              refine WO.nil ?_
              refine WL.nil ?_
              refine thn_n ?_
              exact ⟨(congrArg Value.bool hm), (by repeat (first | exact (Agree.refl _ F79) | refine Agree.put ?_ rfl | refine Agree.sub hACr6 rfl ?_ | refine Agree.sub hAL0 rfl ?_ | refine Agree.named hF80 ?_ | refine Agree.named hF12 ?_ | refine Agree.named hF7 ?_)), (Ext.drew _)⟩
            · have gh83 := (of_decide_eq_false h83)
              have hq := gh83
              refine WO.qg rfl rfl (congrArg some h83) rfl rfl (fun w' hE81 => (X.move ((congrFun hF80 0).trans ((hACr6.eq 0).trans ((congrFun hF12 0).trans ((hAL0.eq 0).trans (congrFun hF7 0))))))) ?_
              refine WO.qg rfl rfl (congrArg some h83) rfl rfl (fun w' hE81 => (X.moveI ((congrFun hF80 9).trans ((hACr6.eq 9).trans ((congrFun hF12 9).trans e9_L0))))) ?_
              refine WO.qg rfl rfl (congrArg some h83) rfl rfl (fun w' hE81 => (X.idx hv rfl rfl (by omega) Try.underlying22 Try.sizeOf37)) ?_
              refine WO.qg rfl rfl (congrArg some h83) rfl rfl (fun w' hE81 => (X.fieldAddrA rfl Try.underlying37 rfl rfl Try.sizeOf3)) ?_
              refine WO.qg rfl rfl (congrArg some h83) rfl rfl (fun w' hE81 => (X.loadE hv (Ext.trans (Ext.trans (Ext.trans hx3 hwL0) hwCr6) hE81) rfl (by omega) ((Votes.get hk (by decide)).trans rfl) Try.isAgg3)) ?_
              refine WO.qg rfl rfl (congrArg some h83) rfl rfl (fun w' hE81 => (X.fieldAddrO (off := 0) ((congrFun hF80 4).trans ((hACr6.eq 4).trans ((congrFun hF12 4).trans ((hAL0.eq 4).trans (congrFun hF7 4))))) Try.underlying37 rfl rfl Try.sizeOf3)) ?_
              refine WO.qg rfl rfl (congrArg some h83) rfl rfl (fun w' hE81 => (X.loadO hO4 (Ext.trans (Ext.trans hwL0 hwCr6) hE81) rfl rfl Try.isAgg3)) ?_
              refine WO.qg rfl rfl (congrArg some h83) rfl rfl (fun w' hE81 => (X.eql rfl rfl)) ?_
              refine WO.qg rfl rfl (congrArg some h83) rfl rfl (fun w' hE81 => (X.moveB rfl)) ?_
              refine WO.split (j := 17) rfl (fun h86 => ?_) (fun h86 => ?_)
              · have gh86 := (of_decide_eq_true h86)
                have hm : decide (a.Part < l[k].Part) = behind l[k] a := by unfold behind; simp [gh86]
                refine WO.qg rfl rfl (congrArg some h86) rfl rfl (fun w' hE81 => (X.move ((congrFun hF80 0).trans ((hACr6.eq 0).trans ((congrFun hF12 0).trans ((hAL0.eq 0).trans (congrFun hF7 0))))))) ?_
                refine WO.qg rfl rfl (congrArg some h86) rfl rfl (fun w' hE81 => (X.moveI ((congrFun hF80 9).trans ((hACr6.eq 9).trans ((congrFun hF12 9).trans e9_L0))))) ?_
                refine WO.qg rfl rfl (congrArg some h86) rfl rfl (fun w' hE81 => (X.idx hv rfl rfl (by omega) Try.underlying22 Try.sizeOf37)) ?_
                refine WO.qg rfl rfl (congrArg some h86) rfl rfl (fun w' hE81 => (X.fieldAddrA rfl Try.underlying37 rfl rfl Try.sizeOf3)) ?_
                refine WO.qg rfl rfl (congrArg some h86) rfl rfl (fun w' hE81 => (X.loadE hv (Ext.trans (Ext.trans (Ext.trans hx3 hwL0) hwCr6) hE81) rfl (by omega) ((Votes.get hk (by decide)).trans rfl) Try.isAgg3)) ?_
                refine WO.qg rfl rfl (congrArg some h86) rfl rfl (fun w' hE81 => (X.fieldAddrO (off := 1) ((congrFun hF80 4).trans ((hACr6.eq 4).trans ((congrFun hF12 4).trans ((hAL0.eq 4).trans (congrFun hF7 4))))) Try.underlying37 rfl rfl Try.sizeOf3)) ?_
                refine WO.qg rfl rfl (congrArg some h86) rfl rfl (fun w' hE81 => (X.loadO hO4 (Ext.trans (Ext.trans hwL0 hwCr6) hE81) rfl rfl Try.isAgg3)) ?_
                refine WO.qg rfl rfl (congrArg some h86) rfl rfl (fun w' hE81 => (X.gtr rfl rfl)) ?_
                refine WO.qg rfl rfl (congrArg some h83) rfl rfl (fun w' hE81 => (X.pickT rfl h86 rfl)) ?_
                refine WO.q rfl rfl rfl rfl (fun w' hE81 => (X.pickF rfl h83 rfl)) ?_
                refine WO.q rfl rfl rfl rfl (fun w' hE81 => (X.assignB rfl)) ?_
                refine WO.nil ?_
                refine WL.nil ?_
                refine thn_n ?_
                exact ⟨(congrArg Value.bool hm), (by repeat (first | exact (Agree.refl _ F79) | refine Agree.put ?_ rfl | refine Agree.sub hACr6 rfl ?_ | refine Agree.sub hAL0 rfl ?_ | refine Agree.named hF80 ?_ | refine Agree.named hF12 ?_ | refine Agree.named hF7 ?_)), (Ext.drew _)⟩
              · have gh86 := (of_decide_eq_false h86)
                have hm : false = behind l[k] a := by unfold behind; simp [hq, gh86]
                refine WO.qp rfl rfl rfl rfl (congrArg some h86) ?_
                refine WO.qp rfl rfl rfl rfl (congrArg some h86) ?_
                refine WO.qp rfl rfl rfl rfl (congrArg some h86) ?_
                refine WO.qp rfl rfl rfl rfl (congrArg some h86) ?_
                refine WO.qp rfl rfl rfl rfl (congrArg some h86) ?_
                refine WO.qp rfl rfl rfl rfl (congrArg some h86) ?_
                refine WO.qp rfl rfl rfl rfl (congrArg some h86) ?_
                refine WO.qp rfl rfl rfl rfl (congrArg some h86) ?_
                refine WO.qg rfl rfl (congrArg some h83) rfl rfl (fun w' hE81 => (X.pickF rfl h86 rfl)) ?_
                refine WO.q rfl rfl rfl rfl (fun w' hE81 => (X.pickF rfl h83 rfl)) ?_
                refine WO.q rfl rfl rfl rfl (fun w' hE81 => (X.assignB rfl)) ?_
                refine WO.nil ?_
                refine WL.nil ?_
                refine thn_n ?_
                exact ⟨(congrArg Value.bool hm), (by repeat (first | exact (Agree.refl _ F79) | refine Agree.put ?_ rfl | refine Agree.sub hACr6 rfl ?_ | refine Agree.sub hAL0 rfl ?_ | refine Agree.named hF80 ?_ | refine Agree.named hF12 ?_ | refine Agree.named hF7 ?_)), (Ext.drew _)⟩
          · rintro fCr10 wCr10 ⟨e11_Cr10, hACr10, hwCr10⟩
            refine WF.seq ?_
            refine WF.seq ?_
            refine WF.region ?_
            refine WL.va rfl rfl rfl (X.moveB ((hACr10.eq 2).trans ((congrFun hF80 2).trans ((hACr6.eq 2).trans ((congrFun hF12 2).trans ((hAL0.eq 2).trans (congrFun hF7 2))))))) ?_
            refine WL.va rfl rfl rfl (X.not rfl) ?_
            refine WL.va rfl rfl rfl (X.moveB rfl) ?_
            refine WL.vg rfl (congrArg some (congrArg (fun z => !z) h19)) rfl rfl (X.moveB ((hACr10.eq 8).trans ((congrFun hF80 8).trans ((hACr6.eq 8).trans ((congrFun hF12 8).trans e8_L0))))) ?_
            refine WL.vg rfl (congrArg some (congrArg (fun z => !z) h19)) rfl rfl (X.not rfl) ?_
            refine WL.va rfl rfl rfl (X.pickT rfl (congrArg (fun z => !z) h19) rfl) ?_
            refine WL.va rfl rfl rfl (X.moveB rfl) ?_
            refine WL.split (j := 6) rfl (fun h92 => ?_) (fun h92 => ?_)
            · have gh92 := (nt h92)
              refine WL.vg rfl (congrArg some h92) rfl rfl (X.moveB e11_Cr10) ?_
              refine WL.va rfl rfl rfl (X.pickT rfl h92 rfl) ?_
              refine WL.nil ?_
              refine thn_n ?_
              refine WF.cond rfl (fun h2_92 => ?_) (fun h2_92 => ?_)
              · have gh2_92 := h2_92
                refine WF.seq ?_
                refine WF.region ?_
                refine WL.va rfl rfl rfl (X.move ((hACr10.eq 7).trans ((congrFun hF80 7).trans ((hACr6.eq 7).trans ((congrFun hF12 7).trans e7_L0))))) ?_
                refine WL.va rfl rfl rfl (X.loadOA hO4 (Ext.trans (Ext.trans hwL0 hwCr6) hwCr10) ((hACr10.eq 4).trans ((congrFun hF80 4).trans ((hACr6.eq 4).trans ((congrFun hF12 4).trans ((hAL0.eq 4).trans (congrFun hF7 4)))))) rfl Try.isAgg37 Try.sizeOf37) ?_
                refine WL.op rfl (OW.lits (vs := [agg a.c]) (evp_cons rfl evp_nil) Try.underlying22 Try.sizeOf37 Try.zeroValue37 ⟨rfl, trivial⟩ rfl rfl rfl ?_ (by decide))
                intro v95 w94 ho97 hx96
                have := World.grownBy.size hx96
                have o1 : OwnV w94 _ _ _ [a] := ho97
                have hq12 := (own_ext ho (Ext.trans (Ext.trans hwCr6 hwCr10) hx96))
                refine WL.op rfl (OW.append (bytes := 40) hq12 (Row.of_own o1) votes_one rfl rfl Try.underlying22 Try.type37 rfl rfl rfl rfl (by decide) (by unfold maxLen; simp; omega) (by simp; omega) (World.grownBy.size (Ext.trans (Ext.trans (Ext.trans hwL0 hwCr6) hwCr10) hx96)) ?_ (by decide))
                intro v99 w98 ho101 hx100 hmvhx100
                have ho : OwnV _ _ _ _ _ := OwnV.app ho101
                refine WL.va rfl rfl rfl (X.assign rfl) ?_
                refine WL.nil ?_
                refine thn_n ?_
                refine WF.region ?_
                refine WL.va rfl rfl rfl (X.assignB rfl) ?_
                refine WL.nil ?_
                refine thn_n ?_
                refine WF.region ?_
                refine WL.va rfl rfl rfl (X.move rfl) ?_
                refine WL.va rfl rfl rfl (X.move ((hACr10.eq 0).trans ((congrFun hF80 0).trans ((hACr6.eq 0).trans ((congrFun hF12 0).trans ((hAL0.eq 0).trans (congrFun hF7 0))))))) ?_
                refine WL.va rfl rfl rfl (X.moveI ((hACr10.eq 9).trans ((congrFun hF80 9).trans ((hACr6.eq 9).trans ((congrFun hF12 9).trans e9_L0))))) ?_
                refine WL.va rfl rfl rfl (X.idx hv rfl rfl (by omega) Try.underlying22 Try.sizeOf37) ?_
                refine WL.va rfl rfl rfl (X.loadEl hv (Ext.trans hx3 (Ext.own (Ext.trans (Ext.trans (Ext.trans hwL0 hwCr6) hwCr10) hx96) hq12 (Nat.le_refl _) hx100)) rfl (by omega) (Votes.el (l := l) (k := k) hk) Try.isAgg37 Try.sizeOf37) ?_
                refine WL.op rfl (OW.lits (vs := [agg (l[k]'hk).c]) (evp_cons rfl evp_nil) Try.underlying22 Try.sizeOf37 Try.zeroValue37 ⟨rfl, trivial⟩ rfl rfl rfl ?_ (by decide))
                intro v104 w103 ho106 hx105
                have := World.grownBy.size hx105
                have o1 : OwnV w103 _ _ _ [(l[k]'hk)] := ho106
                have hq14 := (own_ext ho hx105)
                refine WL.op rfl (OW.append (bytes := 40) hq14 (Row.of_own o1) votes_one rfl rfl Try.underlying22 Try.type37 rfl rfl rfl rfl (by decide) (by unfold maxLen; simp; omega) (by simp; omega) (World.grownBy.size (Ext.trans (Ext.own (Ext.trans (Ext.trans (Ext.trans hwL0 hwCr6) hwCr10) hx96) hq12 (Nat.le_refl _) hx100) hx105)) ?_ (by decide))
                intro v108 w107 ho110 hx109 hmvhx109
                have ho : OwnV _ _ _ _ _ := OwnV.app ho110
                refine WL.va rfl rfl rfl (X.assign rfl) ?_
                refine WL.nil ?_
                refine blk_n ?_
                refine thn_n ?_
                refine WF.region ?_
                refine WL.va rfl rfl rfl (X.moveI ((hACr10.eq 9).trans ((congrFun hF80 9).trans ((hACr6.eq 9).trans ((congrFun hF12 9).trans e9_L0))))) ?_
                refine WL.va rfl rfl rfl (X.add rfl rfl (w64 (by omega))) ?_
                refine WL.va rfl rfl rfl (X.assignI rfl) ?_
                refine WL.nil ?_
                exact thn_n ⟨_, (by omega), k + 1, _, _, _, rfl, rfl, rfl, rfl, (by repeat (first | exact hAL0 | refine Agree.put ?_ rfl | refine Agree.sub hACr10 rfl ?_ | refine Agree.sub hACr6 rfl ?_ | refine Agree.named hF80 ?_ | refine Agree.named hF12 ?_ | refine Agree.named hF7 ?_)), (Ext.own (Ext.trans (Ext.own (Ext.trans (Ext.trans (Ext.trans hwL0 hwCr6) hwCr10) hx96) hq12 (Nat.le_refl _) hx100) hx105) hq14 (Nat.le_refl _) hx109), ⟨by omega, by simp; omega, ho, by first | exact tail_set hk (by assumption) (by assumption) (by assumption) he | exact tail_ins hk (by assumption) (by assumption) (by assumption) he | exact tail_go hk (by assumption) he | exact tail_set' hk (by assumption) (by assumption) he | exact tail_ins' hk (by assumption) (by assumption) he⟩⟩
              · have gh2_92 := h2_92
                refine WF.skip ?_
                refine thn_n ?_
                refine WF.region ?_
                refine WL.va rfl rfl rfl (X.move ((hACr10.eq 7).trans ((congrFun hF80 7).trans ((hACr6.eq 7).trans ((congrFun hF12 7).trans e7_L0))))) ?_
                refine WL.va rfl rfl rfl (X.move ((hACr10.eq 0).trans ((congrFun hF80 0).trans ((hACr6.eq 0).trans ((congrFun hF12 0).trans ((hAL0.eq 0).trans (congrFun hF7 0))))))) ?_
                refine WL.va rfl rfl rfl (X.moveI ((hACr10.eq 9).trans ((congrFun hF80 9).trans ((hACr6.eq 9).trans ((congrFun hF12 9).trans e9_L0))))) ?_
                refine WL.va rfl rfl rfl (X.idx hv rfl rfl (by omega) Try.underlying22 Try.sizeOf37) ?_
                refine WL.va rfl rfl rfl (X.loadEl hv (Ext.trans (Ext.trans (Ext.trans hx3 hwL0) hwCr6) hwCr10) rfl (by omega) (Votes.el (l := l) (k := k) hk) Try.isAgg37 Try.sizeOf37) ?_
                refine WL.op rfl (OW.lits (vs := [agg (l[k]'hk).c]) (evp_cons rfl evp_nil) Try.underlying22 Try.sizeOf37 Try.zeroValue37 ⟨rfl, trivial⟩ rfl rfl rfl ?_ (by decide))
                intro v112 w111 ho114 hx113
                have := World.grownBy.size hx113
                have o1 : OwnV w111 _ _ _ [(l[k]'hk)] := ho114
                have hq14 := (own_ext ho (Ext.trans (Ext.trans hwCr6 hwCr10) hx113))
                refine WL.op rfl (OW.append (bytes := 40) hq14 (Row.of_own o1) votes_one rfl rfl Try.underlying22 Try.type37 rfl rfl rfl rfl (by decide) (by unfold maxLen; simp; omega) (by simp; omega) (World.grownBy.size (Ext.trans (Ext.trans (Ext.trans hwL0 hwCr6) hwCr10) hx113)) ?_ (by decide))
                intro v116 w115 ho118 hx117 hmvhx117
                have ho : OwnV _ _ _ _ _ := OwnV.app ho118
                refine WL.va rfl rfl rfl (X.assign rfl) ?_
                refine WL.nil ?_
                refine blk_n ?_
                refine thn_n ?_
                refine WF.region ?_
                refine WL.va rfl rfl rfl (X.moveI ((hACr10.eq 9).trans ((congrFun hF80 9).trans ((hACr6.eq 9).trans ((congrFun hF12 9).trans e9_L0))))) ?_
                refine WL.va rfl rfl rfl (X.add rfl rfl (w64 (by omega))) ?_
                refine WL.va rfl rfl rfl (X.assignI rfl) ?_
                refine WL.nil ?_
                exact thn_n ⟨_, (by omega), k + 1, _, _, _, rfl, rfl, rfl, ((hACr10.eq 8).trans ((congrFun hF80 8).trans ((hACr6.eq 8).trans ((congrFun hF12 8).trans e8_L0)))), (by repeat (first | exact hAL0 | refine Agree.put ?_ rfl | refine Agree.sub hACr10 rfl ?_ | refine Agree.sub hACr6 rfl ?_ | refine Agree.named hF80 ?_ | refine Agree.named hF12 ?_ | refine Agree.named hF7 ?_)), (Ext.own (Ext.trans (Ext.trans (Ext.trans hwL0 hwCr6) hwCr10) hx113) hq14 (Nat.le_refl _) hx117), ⟨by omega, by simp; omega, ho, by first | exact tail_set hk (by assumption) (by assumption) (by assumption) he | exact tail_ins hk (by assumption) (by assumption) (by assumption) he | exact tail_go hk (by assumption) he | exact tail_set' hk (by assumption) (by assumption) he | exact tail_ins' hk (by assumption) (by assumption) he⟩⟩
            · have gh92 := (nf h92)
              refine WL.p rfl rfl rfl (congrArg some h92) ?_
              refine WL.va rfl rfl rfl (X.pickF rfl h92 rfl) ?_
              refine WL.nil ?_
              refine thn_n ?_
              refine WF.cond_f rfl ?_
              refine WF.skip ?_
              refine thn_n ?_
              refine WF.region ?_
              refine WL.va rfl rfl rfl (X.move ((hACr10.eq 7).trans ((congrFun hF80 7).trans ((hACr6.eq 7).trans ((congrFun hF12 7).trans e7_L0))))) ?_
              refine WL.va rfl rfl rfl (X.move ((hACr10.eq 0).trans ((congrFun hF80 0).trans ((hACr6.eq 0).trans ((congrFun hF12 0).trans ((hAL0.eq 0).trans (congrFun hF7 0))))))) ?_
              refine WL.va rfl rfl rfl (X.moveI ((hACr10.eq 9).trans ((congrFun hF80 9).trans ((hACr6.eq 9).trans ((congrFun hF12 9).trans e9_L0))))) ?_
              refine WL.va rfl rfl rfl (X.idx hv rfl rfl (by omega) Try.underlying22 Try.sizeOf37) ?_
              refine WL.va rfl rfl rfl (X.loadEl hv (Ext.trans (Ext.trans (Ext.trans hx3 hwL0) hwCr6) hwCr10) rfl (by omega) (Votes.el (l := l) (k := k) hk) Try.isAgg37 Try.sizeOf37) ?_
              refine WL.op rfl (OW.lits (vs := [agg (l[k]'hk).c]) (evp_cons rfl evp_nil) Try.underlying22 Try.sizeOf37 Try.zeroValue37 ⟨rfl, trivial⟩ rfl rfl rfl ?_ (by decide))
              intro v121 w120 ho123 hx122
              have := World.grownBy.size hx122
              have o1 : OwnV w120 _ _ _ [(l[k]'hk)] := ho123
              have hq14 := (own_ext ho (Ext.trans (Ext.trans hwCr6 hwCr10) hx122))
              refine WL.op rfl (OW.append (bytes := 40) hq14 (Row.of_own o1) votes_one rfl rfl Try.underlying22 Try.type37 rfl rfl rfl rfl (by decide) (by unfold maxLen; simp; omega) (by simp; omega) (World.grownBy.size (Ext.trans (Ext.trans (Ext.trans hwL0 hwCr6) hwCr10) hx122)) ?_ (by decide))
              intro v125 w124 ho127 hx126 hmvhx126
              have ho : OwnV _ _ _ _ _ := OwnV.app ho127
              refine WL.va rfl rfl rfl (X.assign rfl) ?_
              refine WL.nil ?_
              refine blk_n ?_
              refine thn_n ?_
              refine WF.region ?_
              refine WL.va rfl rfl rfl (X.moveI ((hACr10.eq 9).trans ((congrFun hF80 9).trans ((hACr6.eq 9).trans ((congrFun hF12 9).trans e9_L0))))) ?_
              refine WL.va rfl rfl rfl (X.add rfl rfl (w64 (by omega))) ?_
              refine WL.va rfl rfl rfl (X.assignI rfl) ?_
              refine WL.nil ?_
              exact thn_n ⟨_, (by omega), k + 1, _, _, _, rfl, rfl, rfl, ((hACr10.eq 8).trans ((congrFun hF80 8).trans ((hACr6.eq 8).trans ((congrFun hF12 8).trans e8_L0)))), (by repeat (first | exact hAL0 | refine Agree.put ?_ rfl | refine Agree.sub hACr10 rfl ?_ | refine Agree.sub hACr6 rfl ?_ | refine Agree.named hF80 ?_ | refine Agree.named hF12 ?_ | refine Agree.named hF7 ?_)), (Ext.own (Ext.trans (Ext.trans (Ext.trans hwL0 hwCr6) hwCr10) hx122) hq14 (Nat.le_refl _) hx126), ⟨by omega, by simp; omega, ho, by first | exact tail_set hk (by assumption) (by assumption) (by assumption) he | exact tail_ins hk (by assumption) (by assumption) (by assumption) he | exact tail_go hk (by assumption) he | exact tail_set' hk (by assumption) (by assumption) he | exact tail_ins' hk (by assumption) (by assumption) he⟩⟩
    · have gh0_9 := (of_decide_eq_false h0_9)
      refine WF.exit ?_
      refine thn_x ?_
      refine thn_x ?_
      refine blk_eq ?_
      refine thn_n ?_
      refine WF.seq ?_
      refine WF.seq ?_
      refine WF.region ?_
      refine WL.va rfl rfl rfl (X.moveB e8_L0) ?_
      refine WL.va rfl rfl rfl (X.not rfl) ?_
      refine WL.nil ?_
      refine thn_n ?_
      refine WF.cond rfl (fun h3_128 => ?_) (fun h3_128 => ?_)
      · have gh3_128 := (nt h3_128)
        refine WF.region ?_
        refine WL.va rfl rfl rfl (X.move e7_L0) ?_
        refine WL.va rfl rfl rfl (X.loadOA hO4 hwL0 ((hAL0.eq 4).trans (congrFun hF7 4)) rfl Try.isAgg37 Try.sizeOf37) ?_
        refine WL.op rfl (OW.lits (vs := [agg a.c]) (evp_cons rfl evp_nil) Try.underlying22 Try.sizeOf37 Try.zeroValue37 ⟨rfl, trivial⟩ rfl rfl rfl ?_ (by decide))
        intro v131 w130 ho133 hx132
        have := World.grownBy.size hx132
        have o1 : OwnV w130 _ _ _ [a] := ho133
        have hq16 := (own_ext ho hx132)
        refine WL.op rfl (OW.append (bytes := 40) hq16 (Row.of_own o1) votes_one rfl rfl Try.underlying22 Try.type37 rfl rfl rfl rfl (by decide) (by unfold maxLen; simp; omega) (by simp; omega) (World.grownBy.size (Ext.trans hwL0 hx132)) ?_ (by decide))
        intro v135 w134 ho137 hx136 hmvhx136
        have ho : OwnV _ _ _ _ _ := OwnV.app ho137
        refine WL.va rfl rfl rfl (X.assign rfl) ?_
        refine WL.nil ?_
        refine thn_n ?_
        refine WF.seq ?_
        refine WF.region ?_
        refine WL.va rfl rfl rfl (X.move rfl) ?_
        refine WL.va rfl rfl rfl (X.assign rfl) ?_
        refine WL.nil ?_
        refine thn_n ?_
        refine WF.ret ?_
        refine fin_r ?_
        rw [List.drop_of_length_le (by omega)] at he
        have e : withV has a l = _ := he
        first | (obtain rfl : lb = false := (by assumption); rw [e]; exact ⟨own_mono ho (World.grownBy.size hxb), (Ext.trans hx3 (Ext.own (Ext.trans hwL0 hx132) hq16 (Nat.le_refl _) hx136))⟩) | (obtain rfl : lb = true := (by assumption); rw [e]; unfold tailV; rw [cond_true, List.append_nil]; exact ⟨own_mono ho (World.grownBy.size hxb), (Ext.trans hx3 (Ext.own (Ext.trans hwL0 hx132) hq16 (Nat.le_refl _) hx136))⟩)
      · have gh3_128 := (nf h3_128)
        refine WF.skip ?_
        refine thn_n ?_
        refine WF.seq ?_
        refine WF.region ?_
        refine WL.va rfl rfl rfl (X.move e7_L0) ?_
        refine WL.va rfl rfl rfl (X.assign rfl) ?_
        refine WL.nil ?_
        refine thn_n ?_
        refine WF.ret ?_
        refine fin_r ?_
        rw [List.drop_of_length_le (by omega)] at he
        have e : withV has a l = _ := he
        first | (obtain rfl : lb = false := (by assumption); rw [e]; exact ⟨own_mono ho (World.grownBy.size hxb), (Ext.trans hx3 hwL0)⟩) | (obtain rfl : lb = true := (by assumption); rw [e]; unfold tailV; rw [cond_true, List.append_nil]; exact ⟨own_mono ho (World.grownBy.size hxb), (Ext.trans hx3 hwL0)⟩)

set_option maxHeartbeats 4000000 in
theorem refTake_ok (v : Value) (l : List Acc) (id : Int) (m : Msg) (em dm : Value) (w : World) (hv : Votes w v l) (hl : l.length ≤ 1100) (hm : In64 m.ints) : FnOk Try.prog 12 [v, i64 id, agg (m.c em dm)] w (fun r w' => (∃ vv vm, r = .tuple #[vv, vm, .bool (takeA l id m).2.2] ∧ OwnV w' w.heap.size 37 vv (takeA l id m).1 ∧ OwnM w' w.heap.size 26 vm (takeA l id m).2.1) ∧ Ext w w') := by
  have hmT : -9223372036854775808 ≤ m.Txn ∧ m.Txn ≤ 9223372036854775807 := hm _ (by simp)
  have hsh : m.Txn.fdiv 1048576 ≤ 9223372036854775807 - 100 ∧ -9223372036854775808 ≤ m.Txn.fdiv 1048576 := by rw [Int.fdiv_eq_ediv_of_nonneg _ (by decide)]; omega
  obtain ⟨was, has, hf⟩ : ∃ a b, findA l m.Txn m.Part = (a, b) := ⟨_, _, rfl⟩
  obtain ⟨s, hs⟩ : ∃ s, stepA was id m = s := ⟨_, rfl⟩
  refine FnOk.enter (rs := [6, 7, 8]) Try.func12 rfl Try.ntmps12 Try.results12 rfl rfl ?_
  refine WF.seq ?_
  refine WF.region ?_
  refine WL.op rfl (OW.boxA (cs := _) rfl ?_ (by decide))
  intro g5 w1 heg5 hlg5 hO5 hx3
  have := World.grownBy.size hx3
  refine WL.va rfl rfl rfl (X.assign rfl) ?_
  refine WL.va rfl rfl rfl (X.assign rfl) ?_
  refine WL.va rfl rfl rfl (X.assignB rfl) ?_
  refine WL.nil ?_
  refine thn_n ?_
  refine WF.seq ?_
  refine WF.region ?_
  refine WL.va rfl rfl rfl (X.move rfl) ?_
  refine WL.va rfl rfl rfl (X.fieldAddrO (off := 9) rfl Try.underlying26 rfl rfl Try.sizeOf3) ?_
  refine WL.va rfl rfl rfl (X.loadO hO5 (Ext.refl _) rfl rfl Try.isAgg3) ?_
  refine WL.va rfl rfl rfl (X.fieldAddrO (off := 10) rfl Try.underlying26 rfl rfl Try.sizeOf3) ?_
  refine WL.va rfl rfl rfl (X.loadO hO5 (Ext.refl _) rfl rfl Try.isAgg3) ?_
  refine WL.c rfl rfl rfl (X.call Try.call17 (evl_cons rfl (evl_cons rfl (evl_cons rfl evl_nil)))) ((refFind_ok _ l _ _ _ (Row.ext hv hx3)).mono (fun r w2 h => (show r = .tuple #[agg was.c, .bool has] ∧ Ext w1 w2 from by rw [hf] at h; exact h))) ?_
  rintro v7 w6 ⟨rfl, hx8⟩
  have := World.grownBy.size hx8
  refine WL.va rfl rfl rfl (X.move rfl) ?_
  refine WL.va rfl rfl rfl (X.extract rfl rfl) ?_
  refine WL.va rfl rfl rfl (X.extract rfl rfl) ?_
  refine WL.op rfl (OW.allocO (cs := [i64 0, i64 0, i64 0, i64 0, i64 0]) Try.zeroValue37 rfl ?_ (by decide))
  intro g9 w10 heg9 hlg9 hO9 hx12
  have := World.grownBy.size hx12
  refine WL.op rfl (OW.storeOA hO9 rfl rfl rfl (Acc.c_one _) Try.sizeOf37 ?_)
  intro w14 hO9 hx16
  have := World.grownBy.size hx16
  replace hO5 := (hO5.ext (Ext.trans hx8 hx12)).keptO hx16 (by omega)
  replace hO9 : Blk _ _ _ was.c := hO9
  refine WL.va rfl rfl rfl (X.assignB rfl) ?_
  refine WL.nil ?_
  refine thn_n ?_
  refine WF.named (fun F18 hF19 => ?_)
  refine WF.cut (fun f' w' => f' 11 = .bool (may m) ∧ Agree [0, 1, 2, 5, 6, 7, 8, 9, 10, 14, 15, 16, 17, 18, 19, 20, 21, 22] f' F18 ∧ w14 = w') ?_ ?_
  · refine WF.region ?_
    refine WL.va rfl rfl rfl (X.fieldAddrO (off := 0) (congrFun hF19 5) Try.underlying26 rfl rfl Try.sizeOf3) ?_
    refine WL.va rfl rfl rfl (X.loadO hO5 (Ext.refl _) rfl rfl Try.isAgg3) ?_
    refine WL.va rfl rfl rfl (X.eql rfl rfl) ?_
    refine WL.va rfl rfl rfl (X.moveB rfl) ?_
    refine WL.split (j := 3) rfl (fun h21 => ?_) (fun h21 => ?_)
    · have gh21 := (of_decide_eq_true h21)
      have hk8 := gh21
      have hmay : may m = true := by unfold may; simp [hk8]
      refine WL.p rfl rfl rfl (congrArg some h21) ?_
      refine WL.p rfl rfl rfl (congrArg some h21) ?_
      refine WL.p rfl rfl rfl (congrArg some h21) ?_
      refine WL.p rfl rfl rfl (congrArg some h21) ?_
      refine WL.pn rfl rfl rfl rfl ?_
      refine WL.pn rfl rfl rfl rfl ?_
      refine WL.pn rfl rfl rfl rfl ?_
      refine WL.p rfl rfl rfl (congrArg some h21) ?_
      refine WL.p rfl rfl rfl (congrArg some h21) ?_
      refine WL.pn rfl rfl rfl rfl ?_
      refine WL.pn rfl rfl rfl rfl ?_
      refine WL.pn rfl rfl rfl rfl ?_
      refine WL.p rfl rfl rfl (congrArg some h21) ?_
      refine WL.va rfl rfl rfl (X.pickT rfl h21 rfl) ?_
      refine WL.va rfl rfl rfl (X.assignB rfl) ?_
      refine WL.nil ?_
      refine thn_n ?_
      exact ⟨(by first | exact congrArg Value.bool hmay.symm | (refine congrArg Value.bool ?_; unfold may; rw [decide_eq_false hk8, decide_eq_true hk10]; by_cases h2 : m.Value ≤ 2 <;> by_cases h1 : m.Value = 1 <;> simp [h1, h2] <;> omega)), (by repeat (first | exact (Agree.refl _ F18) | refine Agree.put ?_ rfl | refine Agree.named hF19 ?_)), rfl⟩
    · have gh21 := (of_decide_eq_false h21)
      have hk8 := gh21
      refine WL.vg rfl (congrArg some h21) rfl rfl (X.fieldAddrO (off := 0) (congrFun hF19 5) Try.underlying26 rfl rfl Try.sizeOf3) ?_
      refine WL.vg rfl (congrArg some h21) rfl rfl (X.loadO hO5 (Ext.refl _) rfl rfl Try.isAgg3) ?_
      refine WL.vg rfl (congrArg some h21) rfl rfl (X.eql rfl rfl) ?_
      refine WL.vg rfl (congrArg some h21) rfl rfl (X.moveB rfl) ?_
      refine WL.split (j := 7) rfl (fun h24 => ?_) (fun h24 => ?_)
      · have gh24 := (of_decide_eq_true h24)
        have hk10 := gh24
        refine WL.vg rfl (congrArg some h24) rfl rfl (X.fieldAddrO (off := 12) (congrFun hF19 5) Try.underlying26 rfl rfl Try.sizeOf3) ?_
        refine WL.vg rfl (congrArg some h24) rfl rfl (X.loadO hO5 (Ext.refl _) rfl rfl Try.isAgg3) ?_
        refine WL.vg rfl (congrArg some h24) rfl rfl (X.geq rfl rfl) ?_
        refine WL.vg rfl (congrArg some h21) rfl rfl (X.pickT rfl h24 rfl) ?_
        refine WL.vg rfl (congrArg some h21) rfl rfl (X.moveB rfl) ?_
        refine WL.split (j := 12) rfl (fun h26 => ?_) (fun h26 => ?_)
        · have gh26 := (of_decide_eq_true h26)
          have hv1 := gh26
          refine WL.vg rfl (congrArg some h26) rfl rfl (X.fieldAddrO (off := 12) (congrFun hF19 5) Try.underlying26 rfl rfl Try.sizeOf3) ?_
          refine WL.vg rfl (congrArg some h26) rfl rfl (X.loadO hO5 (Ext.refl _) rfl rfl Try.isAgg3) ?_
          refine WL.vg rfl (congrArg some h26) rfl rfl (X.leq rfl rfl) ?_
          refine WL.vg rfl (congrArg some h21) rfl rfl (X.pickT rfl h26 rfl) ?_
          refine WL.va rfl rfl rfl (X.pickF rfl h21 rfl) ?_
          refine WL.va rfl rfl rfl (X.assignB rfl) ?_
          refine WL.nil ?_
          refine thn_n ?_
          exact ⟨(by first | exact congrArg Value.bool hmay.symm | (refine congrArg Value.bool ?_; unfold may; rw [decide_eq_false hk8, decide_eq_true hk10]; by_cases h2 : m.Value ≤ 2 <;> by_cases h1 : m.Value = 1 <;> simp [h1, h2] <;> omega)), (by repeat (first | exact (Agree.refl _ F18) | refine Agree.put ?_ rfl | refine Agree.named hF19 ?_)), rfl⟩
        · have gh26 := (of_decide_eq_false h26)
          have hmay : may m = false := by unfold may; simp [hk8, show ¬ m.Value = 1 by omega, show ¬ m.Value = 2 by omega]
          refine WL.p rfl rfl rfl (congrArg some h26) ?_
          refine WL.p rfl rfl rfl (congrArg some h26) ?_
          refine WL.p rfl rfl rfl (congrArg some h26) ?_
          refine WL.vg rfl (congrArg some h21) rfl rfl (X.pickF rfl h26 rfl) ?_
          refine WL.va rfl rfl rfl (X.pickF rfl h21 rfl) ?_
          refine WL.va rfl rfl rfl (X.assignB rfl) ?_
          refine WL.nil ?_
          refine thn_n ?_
          exact ⟨(by first | exact congrArg Value.bool hmay.symm | (refine congrArg Value.bool ?_; unfold may; rw [decide_eq_false hk8, decide_eq_true hk10]; by_cases h2 : m.Value ≤ 2 <;> by_cases h1 : m.Value = 1 <;> simp [h1, h2] <;> omega)), (by repeat (first | exact (Agree.refl _ F18) | refine Agree.put ?_ rfl | refine Agree.named hF19 ?_)), rfl⟩
      · have gh24 := (of_decide_eq_false h24)
        have hmay : may m = false := by unfold may; simp [hk8, gh24]
        refine WL.p rfl rfl rfl (congrArg some h24) ?_
        refine WL.p rfl rfl rfl (congrArg some h24) ?_
        refine WL.p rfl rfl rfl (congrArg some h24) ?_
        refine WL.vg rfl (congrArg some h21) rfl rfl (X.pickF rfl h24 rfl) ?_
        refine WL.vg rfl (congrArg some h21) rfl rfl (X.moveB rfl) ?_
        refine WL.p rfl rfl rfl rfl ?_
        refine WL.p rfl rfl rfl rfl ?_
        refine WL.p rfl rfl rfl rfl ?_
        refine WL.vg rfl (congrArg some h21) rfl rfl (X.pickF rfl rfl rfl) ?_
        refine WL.va rfl rfl rfl (X.pickF rfl h21 rfl) ?_
        refine WL.va rfl rfl rfl (X.assignB rfl) ?_
        refine WL.nil ?_
        refine thn_n ?_
        exact ⟨(by first | exact congrArg Value.bool hmay.symm | (refine congrArg Value.bool ?_; unfold may; rw [decide_eq_false hk8, decide_eq_true hk10]; by_cases h2 : m.Value ≤ 2 <;> by_cases h1 : m.Value = 1 <;> simp [h1, h2] <;> omega)), (by repeat (first | exact (Agree.refl _ F18) | refine Agree.put ?_ rfl | refine Agree.named hF19 ?_)), rfl⟩
  · rintro fCr2 wCr2 ⟨e11_Cr2, hACr2, rfl⟩
    refine WF.seq ?_
    refine WF.named (fun F32 hF33 => ?_)
    refine WF.cut (fun f' w' => f' 51 = .bool (decide (may m = false ∨ (has = false ∧ 1024 ≤ l.length))) ∧ Agree [0, 1, 2, 5, 6, 7, 8, 9, 10, 11, 14, 15, 16, 17, 18, 19, 20, 21, 22] f' F32 ∧ w14 = w') ?_ ?_
    · refine WF.region ?_
      refine WL.va rfl rfl rfl (X.moveB ((congrFun hF33 11).trans e11_Cr2)) ?_
      refine WL.va rfl rfl rfl (X.not rfl) ?_
      refine WL.va rfl rfl rfl (X.moveB rfl) ?_
      refine WL.split (j := 2) rfl (fun h35 => ?_) (fun h35 => ?_)
      · have gh35 := (nt h35)
        have hbad : may m = false ∨ (has = false ∧ 1024 ≤ l.length) := .inl gh35
        refine WL.p rfl rfl rfl (congrArg some h35) ?_
        refine WL.p rfl rfl rfl (congrArg some h35) ?_
        refine WL.p rfl rfl rfl (congrArg some h35) ?_
        refine WL.pn rfl rfl rfl rfl ?_
        refine WL.pn rfl rfl rfl rfl ?_
        refine WL.pn rfl rfl rfl rfl ?_
        refine WL.p rfl rfl rfl (congrArg some h35) ?_
        refine WL.va rfl rfl rfl (X.pickT rfl h35 rfl) ?_
        refine WL.nil ?_
        refine thn_n ?_
        exact ⟨(by first | exact congrArg Value.bool (decide_eq_true hbad).symm | exact congrArg Value.bool (decide_eq_false hgo).symm | exact congrArg Value.bool (decide_eq_decide.2 ⟨fun h => .inr ⟨hhas, by omega⟩, fun h => h.elim (fun e => by rw [hmay1] at e; cases e) (fun e => by have := e.2; omega)⟩)), (by repeat (first | exact (Agree.refl _ F32) | refine Agree.put ?_ rfl | refine Agree.sub hACr2 rfl ?_ | refine Agree.named hF33 ?_ | refine Agree.named hF19 ?_)), rfl⟩
      · have gh35 := (nf h35)
        have hmay1 : may m = true := gh35
        refine WL.vg rfl (congrArg some h35) rfl rfl (X.moveB ((congrFun hF33 10).trans ((hACr2.eq 10).trans (congrFun hF19 10)))) ?_
        refine WL.vg rfl (congrArg some h35) rfl rfl (X.not rfl) ?_
        refine WL.vg rfl (congrArg some h35) rfl rfl (X.moveB rfl) ?_
        refine WL.split (j := 5) rfl (fun h38 => ?_) (fun h38 => ?_)
        · have gh38 := (nt h38)
          have hhas : has = false := gh38
          refine WL.vg rfl (congrArg some h38) rfl rfl (X.move ((congrFun hF33 0).trans ((hACr2.eq 0).trans (congrFun hF19 0)))) ?_
          refine WL.vg rfl (congrArg some h38) rfl rfl (X.len hv rfl Try.underlying22) ?_
          refine WL.vg rfl (congrArg some h38) rfl rfl (X.geq rfl rfl) ?_
          refine WL.vg rfl (congrArg some h35) rfl rfl (X.pickT rfl h38 rfl) ?_
          refine WL.va rfl rfl rfl (X.pickF rfl h35 rfl) ?_
          refine WL.nil ?_
          refine thn_n ?_
          exact ⟨(by first | exact congrArg Value.bool (decide_eq_true hbad).symm | exact congrArg Value.bool (decide_eq_false hgo).symm | exact congrArg Value.bool (decide_eq_decide.2 ⟨fun h => .inr ⟨hhas, by omega⟩, fun h => h.elim (fun e => by rw [hmay1] at e; cases e) (fun e => by have := e.2; omega)⟩)), (by repeat (first | exact (Agree.refl _ F32) | refine Agree.put ?_ rfl | refine Agree.sub hACr2 rfl ?_ | refine Agree.named hF33 ?_ | refine Agree.named hF19 ?_)), rfl⟩
        · have gh38 := (nf h38)
          have hhas : has = true := gh38
          have hgo : ¬ (may m = false ∨ (has = false ∧ 1024 ≤ l.length)) := fun e => e.elim (by rw [hmay1]; simp) (fun e => by rw [hhas] at e; cases e.1)
          refine WL.p rfl rfl rfl (congrArg some h38) ?_
          refine WL.p rfl rfl rfl (congrArg some h38) ?_
          refine WL.p rfl rfl rfl (congrArg some h38) ?_
          refine WL.vg rfl (congrArg some h35) rfl rfl (X.pickF rfl h38 rfl) ?_
          refine WL.va rfl rfl rfl (X.pickF rfl h35 rfl) ?_
          refine WL.nil ?_
          refine thn_n ?_
          exact ⟨(by first | exact congrArg Value.bool (decide_eq_true hbad).symm | exact congrArg Value.bool (decide_eq_false hgo).symm | exact congrArg Value.bool (decide_eq_decide.2 ⟨fun h => .inr ⟨hhas, by omega⟩, fun h => h.elim (fun e => by rw [hmay1] at e; cases e) (fun e => by have := e.2; omega)⟩)), (by repeat (first | exact (Agree.refl _ F32) | refine Agree.put ?_ rfl | refine Agree.sub hACr2 rfl ?_ | refine Agree.named hF33 ?_ | refine Agree.named hF19 ?_)), rfl⟩
    · rintro fCr3 wCr3 ⟨e51_Cr3, hACr3, rfl⟩
      refine WF.cond e51_Cr3 (fun h0_41 => ?_) (fun h0_41 => ?_)
      · have gh0_41 := h0_41
        have hbad := of_decide_eq_true gh0_41
        refine WF.seq ?_
        refine WF.region ?_
        refine WL.va rfl rfl rfl (X.move ((hACr3.eq 0).trans ((congrFun hF33 0).trans ((hACr2.eq 0).trans (congrFun hF19 0))))) ?_
        have szq := World.grownBy.size (Ext.trans (Ext.trans hx3 hx8) (Ext.store hx12 hx16 (by omega)))
        refine WL.c rfl rfl rfl (X.call Try.call33 (evl_cons rfl evl_nil)) (copyVotes_ok _ _ _ (Row.ext hv (Ext.trans (Ext.trans hx3 hx8) (Ext.store hx12 hx16 (by omega)))) (by omega)) ?_
        rintro v44 w43 ⟨oc, hx45⟩
        have := World.grownBy.size hx45
        refine WL.va rfl rfl rfl (X.assign rfl) ?_
        refine WL.va rfl rfl rfl (X.assign rfl) ?_
        refine WL.va rfl rfl rfl (X.assignB rfl) ?_
        refine WL.nil ?_
        refine thn_n ?_
        refine WF.ret ?_
        refine thn_r ?_
        refine fin_r ?_
        rw [takeA_none hf hbad]; exact ⟨⟨_, _, rfl, own_mono oc szq, OwnM.nil _ _ _⟩, (Ext.trans (Ext.trans (Ext.trans hx3 hx8) (Ext.store hx12 hx16 (by omega))) hx45)⟩
      · have gh0_41 := h0_41
        have hgo := of_decide_eq_false gh0_41
        refine WF.skip ?_
        refine thn_n ?_
        refine WF.seq ?_
        refine WF.region ?_
        refine WL.va rfl rfl rfl (X.loadOA hO9 (Ext.refl _) ((hACr3.eq 9).trans ((congrFun hF33 9).trans ((hACr2.eq 9).trans (congrFun hF19 9)))) rfl Try.isAgg37 Try.sizeOf37) ?_
        refine WL.op rfl (OW.allocO (cs := [i64 0, i64 0, i64 0, i64 0, i64 0]) Try.zeroValue37 rfl ?_ (by decide))
        intro g12 w47 heg12 hlg12 hO12 hx49
        have := World.grownBy.size hx49
        refine WL.op rfl (OW.storeOA hO12 rfl rfl rfl (Acc.c_one _) Try.sizeOf37 ?_)
        intro w51 hO12 hx53
        have := World.grownBy.size hx53
        replace hO5 := (hO5.ext hx49).keptO hx53 (by omega)
        replace hO9 := (hO9.ext hx49).keptO hx53 (by omega)
        replace hO12 : Blk _ _ _ was.c := hO12
        refine WL.nil ?_
        refine thn_n ?_
        refine WF.seq ?_
        refine WF.region ?_
        refine WL.va rfl rfl rfl (X.moveI ((hACr3.eq 1).trans ((congrFun hF33 1).trans ((hACr2.eq 1).trans (congrFun hF19 1))))) ?_
        refine WL.va rfl rfl rfl (X.fieldAddrO (off := 1) ((hACr3.eq 5).trans ((congrFun hF33 5).trans ((hACr2.eq 5).trans (congrFun hF19 5)))) Try.underlying26 rfl rfl Try.sizeOf3) ?_
        refine WL.va rfl rfl rfl (X.loadO hO5 (Ext.refl _) rfl rfl Try.isAgg3) ?_
        refine WL.va rfl rfl rfl (X.fieldAddrO (off := 9) ((hACr3.eq 5).trans ((congrFun hF33 5).trans ((hACr2.eq 5).trans (congrFun hF19 5)))) Try.underlying26 rfl rfl Try.sizeOf3) ?_
        refine WL.va rfl rfl rfl (X.loadO hO5 (Ext.refl _) rfl rfl Try.isAgg3) ?_
        refine WL.va rfl rfl rfl (X.fieldAddrO (off := 10) ((hACr3.eq 5).trans ((congrFun hF33 5).trans ((hACr2.eq 5).trans (congrFun hF19 5)))) Try.underlying26 rfl rfl Try.sizeOf3) ?_
        refine WL.va rfl rfl rfl (X.loadO hO5 (Ext.refl _) rfl rfl Try.isAgg3) ?_
        refine WL.va rfl rfl rfl (X.fieldAddrO (off := 11) ((hACr3.eq 5).trans ((congrFun hF33 5).trans ((hACr2.eq 5).trans (congrFun hF19 5)))) Try.underlying26 rfl rfl Try.sizeOf3) ?_
        refine WL.va rfl rfl rfl (X.loadO hO5 (Ext.refl _) rfl rfl Try.isAgg3) ?_
        refine WL.va rfl rfl rfl (X.buildL (cs := (Msg.bare (out0 id m))) (evp_cons rfl (evp_cons rfl (evp_cons rfl (evp_cons rfl (evp_cons rfl evp_nil))))) Try.type26 Try.underlying26 rfl rfl ⟨rfl, rfl, rfl, rfl, rfl, trivial⟩ rfl) ?_
        refine WL.op rfl (OW.allocO (cs := [i64 0, i64 0, i64 0, i64 0, i64 0, i64 0, i64 0, i64 0, i64 0, i64 0, i64 0, i64 0, i64 0, i64 0, .bool false, .slice none 0 0, .slice none 0 0]) Try.zeroValue26 rfl ?_ (by decide))
        intro g13 w55 heg13 hlg13 hO13 hx57
        have := World.grownBy.size hx57
        refine WL.op rfl (OW.storeOA hO13 rfl rfl rfl (Msg.bare_one _) Try.sizeOf26 ?_)
        intro w59 hO13 hx61
        have := World.grownBy.size hx61
        replace hO5 := (hO5.ext hx57).keptO hx61 (by omega)
        replace hO9 := (hO9.ext hx57).keptO hx61 (by omega)
        replace hO12 := (hO12.ext hx57).keptO hx61 (by omega)
        replace hO13 : Blk _ _ _ (Msg.bare (out0 id m)) := hO13
        refine WL.nil ?_
        refine thn_n ?_
        refine WF.named (fun F63 hF64 => ?_)
        refine WF.cut (fun f' w' => Agree [0, 1, 2, 5, 6, 7, 8, 9, 10, 11, 12, 13, 14, 15, 16, 17, 18, 19, 20, 21, 22, 51, 54, 55, 56, 57, 58, 59, 60, 61, 62, 63, 64] f' F63 ∧ Ext w w' ∧ Blk w' g9 37 (stepA was id m).1.c ∧ Blk w' g12 37 was.c ∧ Blk w' g13 26 (Msg.bare (stepA was id m).2) ∧ g9 < w'.heap.size ∧ g12 < w'.heap.size ∧ g13 < w'.heap.size) ?_ ?_
        · refine WF.seq ?_
          refine WF.region ?_
          refine WL.va rfl rfl rfl (X.fieldAddrO (off := 0) ((congrFun hF64 5).trans ((hACr3.eq 5).trans ((congrFun hF33 5).trans ((hACr2.eq 5).trans (congrFun hF19 5))))) Try.underlying26 rfl rfl Try.sizeOf3) ?_
          refine WL.va rfl rfl rfl (X.loadO hO5 (Ext.refl _) rfl rfl Try.isAgg3) ?_
          refine WL.va rfl rfl rfl (X.eql rfl rfl) ?_
          refine WL.nil ?_
          refine thn_n ?_
          refine WF.cond rfl (fun h1_65 => ?_) (fun h1_65 => ?_)
          · have gh1_65 := (of_decide_eq_true h1_65)
            have hk8 := gh1_65
            refine WF.seq ?_
            refine WF.region ?_
            refine WL.va rfl rfl rfl (X.fieldAddrO (off := 0) (congrFun hF64 13) Try.underlying26 rfl rfl Try.sizeOf3) ?_
            refine WL.op rfl (OW.storeO hO13 (Nat.le_of_ble_eq_true rfl) rfl rfl rfl Try.sizeOf3 ?_)
            intro w67 hO13 hx69
            have := World.grownBy.size hx69
            replace hO5 := hO5.keptO hx69 (by omega)
            replace hO9 := hO9.keptO hx69 (by omega)
            replace hO12 := hO12.keptO hx69 (by omega)
            replace hO13 : Blk _ _ _ (Msg.bare { out0 id m with Kind := 9 }) := hO13
            refine WL.nil ?_
            refine thn_n ?_
            refine WF.seq ?_
            refine WF.region ?_
            refine WL.va rfl rfl rfl (X.fieldAddrO (off := 11) ((congrFun hF64 5).trans ((hACr3.eq 5).trans ((congrFun hF33 5).trans ((hACr2.eq 5).trans (congrFun hF19 5))))) Try.underlying26 rfl rfl Try.sizeOf3) ?_
            refine WL.va rfl rfl rfl (X.loadO hO5 (Ext.refl _) rfl rfl Try.isAgg3) ?_
            refine WL.va rfl rfl rfl (X.fieldAddrO (off := 2) ((congrFun hF64 9).trans ((hACr3.eq 9).trans ((congrFun hF33 9).trans ((hACr2.eq 9).trans (congrFun hF19 9))))) Try.underlying37 rfl rfl Try.sizeOf3) ?_
            refine WL.va rfl rfl rfl (X.loadO hO9 (Ext.refl _) rfl rfl Try.isAgg3) ?_
            refine WL.va rfl rfl rfl (X.gtr rfl rfl) ?_
            refine WL.nil ?_
            refine thn_n ?_
            refine WF.cond rfl (fun h2_71 => ?_) (fun h2_71 => ?_)
            · have gh2_71 := (of_decide_eq_true h2_71)
              have hsA : stepA was id m = ({ was with Promised := m.Ballot }, { out0 id m with Kind := 9, Ok := true, Index := was.Ballot, Value := was.Value }) := by unfold stepA; rw [if_pos hk8]; exact if_pos gh2_71
              refine WF.seq ?_
              refine WF.region ?_
              refine WL.va rfl rfl rfl (X.fieldAddrO (off := 14) (congrFun hF64 13) Try.underlying26 rfl rfl Try.sizeOf4) ?_
              refine WL.op rfl (OW.storeO hO13 (Nat.le_of_ble_eq_true rfl) rfl rfl rfl Try.sizeOf4 ?_)
              intro w73 hO13 hx75
              have := World.grownBy.size hx75
              replace hO5 := hO5.keptO hx75 (by omega)
              replace hO9 := hO9.keptO hx75 (by omega)
              replace hO12 := hO12.keptO hx75 (by omega)
              replace hO13 : Blk _ _ _ (Msg.bare { out0 id m with Kind := 9, Ok := true }) := hO13
              refine WL.nil ?_
              refine thn_n ?_
              refine WF.seq ?_
              refine WF.region ?_
              refine WL.va rfl rfl rfl (X.fieldAddrO (off := 3) ((congrFun hF64 9).trans ((hACr3.eq 9).trans ((congrFun hF33 9).trans ((hACr2.eq 9).trans (congrFun hF19 9))))) Try.underlying37 rfl rfl Try.sizeOf3) ?_
              refine WL.va rfl rfl rfl (X.loadO hO9 (Ext.refl _) rfl rfl Try.isAgg3) ?_
              refine WL.va rfl rfl rfl (X.fieldAddrO (off := 5) (congrFun hF64 13) Try.underlying26 rfl rfl Try.sizeOf3) ?_
              refine WL.op rfl (OW.storeO hO13 (Nat.le_of_ble_eq_true rfl) rfl rfl rfl Try.sizeOf3 ?_)
              intro w77 hO13 hx79
              have := World.grownBy.size hx79
              replace hO5 := hO5.keptO hx79 (by omega)
              replace hO9 := hO9.keptO hx79 (by omega)
              replace hO12 := hO12.keptO hx79 (by omega)
              replace hO13 : Blk _ _ _ (Msg.bare { out0 id m with Kind := 9, Ok := true, Index := was.Ballot }) := hO13
              refine WL.nil ?_
              refine thn_n ?_
              refine WF.seq ?_
              refine WF.region ?_
              refine WL.va rfl rfl rfl (X.fieldAddrO (off := 4) ((congrFun hF64 9).trans ((hACr3.eq 9).trans ((congrFun hF33 9).trans ((hACr2.eq 9).trans (congrFun hF19 9))))) Try.underlying37 rfl rfl Try.sizeOf3) ?_
              refine WL.va rfl rfl rfl (X.loadO hO9 (Ext.refl _) rfl rfl Try.isAgg3) ?_
              refine WL.va rfl rfl rfl (X.fieldAddrO (off := 12) (congrFun hF64 13) Try.underlying26 rfl rfl Try.sizeOf3) ?_
              refine WL.op rfl (OW.storeO hO13 (Nat.le_of_ble_eq_true rfl) rfl rfl rfl Try.sizeOf3 ?_)
              intro w81 hO13 hx83
              have := World.grownBy.size hx83
              replace hO5 := hO5.keptO hx83 (by omega)
              replace hO9 := hO9.keptO hx83 (by omega)
              replace hO12 := hO12.keptO hx83 (by omega)
              replace hO13 : Blk _ _ _ (Msg.bare { out0 id m with Kind := 9, Ok := true, Index := was.Ballot, Value := was.Value }) := hO13
              refine WL.nil ?_
              refine thn_n ?_
              refine WF.region ?_
              refine WL.va rfl rfl rfl (X.fieldAddrO (off := 11) ((congrFun hF64 5).trans ((hACr3.eq 5).trans ((congrFun hF33 5).trans ((hACr2.eq 5).trans (congrFun hF19 5))))) Try.underlying26 rfl rfl Try.sizeOf3) ?_
              refine WL.va rfl rfl rfl (X.loadO hO5 (Ext.refl _) rfl rfl Try.isAgg3) ?_
              refine WL.va rfl rfl rfl (X.fieldAddrO (off := 2) ((congrFun hF64 9).trans ((hACr3.eq 9).trans ((congrFun hF33 9).trans ((hACr2.eq 9).trans (congrFun hF19 9))))) Try.underlying37 rfl rfl Try.sizeOf3) ?_
              refine WL.op rfl (OW.storeO hO9 (Nat.le_of_ble_eq_true rfl) rfl rfl rfl Try.sizeOf3 ?_)
              intro w85 hO9 hx87
              have := World.grownBy.size hx87
              replace hO5 := hO5.keptO hx87 (by omega)
              replace hO12 := hO12.keptO hx87 (by omega)
              replace hO13 := hO13.keptO hx87 (by omega)
              replace hO9 : Blk _ _ _ (Acc.c { was with Promised := m.Ballot }) := hO9
              refine WL.nil ?_
              refine thn_n ?_
              exact ⟨(by repeat (first | exact (Agree.refl _ F63) | refine Agree.put ?_ rfl | refine Agree.sub hACr3 rfl ?_ | refine Agree.sub hACr2 rfl ?_ | refine Agree.named hF64 ?_ | refine Agree.named hF33 ?_ | refine Agree.named hF19 ?_)), (Ext.trans (Ext.trans hx3 hx8) (Ext.store (Ext.trans (Ext.trans (Ext.store hx12 hx16 (by omega)) (Ext.store hx49 hx53 (by omega))) (Ext.store (Ext.store (Ext.store (Ext.store (Ext.store hx57 hx61 (by omega)) hx69 (by omega)) hx75 (by omega)) hx79 (by omega)) hx83 (by omega))) hx87 (by omega))), ⟨(by rw [hsA]; exact hO9), hO12, (by rw [hsA]; exact hO13), (by omega), (by omega), (by omega)⟩⟩
            · have gh2_71 := (of_decide_eq_false h2_71)
              have hsA : stepA was id m = (was, { out0 id m with Kind := 9, Ok := false, Index := was.Promised }) := by unfold stepA; rw [if_pos hk8]; exact if_neg gh2_71
              refine WF.region ?_
              refine WL.va rfl rfl rfl (X.fieldAddrO (off := 2) ((congrFun hF64 9).trans ((hACr3.eq 9).trans ((congrFun hF33 9).trans ((hACr2.eq 9).trans (congrFun hF19 9))))) Try.underlying37 rfl rfl Try.sizeOf3) ?_
              refine WL.va rfl rfl rfl (X.loadO hO9 (Ext.refl _) rfl rfl Try.isAgg3) ?_
              refine WL.va rfl rfl rfl (X.fieldAddrO (off := 5) (congrFun hF64 13) Try.underlying26 rfl rfl Try.sizeOf3) ?_
              refine WL.op rfl (OW.storeO hO13 (Nat.le_of_ble_eq_true rfl) rfl rfl rfl Try.sizeOf3 ?_)
              intro w89 hO13 hx91
              have := World.grownBy.size hx91
              replace hO5 := hO5.keptO hx91 (by omega)
              replace hO9 := hO9.keptO hx91 (by omega)
              replace hO12 := hO12.keptO hx91 (by omega)
              replace hO13 : Blk _ _ _ (Msg.bare { out0 id m with Kind := 9, Index := was.Promised }) := hO13
              refine WL.nil ?_
              refine thn_n ?_
              exact ⟨(by repeat (first | exact (Agree.refl _ F63) | refine Agree.put ?_ rfl | refine Agree.sub hACr3 rfl ?_ | refine Agree.sub hACr2 rfl ?_ | refine Agree.named hF64 ?_ | refine Agree.named hF33 ?_ | refine Agree.named hF19 ?_)), (Ext.trans (Ext.trans (Ext.trans (Ext.trans hx3 hx8) (Ext.store hx12 hx16 (by omega))) (Ext.store hx49 hx53 (by omega))) (Ext.store (Ext.store (Ext.store hx57 hx61 (by omega)) hx69 (by omega)) hx91 (by omega))), ⟨(by rw [hsA]; exact hO9), hO12, (by rw [hsA]; exact hO13), (by omega), (by omega), (by omega)⟩⟩
          · have gh1_65 := (of_decide_eq_false h1_65)
            have hk8 := gh1_65
            refine WF.seq ?_
            refine WF.region ?_
            refine WL.va rfl rfl rfl (X.fieldAddrO (off := 0) (congrFun hF64 13) Try.underlying26 rfl rfl Try.sizeOf3) ?_
            refine WL.op rfl (OW.storeO hO13 (Nat.le_of_ble_eq_true rfl) rfl rfl rfl Try.sizeOf3 ?_)
            intro w93 hO13 hx95
            have := World.grownBy.size hx95
            replace hO5 := hO5.keptO hx95 (by omega)
            replace hO9 := hO9.keptO hx95 (by omega)
            replace hO12 := hO12.keptO hx95 (by omega)
            replace hO13 : Blk _ _ _ (Msg.bare { out0 id m with Kind := 11 }) := hO13
            refine WL.nil ?_
            refine thn_n ?_
            refine WF.seq ?_
            refine WF.seq ?_
            refine WF.region ?_
            refine WL.va rfl rfl rfl (X.fieldAddrO (off := 11) ((congrFun hF64 5).trans ((hACr3.eq 5).trans ((congrFun hF33 5).trans ((hACr2.eq 5).trans (congrFun hF19 5))))) Try.underlying26 rfl rfl Try.sizeOf3) ?_
            refine WL.va rfl rfl rfl (X.loadO hO5 (Ext.refl _) rfl rfl Try.isAgg3) ?_
            refine WL.va rfl rfl rfl (X.eql rfl rfl) ?_
            refine WL.nil ?_
            refine thn_n ?_
            refine WF.cond rfl (fun h3_97 => ?_) (fun h3_97 => ?_)
            · have gh3_97 := (of_decide_eq_true h3_97)
              obtain ⟨t, ht⟩ : ∃ t, t = if m.Ballot = 0 then client m.Txn else m.From := ⟨_, rfl⟩
              have ht2 : t = client m.Txn := by rw [ht, if_pos gh3_97]
              refine WF.region ?_
              refine WL.va rfl rfl rfl (X.fieldAddrO (off := 9) ((congrFun hF64 5).trans ((hACr3.eq 5).trans ((congrFun hF33 5).trans ((hACr2.eq 5).trans (congrFun hF19 5))))) Try.underlying26 rfl rfl Try.sizeOf3) ?_
              refine WL.va rfl rfl rfl (X.loadO hO5 (Ext.refl _) rfl rfl Try.isAgg3) ?_
              refine WL.va rfl rfl rfl (X.shr rfl rfl (by omega) (show _ = m.Txn.fdiv 1048576 from rfl)) ?_
              refine WL.va rfl rfl rfl (X.add rfl rfl (w64 (by omega))) ?_
              refine WL.va rfl rfl rfl (X.fieldAddrO (off := 2) (congrFun hF64 13) Try.underlying26 rfl rfl Try.sizeOf3) ?_
              refine WL.op rfl (OW.storeO hO13 (Nat.le_of_ble_eq_true rfl) rfl rfl rfl Try.sizeOf3 ?_)
              intro w99 hO13 hx101
              have := World.grownBy.size hx101
              replace hO5 := hO5.keptO hx101 (by omega)
              replace hO9 := hO9.keptO hx101 (by omega)
              replace hO12 := hO12.keptO hx101 (by omega)
              replace hO13 : Blk _ _ _ (Msg.bare { out0 id m with Kind := 11, To := client m.Txn }) := hO13
              replace hO13 := hO13.cast (show _ = Msg.bare { out0 id m with Kind := 11, To := t } from by rw [ht2])
              refine WL.nil ?_
              refine thn_n ?_
              refine WF.seq ?_
              refine WF.region ?_
              refine WL.va rfl rfl rfl (X.fieldAddrO (off := 11) ((congrFun hF64 5).trans ((hACr3.eq 5).trans ((congrFun hF33 5).trans ((hACr2.eq 5).trans (congrFun hF19 5))))) Try.underlying26 rfl rfl Try.sizeOf3) ?_
              refine WL.va rfl rfl rfl (X.loadO hO5 (Ext.refl _) rfl rfl Try.isAgg3) ?_
              refine WL.va rfl rfl rfl (X.fieldAddrO (off := 2) ((congrFun hF64 9).trans ((hACr3.eq 9).trans ((congrFun hF33 9).trans ((hACr2.eq 9).trans (congrFun hF19 9))))) Try.underlying37 rfl rfl Try.sizeOf3) ?_
              refine WL.va rfl rfl rfl (X.loadO hO9 (Ext.refl _) rfl rfl Try.isAgg3) ?_
              refine WL.va rfl rfl rfl (X.geq rfl rfl) ?_
              refine WL.nil ?_
              refine thn_n ?_
              refine WF.cond rfl (fun h4_103 => ?_) (fun h4_103 => ?_)
              · have gh4_103 := (of_decide_eq_true h4_103)
                have hsA : stepA was id m = ({ was with Promised := m.Ballot, Ballot := m.Ballot, Value := m.Value }, { out0 id m with Kind := 11, Ok := true, To := t, Value := m.Value }) := by unfold stepA stepO; rw [if_neg hk8, if_pos gh4_103, ht]; split <;> rfl
                refine WF.seq ?_
                refine WF.region ?_
                refine WL.va rfl rfl rfl (X.fieldAddrO (off := 14) (congrFun hF64 13) Try.underlying26 rfl rfl Try.sizeOf4) ?_
                refine WL.op rfl (OW.storeO hO13 (Nat.le_of_ble_eq_true rfl) rfl rfl rfl Try.sizeOf4 ?_)
                intro w105 hO13 hx107
                have := World.grownBy.size hx107
                replace hO5 := hO5.keptO hx107 (by omega)
                replace hO9 := hO9.keptO hx107 (by omega)
                replace hO12 := hO12.keptO hx107 (by omega)
                replace hO13 : Blk _ _ _ (Msg.bare { out0 id m with Kind := 11, Ok := true, To := t }) := hO13
                refine WL.nil ?_
                refine thn_n ?_
                refine WF.seq ?_
                refine WF.region ?_
                refine WL.va rfl rfl rfl (X.fieldAddrO (off := 12) ((congrFun hF64 5).trans ((hACr3.eq 5).trans ((congrFun hF33 5).trans ((hACr2.eq 5).trans (congrFun hF19 5))))) Try.underlying26 rfl rfl Try.sizeOf3) ?_
                refine WL.va rfl rfl rfl (X.loadO hO5 (Ext.refl _) rfl rfl Try.isAgg3) ?_
                refine WL.va rfl rfl rfl (X.fieldAddrO (off := 12) (congrFun hF64 13) Try.underlying26 rfl rfl Try.sizeOf3) ?_
                refine WL.op rfl (OW.storeO hO13 (Nat.le_of_ble_eq_true rfl) rfl rfl rfl Try.sizeOf3 ?_)
                intro w109 hO13 hx111
                have := World.grownBy.size hx111
                replace hO5 := hO5.keptO hx111 (by omega)
                replace hO9 := hO9.keptO hx111 (by omega)
                replace hO12 := hO12.keptO hx111 (by omega)
                replace hO13 : Blk _ _ _ (Msg.bare { out0 id m with Kind := 11, Ok := true, To := t, Value := m.Value }) := hO13
                refine WL.nil ?_
                refine thn_n ?_
                refine WF.seq ?_
                refine WF.region ?_
                refine WL.va rfl rfl rfl (X.fieldAddrO (off := 11) ((congrFun hF64 5).trans ((hACr3.eq 5).trans ((congrFun hF33 5).trans ((hACr2.eq 5).trans (congrFun hF19 5))))) Try.underlying26 rfl rfl Try.sizeOf3) ?_
                refine WL.va rfl rfl rfl (X.loadO hO5 (Ext.refl _) rfl rfl Try.isAgg3) ?_
                refine WL.va rfl rfl rfl (X.fieldAddrO (off := 2) ((congrFun hF64 9).trans ((hACr3.eq 9).trans ((congrFun hF33 9).trans ((hACr2.eq 9).trans (congrFun hF19 9))))) Try.underlying37 rfl rfl Try.sizeOf3) ?_
                refine WL.op rfl (OW.storeO hO9 (Nat.le_of_ble_eq_true rfl) rfl rfl rfl Try.sizeOf3 ?_)
                intro w113 hO9 hx115
                have := World.grownBy.size hx115
                replace hO5 := hO5.keptO hx115 (by omega)
                replace hO12 := hO12.keptO hx115 (by omega)
                replace hO13 := hO13.keptO hx115 (by omega)
                replace hO9 : Blk _ _ _ (Acc.c { was with Promised := m.Ballot }) := hO9
                refine WL.nil ?_
                refine thn_n ?_
                refine WF.seq ?_
                refine WF.region ?_
                refine WL.va rfl rfl rfl (X.fieldAddrO (off := 11) ((congrFun hF64 5).trans ((hACr3.eq 5).trans ((congrFun hF33 5).trans ((hACr2.eq 5).trans (congrFun hF19 5))))) Try.underlying26 rfl rfl Try.sizeOf3) ?_
                refine WL.va rfl rfl rfl (X.loadO hO5 (Ext.refl _) rfl rfl Try.isAgg3) ?_
                refine WL.va rfl rfl rfl (X.fieldAddrO (off := 3) ((congrFun hF64 9).trans ((hACr3.eq 9).trans ((congrFun hF33 9).trans ((hACr2.eq 9).trans (congrFun hF19 9))))) Try.underlying37 rfl rfl Try.sizeOf3) ?_
                refine WL.op rfl (OW.storeO hO9 (Nat.le_of_ble_eq_true rfl) rfl rfl rfl Try.sizeOf3 ?_)
                intro w117 hO9 hx119
                have := World.grownBy.size hx119
                replace hO5 := hO5.keptO hx119 (by omega)
                replace hO12 := hO12.keptO hx119 (by omega)
                replace hO13 := hO13.keptO hx119 (by omega)
                replace hO9 : Blk _ _ _ (Acc.c { was with Promised := m.Ballot, Ballot := m.Ballot }) := hO9
                refine WL.nil ?_
                refine thn_n ?_
                refine WF.region ?_
                refine WL.va rfl rfl rfl (X.fieldAddrO (off := 12) ((congrFun hF64 5).trans ((hACr3.eq 5).trans ((congrFun hF33 5).trans ((hACr2.eq 5).trans (congrFun hF19 5))))) Try.underlying26 rfl rfl Try.sizeOf3) ?_
                refine WL.va rfl rfl rfl (X.loadO hO5 (Ext.refl _) rfl rfl Try.isAgg3) ?_
                refine WL.va rfl rfl rfl (X.fieldAddrO (off := 4) ((congrFun hF64 9).trans ((hACr3.eq 9).trans ((congrFun hF33 9).trans ((hACr2.eq 9).trans (congrFun hF19 9))))) Try.underlying37 rfl rfl Try.sizeOf3) ?_
                refine WL.op rfl (OW.storeO hO9 (Nat.le_of_ble_eq_true rfl) rfl rfl rfl Try.sizeOf3 ?_)
                intro w121 hO9 hx123
                have := World.grownBy.size hx123
                replace hO5 := hO5.keptO hx123 (by omega)
                replace hO12 := hO12.keptO hx123 (by omega)
                replace hO13 := hO13.keptO hx123 (by omega)
                replace hO9 : Blk _ _ _ (Acc.c { was with Promised := m.Ballot, Ballot := m.Ballot, Value := m.Value }) := hO9
                refine WL.nil ?_
                refine thn_n ?_
                exact ⟨(by repeat (first | exact (Agree.refl _ F63) | refine Agree.put ?_ rfl | refine Agree.sub hACr3 rfl ?_ | refine Agree.sub hACr2 rfl ?_ | refine Agree.named hF64 ?_ | refine Agree.named hF33 ?_ | refine Agree.named hF19 ?_)), (Ext.trans (Ext.trans hx3 hx8) (Ext.store (Ext.store (Ext.store (Ext.trans (Ext.trans (Ext.store hx12 hx16 (by omega)) (Ext.store hx49 hx53 (by omega))) (Ext.store (Ext.store (Ext.store (Ext.store (Ext.store hx57 hx61 (by omega)) hx95 (by omega)) hx101 (by omega)) hx107 (by omega)) hx111 (by omega))) hx115 (by omega)) hx119 (by omega)) hx123 (by omega))), ⟨(by rw [hsA]; exact hO9), hO12, (by rw [hsA]; exact hO13), (by omega), (by omega), (by omega)⟩⟩
              · have gh4_103 := (of_decide_eq_false h4_103)
                have hsA : stepA was id m = (was, { out0 id m with Kind := 11, Ok := false, To := t, Index := was.Promised }) := by unfold stepA stepO; rw [if_neg hk8, if_neg (by omega), ht]; split <;> rfl
                refine WF.region ?_
                refine WL.va rfl rfl rfl (X.fieldAddrO (off := 2) ((congrFun hF64 9).trans ((hACr3.eq 9).trans ((congrFun hF33 9).trans ((hACr2.eq 9).trans (congrFun hF19 9))))) Try.underlying37 rfl rfl Try.sizeOf3) ?_
                refine WL.va rfl rfl rfl (X.loadO hO9 (Ext.refl _) rfl rfl Try.isAgg3) ?_
                refine WL.va rfl rfl rfl (X.fieldAddrO (off := 5) (congrFun hF64 13) Try.underlying26 rfl rfl Try.sizeOf3) ?_
                refine WL.op rfl (OW.storeO hO13 (Nat.le_of_ble_eq_true rfl) rfl rfl rfl Try.sizeOf3 ?_)
                intro w125 hO13 hx127
                have := World.grownBy.size hx127
                replace hO5 := hO5.keptO hx127 (by omega)
                replace hO9 := hO9.keptO hx127 (by omega)
                replace hO12 := hO12.keptO hx127 (by omega)
                replace hO13 : Blk _ _ _ (Msg.bare { out0 id m with Kind := 11, To := t, Index := was.Promised }) := hO13
                refine WL.nil ?_
                refine thn_n ?_
                exact ⟨(by repeat (first | exact (Agree.refl _ F63) | refine Agree.put ?_ rfl | refine Agree.sub hACr3 rfl ?_ | refine Agree.sub hACr2 rfl ?_ | refine Agree.named hF64 ?_ | refine Agree.named hF33 ?_ | refine Agree.named hF19 ?_)), (Ext.trans (Ext.trans (Ext.trans (Ext.trans hx3 hx8) (Ext.store hx12 hx16 (by omega))) (Ext.store hx49 hx53 (by omega))) (Ext.store (Ext.store (Ext.store (Ext.store hx57 hx61 (by omega)) hx95 (by omega)) hx101 (by omega)) hx127 (by omega))), ⟨(by rw [hsA]; exact hO9), hO12, (by rw [hsA]; exact hO13), (by omega), (by omega), (by omega)⟩⟩
            · have gh3_97 := (of_decide_eq_false h3_97)
              obtain ⟨t, ht⟩ : ∃ t, t = if m.Ballot = 0 then client m.Txn else m.From := ⟨_, rfl⟩
              have ht2 : t = m.From := by rw [ht, if_neg gh3_97]
              replace hO13 := hO13.cast (show _ = Msg.bare { out0 id m with Kind := 11, To := t } from by rw [ht2])
              refine WF.skip ?_
              refine thn_n ?_
              refine WF.seq ?_
              refine WF.region ?_
              refine WL.va rfl rfl rfl (X.fieldAddrO (off := 11) ((congrFun hF64 5).trans ((hACr3.eq 5).trans ((congrFun hF33 5).trans ((hACr2.eq 5).trans (congrFun hF19 5))))) Try.underlying26 rfl rfl Try.sizeOf3) ?_
              refine WL.va rfl rfl rfl (X.loadO hO5 (Ext.refl _) rfl rfl Try.isAgg3) ?_
              refine WL.va rfl rfl rfl (X.fieldAddrO (off := 2) ((congrFun hF64 9).trans ((hACr3.eq 9).trans ((congrFun hF33 9).trans ((hACr2.eq 9).trans (congrFun hF19 9))))) Try.underlying37 rfl rfl Try.sizeOf3) ?_
              refine WL.va rfl rfl rfl (X.loadO hO9 (Ext.refl _) rfl rfl Try.isAgg3) ?_
              refine WL.va rfl rfl rfl (X.geq rfl rfl) ?_
              refine WL.nil ?_
              refine thn_n ?_
              refine WF.cond rfl (fun h4_129 => ?_) (fun h4_129 => ?_)
              · have gh4_129 := (of_decide_eq_true h4_129)
                have hsA : stepA was id m = ({ was with Promised := m.Ballot, Ballot := m.Ballot, Value := m.Value }, { out0 id m with Kind := 11, Ok := true, To := t, Value := m.Value }) := by unfold stepA stepO; rw [if_neg hk8, if_pos gh4_129, ht]; split <;> rfl
                refine WF.seq ?_
                refine WF.region ?_
                refine WL.va rfl rfl rfl (X.fieldAddrO (off := 14) (congrFun hF64 13) Try.underlying26 rfl rfl Try.sizeOf4) ?_
                refine WL.op rfl (OW.storeO hO13 (Nat.le_of_ble_eq_true rfl) rfl rfl rfl Try.sizeOf4 ?_)
                intro w131 hO13 hx133
                have := World.grownBy.size hx133
                replace hO5 := hO5.keptO hx133 (by omega)
                replace hO9 := hO9.keptO hx133 (by omega)
                replace hO12 := hO12.keptO hx133 (by omega)
                replace hO13 : Blk _ _ _ (Msg.bare { out0 id m with Kind := 11, Ok := true, To := t }) := hO13
                refine WL.nil ?_
                refine thn_n ?_
                refine WF.seq ?_
                refine WF.region ?_
                refine WL.va rfl rfl rfl (X.fieldAddrO (off := 12) ((congrFun hF64 5).trans ((hACr3.eq 5).trans ((congrFun hF33 5).trans ((hACr2.eq 5).trans (congrFun hF19 5))))) Try.underlying26 rfl rfl Try.sizeOf3) ?_
                refine WL.va rfl rfl rfl (X.loadO hO5 (Ext.refl _) rfl rfl Try.isAgg3) ?_
                refine WL.va rfl rfl rfl (X.fieldAddrO (off := 12) (congrFun hF64 13) Try.underlying26 rfl rfl Try.sizeOf3) ?_
                refine WL.op rfl (OW.storeO hO13 (Nat.le_of_ble_eq_true rfl) rfl rfl rfl Try.sizeOf3 ?_)
                intro w135 hO13 hx137
                have := World.grownBy.size hx137
                replace hO5 := hO5.keptO hx137 (by omega)
                replace hO9 := hO9.keptO hx137 (by omega)
                replace hO12 := hO12.keptO hx137 (by omega)
                replace hO13 : Blk _ _ _ (Msg.bare { out0 id m with Kind := 11, Ok := true, To := t, Value := m.Value }) := hO13
                refine WL.nil ?_
                refine thn_n ?_
                refine WF.seq ?_
                refine WF.region ?_
                refine WL.va rfl rfl rfl (X.fieldAddrO (off := 11) ((congrFun hF64 5).trans ((hACr3.eq 5).trans ((congrFun hF33 5).trans ((hACr2.eq 5).trans (congrFun hF19 5))))) Try.underlying26 rfl rfl Try.sizeOf3) ?_
                refine WL.va rfl rfl rfl (X.loadO hO5 (Ext.refl _) rfl rfl Try.isAgg3) ?_
                refine WL.va rfl rfl rfl (X.fieldAddrO (off := 2) ((congrFun hF64 9).trans ((hACr3.eq 9).trans ((congrFun hF33 9).trans ((hACr2.eq 9).trans (congrFun hF19 9))))) Try.underlying37 rfl rfl Try.sizeOf3) ?_
                refine WL.op rfl (OW.storeO hO9 (Nat.le_of_ble_eq_true rfl) rfl rfl rfl Try.sizeOf3 ?_)
                intro w139 hO9 hx141
                have := World.grownBy.size hx141
                replace hO5 := hO5.keptO hx141 (by omega)
                replace hO12 := hO12.keptO hx141 (by omega)
                replace hO13 := hO13.keptO hx141 (by omega)
                replace hO9 : Blk _ _ _ (Acc.c { was with Promised := m.Ballot }) := hO9
                refine WL.nil ?_
                refine thn_n ?_
                refine WF.seq ?_
                refine WF.region ?_
                refine WL.va rfl rfl rfl (X.fieldAddrO (off := 11) ((congrFun hF64 5).trans ((hACr3.eq 5).trans ((congrFun hF33 5).trans ((hACr2.eq 5).trans (congrFun hF19 5))))) Try.underlying26 rfl rfl Try.sizeOf3) ?_
                refine WL.va rfl rfl rfl (X.loadO hO5 (Ext.refl _) rfl rfl Try.isAgg3) ?_
                refine WL.va rfl rfl rfl (X.fieldAddrO (off := 3) ((congrFun hF64 9).trans ((hACr3.eq 9).trans ((congrFun hF33 9).trans ((hACr2.eq 9).trans (congrFun hF19 9))))) Try.underlying37 rfl rfl Try.sizeOf3) ?_
                refine WL.op rfl (OW.storeO hO9 (Nat.le_of_ble_eq_true rfl) rfl rfl rfl Try.sizeOf3 ?_)
                intro w143 hO9 hx145
                have := World.grownBy.size hx145
                replace hO5 := hO5.keptO hx145 (by omega)
                replace hO12 := hO12.keptO hx145 (by omega)
                replace hO13 := hO13.keptO hx145 (by omega)
                replace hO9 : Blk _ _ _ (Acc.c { was with Promised := m.Ballot, Ballot := m.Ballot }) := hO9
                refine WL.nil ?_
                refine thn_n ?_
                refine WF.region ?_
                refine WL.va rfl rfl rfl (X.fieldAddrO (off := 12) ((congrFun hF64 5).trans ((hACr3.eq 5).trans ((congrFun hF33 5).trans ((hACr2.eq 5).trans (congrFun hF19 5))))) Try.underlying26 rfl rfl Try.sizeOf3) ?_
                refine WL.va rfl rfl rfl (X.loadO hO5 (Ext.refl _) rfl rfl Try.isAgg3) ?_
                refine WL.va rfl rfl rfl (X.fieldAddrO (off := 4) ((congrFun hF64 9).trans ((hACr3.eq 9).trans ((congrFun hF33 9).trans ((hACr2.eq 9).trans (congrFun hF19 9))))) Try.underlying37 rfl rfl Try.sizeOf3) ?_
                refine WL.op rfl (OW.storeO hO9 (Nat.le_of_ble_eq_true rfl) rfl rfl rfl Try.sizeOf3 ?_)
                intro w147 hO9 hx149
                have := World.grownBy.size hx149
                replace hO5 := hO5.keptO hx149 (by omega)
                replace hO12 := hO12.keptO hx149 (by omega)
                replace hO13 := hO13.keptO hx149 (by omega)
                replace hO9 : Blk _ _ _ (Acc.c { was with Promised := m.Ballot, Ballot := m.Ballot, Value := m.Value }) := hO9
                refine WL.nil ?_
                refine thn_n ?_
                exact ⟨(by repeat (first | exact (Agree.refl _ F63) | refine Agree.put ?_ rfl | refine Agree.sub hACr3 rfl ?_ | refine Agree.sub hACr2 rfl ?_ | refine Agree.named hF64 ?_ | refine Agree.named hF33 ?_ | refine Agree.named hF19 ?_)), (Ext.trans (Ext.trans hx3 hx8) (Ext.store (Ext.store (Ext.store (Ext.trans (Ext.trans (Ext.store hx12 hx16 (by omega)) (Ext.store hx49 hx53 (by omega))) (Ext.store (Ext.store (Ext.store (Ext.store hx57 hx61 (by omega)) hx95 (by omega)) hx133 (by omega)) hx137 (by omega))) hx141 (by omega)) hx145 (by omega)) hx149 (by omega))), ⟨(by rw [hsA]; exact hO9), hO12, (by rw [hsA]; exact hO13), (by omega), (by omega), (by omega)⟩⟩
              · have gh4_129 := (of_decide_eq_false h4_129)
                have hsA : stepA was id m = (was, { out0 id m with Kind := 11, Ok := false, To := t, Index := was.Promised }) := by unfold stepA stepO; rw [if_neg hk8, if_neg (by omega), ht]; split <;> rfl
                refine WF.region ?_
                refine WL.va rfl rfl rfl (X.fieldAddrO (off := 2) ((congrFun hF64 9).trans ((hACr3.eq 9).trans ((congrFun hF33 9).trans ((hACr2.eq 9).trans (congrFun hF19 9))))) Try.underlying37 rfl rfl Try.sizeOf3) ?_
                refine WL.va rfl rfl rfl (X.loadO hO9 (Ext.refl _) rfl rfl Try.isAgg3) ?_
                refine WL.va rfl rfl rfl (X.fieldAddrO (off := 5) (congrFun hF64 13) Try.underlying26 rfl rfl Try.sizeOf3) ?_
                refine WL.op rfl (OW.storeO hO13 (Nat.le_of_ble_eq_true rfl) rfl rfl rfl Try.sizeOf3 ?_)
                intro w151 hO13 hx153
                have := World.grownBy.size hx153
                replace hO5 := hO5.keptO hx153 (by omega)
                replace hO9 := hO9.keptO hx153 (by omega)
                replace hO12 := hO12.keptO hx153 (by omega)
                replace hO13 : Blk _ _ _ (Msg.bare { out0 id m with Kind := 11, To := t, Index := was.Promised }) := hO13
                refine WL.nil ?_
                refine thn_n ?_
                exact ⟨(by repeat (first | exact (Agree.refl _ F63) | refine Agree.put ?_ rfl | refine Agree.sub hACr3 rfl ?_ | refine Agree.sub hACr2 rfl ?_ | refine Agree.named hF64 ?_ | refine Agree.named hF33 ?_ | refine Agree.named hF19 ?_)), (Ext.trans (Ext.trans (Ext.trans (Ext.trans hx3 hx8) (Ext.store hx12 hx16 (by omega))) (Ext.store hx49 hx53 (by omega))) (Ext.store (Ext.store (Ext.store hx57 hx61 (by omega)) hx95 (by omega)) hx153 (by omega))), ⟨(by rw [hsA]; exact hO9), hO12, (by rw [hsA]; exact hO13), (by omega), (by omega), (by omega)⟩⟩
        · rintro fCs7 wCs7 ⟨hACs7, hwCs7, ⟨hO9, hO12, hO13, q1, q2, q3⟩⟩
          refine WF.seq ?_
          refine WF.seq ?_
          refine WF.region ?_
          refine WL.va rfl rfl rfl (X.loadOA hO9 (Ext.refl _) ((hACs7.eq 9).trans ((congrFun hF64 9).trans ((hACr3.eq 9).trans ((congrFun hF33 9).trans ((hACr2.eq 9).trans (congrFun hF19 9)))))) rfl Try.isAgg37 Try.sizeOf37) ?_
          refine WL.va rfl rfl rfl (X.loadOA hO12 (Ext.refl _) ((hACs7.eq 12).trans (congrFun hF64 12)) rfl Try.isAgg37 Try.sizeOf37) ?_
          refine WL.va rfl rfl rfl (X.eqlA (na := (stepA was id m).1.ints) (nb := was.ints) flatV fieldsV offsV rfl rfl rfl rfl (Acc.eqB _ _)) ?_
          refine WL.nil ?_
          refine thn_n ?_
          refine WF.cond rfl (fun h5_155 => ?_) (fun h5_155 => ?_)
          · have gh5_155 := h5_155
            have hT := takeA_same hf hgo (of_decide_eq_true gh5_155)
            refine WF.seq ?_
            refine WF.drawn (.q 0 (.q 2 (.b 1 3 (.q 4 (.l 3 (.q 5 (.q 6 .nil)))) (.l 1 (.q 4 (.q 5 (.q 6 .nil))))))) (fun w' => Ext wCs7 w') 7 (by kernel_rfl) (by kernel_rfl) (Ext.drew _) ?_
            have := World.grownBy.size (Ext.drew wCs7)
            refine WO.q rfl rfl rfl rfl (fun w' hE157 => (X.move ((hACs7.eq 0).trans ((congrFun hF64 0).trans ((hACr3.eq 0).trans ((congrFun hF33 0).trans ((hACr2.eq 0).trans (congrFun hF19 0)))))))) ?_
            refine WO.q rfl rfl rfl rfl (fun w' hE157 => (X.loadOA hO13 hE157 ((hACs7.eq 13).trans (congrFun hF64 13)) rfl Try.isAgg26 Try.sizeOf26)) ?_
            refine WO.b2 ?_ ?_
            · have szq := World.grownBy.size (Ext.trans hwCs7 (Ext.drew _))
              refine LO.go rfl rfl (OW.enter rfl (by decide) (X.call Try.call33 (evl_cons rfl evl_nil)) (copyVotes_ok _ _ _ (Row.ext hv (Ext.trans hwCs7 (Ext.drew _))) (by omega)) ?_)
              rintro v159 w158 ⟨oc, hx160⟩
              have := World.grownBy.size hx160
              refine ⟨(Ext.trans (Ext.drew _) hx160), ?_⟩
              refine WO.q rfl rfl rfl rfl (fun w' hE157 => (X.assign rfl)) ?_
              refine WO.l ?_
              have szE := World.grownBy.size (Ext.trans (Ext.trans hwCs7 (Ext.drew _)) hx160)
              refine LO.go rfl rfl (OW.lits (vs := [agg (Msg.bare (stepA was id m).2)]) (evp_cons rfl evp_nil) Try.underlying30 Try.sizeOf26 Try.zeroValue26 ⟨rfl, trivial⟩ rfl rfl rfl ?_ (by decide))
              intro v162 w161 ho164 hx163
              have := World.grownBy.size hx163
              have om : OwnM w161 _ 26 v162 [(stepA was id m).2] := ho164
              refine ⟨(Ext.trans (Ext.trans (Ext.drew _) hx160) hx163), ?_⟩
              refine WO.q rfl rfl rfl rfl (fun w' hE157 => (X.assign rfl)) ?_
              refine WO.q rfl rfl rfl rfl (fun w' hE157 => (X.assignB rfl)) ?_
              refine WO.nil ?_
              refine WL.nil ?_
              refine thn_n ?_
              refine WF.ret ?_
              refine thn_r ?_
              refine fin_r ?_
              rw [hT]; exact ⟨⟨_, _, rfl, own_mono (own_ext oc hx163) szq, own_mono om (by omega)⟩, (Ext.trans (Ext.trans (Ext.trans hwCs7 (Ext.drew _)) hx160) hx163)⟩
            · have szE := World.grownBy.size (Ext.trans hwCs7 (Ext.drew _))
              refine LO.go rfl rfl (OW.lits (vs := [agg (Msg.bare (stepA was id m).2)]) (evp_cons rfl evp_nil) Try.underlying30 Try.sizeOf26 Try.zeroValue26 ⟨rfl, trivial⟩ rfl rfl rfl ?_ (by decide))
              intro v167 w166 ho169 hx168
              have := World.grownBy.size hx168
              have om : OwnM w166 _ 26 v167 [(stepA was id m).2] := ho169
              refine ⟨(Ext.trans (Ext.drew _) hx168), ?_⟩
              refine WO.l ?_
              have szq := World.grownBy.size (Ext.trans (Ext.trans hwCs7 (Ext.drew _)) hx168)
              refine LO.go rfl rfl (OW.enter rfl (by decide) (X.call Try.call33 (evl_cons rfl evl_nil)) (copyVotes_ok _ _ _ (Row.ext hv (Ext.trans (Ext.trans hwCs7 (Ext.drew _)) hx168)) (by omega)) ?_)
              rintro v171 w170 ⟨oc, hx172⟩
              have := World.grownBy.size hx172
              refine ⟨(Ext.trans (Ext.trans (Ext.drew _) hx168) hx172), ?_⟩
              refine WO.q rfl rfl rfl rfl (fun w' hE157 => (X.assign rfl)) ?_
              refine WO.q rfl rfl rfl rfl (fun w' hE157 => (X.assign rfl)) ?_
              refine WO.q rfl rfl rfl rfl (fun w' hE157 => (X.assignB rfl)) ?_
              refine WO.nil ?_
              refine WL.nil ?_
              refine thn_n ?_
              refine WF.ret ?_
              refine thn_r ?_
              refine fin_r ?_
              rw [hT]; exact ⟨⟨_, _, rfl, own_mono oc szq, own_mono (own_ext om hx172) (by omega)⟩, (Ext.trans (Ext.trans (Ext.trans hwCs7 (Ext.drew _)) hx168) hx172)⟩
          · have gh5_155 := h5_155
            have hT := takeA_new hf hgo (of_decide_eq_false gh5_155)
            have hfk := findA_key l m.Txn m.Part
            rw [hf] at hfk
            have hsk := stepA_key was id m
            have hw : withV has (stepA was id m).1 l = if has = true then setV l (stepA was id m).1 else insV l (stepA was id m).1 := by
              cases has
              · exact withV_ins _ _
              · exact withV_set (by rw [hsk.1, hsk.2, hfk.1, hfk.2, hf])
            refine WF.skip ?_
            refine thn_n ?_
            refine WF.seq ?_
            refine WF.drawn (.q 0 (.q 1 (.q 2 (.q 4 (.b 3 5 (.q 6 (.l 5 (.q 7 (.q 8 .nil)))) (.l 3 (.q 6 (.q 7 (.q 8 .nil))))))))) (fun w' => Ext wCs7 w') 9 (by kernel_rfl) (by kernel_rfl) (Ext.drew _) ?_
            have := World.grownBy.size (Ext.drew wCs7)
            refine WO.q rfl rfl rfl rfl (fun w' hE174 => (X.move ((hACs7.eq 0).trans ((congrFun hF64 0).trans ((hACr3.eq 0).trans ((congrFun hF33 0).trans ((hACr2.eq 0).trans (congrFun hF19 0)))))))) ?_
            refine WO.q rfl rfl rfl rfl (fun w' hE174 => (X.loadOA hO9 hE174 ((hACs7.eq 9).trans ((congrFun hF64 9).trans ((hACr3.eq 9).trans ((congrFun hF33 9).trans ((hACr2.eq 9).trans (congrFun hF19 9)))))) rfl Try.isAgg37 Try.sizeOf37)) ?_
            refine WO.q rfl rfl rfl rfl (fun w' hE174 => (X.moveB ((hACs7.eq 10).trans ((congrFun hF64 10).trans ((hACr3.eq 10).trans ((congrFun hF33 10).trans ((hACr2.eq 10).trans (congrFun hF19 10)))))))) ?_
            refine WO.q rfl rfl rfl rfl (fun w' hE174 => (X.loadOA hO13 hE174 ((hACs7.eq 13).trans (congrFun hF64 13)) rfl Try.isAgg26 Try.sizeOf26)) ?_
            refine WO.b2 ?_ ?_
            · have szq := World.grownBy.size (Ext.trans hwCs7 (Ext.drew _))
              refine LO.go rfl rfl (OW.enter rfl (by decide) (X.call Try.call34 (evl_cons rfl (evl_cons rfl (evl_cons rfl evl_nil)))) (with_ok _ l (stepA was id m).1 has _ (Row.ext hv (Ext.trans hwCs7 (Ext.drew _))) hl) ?_)
              rintro v176 w175 ⟨oc, hx177⟩
              have := World.grownBy.size hx177
              refine ⟨(Ext.trans (Ext.drew _) hx177), ?_⟩
              refine WO.q rfl rfl rfl rfl (fun w' hE174 => (X.assign rfl)) ?_
              refine WO.l ?_
              have szE := World.grownBy.size (Ext.trans (Ext.trans hwCs7 (Ext.drew _)) hx177)
              refine LO.go rfl rfl (OW.lits (vs := [agg (Msg.bare (stepA was id m).2)]) (evp_cons rfl evp_nil) Try.underlying30 Try.sizeOf26 Try.zeroValue26 ⟨rfl, trivial⟩ rfl rfl rfl ?_ (by decide))
              intro v179 w178 ho181 hx180
              have := World.grownBy.size hx180
              have om : OwnM w178 _ 26 v179 [(stepA was id m).2] := ho181
              refine ⟨(Ext.trans (Ext.trans (Ext.drew _) hx177) hx180), ?_⟩
              refine WO.q rfl rfl rfl rfl (fun w' hE174 => (X.assign rfl)) ?_
              refine WO.q rfl rfl rfl rfl (fun w' hE174 => (X.assignB rfl)) ?_
              refine WO.nil ?_
              refine WL.nil ?_
              refine thn_n ?_
              refine WF.ret ?_
              refine fin_r ?_
              rw [hT, ← hw]; exact ⟨⟨_, _, rfl, own_mono (own_ext oc hx180) szq, own_mono om (by omega)⟩, (Ext.trans (Ext.trans (Ext.trans hwCs7 (Ext.drew _)) hx177) hx180)⟩
            · have szE := World.grownBy.size (Ext.trans hwCs7 (Ext.drew _))
              refine LO.go rfl rfl (OW.lits (vs := [agg (Msg.bare (stepA was id m).2)]) (evp_cons rfl evp_nil) Try.underlying30 Try.sizeOf26 Try.zeroValue26 ⟨rfl, trivial⟩ rfl rfl rfl ?_ (by decide))
              intro v184 w183 ho186 hx185
              have := World.grownBy.size hx185
              have om : OwnM w183 _ 26 v184 [(stepA was id m).2] := ho186
              refine ⟨(Ext.trans (Ext.drew _) hx185), ?_⟩
              refine WO.l ?_
              have szq := World.grownBy.size (Ext.trans (Ext.trans hwCs7 (Ext.drew _)) hx185)
              refine LO.go rfl rfl (OW.enter rfl (by decide) (X.call Try.call34 (evl_cons rfl (evl_cons rfl (evl_cons rfl evl_nil)))) (with_ok _ l (stepA was id m).1 has _ (Row.ext hv (Ext.trans (Ext.trans hwCs7 (Ext.drew _)) hx185)) hl) ?_)
              rintro v188 w187 ⟨oc, hx189⟩
              have := World.grownBy.size hx189
              refine ⟨(Ext.trans (Ext.trans (Ext.drew _) hx185) hx189), ?_⟩
              refine WO.q rfl rfl rfl rfl (fun w' hE174 => (X.assign rfl)) ?_
              refine WO.q rfl rfl rfl rfl (fun w' hE174 => (X.assign rfl)) ?_
              refine WO.q rfl rfl rfl rfl (fun w' hE174 => (X.assignB rfl)) ?_
              refine WO.nil ?_
              refine WL.nil ?_
              refine thn_n ?_
              refine WF.ret ?_
              refine fin_r ?_
              rw [hT, ← hw]; exact ⟨⟨_, _, rfl, own_mono oc szq, own_mono (own_ext om hx189) (by omega)⟩, (Ext.trans (Ext.trans (Ext.trans hwCs7 (Ext.drew _)) hx185) hx189)⟩

end Go.Proofs.Ytgbkgkicgaikdaa
