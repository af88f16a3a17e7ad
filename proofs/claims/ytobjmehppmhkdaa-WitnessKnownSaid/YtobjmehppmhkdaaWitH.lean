/- The walk of early. -/
import Derived.Test.YtobjmehppmhkdaaWitG
namespace Go.Proofs.Ytobjmehppmhkdaa
open Go Go.RowKit Kf
set_option maxRecDepth 20000

section
variable {l : List Ev} {e : Ev}
theorem sy_7 (h : ans e 7 0 = true) : Value.bool true = Value.bool (saysB l e) := by simp [saysB, h]
theorem sy_9 (h7 : ans e 7 0 = false) (h : ans e 9 0 = true) : Value.bool true = Value.bool (saysB l e) := by simp [saysB, h]
theorem sy_n (h7 : ans e 7 0 = false) (h9 : ans e 9 0 = false) (h : ans e 4 0 = false) : Value.bool false = Value.bool (saysB l e) := by simp [saysB, h7, h9, h]
theorem sy_4 (h7 : ans e 7 0 = false) (h9 : ans e 9 0 = false) (h : ans e 4 0 = true) : Value.bool (touchesB l e.Txn) = Value.bool (saysB l e) := by simp [saysB, h7, h9, h]
end
def eaF (l : List Ev) : Nat → Ev → Bool := fun i e => saysB l e && !chosenB l e.Txn i
set_option maxHeartbeats 4000000 in
theorem early_ok (g : Nat) (l : List Ev) (w : World) (h : HAt w g l) (hl : l.length ≤ 1000000) : FnOk Try.prog 31 [at_ g] w (fun r w' => r = .bool (earlyB l) ∧ Ext w w') := by
  have hH := h
  obtain ⟨vl, gm, L, hI⟩ := h
  have hx := hI.obj
  have tg := hx.lt
  obtain ⟨cs, hr, hel⟩ := hI.evs
  refine FnOk.enter (rs := [2]) Try.func31 rfl Try.ntmps31 Try.results31 rfl rfl ?_
  refine WF.seq ?_
  refine WF.region ?_
  refine WL.va rfl rfl rfl (X.assignB rfl) ?_
  refine WL.nil ?_
  refine thn_n ?_
  refine WF.seq ?_
  refine WF.seq ?_
  refine WF.region ?_
  refine WL.va rfl rfl rfl (X.move rfl) ?_
  refine WL.va rfl rfl rfl (X.nilCheck rfl) ?_
  refine WL.va rfl rfl rfl (X.fieldAddrO (off := 0) rfl Try.underlying81 rfl rfl Try.sizeOf26) ?_
  refine WL.va rfl rfl rfl (X.loadO hx (Ext.refl _) rfl rfl Try.isAgg26) ?_
  refine WL.va rfl rfl rfl (X.len hr rfl Try.underlying26) ?_
  refine WL.va rfl rfl rfl (X.moveI rfl) ?_
  refine WL.nil ?_
  refine thn_n ?_
  refine WF.block ?_
  refine WF.named (fun F2 hF3 => ?_)
  refine WF.loopN (fun mL0 f' w' => ∃ (k : Nat), mL0 = l.length - k ∧ f' 11 = .int .i64 (k : Int) ∧ Agree [0, 6, 7, 8, 9, 10] f' F2 ∧ Ext w w' ∧ k ≤ l.length ∧ NoI l (eaF l) k) ?_ ?_
  · exact ⟨_, 0, rfl, (congrFun hF3 11), (Agree.refl _ _), (Ext.refl _), ⟨Nat.zero_le _, NoI.z⟩⟩
  · rintro mL0 fL0 wL0 ⟨k, hmL0, e11_L0, hAL0, hwL0, ⟨hk0, hno⟩⟩
    have := World.grownBy.size hwL0
    refine WF.seq ?_
    refine WF.region ?_
    refine WL.va rfl rfl rfl (X.lss e11_L0 ((hAL0.eq 10).trans (congrFun hF3 10))) ?_
    refine WL.nil ?_
    refine thn_n ?_
    refine WF.seq ?_
    refine WF.cond rfl (fun h0_4 => ?_) (fun h0_4 => ?_)
    · have gh0_4 := (of_decide_eq_true h0_4)
      have hk : k < l.length := by have := gh0_4; omega
      obtain ⟨d, d2, hcs, hd1, hd2⟩ := hel k hk
      refine WF.skip ?_
      refine thn_n ?_
      refine WF.seq ?_
      refine WF.block ?_
      refine WF.seq ?_
      refine WF.region ?_
      refine WL.va rfl rfl rfl (X.moveI e11_L0) ?_
      refine WL.va rfl rfl rfl (X.idx hr ((hAL0.eq 9).trans (congrFun hF3 9)) e11_L0 hk Try.underlying26 Try.sizeOf42) ?_
      refine WL.va rfl rfl rfl (X.loadEl hr hwL0 rfl hk hcs Try.isAgg42 Try.sizeOf42) ?_
      refine WL.op rfl (OW.allocO (cs := [i64 0, i64 0, i64 0, i64 0, i64 0, i64 0, i64 0, i64 0, i64 0, i64 0, i64 0, i64 0, i64 0, i64 0, i64 0, .slice none 0 0, i64 0, i64 0, .slice none 0 0]) Try.zeroValue42 rfl ?_ (by decide))
      intro g4 w6 heg4 hlg4 hO4 hx8
      have := World.grownBy.size hx8
      refine WL.va rfl rfl rfl (X.assignI rfl) ?_
      refine WL.op rfl (OW.storeOA hO4 rfl rfl rfl (ev_ones hd1 hd2) Try.sizeOf42 ?_)
      intro w10 hO4 hx12
      have := World.grownBy.size hx12
      replace hx := (hx.ext (Ext.trans hwL0 hx8)).keptO hx12 (by omega)
      replace hO4 : Blk _ _ _ (Ev.c (l[k]'hk) d d2) := hO4
      refine WL.nil ?_
      refine thn_n ?_
      refine WF.named (fun F14 hF15 => ?_)
      refine WF.cut (fun f' w' => f' 5 = .bool (saysB l (l[k]'hk)) ∧ Agree [0, 3, 4, 6, 7, 8, 9, 10, 11, 12, 13, 14, 15] f' F14 ∧ Ext w10 w') ?_ ?_
      · refine WF.region ?_
        refine WL.va rfl rfl rfl (X.loadOA hO4 (Ext.refl _) (congrFun hF15 4) rfl Try.isAgg42 Try.sizeOf42) ?_
        refine WL.c rfl rfl rfl (X.call Try.call51 (evl_cons (v := (agg (Ev.c (l[k]'hk) d d2))) rfl (evl_cons (v := (i64 7)) rfl (evl_cons (v := (i64 0)) rfl evl_nil)))) (answered_ok (l[k]'hk) d d2 7 0 _) ?_
        rintro v17 w16 ⟨rfl, hx18⟩
        have := World.grownBy.size hx18
        refine WL.va rfl rfl rfl (X.moveB rfl) ?_
        refine WL.split (j := 2) rfl (fun h20 => ?_) (fun h20 => ?_)
        · have gh20 := h20
          have a7 : ans (l[k]'hk) 7 0 = true := gh20
          refine WL.p rfl rfl rfl (congrArg some h20) ?_
          refine WL.p rfl rfl rfl (congrArg some h20) ?_
          refine WL.va rfl rfl rfl (X.pickT rfl h20 rfl) ?_
          refine WL.va rfl rfl rfl (X.moveB rfl) ?_
          refine WL.p rfl rfl rfl rfl ?_
          refine WL.p rfl rfl rfl rfl ?_
          refine WL.p rfl rfl rfl rfl ?_
          refine WL.pn rfl rfl rfl rfl ?_
          refine WL.pn rfl rfl rfl rfl ?_
          refine WL.pn rfl rfl rfl rfl ?_
          refine WL.pn rfl rfl rfl rfl ?_
          refine WL.p rfl rfl rfl rfl ?_
          refine WL.va rfl rfl rfl (X.pickT rfl rfl rfl) ?_
          refine WL.va rfl rfl rfl (X.assignB rfl) ?_
          refine WL.nil ?_
          refine thn_n ?_
          exact ⟨(Eq.trans rfl (by first | exact sy_7 a7 | exact sy_9 a7 a9 | exact sy_n a7 a9 a4 | exact sy_4 a7 a9 a4)), (by repeat (first | exact (Agree.refl _ F14) | refine Agree.put ?_ rfl | refine Agree.sub hAL0 rfl ?_ | refine Agree.named hF15 ?_ | refine Agree.named hF3 ?_)), hx18⟩
        · have gh20 := h20
          have a7 : ans (l[k]'hk) 7 0 = false := gh20
          refine WL.vg rfl (congrArg some h20) rfl rfl (X.loadOA hO4 hx18 (congrFun hF15 4) rfl Try.isAgg42 Try.sizeOf42) ?_
          refine WL.cg rfl (congrArg some h20) rfl rfl (X.call Try.call51 (evl_cons (v := (agg (Ev.c (l[k]'hk) d d2))) rfl (evl_cons (v := (i64 9)) rfl (evl_cons (v := (i64 0)) rfl evl_nil)))) (answered_ok (l[k]'hk) d d2 9 0 _) ?_
          rintro v24 w23 ⟨rfl, hx25⟩
          have := World.grownBy.size hx25
          refine WL.va rfl rfl rfl (X.pickF rfl h20 rfl) ?_
          refine WL.va rfl rfl rfl (X.moveB rfl) ?_
          refine WL.split (j := 6) rfl (fun h27 => ?_) (fun h27 => ?_)
          · have gh27 := h27
            have a9 : ans (l[k]'hk) 9 0 = true := gh27
            refine WL.p rfl rfl rfl (congrArg some h27) ?_
            refine WL.p rfl rfl rfl (congrArg some h27) ?_
            refine WL.p rfl rfl rfl (congrArg some h27) ?_
            refine WL.pn rfl rfl rfl rfl ?_
            refine WL.pn rfl rfl rfl rfl ?_
            refine WL.pn rfl rfl rfl rfl ?_
            refine WL.pn rfl rfl rfl rfl ?_
            refine WL.p rfl rfl rfl (congrArg some h27) ?_
            refine WL.va rfl rfl rfl (X.pickT rfl h27 rfl) ?_
            refine WL.va rfl rfl rfl (X.assignB rfl) ?_
            refine WL.nil ?_
            refine thn_n ?_
            exact ⟨(Eq.trans rfl (by first | exact sy_7 a7 | exact sy_9 a7 a9 | exact sy_n a7 a9 a4 | exact sy_4 a7 a9 a4)), (by repeat (first | exact (Agree.refl _ F14) | refine Agree.put ?_ rfl | refine Agree.sub hAL0 rfl ?_ | refine Agree.named hF15 ?_ | refine Agree.named hF3 ?_)), (Ext.trans hx18 hx25)⟩
          · have gh27 := h27
            have a9 : ans (l[k]'hk) 9 0 = false := gh27
            refine WL.vg rfl (congrArg some h27) rfl rfl (X.loadOA hO4 (Ext.trans hx18 hx25) (congrFun hF15 4) rfl Try.isAgg42 Try.sizeOf42) ?_
            refine WL.cg rfl (congrArg some h27) rfl rfl (X.call Try.call51 (evl_cons (v := (agg (Ev.c (l[k]'hk) d d2))) rfl (evl_cons (v := (i64 4)) rfl (evl_cons (v := (i64 0)) rfl evl_nil)))) (answered_ok (l[k]'hk) d d2 4 0 _) ?_
            rintro v30 w29 ⟨rfl, hx31⟩
            have := World.grownBy.size hx31
            refine WL.vg rfl (congrArg some h27) rfl rfl (X.moveB rfl) ?_
            refine WL.split (j := 9) rfl (fun h33 => ?_) (fun h33 => ?_)
            · have gh33 := h33
              have a4 : ans (l[k]'hk) 4 0 = true := gh33
              refine WL.vg rfl (congrArg some h33) rfl rfl (X.move ((congrFun hF15 0).trans ((hAL0.eq 0).trans (congrFun hF3 0)))) ?_
              refine WL.vg rfl (congrArg some h33) rfl rfl (X.fieldAddrO (off := 2) (congrFun hF15 4) Try.underlying42 rfl rfl Try.sizeOf3) ?_
              refine WL.vg rfl (congrArg some h33) rfl rfl (X.loadO hO4 (Ext.trans (Ext.trans hx18 hx25) hx31) rfl rfl Try.isAgg3) ?_
              refine WL.cg rfl (congrArg some h33) rfl rfl (X.call Try.call57 (evl_cons (v := (at_ g)) rfl (evl_cons (v := (i64 (l[k]'hk).Txn)) rfl evl_nil))) (touches_ok g l (l[k]'hk).Txn _ (hH.ext (show Ext w w29 from (Ext.trans (Ext.trans (Ext.trans (Ext.trans hwL0 (Ext.store hx8 hx12 (by omega))) hx18) hx25) hx31)))) ?_
              rintro v35 w34 ⟨rfl, hx36⟩
              have := World.grownBy.size hx36
              refine WL.vg rfl (congrArg some h27) rfl rfl (X.pickT rfl h33 rfl) ?_
              refine WL.va rfl rfl rfl (X.pickF rfl h27 rfl) ?_
              refine WL.va rfl rfl rfl (X.assignB rfl) ?_
              refine WL.nil ?_
              refine thn_n ?_
              exact ⟨(Eq.trans rfl (by first | exact sy_7 a7 | exact sy_9 a7 a9 | exact sy_n a7 a9 a4 | exact sy_4 a7 a9 a4)), (by repeat (first | exact (Agree.refl _ F14) | refine Agree.put ?_ rfl | refine Agree.sub hAL0 rfl ?_ | refine Agree.named hF15 ?_ | refine Agree.named hF3 ?_)), (Ext.trans (Ext.trans (Ext.trans hx18 hx25) hx31) hx36)⟩
            · have gh33 := h33
              have a4 : ans (l[k]'hk) 4 0 = false := gh33
              refine WL.p rfl rfl rfl (congrArg some h33) ?_
              refine WL.p rfl rfl rfl (congrArg some h33) ?_
              refine WL.p rfl rfl rfl (congrArg some h33) ?_
              refine WL.p rfl rfl rfl (congrArg some h33) ?_
              refine WL.vg rfl (congrArg some h27) rfl rfl (X.pickF rfl h33 rfl) ?_
              refine WL.va rfl rfl rfl (X.pickF rfl h27 rfl) ?_
              refine WL.va rfl rfl rfl (X.assignB rfl) ?_
              refine WL.nil ?_
              refine thn_n ?_
              exact ⟨(Eq.trans rfl (by first | exact sy_7 a7 | exact sy_9 a7 a9 | exact sy_n a7 a9 a4 | exact sy_4 a7 a9 a4)), (by repeat (first | exact (Agree.refl _ F14) | refine Agree.put ?_ rfl | refine Agree.sub hAL0 rfl ?_ | refine Agree.named hF15 ?_ | refine Agree.named hF3 ?_)), (Ext.trans (Ext.trans hx18 hx25) hx31)⟩
      · rintro fCr4 wCr4 ⟨e5_Cr4, hACr4, hwCr4⟩
        have := World.grownBy.size hwCr4
        refine WF.seq ?_
        refine WF.region ?_
        refine WL.va rfl rfl rfl (X.moveB e5_Cr4) ?_
        refine WL.va rfl rfl rfl (X.moveB rfl) ?_
        refine WL.split (j := 1) rfl (fun h40 => ?_) (fun h40 => ?_)
        · have gh40 := h40
          have k1 : saysB l (l[k]'hk) = true := gh40
          refine WL.vg rfl (congrArg some h40) rfl rfl (X.move ((hACr4.eq 0).trans ((congrFun hF15 0).trans ((hAL0.eq 0).trans (congrFun hF3 0))))) ?_
          refine WL.vg rfl (congrArg some h40) rfl rfl (X.fieldAddrO (off := 2) ((hACr4.eq 4).trans (congrFun hF15 4)) Try.underlying42 rfl rfl Try.sizeOf3) ?_
          refine WL.vg rfl (congrArg some h40) rfl rfl (X.loadO hO4 hwCr4 rfl rfl Try.isAgg3) ?_
          refine WL.vg rfl (congrArg some h40) rfl rfl (X.moveI ((hACr4.eq 3).trans (congrFun hF15 3))) ?_
          refine WL.cg rfl (congrArg some h40) rfl rfl (X.call Try.call53 (evl_cons (v := (at_ g)) rfl (evl_cons (v := (i64 (l[k]'hk).Txn)) rfl (evl_cons (v := (i64 (k : Int))) rfl evl_nil)))) (chosen_ok g l (l[k]'hk).Txn (k : Int) _ (hH.ext (show Ext w wCr4 from (Ext.trans (Ext.trans hwL0 (Ext.store hx8 hx12 (by omega))) hwCr4)))) ?_
          rintro v42 w41 ⟨rfl, rfl⟩
          refine WL.vg rfl (congrArg some h40) rfl rfl (X.not rfl) ?_
          refine WL.va rfl rfl rfl (X.pickT rfl h40 rfl) ?_
          refine WL.nil ?_
          refine thn_n ?_
          refine WF.cond rfl (fun h1_45 => ?_) (fun h1_45 => ?_)
          · have gh1_45 := (nt h1_45)
            have k2 : chosenB l (l[k]'hk).Txn k = false := gh1_45
            refine WF.seq ?_
            refine WF.region ?_
            refine WL.va rfl rfl rfl (X.assignB rfl) ?_
            refine WL.nil ?_
            refine thn_n ?_
            refine WF.ret ?_
            refine blk_r ?_
            refine thn_r ?_
            refine thn_r ?_
            refine blk_r ?_
            refine thn_r ?_
            refine fin_r ?_
            exact ⟨congrArg Value.bool (anyI_true (f := eaF l) hk (by simp [eaF, k1, k2])).symm, (Ext.trans (Ext.trans hwL0 (Ext.store hx8 hx12 (by omega))) hwCr4)⟩
          · have gh1_45 := (nf h1_45)
            have k2 : chosenB l (l[k]'hk).Txn k = true := gh1_45
            have hfk : eaF l k (l[k]'hk) = false := by simp [eaF, k2]
            refine WF.skip ?_
            refine blk_n ?_
            refine thn_n ?_
            refine WF.region ?_
            refine WL.va rfl rfl rfl (X.add ((hACr4.eq 11).trans ((congrFun hF15 11).trans e11_L0)) rfl (w64 (by omega))) ?_
            refine WL.va rfl rfl rfl (X.moveI rfl) ?_
            refine WL.nil ?_
            exact thn_n ⟨_, (by omega), k + 1, rfl, rfl, (by repeat (first | exact hAL0 | refine Agree.put ?_ rfl | refine Agree.sub hACr4 rfl ?_ | refine Agree.named hF15 ?_ | refine Agree.named hF3 ?_)), (Ext.trans (Ext.trans hwL0 (Ext.store hx8 hx12 (by omega))) hwCr4), ⟨by omega, hno.s hk hfk⟩⟩
        · have gh40 := h40
          have k1 : saysB l (l[k]'hk) = false := gh40
          have hfk : eaF l k (l[k]'hk) = false := by simp [eaF, k1]
          refine WL.p rfl rfl rfl (congrArg some h40) ?_
          refine WL.p rfl rfl rfl (congrArg some h40) ?_
          refine WL.p rfl rfl rfl (congrArg some h40) ?_
          refine WL.p rfl rfl rfl (congrArg some h40) ?_
          refine WL.p rfl rfl rfl (congrArg some h40) ?_
          refine WL.p rfl rfl rfl (congrArg some h40) ?_
          refine WL.va rfl rfl rfl (X.pickF rfl h40 rfl) ?_
          refine WL.nil ?_
          refine thn_n ?_
          refine WF.cond_f rfl ?_
          refine WF.skip ?_
          refine blk_n ?_
          refine thn_n ?_
          refine WF.region ?_
          refine WL.va rfl rfl rfl (X.add ((hACr4.eq 11).trans ((congrFun hF15 11).trans e11_L0)) rfl (w64 (by omega))) ?_
          refine WL.va rfl rfl rfl (X.moveI rfl) ?_
          refine WL.nil ?_
          exact thn_n ⟨_, (by omega), k + 1, rfl, rfl, (by repeat (first | exact hAL0 | refine Agree.put ?_ rfl | refine Agree.sub hACr4 rfl ?_ | refine Agree.named hF15 ?_ | refine Agree.named hF3 ?_)), (Ext.trans (Ext.trans hwL0 (Ext.store hx8 hx12 (by omega))) hwCr4), ⟨by omega, hno.s hk hfk⟩⟩
    · have gh0_4 := (of_decide_eq_false h0_4)
      have hk : l.length ≤ k := by have := gh0_4; omega
      refine WF.exit ?_
      refine thn_x ?_
      refine thn_x ?_
      refine blk_eq ?_
      refine thn_n ?_
      refine WF.seq ?_
      refine WF.region ?_
      refine WL.va rfl rfl rfl (X.assignB rfl) ?_
      refine WL.nil ?_
      refine thn_n ?_
      refine WF.ret ?_
      refine fin_r ?_
      exact ⟨congrArg Value.bool (anyI_false hno hk).symm, hwL0⟩

end Go.Proofs.Ytobjmehppmhkdaa
