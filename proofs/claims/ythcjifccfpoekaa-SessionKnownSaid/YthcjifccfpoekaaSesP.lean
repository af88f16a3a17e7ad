/- The walk of SessionOnce. -/
import Derived.Test.YthcjifccfpoekaaSesO
namespace Go.Proofs.Ythcjifccfpoekaa
open Go Go.RowKit Kf

set_option maxHeartbeats 8000000 in
theorem sessionOnce_walk (v : Value) (l : List Tr) (w : World) (h : Trs w v l) : FnOk Try.prog 5 [v] w (fun r w' => r = .bool true ∧ Ext w w') := by
  have hle := h.le
  refine FnOk.enter (rs := [2]) Try.func5 rfl Try.ntmps5 Try.results5 rfl rfl ?_
  refine WF.seq ?_
  refine WF.region ?_
  refine WL.va rfl rfl rfl (X.assignB rfl) ?_
  refine WL.nil ?_
  refine thn_n ?_
  refine WF.seq ?_
  refine WF.seq ?_
  refine WF.region ?_
  refine WL.va rfl rfl rfl (X.move rfl) ?_
  refine WL.va rfl rfl rfl (X.len h rfl Try.underlying40) ?_
  refine WL.va rfl rfl rfl (X.gtr rfl rfl) ?_
  refine WL.nil ?_
  refine thn_n ?_
  refine WF.cond rfl (fun h0_2 => ?_) (fun h0_2 => ?_)
  · have gh0_2 := (of_decide_eq_true h0_2)
    refine WF.seq ?_
    refine WF.region ?_
    refine WL.c rfl rfl rfl (X.call Try.call9 evl_nil) (works_ok _) ?_
    rintro v5 w4 ⟨rfl, hx6⟩
    refine WL.va rfl rfl rfl (X.assignB rfl) ?_
    refine WL.nil ?_
    refine thn_n ?_
    refine WF.ret ?_
    refine thn_r ?_
    refine fin_r ?_
    exact ⟨rfl, hx6⟩
  · have gh0_2 := (of_decide_eq_false h0_2)
    have hl2 : l.length ≤ 200 := by omega
    refine WF.skip ?_
    refine thn_n ?_
    refine WF.seq ?_
    refine WF.region ?_
    refine WL.va rfl rfl rfl (X.assign rfl) ?_
    refine WL.nil ?_
    refine thn_n ?_
    refine WF.seq ?_
    refine WF.region ?_
    refine WL.va rfl rfl rfl (X.assign rfl) ?_
    refine WL.nil ?_
    refine thn_n ?_
    refine WF.seq ?_
    refine WF.seq ?_
    refine WF.region ?_
    refine WL.va rfl rfl rfl (X.assignI rfl) ?_
    refine WL.nil ?_
    refine thn_n ?_
    refine WF.block ?_
    refine WF.named (fun F8 hF9 => ?_)
    refine WF.loopN (fun mL0 f' w' => ∃ (k : Nat) (vs : Value) (F : List SV) (vd : Value) (D : List Tr), mL0 = l.length - k ∧ f' 5 = .int .i64 (k : Int) ∧ f' 3 = vs ∧ f' 4 = vd ∧ Agree [0, 13, 14, 15] f' F8 ∧ Ext w w' ∧ k ≤ l.length ∧ SOwn w' w.heap.size vs F ∧ OwnR w' w.heap.size vd D ∧ SOff vs F vd ∧ D.length ≤ k ∧ SOK (F.map Prod.fst) D) ?_ ?_
    · exact ⟨_, 0, (.slice none 0 0), [], (.slice none 0 0), [], rfl, (congrFun hF9 5), (congrFun hF9 3), (congrFun hF9 4), (Agree.refl _ _), (Ext.refl _), ⟨Nat.zero_le _, SOwn.nil _ _, World.ownsRow_nil _ _ _ _, SOff.nil _, Nat.le_refl _, SOK.nil⟩⟩
    · rintro mL0 fL0 wL0 ⟨k, vs, F, vd, D, hmL0, e5_L0, e3_L0, e4_L0, hAL0, hwL0, ⟨hk0, oF, ho, hof, hDk, hok⟩⟩
      have hFl : F.length ≤ D.length := by have := hok.len; rwa [List.length_map] at this
      refine WF.seq ?_
      refine WF.seq ?_
      refine WF.region ?_
      refine WL.va rfl rfl rfl (X.moveI e5_L0) ?_
      refine WL.va rfl rfl rfl (X.move ((hAL0.eq 0).trans (congrFun hF9 0))) ?_
      refine WL.va rfl rfl rfl (X.len h rfl Try.underlying40) ?_
      refine WL.va rfl rfl rfl (X.lss rfl rfl) ?_
      refine WL.nil ?_
      refine thn_n ?_
      refine WF.cond rfl (fun h1_10 => ?_) (fun h1_10 => ?_)
      · have gh1_10 := (of_decide_eq_true h1_10)
        have hk : k < l.length := by omega
        refine WF.skip ?_
        refine thn_n ?_
        refine WF.seq ?_
        refine WF.block ?_
        refine WF.seq ?_
        refine WF.region ?_
        refine WL.va rfl rfl rfl (X.assignI rfl) ?_
        refine WL.nil ?_
        refine thn_n ?_
        refine WF.seq ?_
        refine WF.seq ?_
        refine WF.region ?_
        refine WL.va rfl rfl rfl (X.assignI rfl) ?_
        refine WL.nil ?_
        refine thn_n ?_
        refine WF.block ?_
        refine WF.named (fun F12 hF13 => ?_)
        refine WF.loopN (fun mL1 f' w' => ∃ (j : Nat) (z : Int), mL1 = D.length - j ∧ f' 7 = .int .i64 (j : Int) ∧ f' 6 = i64 z ∧ Agree [0, 3, 4, 5, 13, 14, 15, 17, 18, 19, 20] f' F12 ∧ Ext wL0 w' ∧ j ≤ D.length ∧ LastP D j (l[k]'hk).1 z) ?_ ?_
        · exact ⟨_, 0, -1, rfl, (congrFun hF13 7), (congrFun hF13 6), (Agree.refl _ _), (Ext.refl _), ⟨Nat.zero_le _, LastP.zero _ _⟩⟩
        · rintro mL1 fL1 wL1 ⟨j, z, hmL1, e7_L1, e6_L1, hAL1, hwL1, ⟨hj0, hz⟩⟩
          refine WF.seq ?_
          refine WF.seq ?_
          refine WF.region ?_
          refine WL.va rfl rfl rfl (X.moveI e7_L1) ?_
          refine WL.va rfl rfl rfl (X.move ((hAL1.eq 4).trans ((congrFun hF13 4).trans e4_L0))) ?_
          refine WL.va rfl rfl rfl (X.len (Row.of_own ho) rfl Try.underlying40) ?_
          refine WL.va rfl rfl rfl (X.lss rfl rfl) ?_
          refine WL.nil ?_
          refine thn_n ?_
          refine WF.cond rfl (fun h2_14 => ?_) (fun h2_14 => ?_)
          · have gh2_14 := (of_decide_eq_true h2_14)
            have hj : j < D.length := by omega
            refine WF.skip ?_
            refine thn_n ?_
            refine WF.seq ?_
            refine WF.block ?_
            refine WF.seq ?_
            refine WF.drawn (.q 0 (.q 1 (.q 2 (.q 3 (.q 4 (.q 5 (.q 6 (.q 7 (.q 8 (.q 9 (.q 10 .nil))))))))))) (fun w' => Ext wL1 w') 11 (by kernel_rfl) (by kernel_rfl) (Ext.drew _) ?_
            refine WO.q rfl rfl rfl rfl (fun w' hE16 => (X.move ((hAL1.eq 4).trans ((congrFun hF13 4).trans e4_L0)))) ?_
            refine WO.q rfl rfl rfl rfl (fun w' hE16 => (X.moveI e7_L1)) ?_
            refine WO.q rfl rfl rfl rfl (fun w' hE16 => (X.idx (Row.of_own ho) rfl rfl (by omega) Try.underlying40 Try.sizeOf42)) ?_
            refine WO.q rfl rfl rfl rfl (fun w' hE16 => (X.fieldAddrA rfl Try.underlying42 rfl rfl Try.sizeOf3)) ?_
            refine WO.q rfl rfl rfl rfl (fun w' hE16 => (X.loadE (Row.of_own ho) (Ext.trans hwL1 hE16) rfl (by omega) ((Trs.get hj (by decide)).trans rfl) Try.isAgg3)) ?_
            refine WO.q rfl rfl rfl rfl (fun w' hE16 => (X.move ((hAL1.eq 0).trans ((congrFun hF13 0).trans ((hAL0.eq 0).trans (congrFun hF9 0)))))) ?_
            refine WO.q rfl rfl rfl rfl (fun w' hE16 => (X.moveI ((hAL1.eq 5).trans ((congrFun hF13 5).trans e5_L0)))) ?_
            refine WO.q rfl rfl rfl rfl (fun w' hE16 => (X.idx h rfl rfl (by omega) Try.underlying40 Try.sizeOf42)) ?_
            refine WO.q rfl rfl rfl rfl (fun w' hE16 => (X.fieldAddrA rfl Try.underlying42 rfl rfl Try.sizeOf3)) ?_
            refine WO.q rfl rfl rfl rfl (fun w' hE16 => (X.loadE h (Ext.trans (Ext.trans hwL0 hwL1) hE16) rfl (by omega) ((Trs.get hk (by decide)).trans rfl) Try.isAgg3)) ?_
            refine WO.q rfl rfl rfl rfl (fun w' hE16 => (X.eql rfl rfl)) ?_
            refine WO.nil ?_
            refine WL.nil ?_
            refine thn_n ?_
            refine WF.cond rfl (fun h3_17 => ?_) (fun h3_17 => ?_)
            · have gh3_17 := (of_decide_eq_true h3_17)
              have hz2 := hz.hit hj gh3_17
              refine WF.region ?_
              refine WL.va rfl rfl rfl (X.moveI e7_L1) ?_
              refine WL.va rfl rfl rfl (X.assignI rfl) ?_
              refine WL.nil ?_
              refine blk_n ?_
              refine thn_n ?_
              refine WF.region ?_
              refine WL.va rfl rfl rfl (X.moveI e7_L1) ?_
              refine WL.va rfl rfl rfl (X.add rfl rfl (w64 (by omega))) ?_
              refine WL.va rfl rfl rfl (X.assignI rfl) ?_
              refine WL.nil ?_
              exact thn_n ⟨_, (by omega), j + 1, _, rfl, rfl, rfl, (by repeat (first | exact hAL1 | refine Agree.put ?_ rfl | refine Agree.sub hAL0 rfl ?_ | refine Agree.named hF13 ?_ | refine Agree.named hF9 ?_)), (Ext.trans hwL1 (Ext.drew _)), ⟨by omega, hz2⟩⟩
            · have gh3_17 := (of_decide_eq_false h3_17)
              have hz2 := hz.miss hj gh3_17
              refine WF.skip ?_
              refine blk_n ?_
              refine thn_n ?_
              refine WF.region ?_
              refine WL.va rfl rfl rfl (X.moveI e7_L1) ?_
              refine WL.va rfl rfl rfl (X.add rfl rfl (w64 (by omega))) ?_
              refine WL.va rfl rfl rfl (X.assignI rfl) ?_
              refine WL.nil ?_
              exact thn_n ⟨_, (by omega), j + 1, _, rfl, rfl, e6_L1, (by repeat (first | exact hAL1 | refine Agree.put ?_ rfl | refine Agree.sub hAL0 rfl ?_ | refine Agree.named hF13 ?_ | refine Agree.named hF9 ?_)), (Ext.trans hwL1 (Ext.drew _)), ⟨by omega, hz2⟩⟩
          · have gh2_14 := (of_decide_eq_false h2_14)
            obtain rfl : j = D.length := by omega
            refine WF.exit ?_
            refine thn_x ?_
            refine thn_x ?_
            refine blk_eq ?_
            refine thn_n ?_
            refine WF.named (fun F19 hF20 => ?_)
            refine WF.cut (fun f' w' => ∃ (g8 : Nat) (dv : Value), f' 8 = at_ g8 ∧ f' 9 = i64 (askS (F.map Prod.fst) (l[k]'hk).1 (l[k]'hk).2).2 ∧ Agree [0, 3, 4, 5, 6, 7, 13, 14, 15, 17, 18, 19, 20, 23, 24, 25, 26] f' F19 ∧ Ext wL1 w' ∧ Blk w' g8 29 [i64 (askS (F.map Prod.fst) (l[k]'hk).1 (l[k]'hk).2).1.1, dv] ∧ Bytes w' dv (askS (F.map Prod.fst) (l[k]'hk).1 (l[k]'hk).2).1.2) ?_ ?_
            · refine WF.drawn (.q 0 (.q 1 (.q 2 (.q 3 (.q 4 (.q 5 (.q 6 (.q 7 (.q 8 (.q 9 (.q 10 (.b 11 15 (.q 12 (.q 13 (.q 14 (.l 15 (.l 16 (.q 17 .nil)))))) (.l 11 (.q 12 (.q 13 (.q 14 (.l 16 (.q 17 .nil)))))))))))))))))) (fun w' => Ext wL1 w') 18 (by kernel_rfl) (by kernel_rfl) (Ext.drew _) ?_
              refine WO.q rfl rfl rfl rfl (fun w' hE21 => (X.move ((congrFun hF20 3).trans ((hAL1.eq 3).trans ((congrFun hF13 3).trans e3_L0))))) ?_
              refine WO.q rfl rfl rfl rfl (fun w' hE21 => (X.move ((congrFun hF20 0).trans ((hAL1.eq 0).trans ((congrFun hF13 0).trans ((hAL0.eq 0).trans (congrFun hF9 0))))))) ?_
              refine WO.q rfl rfl rfl rfl (fun w' hE21 => (X.moveI ((congrFun hF20 5).trans ((hAL1.eq 5).trans ((congrFun hF13 5).trans e5_L0))))) ?_
              refine WO.q rfl rfl rfl rfl (fun w' hE21 => (X.idx h rfl rfl (by omega) Try.underlying40 Try.sizeOf42)) ?_
              refine WO.q rfl rfl rfl rfl (fun w' hE21 => (X.fieldAddrA rfl Try.underlying42 rfl rfl Try.sizeOf3)) ?_
              refine WO.q rfl rfl rfl rfl (fun w' hE21 => (X.loadE h (Ext.trans (Ext.trans hwL0 hwL1) hE21) rfl (by omega) ((Trs.get hk (by decide)).trans rfl) Try.isAgg3)) ?_
              refine WO.q rfl rfl rfl rfl (fun w' hE21 => (X.move ((congrFun hF20 0).trans ((hAL1.eq 0).trans ((congrFun hF13 0).trans ((hAL0.eq 0).trans (congrFun hF9 0))))))) ?_
              refine WO.q rfl rfl rfl rfl (fun w' hE21 => (X.moveI ((congrFun hF20 5).trans ((hAL1.eq 5).trans ((congrFun hF13 5).trans e5_L0))))) ?_
              refine WO.q rfl rfl rfl rfl (fun w' hE21 => (X.idx h rfl rfl (by omega) Try.underlying40 Try.sizeOf42)) ?_
              refine WO.q rfl rfl rfl rfl (fun w' hE21 => (X.fieldAddrA rfl Try.underlying42 rfl rfl Try.sizeOf3)) ?_
              refine WO.q rfl rfl rfl rfl (fun w' hE21 => (X.loadE h (Ext.trans (Ext.trans hwL0 hwL1) hE21) rfl (by omega) ((Trs.get hk (by decide)).trans rfl) Try.isAgg3)) ?_
              refine WO.b2 ?_ ?_
              · refine LO.go rfl rfl (OW.enter rfl (by decide) (X.call Try.call11 (evl_cons rfl (evl_cons rfl (evl_cons rfl evl_nil)))) (ask_ok _ (F.map Prod.fst) (l[k]'hk).1 (l[k]'hk).2 _ (oF.sess.ext (Ext.trans hwL1 (Ext.drew _))) (fun s hs => by have := hok.dat s hs; omega)) ?_)
                rintro ta w22 ⟨⟨dv, rfl, oa0⟩, hx23⟩
                refine ⟨(Ext.trans (Ext.drew _) hx23), ?_⟩
                have oa := OwnT.of oa0
                refine WO.q rfl rfl rfl rfl (fun w' hE21 => (X.move rfl)) ?_
                refine WO.q rfl rfl rfl rfl (fun w' hE21 => (X.extract rfl rfl)) ?_
                refine WO.q rfl rfl rfl rfl (fun w' hE21 => (X.extract rfl rfl)) ?_
                refine WO.l ?_
                refine LO.go rfl rfl (OW.allocO (cs := [i64 0, .slice none 0 0]) Try.zeroValue29 rfl ?_ (by decide))
                intro g8 w24 heg8 hlg8 hO8 hx26
                have := World.grownBy.size hx26
                refine ⟨(Ext.trans (Ext.trans (Ext.drew _) hx23) hx26), ?_⟩
                refine WO.l ?_
                refine LO.go rfl rfl (OW.storeOA hO8 rfl rfl rfl (res_one (own_one oa.own)) Try.sizeOf29 ?_)
                intro w28 hO8 hx30
                have := World.grownBy.size hx30
                replace oa := (oa.ext hx26).keptO hx30 (by omega)
                replace hO8 : Blk _ _ _ [i64 (askS (F.map Prod.fst) (l[k]'hk).1 (l[k]'hk).2).1.1, dv] := hO8
                refine ⟨(Ext.trans (Ext.trans (Ext.drew _) hx23) (Ext.store hx26 hx30 (by omega))), ?_⟩
                refine WO.q rfl rfl rfl rfl (fun w' hE21 => (X.assignI rfl)) ?_
                refine WO.nil ?_
                refine WL.nil ?_
                refine thn_n ?_
                exact ⟨_, _, rfl, rfl, (by repeat (first | exact (Agree.refl _ F19) | refine Agree.put ?_ rfl | refine Agree.sub hAL1 rfl ?_ | refine Agree.sub hAL0 rfl ?_ | refine Agree.named hF20 ?_ | refine Agree.named hF13 ?_ | refine Agree.named hF9 ?_)), (Ext.trans (Ext.trans (Ext.drew _) hx23) (Ext.store hx26 hx30 (by omega))), ⟨hO8, oa.rd⟩⟩
              · refine LO.go rfl rfl (OW.allocO (cs := [i64 0, .slice none 0 0]) Try.zeroValue29 rfl ?_ (by decide))
                intro g8 w32 heg8 hlg8 hO8 hx34
                have := World.grownBy.size hx34
                refine ⟨(Ext.trans (Ext.drew _) hx34), ?_⟩
                refine WO.l ?_
                refine LO.go rfl rfl (OW.enter rfl (by decide) (X.call Try.call11 (evl_cons rfl (evl_cons rfl (evl_cons rfl evl_nil)))) (ask_ok _ (F.map Prod.fst) (l[k]'hk).1 (l[k]'hk).2 _ (oF.sess.ext (Ext.trans (Ext.trans hwL1 (Ext.drew _)) hx34)) (fun s hs => by have := hok.dat s hs; omega)) ?_)
                rintro ta w36 ⟨⟨dv, rfl, oa0⟩, hx37⟩
                have := World.grownBy.size hx37
                refine ⟨(Ext.trans (Ext.trans (Ext.drew _) hx34) hx37), ?_⟩
                have oa := OwnT.of oa0
                refine WO.q rfl rfl rfl rfl (fun w' hE21 => (X.move rfl)) ?_
                refine WO.q rfl rfl rfl rfl (fun w' hE21 => (X.extract rfl rfl)) ?_
                refine WO.q rfl rfl rfl rfl (fun w' hE21 => (X.extract rfl rfl)) ?_
                refine WO.l ?_
                refine LO.go rfl rfl (OW.storeOA (hO8.ext hx37) rfl rfl rfl (res_one (own_one oa.own)) Try.sizeOf29 ?_)
                intro w38 hO8 hx40
                have := World.grownBy.size hx40
                replace oa := oa.keptO hx40 (by omega)
                replace hO8 : Blk _ _ _ [i64 (askS (F.map Prod.fst) (l[k]'hk).1 (l[k]'hk).2).1.1, dv] := hO8
                refine ⟨(Ext.trans (Ext.drew _) (Ext.store (Ext.trans hx34 hx37) hx40 (by omega))), ?_⟩
                refine WO.q rfl rfl rfl rfl (fun w' hE21 => (X.assignI rfl)) ?_
                refine WO.nil ?_
                refine WL.nil ?_
                refine thn_n ?_
                exact ⟨_, _, rfl, rfl, (by repeat (first | exact (Agree.refl _ F19) | refine Agree.put ?_ rfl | refine Agree.sub hAL1 rfl ?_ | refine Agree.sub hAL0 rfl ?_ | refine Agree.named hF20 ?_ | refine Agree.named hF13 ?_ | refine Agree.named hF9 ?_)), (Ext.trans (Ext.drew _) (Ext.store (Ext.trans hx34 hx37) hx40 (by omega))), ⟨hO8, oa.rd⟩⟩
            · rintro fCr14 wCr14 ⟨g8, dv, e8_Cr14, e9_Cr14, hACr14, hwCr14, ⟨hO8, bdv⟩⟩
              have := World.grownBy.size hwCr14
              refine WF.named (fun F42 hF43 => ?_)
              refine WF.cut (fun f' w' => f' 10 = .bool (freshB D (l[k]'hk).1 (l[k]'hk).2 z) ∧ Agree [0, 3, 4, 5, 6, 7, 8, 9, 13, 14, 15, 17, 18, 19, 20, 23, 24, 25, 26] f' F42 ∧ Ext wCr14 w') ?_ ?_
              · refine WF.drawn (.q 0 (.q 1 (.q 2 (.q 3 (.q 4 (.q 5 (.q 6 (.q 7 (.q 8 (.q 9 (.q 10 (.q 11 (.q 12 (.q 13 (.q 14 (.q 15 (.q 16 (.q 17 (.q 18 (.q 19 (.q 20 (.q 21 (.q 22 (.q 23 (.q 24 .nil))))))))))))))))))))))))) (fun w' => Ext wCr14 w') 25 (by kernel_rfl) (by kernel_rfl) (Ext.drew _) ?_
                have := World.grownBy.size (Ext.drew wCr14)
                refine WO.q rfl rfl rfl rfl (fun w' hE44 => (X.move ((congrFun hF43 0).trans ((hACr14.eq 0).trans ((congrFun hF20 0).trans ((hAL1.eq 0).trans ((congrFun hF13 0).trans ((hAL0.eq 0).trans (congrFun hF9 0))))))))) ?_
                refine WO.q rfl rfl rfl rfl (fun w' hE44 => (X.moveI ((congrFun hF43 5).trans ((hACr14.eq 5).trans ((congrFun hF20 5).trans ((hAL1.eq 5).trans ((congrFun hF13 5).trans e5_L0))))))) ?_
                refine WO.q rfl rfl rfl rfl (fun w' hE44 => (X.idx h rfl rfl (by omega) Try.underlying40 Try.sizeOf42)) ?_
                refine WO.q rfl rfl rfl rfl (fun w' hE44 => (X.fieldAddrA rfl Try.underlying42 rfl rfl Try.sizeOf3)) ?_
                refine WO.q rfl rfl rfl rfl (fun w' hE44 => (X.loadE h (Ext.trans (Ext.trans (Ext.trans hwL0 hwL1) hwCr14) hE44) rfl (by omega) ((Trs.get hk (by decide)).trans rfl) Try.isAgg3)) ?_
                refine WO.q rfl rfl rfl rfl (fun w' hE44 => (X.eql rfl rfl)) ?_
                refine WO.q rfl rfl rfl rfl (fun w' hE44 => (X.moveB rfl)) ?_
                refine WO.split (j := 6) rfl (fun h46 => ?_) (fun h46 => ?_)
                · have gh46 := (of_decide_eq_true h46)
                  have hfv : freshB D (l[k]'hk).1 (l[k]'hk).2 z = true := decide_eq_true (.inl gh46)
                  refine WO.qp rfl rfl rfl rfl (congrArg some h46) ?_
                  refine WO.qp rfl rfl rfl rfl (congrArg some h46) ?_
                  refine WO.q rfl rfl rfl rfl (fun w' hE44 => (X.pickT rfl h46 rfl)) ?_
                  refine WO.q rfl rfl rfl rfl (fun w' hE44 => (X.moveB rfl)) ?_
                  refine WO.qp rfl rfl rfl rfl rfl ?_
                  refine WO.qp rfl rfl rfl rfl rfl ?_
                  refine WO.qp rfl rfl rfl rfl rfl ?_
                  refine WO.qp rfl rfl rfl rfl rfl ?_
                  refine WO.qp rfl rfl rfl rfl rfl ?_
                  refine WO.qp rfl rfl rfl rfl rfl ?_
                  refine WO.qp rfl rfl rfl rfl rfl ?_
                  refine WO.qp rfl rfl rfl rfl rfl ?_
                  refine WO.qp rfl rfl rfl rfl rfl ?_
                  refine WO.qp rfl rfl rfl rfl rfl ?_
                  refine WO.qp rfl rfl rfl rfl rfl ?_
                  refine WO.qp rfl rfl rfl rfl rfl ?_
                  refine WO.q rfl rfl rfl rfl (fun w' hE44 => (X.pickT rfl rfl rfl)) ?_
                  refine WO.q rfl rfl rfl rfl (fun w' hE44 => (X.assignB rfl)) ?_
                  refine WO.nil ?_
                  refine WL.nil ?_
                  refine thn_n ?_
                  exact ⟨(by first | exact congrArg Value.bool hfv.symm | exact congrArg Value.bool (freshB_go hc0 hz0 hmz)), (by repeat (first | exact (Agree.refl _ F42) | refine Agree.put ?_ rfl | refine Agree.sub hACr14 rfl ?_ | refine Agree.sub hAL1 rfl ?_ | refine Agree.sub hAL0 rfl ?_ | refine Agree.named hF43 ?_ | refine Agree.named hF20 ?_ | refine Agree.named hF13 ?_ | refine Agree.named hF9 ?_)), (Ext.drew _)⟩
                · have gh46 := (of_decide_eq_false h46)
                  have hc0 := gh46
                  refine WO.qg rfl rfl (congrArg some h46) rfl rfl (fun w' hE44 => (X.moveI ((congrFun hF43 6).trans ((hACr14.eq 6).trans ((congrFun hF20 6).trans e6_L1))))) ?_
                  refine WO.qg rfl rfl (congrArg some h46) rfl rfl (fun w' hE44 => (X.lss rfl rfl)) ?_
                  refine WO.q rfl rfl rfl rfl (fun w' hE44 => (X.pickF rfl h46 rfl)) ?_
                  refine WO.q rfl rfl rfl rfl (fun w' hE44 => (X.moveB rfl)) ?_
                  refine WO.split (j := 10) rfl (fun h50 => ?_) (fun h50 => ?_)
                  · have gh50 := (of_decide_eq_true h50)
                    have hfv : freshB D (l[k]'hk).1 (l[k]'hk).2 z = true := decide_eq_true (.inr (.inl gh50))
                    refine WO.qp rfl rfl rfl rfl (congrArg some h50) ?_
                    refine WO.qp rfl rfl rfl rfl (congrArg some h50) ?_
                    refine WO.qp rfl rfl rfl rfl (congrArg some h50) ?_
                    refine WO.qp rfl rfl rfl rfl (congrArg some h50) ?_
                    refine WO.qp rfl rfl rfl rfl (congrArg some h50) ?_
                    refine WO.qp rfl rfl rfl rfl (congrArg some h50) ?_
                    refine WO.qp rfl rfl rfl rfl (congrArg some h50) ?_
                    refine WO.qp rfl rfl rfl rfl (congrArg some h50) ?_
                    refine WO.qp rfl rfl rfl rfl (congrArg some h50) ?_
                    refine WO.qp rfl rfl rfl rfl (congrArg some h50) ?_
                    refine WO.qp rfl rfl rfl rfl (congrArg some h50) ?_
                    refine WO.qp rfl rfl rfl rfl (congrArg some h50) ?_
                    refine WO.q rfl rfl rfl rfl (fun w' hE44 => (X.pickT rfl h50 rfl)) ?_
                    refine WO.q rfl rfl rfl rfl (fun w' hE44 => (X.assignB rfl)) ?_
                    refine WO.nil ?_
                    refine WL.nil ?_
                    refine thn_n ?_
                    exact ⟨(by first | exact congrArg Value.bool hfv.symm | exact congrArg Value.bool (freshB_go hc0 hz0 hmz)), (by repeat (first | exact (Agree.refl _ F42) | refine Agree.put ?_ rfl | refine Agree.sub hACr14 rfl ?_ | refine Agree.sub hAL1 rfl ?_ | refine Agree.sub hAL0 rfl ?_ | refine Agree.named hF43 ?_ | refine Agree.named hF20 ?_ | refine Agree.named hF13 ?_ | refine Agree.named hF9 ?_)), (Ext.drew _)⟩
                  · have gh50 := (of_decide_eq_false h50)
                    have hz0 := gh50
                    have hmz : z.toNat < D.length := by obtain ⟨m, h1, h2⟩ := hz.pos hz0; omega
                    refine WO.qg rfl rfl (congrArg some h50) rfl rfl (fun w' hE44 => (X.move ((congrFun hF43 0).trans ((hACr14.eq 0).trans ((congrFun hF20 0).trans ((hAL1.eq 0).trans ((congrFun hF13 0).trans ((hAL0.eq 0).trans (congrFun hF9 0))))))))) ?_
                    refine WO.qg rfl rfl (congrArg some h50) rfl rfl (fun w' hE44 => (X.moveI ((congrFun hF43 5).trans ((hACr14.eq 5).trans ((congrFun hF20 5).trans ((hAL1.eq 5).trans ((congrFun hF13 5).trans e5_L0))))))) ?_
                    refine WO.qg rfl rfl (congrArg some h50) rfl rfl (fun w' hE44 => (X.idx h rfl rfl (by omega) Try.underlying40 Try.sizeOf42)) ?_
                    refine WO.qg rfl rfl (congrArg some h50) rfl rfl (fun w' hE44 => (X.fieldAddrA rfl Try.underlying42 rfl rfl Try.sizeOf3)) ?_
                    refine WO.qg rfl rfl (congrArg some h50) rfl rfl (fun w' hE44 => (X.loadE h (Ext.trans (Ext.trans (Ext.trans hwL0 hwL1) hwCr14) hE44) rfl (by omega) ((Trs.get hk (by decide)).trans rfl) Try.isAgg3)) ?_
                    refine WO.qg rfl rfl (congrArg some h50) rfl rfl (fun w' hE44 => (X.move ((congrFun hF43 4).trans ((hACr14.eq 4).trans ((congrFun hF20 4).trans ((hAL1.eq 4).trans ((congrFun hF13 4).trans e4_L0))))))) ?_
                    refine WO.qg rfl rfl (congrArg some h50) rfl rfl (fun w' hE44 => (X.moveI ((congrFun hF43 6).trans ((hACr14.eq 6).trans ((congrFun hF20 6).trans e6_L1))))) ?_
                    refine WO.qg rfl rfl (congrArg some h50) rfl rfl (fun w' hE44 => ((X.max2 rfl rfl).trans (by rw [show max z 0 = ((z.toNat : Nat) : Int) from by omega]))) ?_
                    refine WO.qg rfl rfl (congrArg some h50) rfl rfl (fun w' hE44 => (X.idx (Row.of_own ho) rfl rfl hmz Try.underlying40 Try.sizeOf42)) ?_
                    refine WO.qg rfl rfl (congrArg some h50) rfl rfl (fun w' hE44 => (X.fieldAddrA rfl Try.underlying42 rfl rfl Try.sizeOf3)) ?_
                    refine WO.qg rfl rfl (congrArg some h50) rfl rfl (fun w' hE44 => (X.loadE (Row.of_own ho) (Ext.trans (Ext.trans hwL1 hwCr14) hE44) rfl hmz ((Trs.get hmz (by decide)).trans rfl) Try.isAgg3)) ?_
                    refine WO.qg rfl rfl (congrArg some h50) rfl rfl (fun w' hE44 => (X.gtr rfl rfl)) ?_
                    refine WO.q rfl rfl rfl rfl (fun w' hE44 => (X.pickF rfl h50 rfl)) ?_
                    refine WO.q rfl rfl rfl rfl (fun w' hE44 => (X.assignB rfl)) ?_
                    refine WO.nil ?_
                    refine WL.nil ?_
                    refine thn_n ?_
                    exact ⟨(by first | exact congrArg Value.bool hfv.symm | exact congrArg Value.bool (freshB_go hc0 hz0 hmz)), (by repeat (first | exact (Agree.refl _ F42) | refine Agree.put ?_ rfl | refine Agree.sub hACr14 rfl ?_ | refine Agree.sub hAL1 rfl ?_ | refine Agree.sub hAL0 rfl ?_ | refine Agree.named hF43 ?_ | refine Agree.named hF20 ?_ | refine Agree.named hF13 ?_ | refine Agree.named hF9 ?_)), (Ext.drew _)⟩
              · rintro fCr15 wCr15 ⟨e10_Cr15, hACr15, hwCr15⟩
                have := World.grownBy.size hwCr15
                refine WF.seq ?_
                refine WF.seq ?_
                refine WF.region ?_
                refine WL.va rfl rfl rfl (X.moveI ((hACr15.eq 9).trans ((congrFun hF43 9).trans e9_Cr14))) ?_
                refine WL.va rfl rfl rfl (X.eql rfl rfl) ?_
                refine WL.va rfl rfl rfl (X.moveB e10_Cr15) ?_
                refine WL.va rfl rfl rfl (X.neqB rfl rfl Try.underlying4) ?_
                refine WL.nil ?_
                refine thn_n ?_
                refine WF.cond rfl (fun h4_55 => ?_) (fun h4_55 => ?_)
                · have gh4_55 := h4_55
                  exact absurd (hok.zero hz) (by simpa using gh4_55)
                · have gh4_55 := h4_55
                  refine WF.skip ?_
                  refine thn_n ?_
                  refine WF.seq ?_
                  refine WF.seq ?_
                  refine WF.region ?_
                  refine WL.va rfl rfl rfl (X.moveI ((hACr15.eq 9).trans ((congrFun hF43 9).trans e9_Cr14))) ?_
                  refine WL.va rfl rfl rfl (X.eql rfl rfl) ?_
                  refine WL.nil ?_
                  refine thn_n ?_
                  refine WF.cond rfl (fun h5_57 => ?_) (fun h5_57 => ?_)
                  · have gh5_57 := (of_decide_eq_true h5_57)
                    have hfr : freshB D (l[k]'hk).1 (l[k]'hk).2 z = true := by rw [← hok.zero hz]; exact decide_eq_true gh5_57
                    refine WF.seq ?_
                    refine WF.drawn (.q 0 (.q 1 (.q 2 (.q 3 (.q 4 (.q 5 (.q 6 (.q 7 (.q 8 (.q 9 (.q 10 (.q 11 (.q 12 (.q 13 (.q 14 (.l 15 (.q 16 (.l 17 (.q 18 .nil))))))))))))))))))) (fun w' => Ext wCr15 w') 19 (by kernel_rfl) (by kernel_rfl) (Ext.drew _) ?_
                    have := World.grownBy.size (Ext.drew wCr15)
                    refine WO.q rfl rfl rfl rfl (fun w' hE59 => (X.move ((hACr15.eq 3).trans ((congrFun hF43 3).trans ((hACr14.eq 3).trans ((congrFun hF20 3).trans ((hAL1.eq 3).trans ((congrFun hF13 3).trans e3_L0)))))))) ?_
                    refine WO.q rfl rfl rfl rfl (fun w' hE59 => (X.move ((hACr15.eq 0).trans ((congrFun hF43 0).trans ((hACr14.eq 0).trans ((congrFun hF20 0).trans ((hAL1.eq 0).trans ((congrFun hF13 0).trans ((hAL0.eq 0).trans (congrFun hF9 0)))))))))) ?_
                    refine WO.q rfl rfl rfl rfl (fun w' hE59 => (X.moveI ((hACr15.eq 5).trans ((congrFun hF43 5).trans ((hACr14.eq 5).trans ((congrFun hF20 5).trans ((hAL1.eq 5).trans ((congrFun hF13 5).trans e5_L0)))))))) ?_
                    refine WO.q rfl rfl rfl rfl (fun w' hE59 => (X.idx h rfl rfl (by omega) Try.underlying40 Try.sizeOf42)) ?_
                    refine WO.q rfl rfl rfl rfl (fun w' hE59 => (X.fieldAddrA rfl Try.underlying42 rfl rfl Try.sizeOf3)) ?_
                    refine WO.q rfl rfl rfl rfl (fun w' hE59 => (X.loadE h (Ext.trans (Ext.trans (Ext.trans (Ext.trans hwL0 hwL1) hwCr14) hwCr15) hE59) rfl (by omega) ((Trs.get hk (by decide)).trans rfl) Try.isAgg3)) ?_
                    refine WO.q rfl rfl rfl rfl (fun w' hE59 => (X.move ((hACr15.eq 0).trans ((congrFun hF43 0).trans ((hACr14.eq 0).trans ((congrFun hF20 0).trans ((hAL1.eq 0).trans ((congrFun hF13 0).trans ((hAL0.eq 0).trans (congrFun hF9 0)))))))))) ?_
                    refine WO.q rfl rfl rfl rfl (fun w' hE59 => (X.moveI ((hACr15.eq 5).trans ((congrFun hF43 5).trans ((hACr14.eq 5).trans ((congrFun hF20 5).trans ((hAL1.eq 5).trans ((congrFun hF13 5).trans e5_L0)))))))) ?_
                    refine WO.q rfl rfl rfl rfl (fun w' hE59 => (X.idx h rfl rfl (by omega) Try.underlying40 Try.sizeOf42)) ?_
                    refine WO.q rfl rfl rfl rfl (fun w' hE59 => (X.fieldAddrA rfl Try.underlying42 rfl rfl Try.sizeOf3)) ?_
                    refine WO.q rfl rfl rfl rfl (fun w' hE59 => (X.loadE h (Ext.trans (Ext.trans (Ext.trans (Ext.trans hwL0 hwL1) hwCr14) hwCr15) hE59) rfl (by omega) ((Trs.get hk (by decide)).trans rfl) Try.isAgg3)) ?_
                    refine WO.q rfl rfl rfl rfl (fun w' hE59 => (X.move ((hACr15.eq 4).trans ((congrFun hF43 4).trans ((hACr14.eq 4).trans ((congrFun hF20 4).trans ((hAL1.eq 4).trans ((congrFun hF13 4).trans e4_L0)))))))) ?_
                    refine WO.q rfl rfl rfl rfl (fun w' hE59 => (X.len (Row.of_own ho) rfl Try.underlying40)) ?_
                    refine WO.q rfl rfl rfl rfl (fun w' hE59 => (X.move ((hACr15.eq 4).trans ((congrFun hF43 4).trans ((hACr14.eq 4).trans ((congrFun hF20 4).trans ((hAL1.eq 4).trans ((congrFun hF13 4).trans e4_L0)))))))) ?_
                    refine WO.q rfl rfl rfl rfl (fun w' hE59 => (X.len (Row.of_own ho) rfl Try.underlying40)) ?_
                    refine WO.l ?_
                    refine LO.go rfl rfl (OW.enter rfl (by decide) (X.call Try.call20 (evl_cons rfl evl_nil)) (row_ok (D.length : Int) _ (by omega)) ?_)
                    rintro dr w60 ⟨or, hx61⟩
                    have := World.grownBy.size hx61
                    refine ⟨(Ext.trans (Ext.drew _) hx61), ?_⟩
                    rw [show ((D.length : Int)).toNat = D.length from rfl] at or
                    refine WO.q rfl rfl rfl rfl (fun w' hE59 => (X.buildL (P := Try.prog) (t := 29) (cs := [i64 (D.length : Int), dr]) (evp_cons rfl (evp_cons rfl evp_nil)) Try.type29 Try.underlying29 rfl rfl ⟨rfl, own_one or, trivial⟩ rfl)) ?_
                    refine WO.l ?_
                    have hszn := World.grownBy.size (show Ext w w60 from (Ext.trans (Ext.trans (Ext.trans (Ext.trans (Ext.trans hwL0 hwL1) hwCr14) hwCr15) (Ext.drew _)) hx61))
                    have hszL := World.grownBy.size (show Ext wL0 w60 from (Ext.trans (Ext.trans (Ext.trans (Ext.trans hwL1 hwCr14) hwCr15) (Ext.drew _)) hx61))
                    refine LO.go rfl rfl (OW.enter rfl (by decide) (X.call Try.call17 (evl_cons rfl (evl_cons rfl (evl_cons rfl (evl_cons rfl evl_nil))))) (note_ok _ (F.map Prod.fst) (l[k]'hk).1 (l[k]'hk).2 (D.length : Int) _ (rowB D.length) _ (oF.sess.ext (Ext.trans (Ext.trans (Ext.trans (Ext.trans hwL1 hwCr14) hwCr15) (Ext.drew _)) hx61)) (by have := hok.len; omega) (fun s hs => by have := hok.dat s hs; omega) (Bytes.of_own or) (by rw [rowB_len]; omega)) ?_)
                    rintro vn wn ⟨⟨Fn, hFn, oG⟩, hx62⟩
                    have := World.grownBy.size hx62
                    refine ⟨(Ext.trans (Ext.trans (Ext.drew _) hx61) hx62), ?_⟩
                    have hoff := SOff.of ho oG hszL
                    refine WO.q rfl rfl rfl rfl (fun w' hE59 => (X.assign rfl)) ?_
                    refine WO.nil ?_
                    refine WL.nil ?_
                    refine thn_n ?_
                    refine WF.seq ?_
                    refine WF.region ?_
                    refine WL.va rfl rfl rfl (X.move ((hACr15.eq 4).trans ((congrFun hF43 4).trans ((hACr14.eq 4).trans ((congrFun hF20 4).trans ((hAL1.eq 4).trans ((congrFun hF13 4).trans e4_L0))))))) ?_
                    refine WL.va rfl rfl rfl (X.move ((hACr15.eq 0).trans ((congrFun hF43 0).trans ((hACr14.eq 0).trans ((congrFun hF20 0).trans ((hAL1.eq 0).trans ((congrFun hF13 0).trans ((hAL0.eq 0).trans (congrFun hF9 0))))))))) ?_
                    refine WL.va rfl rfl rfl (X.moveI ((hACr15.eq 5).trans ((congrFun hF43 5).trans ((hACr14.eq 5).trans ((congrFun hF20 5).trans ((hAL1.eq 5).trans ((congrFun hF13 5).trans e5_L0))))))) ?_
                    refine WL.va rfl rfl rfl (X.idx h rfl rfl (by omega) Try.underlying40 Try.sizeOf42) ?_
                    refine WL.va rfl rfl rfl (X.loadEl h (Ext.trans (Ext.trans (Ext.trans (Ext.trans (Ext.trans (Ext.trans hwL0 hwL1) hwCr14) hwCr15) (Ext.drew _)) hx61) hx62) rfl (by omega) (Trs.el hk) Try.isAgg42 Try.sizeOf42) ?_
                    refine WL.op rfl (OW.lits (vs := [agg (Tr.c (l[k]'hk))]) (evp_cons rfl evp_nil) Try.underlying40 Try.sizeOf42 Try.zeroValue42 ⟨rfl, trivial⟩ rfl rfl rfl ?_ (by decide))
                    intro v65 w63 ho67 hx66
                    have := World.grownBy.size hx66
                    have o1 : World.ownsRow w63 _ 42 2 v65 1 (Tr.c (l[k]'hk)) := ho67
                    have hwP := (Ext.trans (Ext.trans (Ext.trans (Ext.trans (Ext.trans (Ext.trans (Ext.trans hwL0 hwL1) hwCr14) hwCr15) (Ext.drew _)) hx61) hx62) hx66)
                    have hoP := own_ext ho (Ext.trans (Ext.trans (Ext.trans (Ext.trans (Ext.trans (Ext.trans hwL1 hwCr14) hwCr15) (Ext.drew _)) hx61) hx62) hx66)
                    have oG1 := oG.ext hx66
                    have hoff2 := hoff
                    refine WL.op rfl (OW.append (bytes := 16) hoP (Row.of_own o1) (Tr.c_one _) rfl rfl Try.underlying40 Try.type42 rfl rfl rfl rfl (by decide) (by unfold maxLen; omega) (by omega) (World.grownBy.size hwP) ?_ (by decide))
                    intro v69 w68 ho71 hx70 hmvhx70
                    have ho2 := OwnR.app ho71
                    have oG2 := oG1.keptA hx70 hoff2
                    have hoff3 := hoff2.moved oG1 hmvhx70
                    refine WL.va rfl rfl rfl (X.assign rfl) ?_
                    refine WL.nil ?_
                    refine thn_n ?_
                    refine WF.exit ?_
                    refine thn_x ?_
                    refine blk_eq ?_
                    refine thn_n ?_
                    refine WF.region ?_
                    refine WL.va rfl rfl rfl (X.moveI ((hACr15.eq 5).trans ((congrFun hF43 5).trans ((hACr14.eq 5).trans ((congrFun hF20 5).trans ((hAL1.eq 5).trans ((congrFun hF13 5).trans e5_L0))))))) ?_
                    refine WL.va rfl rfl rfl (X.add rfl rfl (w64 (by omega))) ?_
                    refine WL.va rfl rfl rfl (X.assignI rfl) ?_
                    refine WL.nil ?_
                    first | exact thn_n ⟨_, (by omega), k + 1, _, _, _, _, rfl, rfl, rfl, rfl, (by repeat (first | exact hAL0 | refine Agree.put ?_ rfl | refine Agree.sub hACr15 rfl ?_ | refine Agree.sub hACr14 rfl ?_ | refine Agree.sub hAL1 rfl ?_ | refine Agree.named hF43 ?_ | refine Agree.named hF20 ?_ | refine Agree.named hF13 ?_ | refine Agree.named hF9 ?_)), (Ext.own hwP hoP (Nat.le_refl _) hx70), ⟨by omega, oG2.mono hszn, ho2, hoff3, by simp; omega, by rw [hFn]; exact hok.step _ _⟩⟩ | exact thn_n ⟨_, (by omega), k + 1, _, _, _, _, rfl, rfl, rfl, rfl, (by repeat (first | exact hAL0 | refine Agree.put ?_ rfl | refine Agree.sub hACr15 rfl ?_ | refine Agree.sub hACr14 rfl ?_ | refine Agree.sub hAL1 rfl ?_ | refine Agree.named hF43 ?_ | refine Agree.named hF20 ?_ | refine Agree.named hF13 ?_ | refine Agree.named hF9 ?_)), (Ext.own hwP hoP (Nat.le_refl _) hx70), ⟨by omega, oF9, ho9, hof, by omega, hok⟩⟩
                  · have gh5_57 := (of_decide_eq_false h5_57)
                    have hfr : freshB D (l[k]'hk).1 (l[k]'hk).2 z = false := by rw [← hok.zero hz]; exact decide_eq_false gh5_57
                    obtain ⟨m, rfl, hml, hcn, hqz, hask⟩ := hok.old hz hfr
                    have hsd := secD_at hml
                    refine WF.skip ?_
                    refine thn_n ?_
                    refine WF.seq ?_
                    refine WF.drawn (.q 0 (.q 1 (.q 2 (.q 3 (.q 4 (.q 5 (.q 6 (.q 7 (.q 8 (.q 9 (.q 10 (.q 11 .nil)))))))))))) (fun w' => Ext wCr15 w') 12 (by kernel_rfl) (by kernel_rfl) (Ext.drew _) ?_
                    have := World.grownBy.size (Ext.drew wCr15)
                    refine WO.q rfl rfl rfl rfl (fun w' hE72 => (X.move ((hACr15.eq 0).trans ((congrFun hF43 0).trans ((hACr14.eq 0).trans ((congrFun hF20 0).trans ((hAL1.eq 0).trans ((congrFun hF13 0).trans ((hAL0.eq 0).trans (congrFun hF9 0)))))))))) ?_
                    refine WO.q rfl rfl rfl rfl (fun w' hE72 => (X.moveI ((hACr15.eq 5).trans ((congrFun hF43 5).trans ((hACr14.eq 5).trans ((congrFun hF20 5).trans ((hAL1.eq 5).trans ((congrFun hF13 5).trans e5_L0)))))))) ?_
                    refine WO.q rfl rfl rfl rfl (fun w' hE72 => (X.idx h rfl rfl (by omega) Try.underlying40 Try.sizeOf42)) ?_
                    refine WO.q rfl rfl rfl rfl (fun w' hE72 => (X.fieldAddrA rfl Try.underlying42 rfl rfl Try.sizeOf3)) ?_
                    refine WO.q rfl rfl rfl rfl (fun w' hE72 => (X.loadE h (Ext.trans (Ext.trans (Ext.trans (Ext.trans hwL0 hwL1) hwCr14) hwCr15) hE72) rfl (by omega) ((Trs.get hk (by decide)).trans rfl) Try.isAgg3)) ?_
                    refine WO.q rfl rfl rfl rfl (fun w' hE72 => (X.move ((hACr15.eq 4).trans ((congrFun hF43 4).trans ((hACr14.eq 4).trans ((congrFun hF20 4).trans ((hAL1.eq 4).trans ((congrFun hF13 4).trans e4_L0)))))))) ?_
                    refine WO.q rfl rfl rfl rfl (fun w' hE72 => (X.moveI ((hACr15.eq 6).trans ((congrFun hF43 6).trans ((hACr14.eq 6).trans ((congrFun hF20 6).trans e6_L1)))))) ?_
                    refine WO.q rfl rfl rfl rfl (fun w' hE72 => (X.idx (Row.of_own ho) rfl rfl (by omega) Try.underlying40 Try.sizeOf42)) ?_
                    refine WO.q rfl rfl rfl rfl (fun w' hE72 => (X.fieldAddrA rfl Try.underlying42 rfl rfl Try.sizeOf3)) ?_
                    refine WO.q rfl rfl rfl rfl (fun w' hE72 => (X.loadE (Row.of_own ho) (Ext.trans (Ext.trans (Ext.trans hwL1 hwCr14) hwCr15) hE72) rfl (by omega) ((Trs.get hml (by decide)).trans rfl) Try.isAgg3)) ?_
                    refine WO.q rfl rfl rfl rfl (fun w' hE72 => (X.eql rfl rfl)) ?_
                    refine WO.q rfl rfl rfl rfl (fun w' hE72 => (X.assignB rfl)) ?_
                    refine WO.nil ?_
                    refine WL.nil ?_
                    refine thn_n ?_
                    refine WF.seq ?_
                    refine WF.drawn (.q 0 (.q 1 (.q 2 (.q 3 (.q 4 (.q 5 (.q 6 (.q 7 (.q 8 (.q 9 (.q 10 (.q 11 (.q 12 (.q 13 (.q 14 (.q 15 (.q 16 (.l 17 (.q 18 (.l 19 (.q 20 (.q 21 (.q 22 .nil))))))))))))))))))))))) (fun w' => Ext wCr15.drew w') 23 (by kernel_rfl) (by kernel_rfl) (Ext.drew _) ?_
                    have := World.grownBy.size (Ext.drew wCr15.drew)
                    refine WO.q rfl rfl rfl rfl (fun w' hE74 => (X.moveI ((hACr15.eq 9).trans ((congrFun hF43 9).trans e9_Cr14)))) ?_
                    refine WO.q rfl rfl rfl rfl (fun w' hE74 => (X.eql rfl rfl)) ?_
                    refine WO.q rfl rfl rfl rfl (fun w' hE74 => (X.moveB rfl)) ?_
                    refine WO.q rfl rfl rfl rfl (fun w' hE74 => (X.neqB rfl rfl Try.underlying4)) ?_
                    refine WO.q rfl rfl rfl rfl (fun w' hE74 => (X.moveB rfl)) ?_
                    refine WO.split (j := 4) rfl (fun h77 => ?_) (fun h77 => ?_)
                    · have gh77 := h77
                      exact absurd gh77 (by rw [hask, hsd]; split <;> simp [*])
                    · have gh77 := h77
                      refine WO.qg rfl rfl (congrArg some h77) rfl rfl (fun w' hE74 => (X.moveI ((hACr15.eq 9).trans ((congrFun hF43 9).trans e9_Cr14)))) ?_
                      refine WO.qg rfl rfl (congrArg some h77) rfl rfl (fun w' hE74 => (X.eql rfl rfl)) ?_
                      refine WO.qg rfl rfl (congrArg some h77) rfl rfl (fun w' hE74 => (X.moveB rfl)) ?_
                      refine WO.qg rfl rfl (congrArg some h77) rfl rfl (fun w' hE74 => (X.not rfl)) ?_
                      refine WO.qg rfl rfl (congrArg some h77) rfl rfl (fun w' hE74 => (X.neqB rfl rfl Try.underlying4)) ?_
                      refine WO.q rfl rfl rfl rfl (fun w' hE74 => (X.pickF rfl h77 rfl)) ?_
                      refine WO.q rfl rfl rfl rfl (fun w' hE74 => (X.moveB rfl)) ?_
                      refine WO.split (j := 11) rfl (fun h81 => ?_) (fun h81 => ?_)
                      · have gh81 := h81
                        exact absurd gh81 (by rw [hask, hsd]; split <;> simp [*])
                      · have gh81 := h81
                        refine WO.qg rfl rfl (congrArg some h81) rfl rfl (fun w' hE74 => (X.moveB rfl)) ?_
                        refine WO.qg rfl rfl (congrArg some h81) rfl rfl (fun w' hE74 => (X.moveB rfl)) ?_
                        refine WO.split (j := 13) rfl (fun h82 => ?_) (fun h82 => ?_)
                        · have gh82 := (of_decide_eq_true h82)
                          have hsame := gh82
                          refine WO.qg rfl rfl (congrArg some h82) rfl rfl (fun w' hE74 => (X.loadOA hO8 (Ext.trans (Ext.trans hwCr15 (Ext.drew _)) hE74) ((hACr15.eq 8).trans ((congrFun hF43 8).trans e8_Cr14)) rfl Try.isAgg29 Try.sizeOf29)) ?_
                          refine WO.qg rfl rfl (congrArg some h82) rfl rfl (fun w' hE74 => (X.moveI ((hACr15.eq 6).trans ((congrFun hF43 6).trans ((hACr14.eq 6).trans ((congrFun hF20 6).trans e6_L1)))))) ?_
                          refine WO.qg rfl rfl (congrArg some h82) rfl rfl (fun w' hE74 => (X.moveI ((hACr15.eq 6).trans ((congrFun hF43 6).trans ((hACr14.eq 6).trans ((congrFun hF20 6).trans e6_L1)))))) ?_
                          refine WO.l ?_
                          refine LO.gog rfl rfl (congrArg some h82) (OW.enter rfl (by decide) (X.call Try.call20 (evl_cons rfl evl_nil)) (row_ok (m : Int) _ (by omega)) ?_)
                          rintro dr w83 ⟨or, hx84⟩
                          have := World.grownBy.size hx84
                          refine ⟨(Ext.trans (Ext.drew _) hx84), ?_⟩
                          rw [show ((m : Int)).toNat = m from rfl] at or
                          refine WO.qg rfl rfl (congrArg some h82) rfl rfl (fun w' hE74 => (X.buildL (P := Try.prog) (t := 29) (cs := [i64 (m : Int), dr]) (evp_cons rfl (evp_cons rfl evp_nil)) Try.type29 Try.underlying29 rfl rfl ⟨rfl, own_one or, trivial⟩ rfl)) ?_
                          refine WO.l ?_
                          refine LO.gog rfl rfl (congrArg some h82) (OW.enter rfl (by decide) (X.call Try.call13 (evl_cons rfl (evl_cons rfl evl_nil))) (sameResult_ok _ _ _ _ _ _ _ (Row.ext bdv (Ext.trans (Ext.trans (Ext.trans hwCr15 (Ext.drew _)) (Ext.drew _)) hx84)) (Bytes.of_own or)) ?_)
                          rintro v86 w85 ⟨rfl, hx87⟩
                          have := World.grownBy.size hx87
                          refine ⟨(Ext.trans (Ext.trans (Ext.drew _) hx84) hx87), ?_⟩
                          refine WO.qg rfl rfl (congrArg some h82) rfl rfl (fun w' hE74 => (X.not rfl)) ?_
                          refine WO.qg rfl rfl (congrArg some h81) rfl rfl (fun w' hE74 => (X.pickT rfl h82 rfl)) ?_
                          refine WO.q rfl rfl rfl rfl (fun w' hE74 => (X.pickF rfl h81 rfl)) ?_
                          refine WO.nil ?_
                          refine WL.nil ?_
                          refine thn_n ?_
                          refine WF.cond rfl (fun h6_89 => ?_) (fun h6_89 => ?_)
                          · have gh6_89 := (of_decide_eq_false (nt h6_89))
                            exact absurd (by rw [hask, if_pos (by omega)]; exact ⟨rfl, rfl⟩) gh6_89
                          · have gh6_89 := (of_decide_eq_true (nf h6_89))
                            have oF9 := oF.ext (Ext.trans (Ext.trans (Ext.trans (Ext.trans (Ext.trans (Ext.trans hwL1 hwCr14) hwCr15) (Ext.drew _)) (Ext.drew _)) hx84) hx87)
                            have ho9 := own_ext ho (Ext.trans (Ext.trans (Ext.trans (Ext.trans (Ext.trans (Ext.trans hwL1 hwCr14) hwCr15) (Ext.drew _)) (Ext.drew _)) hx84) hx87)
                            refine WF.skip ?_
                            refine blk_n ?_
                            refine thn_n ?_
                            refine WF.region ?_
                            refine WL.va rfl rfl rfl (X.moveI ((hACr15.eq 5).trans ((congrFun hF43 5).trans ((hACr14.eq 5).trans ((congrFun hF20 5).trans ((hAL1.eq 5).trans ((congrFun hF13 5).trans e5_L0))))))) ?_
                            refine WL.va rfl rfl rfl (X.add rfl rfl (w64 (by omega))) ?_
                            refine WL.va rfl rfl rfl (X.assignI rfl) ?_
                            refine WL.nil ?_
                            first | exact thn_n ⟨_, (by omega), k + 1, _, _, _, _, rfl, rfl, ((hACr15.eq 3).trans ((congrFun hF43 3).trans ((hACr14.eq 3).trans ((congrFun hF20 3).trans ((hAL1.eq 3).trans ((congrFun hF13 3).trans e3_L0)))))), ((hACr15.eq 4).trans ((congrFun hF43 4).trans ((hACr14.eq 4).trans ((congrFun hF20 4).trans ((hAL1.eq 4).trans ((congrFun hF13 4).trans e4_L0)))))), (by repeat (first | exact hAL0 | refine Agree.put ?_ rfl | refine Agree.sub hACr15 rfl ?_ | refine Agree.sub hACr14 rfl ?_ | refine Agree.sub hAL1 rfl ?_ | refine Agree.named hF43 ?_ | refine Agree.named hF20 ?_ | refine Agree.named hF13 ?_ | refine Agree.named hF9 ?_)), (Ext.trans (Ext.trans (Ext.trans (Ext.trans (Ext.trans (Ext.trans (Ext.trans hwL0 hwL1) hwCr14) hwCr15) (Ext.drew _)) (Ext.drew _)) hx84) hx87), ⟨by omega, oG2.mono hszn, ho2, hoff3, by simp; omega, by rw [hFn]; exact hok.step _ _⟩⟩ | exact thn_n ⟨_, (by omega), k + 1, _, _, _, _, rfl, rfl, ((hACr15.eq 3).trans ((congrFun hF43 3).trans ((hACr14.eq 3).trans ((congrFun hF20 3).trans ((hAL1.eq 3).trans ((congrFun hF13 3).trans e3_L0)))))), ((hACr15.eq 4).trans ((congrFun hF43 4).trans ((hACr14.eq 4).trans ((congrFun hF20 4).trans ((hAL1.eq 4).trans ((congrFun hF13 4).trans e4_L0)))))), (by repeat (first | exact hAL0 | refine Agree.put ?_ rfl | refine Agree.sub hACr15 rfl ?_ | refine Agree.sub hACr14 rfl ?_ | refine Agree.sub hAL1 rfl ?_ | refine Agree.named hF43 ?_ | refine Agree.named hF20 ?_ | refine Agree.named hF13 ?_ | refine Agree.named hF9 ?_)), (Ext.trans (Ext.trans (Ext.trans (Ext.trans (Ext.trans (Ext.trans (Ext.trans hwL0 hwL1) hwCr14) hwCr15) (Ext.drew _)) (Ext.drew _)) hx84) hx87), ⟨by omega, oF9, ho9, hof, by omega, hok⟩⟩
                        · have gh82 := (of_decide_eq_false h82)
                          have hsame := gh82
                          have oF9 := oF.ext (Ext.trans (Ext.trans (Ext.trans (Ext.trans hwL1 hwCr14) hwCr15) (Ext.drew _)) (Ext.drew _))
                          have ho9 := own_ext ho (Ext.trans (Ext.trans (Ext.trans (Ext.trans hwL1 hwCr14) hwCr15) (Ext.drew _)) (Ext.drew _))
                          refine WO.qp rfl rfl rfl rfl (congrArg some h82) ?_
                          refine WO.qp rfl rfl rfl rfl (congrArg some h82) ?_
                          refine WO.qp rfl rfl rfl rfl (congrArg some h82) ?_
                          refine WO.l ?_
                          refine LO.pass rfl (Ext.drew _) rfl rfl rfl (congrArg some h82) ?_
                          refine WO.qp rfl rfl rfl rfl (congrArg some h82) ?_
                          refine WO.l ?_
                          refine LO.pass rfl (Ext.drew _) rfl rfl rfl (congrArg some h82) ?_
                          refine WO.qp rfl rfl rfl rfl (congrArg some h82) ?_
                          refine WO.qg rfl rfl (congrArg some h81) rfl rfl (fun w' hE74 => (X.pickF rfl h82 rfl)) ?_
                          refine WO.q rfl rfl rfl rfl (fun w' hE74 => (X.pickF rfl h81 rfl)) ?_
                          refine WO.nil ?_
                          refine WL.nil ?_
                          refine thn_n ?_
                          refine WF.cond_f rfl ?_
                          refine WF.skip ?_
                          refine blk_n ?_
                          refine thn_n ?_
                          refine WF.region ?_
                          refine WL.va rfl rfl rfl (X.moveI ((hACr15.eq 5).trans ((congrFun hF43 5).trans ((hACr14.eq 5).trans ((congrFun hF20 5).trans ((hAL1.eq 5).trans ((congrFun hF13 5).trans e5_L0))))))) ?_
                          refine WL.va rfl rfl rfl (X.add rfl rfl (w64 (by omega))) ?_
                          refine WL.va rfl rfl rfl (X.assignI rfl) ?_
                          refine WL.nil ?_
                          first | exact thn_n ⟨_, (by omega), k + 1, _, _, _, _, rfl, rfl, ((hACr15.eq 3).trans ((congrFun hF43 3).trans ((hACr14.eq 3).trans ((congrFun hF20 3).trans ((hAL1.eq 3).trans ((congrFun hF13 3).trans e3_L0)))))), ((hACr15.eq 4).trans ((congrFun hF43 4).trans ((hACr14.eq 4).trans ((congrFun hF20 4).trans ((hAL1.eq 4).trans ((congrFun hF13 4).trans e4_L0)))))), (by repeat (first | exact hAL0 | refine Agree.put ?_ rfl | refine Agree.sub hACr15 rfl ?_ | refine Agree.sub hACr14 rfl ?_ | refine Agree.sub hAL1 rfl ?_ | refine Agree.named hF43 ?_ | refine Agree.named hF20 ?_ | refine Agree.named hF13 ?_ | refine Agree.named hF9 ?_)), (Ext.trans (Ext.trans (Ext.trans (Ext.trans (Ext.trans hwL0 hwL1) hwCr14) hwCr15) (Ext.drew _)) (Ext.drew _)), ⟨by omega, oG2.mono hszn, ho2, hoff3, by simp; omega, by rw [hFn]; exact hok.step _ _⟩⟩ | exact thn_n ⟨_, (by omega), k + 1, _, _, _, _, rfl, rfl, ((hACr15.eq 3).trans ((congrFun hF43 3).trans ((hACr14.eq 3).trans ((congrFun hF20 3).trans ((hAL1.eq 3).trans ((congrFun hF13 3).trans e3_L0)))))), ((hACr15.eq 4).trans ((congrFun hF43 4).trans ((hACr14.eq 4).trans ((congrFun hF20 4).trans ((hAL1.eq 4).trans ((congrFun hF13 4).trans e4_L0)))))), (by repeat (first | exact hAL0 | refine Agree.put ?_ rfl | refine Agree.sub hACr15 rfl ?_ | refine Agree.sub hACr14 rfl ?_ | refine Agree.sub hAL1 rfl ?_ | refine Agree.named hF43 ?_ | refine Agree.named hF20 ?_ | refine Agree.named hF13 ?_ | refine Agree.named hF9 ?_)), (Ext.trans (Ext.trans (Ext.trans (Ext.trans (Ext.trans hwL0 hwL1) hwCr14) hwCr15) (Ext.drew _)) (Ext.drew _)), ⟨by omega, oF9, ho9, hof, by omega, hok⟩⟩
      · have gh1_10 := (of_decide_eq_false h1_10)
        refine WF.exit ?_
        refine thn_x ?_
        refine thn_x ?_
        refine blk_eq ?_
        refine thn_n ?_
        refine WF.seq ?_
        refine WF.seq ?_
        refine WF.region ?_
        refine WL.va rfl rfl rfl (X.assignI rfl) ?_
        refine WL.nil ?_
        refine thn_n ?_
        refine WF.block ?_
        refine WF.named (fun F92 hF93 => ?_)
        refine WF.loopN (fun mL2 f' w' => ∃ (i : Nat), mL2 = F.length - i ∧ f' 12 = .int .i64 (i : Int) ∧ Agree [0, 3, 4, 5, 13, 14, 15, 17, 18, 19, 20] f' F92 ∧ Ext wL0 w' ∧ i ≤ F.length) ?_ ?_
        · exact ⟨_, 0, rfl, (congrFun hF93 12), (Agree.refl _ _), (Ext.refl _), (Nat.zero_le _)⟩
        · rintro mL2 fL2 wL2 ⟨i, hmL2, e12_L2, hAL2, hwL2, hi0⟩
          refine WF.seq ?_
          refine WF.seq ?_
          refine WF.region ?_
          refine WL.va rfl rfl rfl (X.moveI e12_L2) ?_
          refine WL.va rfl rfl rfl (X.move ((hAL2.eq 3).trans ((congrFun hF93 3).trans e3_L0))) ?_
          refine WL.va rfl rfl rfl (X.len oF.srow rfl Try.underlying22) ?_
          refine WL.va rfl rfl rfl (X.lss rfl rfl) ?_
          refine WL.nil ?_
          refine thn_n ?_
          refine WF.cond rfl (fun h7_94 => ?_) (fun h7_94 => ?_)
          · have gh7_94 := (of_decide_eq_true h7_94)
            have hi : i < F.length := by omega
            refine WF.skip ?_
            refine thn_n ?_
            refine WF.seq ?_
            refine WF.block ?_
            refine WF.seq ?_
            refine WF.drawn (.q 0 (.q 1 (.q 2 (.q 3 (.q 4 (.q 5 (.q 6 (.q 7 (.q 8 (.q 9 (.q 10 (.q 11 (.q 12 (.q 13 (.q 14 (.q 15 (.q 16 (.q 17 (.q 18 (.q 19 (.q 20 (.q 21 (.q 22 (.q 23 .nil)))))))))))))))))))))))) (fun w' => Ext wL2 w') 24 (by kernel_rfl) (by kernel_rfl) (Ext.drew _) ?_
            refine WO.q rfl rfl rfl rfl (fun w' hE96 => (X.move ((hAL2.eq 3).trans ((congrFun hF93 3).trans e3_L0)))) ?_
            refine WO.q rfl rfl rfl rfl (fun w' hE96 => (X.moveI e12_L2)) ?_
            refine WO.q rfl rfl rfl rfl (fun w' hE96 => (X.idx oF.srow rfl rfl (by omega) Try.underlying22 Try.sizeOf45)) ?_
            refine WO.q rfl rfl rfl rfl (fun w' hE96 => (X.fieldAddrA rfl Try.underlying45 rfl rfl Try.sizeOf3)) ?_
            refine WO.q rfl rfl rfl rfl (fun w' hE96 => (X.loadE oF.srow (Ext.trans hwL2 hE96) rfl (by omega) ((SRow.get hi (by decide)).trans rfl) Try.isAgg3)) ?_
            refine WO.q rfl rfl rfl rfl (fun w' hE96 => (X.eql rfl rfl)) ?_
            refine WO.q rfl rfl rfl rfl (fun w' hE96 => (X.moveB rfl)) ?_
            refine WO.split (j := 6) rfl (fun h98 => ?_) (fun h98 => ?_)
            · have gh98 := (of_decide_eq_true h98)
              exact absurd gh98 (hok.nz _ (List.mem_map.2 ⟨_, List.getElem_mem hi, rfl⟩))
            · have gh98 := (of_decide_eq_false h98)
              refine WO.qg rfl rfl (congrArg some h98) rfl rfl (fun w' hE96 => (X.moveI e12_L2)) ?_
              refine WO.qg rfl rfl (congrArg some h98) rfl rfl (fun w' hE96 => (X.gtr rfl rfl)) ?_
              refine WO.qg rfl rfl (congrArg some h98) rfl rfl (fun w' hE96 => (X.moveB rfl)) ?_
              refine WO.split (j := 9) rfl (fun h100 => ?_) (fun h100 => ?_)
              · have gh100 := (of_decide_eq_true h100)
                have hi0 := gh100
                have hi1 : i - 1 < F.length := by omega
                refine WO.qg rfl rfl (congrArg some h100) rfl rfl (fun w' hE96 => (X.move ((hAL2.eq 3).trans ((congrFun hF93 3).trans e3_L0)))) ?_
                refine WO.qg rfl rfl (congrArg some h100) rfl rfl (fun w' hE96 => (X.moveI e12_L2)) ?_
                refine WO.qg rfl rfl (congrArg some h100) rfl rfl (fun w' hE96 => (X.idx oF.srow rfl rfl (by omega) Try.underlying22 Try.sizeOf45)) ?_
                refine WO.qg rfl rfl (congrArg some h100) rfl rfl (fun w' hE96 => (X.fieldAddrA rfl Try.underlying45 rfl rfl Try.sizeOf3)) ?_
                refine WO.qg rfl rfl (congrArg some h100) rfl rfl (fun w' hE96 => (X.loadE oF.srow (Ext.trans hwL2 hE96) rfl (by omega) ((SRow.get hi (by decide)).trans rfl) Try.isAgg3)) ?_
                refine WO.qg rfl rfl (congrArg some h100) rfl rfl (fun w' hE96 => (X.move ((hAL2.eq 3).trans ((congrFun hF93 3).trans e3_L0)))) ?_
                refine WO.qg rfl rfl (congrArg some h100) rfl rfl (fun w' hE96 => (X.moveI e12_L2)) ?_
                refine WO.qg rfl rfl (congrArg some h100) rfl rfl (fun w' hE96 => (X.sub rfl rfl (show _ = ((i - 1 : Nat) : Int) from by rw [w64 (by omega)]; omega))) ?_
                refine WO.qg rfl rfl (congrArg some h100) rfl rfl (fun w' hE96 => (X.idx oF.srow rfl rfl (by omega) Try.underlying22 Try.sizeOf45)) ?_
                refine WO.qg rfl rfl (congrArg some h100) rfl rfl (fun w' hE96 => (X.fieldAddrA rfl Try.underlying45 rfl rfl Try.sizeOf3)) ?_
                refine WO.qg rfl rfl (congrArg some h100) rfl rfl (fun w' hE96 => (X.loadE oF.srow (Ext.trans hwL2 hE96) rfl (by omega) ((SRow.get hi1 (by decide)).trans rfl) Try.isAgg3)) ?_
                refine WO.qg rfl rfl (congrArg some h100) rfl rfl (fun w' hE96 => (X.leq rfl rfl)) ?_
                refine WO.qg rfl rfl (congrArg some h98) rfl rfl (fun w' hE96 => (X.pickT rfl h100 rfl)) ?_
                refine WO.q rfl rfl rfl rfl (fun w' hE96 => (X.pickF rfl h98 rfl)) ?_
                refine WO.nil ?_
                refine WL.nil ?_
                refine thn_n ?_
                refine WF.cond rfl (fun h8_101 => ?_) (fun h8_101 => ?_)
                · have gh8_101 := (of_decide_eq_true h8_101)
                  have := List.pairwise_iff_getElem.1 hok.sort (i - 1) i (by rw [List.length_map]; omega) (by rw [List.length_map]; omega) (by omega); simp only [List.getElem_map] at this; omega
                · have gh8_101 := (of_decide_eq_false h8_101)
                  refine WF.skip ?_
                  refine blk_n ?_
                  refine thn_n ?_
                  refine WF.region ?_
                  refine WL.va rfl rfl rfl (X.moveI e12_L2) ?_
                  refine WL.va rfl rfl rfl (X.add rfl rfl (w64 (by omega))) ?_
                  refine WL.va rfl rfl rfl (X.assignI rfl) ?_
                  refine WL.nil ?_
                  exact thn_n ⟨_, (by omega), i + 1, rfl, rfl, (by repeat (first | exact hAL2 | refine Agree.put ?_ rfl | refine Agree.sub hAL0 rfl ?_ | refine Agree.named hF93 ?_ | refine Agree.named hF9 ?_)), (Ext.trans hwL2 (Ext.drew _)), (by omega)⟩
              · have gh100 := (of_decide_eq_false h100)
                refine WO.qp rfl rfl rfl rfl (congrArg some h100) ?_
                refine WO.qp rfl rfl rfl rfl (congrArg some h100) ?_
                refine WO.qp rfl rfl rfl rfl (congrArg some h100) ?_
                refine WO.qp rfl rfl rfl rfl (congrArg some h100) ?_
                refine WO.qp rfl rfl rfl rfl (congrArg some h100) ?_
                refine WO.qp rfl rfl rfl rfl (congrArg some h100) ?_
                refine WO.qp rfl rfl rfl rfl (congrArg some h100) ?_
                refine WO.qp rfl rfl rfl rfl (congrArg some h100) ?_
                refine WO.qp rfl rfl rfl rfl (congrArg some h100) ?_
                refine WO.qp rfl rfl rfl rfl (congrArg some h100) ?_
                refine WO.qp rfl rfl rfl rfl (congrArg some h100) ?_
                refine WO.qp rfl rfl rfl rfl (congrArg some h100) ?_
                refine WO.qg rfl rfl (congrArg some h98) rfl rfl (fun w' hE96 => (X.pickF rfl h100 rfl)) ?_
                refine WO.q rfl rfl rfl rfl (fun w' hE96 => (X.pickF rfl h98 rfl)) ?_
                refine WO.nil ?_
                refine WL.nil ?_
                refine thn_n ?_
                refine WF.cond_f rfl ?_
                refine WF.skip ?_
                refine blk_n ?_
                refine thn_n ?_
                refine WF.region ?_
                refine WL.va rfl rfl rfl (X.moveI e12_L2) ?_
                refine WL.va rfl rfl rfl (X.add rfl rfl (w64 (by omega))) ?_
                refine WL.va rfl rfl rfl (X.assignI rfl) ?_
                refine WL.nil ?_
                exact thn_n ⟨_, (by omega), i + 1, rfl, rfl, (by repeat (first | exact hAL2 | refine Agree.put ?_ rfl | refine Agree.sub hAL0 rfl ?_ | refine Agree.named hF93 ?_ | refine Agree.named hF9 ?_)), (Ext.trans hwL2 (Ext.drew _)), (by omega)⟩
          · have gh7_94 := (of_decide_eq_false h7_94)
            refine WF.exit ?_
            refine thn_x ?_
            refine thn_x ?_
            refine blk_eq ?_
            refine thn_n ?_
            refine WF.seq ?_
            refine WF.region ?_
            refine WL.c rfl rfl rfl (X.call Try.call9 evl_nil) (works_ok _) ?_
            rintro v105 w104 ⟨rfl, hx106⟩
            refine WL.va rfl rfl rfl (X.assignB rfl) ?_
            refine WL.nil ?_
            refine thn_n ?_
            refine WF.ret ?_
            refine fin_r ?_
            exact ⟨rfl, (Ext.trans (Ext.trans hwL0 hwL2) hx106)⟩

end Go.Proofs.Ythcjifccfpoekaa
