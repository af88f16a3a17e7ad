/- The walk of SessionKnown. -/
import Derived.Test.YthcjifccfpoekaaTopQ
namespace Go.Proofs.Ythcjifccfpoekaa
open Go Go.RowKit Kf

set_option maxHeartbeats 4000000 in
theorem sessionKnown_walk (w : World) : FnOk Try.prog 7 [] w (fun r w' => r = .bool true ∧ Ext w w') := by
  have hnl : nums.length = 10 := rfl
  refine FnOk.enter (rs := [0]) Try.func7 rfl Try.ntmps7 Try.results7 rfl rfl ?_
  refine WF.seq ?_
  refine WF.region ?_
  refine WL.va rfl rfl rfl (X.assignB rfl) ?_
  refine WL.nil ?_
  refine thn_n ?_
  refine WF.seq ?_
  refine WF.region ?_
  refine WL.op rfl (OW.lits (vs := [_, _, _, _, _, _, _, _, _, _]) (evp_cons rfl (evp_cons rfl (evp_cons rfl (evp_cons rfl (evp_cons rfl (evp_cons rfl (evp_cons rfl (evp_cons rfl (evp_cons rfl (evp_cons rfl evp_nil)))))))))) Try.underlying48 Try.sizeOf3 Try.zeroValue3 ⟨rfl, rfl, rfl, rfl, rfl, rfl, rfl, rfl, rfl, rfl, trivial⟩ rfl rfl rfl ?_ (by decide))
  intro v3 w2 ho5 hx4
  refine WL.va rfl rfl rfl (X.assign rfl) ?_
  refine WL.nil ?_
  refine thn_n ?_
  refine WF.seq ?_
  refine WF.region ?_
  refine WL.va rfl rfl rfl (X.buildL (P := Try.prog) (t := 45) (cs := (SV.c (⟨1, 7, 0, []⟩, nilS))) (evp_cons rfl (evp_cons rfl evp_nil)) Try.type45 Try.underlying45 rfl rfl ⟨rfl, rfl, trivial⟩ rfl) ?_
  refine WL.op rfl (OW.lits (vs := [u8 1]) (evp_cons rfl evp_nil) Try.underlying27 Try.sizeOf5 Try.zeroValue5 ⟨rfl, trivial⟩ rfl rfl rfl ?_ (by decide))
  intro vb1 wb1 ho7 hx6
  have ob1 := ho7
  have bb1 : Bytes wb1 vb1 [1] := Row.of_own ho7
  refine WL.va rfl rfl rfl (X.buildL (P := Try.prog) (t := 29) (cs := [i64 24, vb1]) (evp_cons rfl (evp_cons rfl evp_nil)) Try.type29 Try.underlying29 rfl rfl ⟨rfl, own_one ob1, trivial⟩ rfl) ?_
  refine WL.va rfl rfl rfl (X.buildF (P := Try.prog) (t := 45) (cs := (SV.c (⟨2, 5, 24, [1]⟩, vb1))) (evp_cons rfl (evp_cons rfl (evp_cons rfl evp_nil))) Try.type45 Try.underlying45 rfl rfl rfl) ?_
  refine WL.op rfl (OW.lits (vs := [agg (SV.c (⟨1, 7, 0, []⟩, nilS)), agg (SV.c (⟨2, 5, 24, [1]⟩, vb1))]) (evp_cons rfl (evp_cons rfl evp_nil)) Try.underlying22 Try.sizeOf45 Try.zeroValue45 ⟨rfl, rfl, trivial⟩ rfl rfl rfl ?_ (by decide))
  intro v11 wa ho9 hx8
  have o11 : World.ownsRow wa _ 45 4 v11 2 (([(⟨1, 7, 0, []⟩, nilS), (⟨2, 5, 24, [1]⟩, vb1)] : List SV).flatMap SV.c) := ho9
  have s11 : Sess wa v11 [⟨1, 7, 0, []⟩, ⟨2, 5, 24, [1]⟩] := ⟨[(⟨1, 7, 0, []⟩, nilS), (⟨2, 5, 24, [1]⟩, vb1)], rfl, Row.of_own o11, by intro e he; simp at he; rcases he with rfl | rfl; exact Bytes.nil _; exact Row.ext bb1 hx8⟩
  refine WL.va rfl rfl rfl (X.buildL (P := Try.prog) (t := 45) (cs := (SV.c (⟨3, 1, 0, []⟩, nilS))) (evp_cons rfl (evp_cons rfl evp_nil)) Try.type45 Try.underlying45 rfl rfl ⟨rfl, rfl, trivial⟩ rfl) ?_
  refine WL.va rfl rfl rfl (X.buildL (P := Try.prog) (t := 45) (cs := (SV.c (⟨1, 2, 0, []⟩, nilS))) (evp_cons rfl (evp_cons rfl evp_nil)) Try.type45 Try.underlying45 rfl rfl ⟨rfl, rfl, trivial⟩ rfl) ?_
  refine WL.va rfl rfl rfl (X.buildL (P := Try.prog) (t := 45) (cs := (SV.c (⟨3, 9, 0, []⟩, nilS))) (evp_cons rfl (evp_cons rfl evp_nil)) Try.type45 Try.underlying45 rfl rfl ⟨rfl, rfl, trivial⟩ rfl) ?_
  refine WL.va rfl rfl rfl (X.buildL (P := Try.prog) (t := 45) (cs := (SV.c (⟨0, 4, 0, []⟩, nilS))) (evp_cons rfl (evp_cons rfl evp_nil)) Try.type45 Try.underlying45 rfl rfl ⟨rfl, rfl, trivial⟩ rfl) ?_
  refine WL.op rfl (OW.lits (vs := [agg (SV.c (⟨3, 1, 0, []⟩, nilS)), agg (SV.c (⟨1, 2, 0, []⟩, nilS)), agg (SV.c (⟨3, 9, 0, []⟩, nilS)), agg (SV.c (⟨0, 4, 0, []⟩, nilS))]) (evp_cons rfl (evp_cons rfl (evp_cons rfl (evp_cons rfl evp_nil)))) Try.underlying22 Try.sizeOf45 Try.zeroValue45 ⟨rfl, rfl, rfl, rfl, trivial⟩ rfl rfl rfl ?_ (by decide))
  intro v16 wb ho11 hx10
  have o16 : World.ownsRow wb _ 45 4 v16 4 (([(⟨3, 1, 0, []⟩, nilS), (⟨1, 2, 0, []⟩, nilS), (⟨3, 9, 0, []⟩, nilS), (⟨0, 4, 0, []⟩, nilS)] : List SV).flatMap SV.c) := ho11
  have s16 : Sess wb v16 [⟨3, 1, 0, []⟩, ⟨1, 2, 0, []⟩, ⟨3, 9, 0, []⟩, ⟨0, 4, 0, []⟩] := ⟨[(⟨3, 1, 0, []⟩, nilS), (⟨1, 2, 0, []⟩, nilS), (⟨3, 9, 0, []⟩, nilS), (⟨0, 4, 0, []⟩, nilS)], rfl, Row.of_own o16, by intro e he; simp at he; rcases he with rfl | rfl | rfl | rfl <;> exact Bytes.nil _⟩
  refine WL.op rfl (OW.lits (vs := [nilS, v11, v16]) (evp_cons rfl (evp_cons rfl (evp_cons rfl evp_nil))) Try.underlying49 Try.sizeOf22 Try.zeroValue22 ⟨rfl, own_sz o11, own_sz o16, trivial⟩ rfl rfl rfl ?_ (by decide))
  intro v21 wv ho13 hx12
  have hfl := flat_ones (vs := [nilS, v11, v16]) (by intro u hu; simp only [List.mem_cons, List.not_mem_nil, or_false] at hu; rcases hu with e | e | e <;> rw [e] <;> first | rfl | exact own_one o11 | exact own_one o16)
  rw [hfl] at ho13
  have hrv0 : Row wv v21 3 1 [nilS, v11, v16] := Row.of_own ho13
  have hvs0 : ∀ j, j < 3 → ∃ l, Sess wv (([nilS, v11, v16] : List Value).getD j undef) l := by
    intro j hj
    match j, hj with
    | 0, _ => exact ⟨[], Sess.nil _⟩
    | 1, _ => exact ⟨_, s11.ext (Ext.trans hx10 hx12)⟩
    | 2, _ => exact ⟨_, s16.ext hx12⟩
  obtain ⟨cs3, hrv, hvs⟩ : ∃ c3, Row wv v21 3 1 c3 ∧ ∀ j, j < 3 → ∃ l, Sess wv (c3.getD j undef) l := ⟨_, hrv0, hvs0⟩
  refine WL.va rfl rfl rfl (X.assign rfl) ?_
  refine WL.nil ?_
  refine thn_n ?_
  refine WF.seq ?_
  refine WF.seq ?_
  refine WF.region ?_
  refine WL.va rfl rfl rfl (X.assignI rfl) ?_
  refine WL.nil ?_
  refine thn_n ?_
  refine WF.block ?_
  refine WF.named (fun F14 hF15 => ?_)
  refine WF.loopN (fun mL0 f' w' => ∃ (i : Nat), mL0 = 3 - i ∧ f' 3 = .int .i64 (i : Int) ∧ Agree [1, 2, 6, 7, 8, 9, 10, 11, 12, 13, 14, 15, 16, 17] f' F14 ∧ Ext wv w' ∧ i ≤ 3) ?_ ?_
  · exact ⟨_, 0, rfl, (congrFun hF15 3), (Agree.refl _ _), (Ext.refl _), (Nat.zero_le _)⟩
  · rintro mL0 fL0 wL0 ⟨i, hmL0, e3_L0, hAL0, hwL0, hi0⟩
    refine WF.seq ?_
    refine WF.seq ?_
    refine WF.region ?_
    refine WL.va rfl rfl rfl (X.moveI e3_L0) ?_
    refine WL.va rfl rfl rfl (X.move ((hAL0.eq 2).trans (congrFun hF15 2))) ?_
    refine WL.va rfl rfl rfl (X.len hrv rfl Try.underlying49) ?_
    refine WL.va rfl rfl rfl (X.lss rfl rfl) ?_
    refine WL.nil ?_
    refine thn_n ?_
    refine WF.cond rfl (fun h0_16 => ?_) (fun h0_16 => ?_)
    · have gh0_16 := (of_decide_eq_true h0_16)
      have hi3 : i < 3 := by omega
      obtain ⟨l, hli⟩ := hvs i hi3
      refine WF.skip ?_
      refine thn_n ?_
      refine WF.seq ?_
      refine WF.block ?_
      refine WF.seq ?_
      refine WF.region ?_
      refine WL.va rfl rfl rfl (X.assignI rfl) ?_
      refine WL.nil ?_
      refine thn_n ?_
      refine WF.block ?_
      refine WF.named (fun F18 hF19 => ?_)
      refine WF.loopN (fun mL1 f' w' => ∃ (k : Nat), mL1 = nums.length - k ∧ f' 4 = .int .i64 (k : Int) ∧ Agree [1, 2, 3, 6, 7, 8, 9, 10, 11, 12, 13, 14, 15, 16, 17, 18, 19, 20, 21] f' F18 ∧ Ext wv w' ∧ k ≤ nums.length) ?_ ?_
      · exact ⟨_, 0, rfl, (congrFun hF19 4), (Agree.refl _ _), hwL0, (Nat.zero_le _)⟩
      · rintro mL1 fL1 wL1 ⟨k, hmL1, e4_L1, hAL1, hwL1, hk0⟩
        refine WF.seq ?_
        refine WF.seq ?_
        refine WF.region ?_
        refine WL.va rfl rfl rfl (X.moveI e4_L1) ?_
        refine WL.va rfl rfl rfl (X.move ((hAL1.eq 1).trans ((congrFun hF19 1).trans ((hAL0.eq 1).trans (congrFun hF15 1))))) ?_
        refine WL.va rfl rfl rfl (X.len (show Ints _ _ nums from Row.of_own ho5) rfl Try.underlying48) ?_
        refine WL.va rfl rfl rfl (X.lss rfl rfl) ?_
        refine WL.nil ?_
        refine thn_n ?_
        refine WF.cond rfl (fun h1_20 => ?_) (fun h1_20 => ?_)
        · have gh1_20 := (of_decide_eq_true h1_20)
          have hkl : k < nums.length := by omega
          refine WF.skip ?_
          refine thn_n ?_
          refine WF.seq ?_
          refine WF.block ?_
          refine WF.seq ?_
          refine WF.region ?_
          refine WL.va rfl rfl rfl (X.assignI rfl) ?_
          refine WL.nil ?_
          refine thn_n ?_
          refine WF.block ?_
          refine WF.named (fun F22 hF23 => ?_)
          refine WF.loopN (fun mL2 f' w' => ∃ (j : Nat), mL2 = nums.length - j ∧ f' 5 = .int .i64 (j : Int) ∧ Agree [1, 2, 3, 4, 6, 7, 8, 9, 10, 11, 12, 13, 14, 15, 16, 17, 18, 19, 20, 21, 24, 25, 26, 27] f' F22 ∧ Ext wv w' ∧ j ≤ nums.length) ?_ ?_
          · exact ⟨_, 0, rfl, (congrFun hF23 5), (Agree.refl _ _), hwL1, (Nat.zero_le _)⟩
          · rintro mL2 fL2 wL2 ⟨j, hmL2, e5_L2, hAL2, hwL2, hj0⟩
            refine WF.seq ?_
            refine WF.seq ?_
            refine WF.region ?_
            refine WL.va rfl rfl rfl (X.moveI e5_L2) ?_
            refine WL.va rfl rfl rfl (X.move ((hAL2.eq 1).trans ((congrFun hF23 1).trans ((hAL1.eq 1).trans ((congrFun hF19 1).trans ((hAL0.eq 1).trans (congrFun hF15 1))))))) ?_
            refine WL.va rfl rfl rfl (X.len (show Ints _ _ nums from Row.of_own ho5) rfl Try.underlying48) ?_
            refine WL.va rfl rfl rfl (X.lss rfl rfl) ?_
            refine WL.nil ?_
            refine thn_n ?_
            refine WF.cond rfl (fun h2_24 => ?_) (fun h2_24 => ?_)
            · have gh2_24 := (of_decide_eq_true h2_24)
              have hjl : j < nums.length := by omega
              refine WF.skip ?_
              refine thn_n ?_
              refine WF.seq ?_
              refine WF.block ?_
              refine WF.seq ?_
              refine WF.drawn (.q 0 (.q 1 (.q 2 (.q 3 (.q 4 (.q 5 (.q 6 (.q 7 (.q 8 (.q 9 (.q 10 (.q 11 (.l 12 (.q 13 (.q 14 (.q 15 (.q 16 (.q 17 (.q 18 (.q 19 (.q 20 (.q 21 (.q 22 (.q 23 (.q 24 (.q 25 (.q 26 (.l 27 (.q 28 (.l 29 (.q 30 (.q 31 (.q 32 (.q 33 (.q 34 (.q 35 (.q 36 (.q 37 (.q 38 (.q 39 (.q 40 (.q 41 (.q 42 (.q 43 (.q 44 (.q 45 (.q 46 (.q 47 (.q 48 (.q 49 (.q 50 (.q 51 (.q 52 (.q 53 (.l 54 (.q 55 (.q 56 .nil))))))))))))))))))))))))))))))))))))))))))))))))))))))))) (fun w' => Ext wL2 w') 57 (by kernel_rfl) (by kernel_rfl) (Ext.drew _) ?_
              refine WO.q rfl rfl rfl rfl (fun w' hE26 => (X.move ((hAL2.eq 2).trans ((congrFun hF23 2).trans ((hAL1.eq 2).trans ((congrFun hF19 2).trans ((hAL0.eq 2).trans (congrFun hF15 2)))))))) ?_
              refine WO.q rfl rfl rfl rfl (fun w' hE26 => (X.moveI ((hAL2.eq 3).trans ((congrFun hF23 3).trans ((hAL1.eq 3).trans ((congrFun hF19 3).trans e3_L0)))))) ?_
              refine WO.q rfl rfl rfl rfl (fun w' hE26 => (X.idx hrv rfl rfl (by omega) Try.underlying49 Try.sizeOf22)) ?_
              refine WO.q rfl rfl rfl rfl (fun w' hE26 => (X.load1 hrv (Ext.trans hwL2 hE26) rfl (by omega) Try.isAgg22)) ?_
              refine WO.q rfl rfl rfl rfl (fun w' hE26 => (X.move ((hAL2.eq 1).trans ((congrFun hF23 1).trans ((hAL1.eq 1).trans ((congrFun hF19 1).trans ((hAL0.eq 1).trans (congrFun hF15 1)))))))) ?_
              refine WO.q rfl rfl rfl rfl (fun w' hE26 => (X.moveI ((hAL2.eq 4).trans ((congrFun hF23 4).trans e4_L1)))) ?_
              refine WO.q rfl rfl rfl rfl (fun w' hE26 => (X.idx (show Ints _ _ nums from Row.of_own ho5) rfl rfl (by omega) Try.underlying48 Try.sizeOf3)) ?_
              refine WO.q rfl rfl rfl rfl (fun w' hE26 => (X.loadI (show Ints _ _ nums from Row.of_own ho5) (Ext.trans (Ext.trans (Ext.trans (Ext.trans (Ext.trans hx6 hx8) hx10) hx12) hwL2) hE26) rfl (by omega) Try.isAgg3)) ?_
              refine WO.q rfl rfl rfl rfl (fun w' hE26 => (X.move ((hAL2.eq 1).trans ((congrFun hF23 1).trans ((hAL1.eq 1).trans ((congrFun hF19 1).trans ((hAL0.eq 1).trans (congrFun hF15 1)))))))) ?_
              refine WO.q rfl rfl rfl rfl (fun w' hE26 => (X.moveI e5_L2)) ?_
              refine WO.q rfl rfl rfl rfl (fun w' hE26 => (X.idx (show Ints _ _ nums from Row.of_own ho5) rfl rfl (by omega) Try.underlying48 Try.sizeOf3)) ?_
              refine WO.q rfl rfl rfl rfl (fun w' hE26 => (X.loadI (show Ints _ _ nums from Row.of_own ho5) (Ext.trans (Ext.trans (Ext.trans (Ext.trans (Ext.trans hx6 hx8) hx10) hx12) hwL2) hE26) rfl (by omega) Try.isAgg3)) ?_
              refine WO.l ?_
              refine LO.go rfl rfl (OW.enter rfl (by decide) (X.call Try.call3 (evl_cons rfl (evl_cons rfl (evl_cons rfl evl_nil)))) (sessionAsks_walk _ l (nums.getD k 0) (nums.getD j 0) _ (hli.ext (Ext.trans hwL2 (Ext.drew _))) (nums_in k) (nums_in j)) ?_)
              rintro v28 w27 ⟨rfl, hx29⟩
              refine ⟨(Ext.trans (Ext.drew _) hx29), ?_⟩
              refine WO.q rfl rfl rfl rfl (fun w' hE26 => (X.not rfl)) ?_
              refine WO.q rfl rfl rfl rfl (fun w' hE26 => (X.moveB rfl)) ?_
              refine WO.qg rfl rfl rfl rfl rfl (fun w' hE26 => (X.move ((hAL2.eq 2).trans ((congrFun hF23 2).trans ((hAL1.eq 2).trans ((congrFun hF19 2).trans ((hAL0.eq 2).trans (congrFun hF15 2)))))))) ?_
              refine WO.qg rfl rfl rfl rfl rfl (fun w' hE26 => (X.moveI ((hAL2.eq 3).trans ((congrFun hF23 3).trans ((hAL1.eq 3).trans ((congrFun hF19 3).trans e3_L0)))))) ?_
              refine WO.qg rfl rfl rfl rfl rfl (fun w' hE26 => (X.idx hrv rfl rfl (by omega) Try.underlying49 Try.sizeOf22)) ?_
              refine WO.qg rfl rfl rfl rfl rfl (fun w' hE26 => (X.load1 hrv (Ext.trans hwL2 hE26) rfl (by omega) Try.isAgg22)) ?_
              refine WO.qg rfl rfl rfl rfl rfl (fun w' hE26 => (X.move ((hAL2.eq 1).trans ((congrFun hF23 1).trans ((hAL1.eq 1).trans ((congrFun hF19 1).trans ((hAL0.eq 1).trans (congrFun hF15 1)))))))) ?_
              refine WO.qg rfl rfl rfl rfl rfl (fun w' hE26 => (X.moveI ((hAL2.eq 4).trans ((congrFun hF23 4).trans e4_L1)))) ?_
              refine WO.qg rfl rfl rfl rfl rfl (fun w' hE26 => (X.idx (show Ints _ _ nums from Row.of_own ho5) rfl rfl (by omega) Try.underlying48 Try.sizeOf3)) ?_
              refine WO.qg rfl rfl rfl rfl rfl (fun w' hE26 => (X.loadI (show Ints _ _ nums from Row.of_own ho5) (Ext.trans (Ext.trans (Ext.trans (Ext.trans (Ext.trans hx6 hx8) hx10) hx12) hwL2) hE26) rfl (by omega) Try.isAgg3)) ?_
              refine WO.qg rfl rfl rfl rfl rfl (fun w' hE26 => (X.move ((hAL2.eq 1).trans ((congrFun hF23 1).trans ((hAL1.eq 1).trans ((congrFun hF19 1).trans ((hAL0.eq 1).trans (congrFun hF15 1)))))))) ?_
              refine WO.qg rfl rfl rfl rfl rfl (fun w' hE26 => (X.moveI e5_L2)) ?_
              refine WO.qg rfl rfl rfl rfl rfl (fun w' hE26 => (X.idx (show Ints _ _ nums from Row.of_own ho5) rfl rfl (by omega) Try.underlying48 Try.sizeOf3)) ?_
              refine WO.qg rfl rfl rfl rfl rfl (fun w' hE26 => (X.loadI (show Ints _ _ nums from Row.of_own ho5) (Ext.trans (Ext.trans (Ext.trans (Ext.trans (Ext.trans hx6 hx8) hx10) hx12) hwL2) hE26) rfl (by omega) Try.isAgg3)) ?_
              refine WO.l ?_
              refine LO.gog rfl rfl rfl (OW.lits (vs := [u8 5]) (evp_cons rfl evp_nil) Try.underlying27 Try.sizeOf5 Try.zeroValue5 ⟨rfl, trivial⟩ rfl rfl rfl ?_ (by decide))
              intro v5 w5 ho33 hx32
              have o5 := ho33
              have b5 : Bytes w5 v5 [5] := Row.of_own ho33
              refine ⟨(Ext.trans (Ext.trans (Ext.drew _) hx29) hx32), ?_⟩
              refine WO.qg rfl rfl rfl rfl rfl (fun w' hE26 => (X.buildL (P := Try.prog) (t := 29) (cs := [i64 3, v5]) (evp_cons rfl (evp_cons rfl evp_nil)) Try.type29 Try.underlying29 rfl rfl ⟨rfl, own_one o5, trivial⟩ rfl)) ?_
              refine WO.l ?_
              refine LO.gog rfl rfl rfl (OW.enter rfl (by decide) (X.call Try.call4 (evl_cons rfl (evl_cons rfl (evl_cons rfl (evl_cons rfl evl_nil))))) (sessionNotes_walk _ l (nums.getD k 0) (nums.getD j 0) 3 v5 [5] _ (hli.ext (Ext.trans (Ext.trans (Ext.trans hwL2 (Ext.drew _)) hx29) hx32)) (nums_in k) (nums_in j) (Row.ext b5 (Ext.refl w5))) ?_)
              rintro v35 w34 ⟨rfl, hx36⟩
              refine ⟨(Ext.trans (Ext.trans (Ext.trans (Ext.drew _) hx29) hx32) hx36), ?_⟩
              refine WO.qg rfl rfl rfl rfl rfl (fun w' hE26 => (X.not rfl)) ?_
              refine WO.q rfl rfl rfl rfl (fun w' hE26 => (X.pickF rfl rfl rfl)) ?_
              refine WO.q rfl rfl rfl rfl (fun w' hE26 => (X.moveB rfl)) ?_
              refine WO.qg rfl rfl rfl rfl rfl (fun w' hE26 => (X.move ((hAL2.eq 2).trans ((congrFun hF23 2).trans ((hAL1.eq 2).trans ((congrFun hF19 2).trans ((hAL0.eq 2).trans (congrFun hF15 2)))))))) ?_
              refine WO.qg rfl rfl rfl rfl rfl (fun w' hE26 => (X.moveI ((hAL2.eq 3).trans ((congrFun hF23 3).trans ((hAL1.eq 3).trans ((congrFun hF19 3).trans e3_L0)))))) ?_
              refine WO.qg rfl rfl rfl rfl rfl (fun w' hE26 => (X.idx hrv rfl rfl (by omega) Try.underlying49 Try.sizeOf22)) ?_
              refine WO.qg rfl rfl rfl rfl rfl (fun w' hE26 => (X.load1 hrv (Ext.trans hwL2 hE26) rfl (by omega) Try.isAgg22)) ?_
              refine WO.qg rfl rfl rfl rfl rfl (fun w' hE26 => (X.move ((hAL2.eq 1).trans ((congrFun hF23 1).trans ((hAL1.eq 1).trans ((congrFun hF19 1).trans ((hAL0.eq 1).trans (congrFun hF15 1)))))))) ?_
              refine WO.qg rfl rfl rfl rfl rfl (fun w' hE26 => (X.moveI ((hAL2.eq 4).trans ((congrFun hF23 4).trans e4_L1)))) ?_
              refine WO.qg rfl rfl rfl rfl rfl (fun w' hE26 => (X.idx (show Ints _ _ nums from Row.of_own ho5) rfl rfl (by omega) Try.underlying48 Try.sizeOf3)) ?_
              refine WO.qg rfl rfl rfl rfl rfl (fun w' hE26 => (X.loadI (show Ints _ _ nums from Row.of_own ho5) (Ext.trans (Ext.trans (Ext.trans (Ext.trans (Ext.trans hx6 hx8) hx10) hx12) hwL2) hE26) rfl (by omega) Try.isAgg3)) ?_
              refine WO.qg rfl rfl rfl rfl rfl (fun w' hE26 => (X.move ((hAL2.eq 1).trans ((congrFun hF23 1).trans ((hAL1.eq 1).trans ((congrFun hF19 1).trans ((hAL0.eq 1).trans (congrFun hF15 1)))))))) ?_
              refine WO.qg rfl rfl rfl rfl rfl (fun w' hE26 => (X.moveI e5_L2)) ?_
              refine WO.qg rfl rfl rfl rfl rfl (fun w' hE26 => (X.idx (show Ints _ _ nums from Row.of_own ho5) rfl rfl (by omega) Try.underlying48 Try.sizeOf3)) ?_
              refine WO.qg rfl rfl rfl rfl rfl (fun w' hE26 => (X.loadI (show Ints _ _ nums from Row.of_own ho5) (Ext.trans (Ext.trans (Ext.trans (Ext.trans (Ext.trans hx6 hx8) hx10) hx12) hwL2) hE26) rfl (by omega) Try.isAgg3)) ?_
              refine WO.qg rfl rfl rfl rfl rfl (fun w' hE26 => (X.buildL (P := Try.prog) (t := 29) (cs := [i64 0, nilS]) evp_nil Try.type29 Try.underlying29 rfl rfl trivial rfl)) ?_
              refine WO.qg rfl rfl rfl rfl rfl (fun w' hE26 => (X.move ((hAL2.eq 1).trans ((congrFun hF23 1).trans ((hAL1.eq 1).trans ((congrFun hF19 1).trans ((hAL0.eq 1).trans (congrFun hF15 1)))))))) ?_
              refine WO.qg rfl rfl rfl rfl rfl (fun w' hE26 => (X.moveI e5_L2)) ?_
              refine WO.qg rfl rfl rfl rfl rfl (fun w' hE26 => (X.idx (show Ints _ _ nums from Row.of_own ho5) rfl rfl (by omega) Try.underlying48 Try.sizeOf3)) ?_
              refine WO.qg rfl rfl rfl rfl rfl (fun w' hE26 => (X.loadI (show Ints _ _ nums from Row.of_own ho5) (Ext.trans (Ext.trans (Ext.trans (Ext.trans (Ext.trans hx6 hx8) hx10) hx12) hwL2) hE26) rfl (by omega) Try.isAgg3)) ?_
              refine WO.qg rfl rfl rfl rfl rfl (fun w' hE26 => (X.move ((hAL2.eq 1).trans ((congrFun hF23 1).trans ((hAL1.eq 1).trans ((congrFun hF19 1).trans ((hAL0.eq 1).trans (congrFun hF15 1)))))))) ?_
              refine WO.qg rfl rfl rfl rfl rfl (fun w' hE26 => (X.moveI ((hAL2.eq 4).trans ((congrFun hF23 4).trans e4_L1)))) ?_
              refine WO.qg rfl rfl rfl rfl rfl (fun w' hE26 => (X.idx (show Ints _ _ nums from Row.of_own ho5) rfl rfl (by omega) Try.underlying48 Try.sizeOf3)) ?_
              refine WO.qg rfl rfl rfl rfl rfl (fun w' hE26 => (X.loadI (show Ints _ _ nums from Row.of_own ho5) (Ext.trans (Ext.trans (Ext.trans (Ext.trans (Ext.trans hx6 hx8) hx10) hx12) hwL2) hE26) rfl (by omega) Try.isAgg3)) ?_
              refine WO.l ?_
              refine LO.gog rfl rfl rfl (OW.enter rfl (by decide) (X.call Try.call6 (evl_cons rfl (evl_cons rfl (evl_cons rfl (evl_cons rfl (evl_cons rfl (evl_cons rfl evl_nil))))))) (sessionApart_walk _ l (nums.getD k 0) (nums.getD j 0) 0 nilS [] (nums.getD j 0) (nums.getD k 0) _ (hli.ext (Ext.trans (Ext.trans (Ext.trans (Ext.trans hwL2 (Ext.drew _)) hx29) hx32) hx36)) (nums_in k) (nums_in j) (Bytes.nil _) (nums_in j) (nums_in k)) ?_)
              rintro v40 w39 ⟨rfl, hx41⟩
              refine ⟨(Ext.trans (Ext.trans (Ext.trans (Ext.trans (Ext.drew _) hx29) hx32) hx36) hx41), ?_⟩
              refine WO.qg rfl rfl rfl rfl rfl (fun w' hE26 => (X.not rfl)) ?_
              refine WO.q rfl rfl rfl rfl (fun w' hE26 => (X.pickF rfl rfl rfl)) ?_
              refine WO.nil ?_
              refine WL.nil ?_
              refine thn_n ?_
              refine WF.cond_f rfl ?_
              refine WF.skip ?_
              refine blk_n ?_
              refine thn_n ?_
              refine WF.region ?_
              refine WL.va rfl rfl rfl (X.moveI e5_L2) ?_
              refine WL.va rfl rfl rfl (X.add rfl rfl (w64 (by omega))) ?_
              refine WL.va rfl rfl rfl (X.assignI rfl) ?_
              refine WL.nil ?_
              exact thn_n ⟨_, (by omega), j + 1, rfl, rfl, (by repeat (first | exact hAL2 | refine Agree.put ?_ rfl | refine Agree.sub hAL1 rfl ?_ | refine Agree.sub hAL0 rfl ?_ | refine Agree.named hF23 ?_ | refine Agree.named hF19 ?_ | refine Agree.named hF15 ?_)), (Ext.trans (Ext.trans (Ext.trans (Ext.trans (Ext.trans hwL2 (Ext.drew _)) hx29) hx32) hx36) hx41), (by omega)⟩
            · have gh2_24 := (of_decide_eq_false h2_24)
              refine WF.exit ?_
              refine thn_x ?_
              refine thn_x ?_
              refine blk_eq ?_
              refine blk_n ?_
              refine thn_n ?_
              refine WF.region ?_
              refine WL.va rfl rfl rfl (X.moveI ((hAL2.eq 4).trans ((congrFun hF23 4).trans e4_L1))) ?_
              refine WL.va rfl rfl rfl (X.add rfl rfl (w64 (by omega))) ?_
              refine WL.va rfl rfl rfl (X.assignI rfl) ?_
              refine WL.nil ?_
              exact thn_n ⟨_, (by omega), k + 1, rfl, rfl, (by repeat (first | exact hAL1 | refine Agree.put ?_ rfl | refine Agree.sub hAL2 rfl ?_ | refine Agree.sub hAL0 rfl ?_ | refine Agree.named hF23 ?_ | refine Agree.named hF19 ?_ | refine Agree.named hF15 ?_)), hwL2, (by omega)⟩
        · have gh1_20 := (of_decide_eq_false h1_20)
          refine WF.exit ?_
          refine thn_x ?_
          refine thn_x ?_
          refine blk_eq ?_
          refine blk_n ?_
          refine thn_n ?_
          refine WF.region ?_
          refine WL.va rfl rfl rfl (X.moveI ((hAL1.eq 3).trans ((congrFun hF19 3).trans e3_L0))) ?_
          refine WL.va rfl rfl rfl (X.add rfl rfl (w64 (by omega))) ?_
          refine WL.va rfl rfl rfl (X.assignI rfl) ?_
          refine WL.nil ?_
          exact thn_n ⟨_, (by omega), i + 1, rfl, rfl, (by repeat (first | exact hAL0 | refine Agree.put ?_ rfl | refine Agree.sub hAL1 rfl ?_ | refine Agree.named hF19 ?_ | refine Agree.named hF15 ?_)), hwL1, (by omega)⟩
    · have gh0_16 := (of_decide_eq_false h0_16)
      refine WF.exit ?_
      refine thn_x ?_
      refine thn_x ?_
      refine blk_eq ?_
      refine thn_n ?_
      refine WF.seq ?_
      refine WF.region ?_
      refine WL.va rfl rfl rfl (X.buildL (P := Try.prog) (t := 42) (cs := (Tr.c (2, 5))) (evp_cons rfl (evp_cons rfl evp_nil)) Try.type42 Try.underlying42 rfl rfl ⟨rfl, rfl, trivial⟩ rfl) ?_
      refine WL.va rfl rfl rfl (X.buildL (P := Try.prog) (t := 42) (cs := (Tr.c (2, 5))) (evp_cons rfl (evp_cons rfl evp_nil)) Try.type42 Try.underlying42 rfl rfl ⟨rfl, rfl, trivial⟩ rfl) ?_
      refine WL.va rfl rfl rfl (X.buildL (P := Try.prog) (t := 42) (cs := (Tr.c (1, 7))) (evp_cons rfl (evp_cons rfl evp_nil)) Try.type42 Try.underlying42 rfl rfl ⟨rfl, rfl, trivial⟩ rfl) ?_
      refine WL.va rfl rfl rfl (X.buildL (P := Try.prog) (t := 42) (cs := (Tr.c (2, 4))) (evp_cons rfl (evp_cons rfl evp_nil)) Try.type42 Try.underlying42 rfl rfl ⟨rfl, rfl, trivial⟩ rfl) ?_
      refine WL.va rfl rfl rfl (X.buildL (P := Try.prog) (t := 42) (cs := (Tr.c (2, 6))) (evp_cons rfl (evp_cons rfl evp_nil)) Try.type42 Try.underlying42 rfl rfl ⟨rfl, rfl, trivial⟩ rfl) ?_
      refine WL.va rfl rfl rfl (X.buildL (P := Try.prog) (t := 42) (cs := (Tr.c (0, 9))) (evp_cons rfl (evp_cons rfl evp_nil)) Try.type42 Try.underlying42 rfl rfl ⟨rfl, rfl, trivial⟩ rfl) ?_
      refine WL.va rfl rfl rfl (X.buildL (P := Try.prog) (t := 42) (cs := (Tr.c (0, 9))) (evp_cons rfl (evp_cons rfl evp_nil)) Try.type42 Try.underlying42 rfl rfl ⟨rfl, rfl, trivial⟩ rfl) ?_
      refine WL.va rfl rfl rfl (X.buildL (P := Try.prog) (t := 42) (cs := (Tr.c (2, 5))) (evp_cons rfl (evp_cons rfl evp_nil)) Try.type42 Try.underlying42 rfl rfl ⟨rfl, rfl, trivial⟩ rfl) ?_
      refine WL.va rfl rfl rfl (X.buildL (P := Try.prog) (t := 42) (cs := (Tr.c (1, 7))) (evp_cons rfl (evp_cons rfl evp_nil)) Try.type42 Try.underlying42 rfl rfl ⟨rfl, rfl, trivial⟩ rfl) ?_
      refine WL.va rfl rfl rfl (X.buildL (P := Try.prog) (t := 42) (cs := (Tr.c (3, -4))) (evp_cons rfl (evp_cons rfl evp_nil)) Try.type42 Try.underlying42 rfl rfl ⟨rfl, rfl, trivial⟩ rfl) ?_
      refine WL.va rfl rfl rfl (X.buildL (P := Try.prog) (t := 42) (cs := (Tr.c (3, -5))) (evp_cons rfl (evp_cons rfl evp_nil)) Try.type42 Try.underlying42 rfl rfl ⟨rfl, rfl, trivial⟩ rfl) ?_
      refine WL.op rfl (OW.lits (vs := [agg (Tr.c (2, 5)), agg (Tr.c (2, 5)), agg (Tr.c (1, 7)), agg (Tr.c (2, 4)), agg (Tr.c (2, 6)), agg (Tr.c (0, 9)), agg (Tr.c (0, 9)), agg (Tr.c (2, 5)), agg (Tr.c (1, 7)), agg (Tr.c (3, -4)), agg (Tr.c (3, -5))]) (evp_cons rfl (evp_cons rfl (evp_cons rfl (evp_cons rfl (evp_cons rfl (evp_cons rfl (evp_cons rfl (evp_cons rfl (evp_cons rfl (evp_cons rfl (evp_cons rfl evp_nil))))))))))) Try.underlying40 Try.sizeOf42 Try.zeroValue42 ⟨rfl, rfl, rfl, rfl, rfl, rfl, rfl, rfl, rfl, rfl, rfl, trivial⟩ rfl rfl rfl ?_ (by decide))
      intro v45 w44 ho47 hx46
      have htr : Trs w44 v45 tries := Row.of_own ho47
      refine WL.c rfl rfl rfl (X.call Try.call5 (evl_cons rfl evl_nil)) (sessionOnce_walk _ tries _ htr) ?_
      rintro v49 w48 ⟨rfl, hx50⟩
      refine WL.va rfl rfl rfl (X.moveB rfl) ?_
      refine WL.cg rfl rfl rfl rfl (X.call Try.call9 evl_nil) (works_ok _) ?_
      rintro v53 w52 ⟨rfl, hx54⟩
      refine WL.va rfl rfl rfl (X.pickT rfl rfl rfl) ?_
      refine WL.va rfl rfl rfl (X.assignB rfl) ?_
      refine WL.nil ?_
      refine thn_n ?_
      refine WF.ret ?_
      refine fin_r ?_
      exact ⟨rfl, (Ext.trans (Ext.trans (Ext.trans (Ext.trans (Ext.trans (Ext.trans (Ext.trans (Ext.trans hx4 hx6) hx8) hx10) hx12) hwL0) hx46) hx50) hx54)⟩

end Go.Proofs.Ythcjifccfpoekaa
