/- The walk of AcceptorKnown. -/
import Derived.Test.YtgbkgkicgaikdaaKn
namespace Go.Proofs.Ytgbkgkicgaikdaa
open Go Go.RowKit Kf

set_option maxHeartbeats 8000000 in
theorem acceptorKnown_walk (w : World) : FnOk Try.prog 6 [] w (fun r w' => r = .bool true ∧ Ext w w') := by
  have hnl : nums.length = 11 := rfl
  refine FnOk.enter (rs := [0]) Try.func6 rfl Try.ntmps6 Try.results6 rfl rfl ?_
  refine WF.seq ?_
  refine WF.region ?_
  refine WL.va rfl rfl rfl (X.assignB rfl) ?_
  refine WL.nil ?_
  refine thn_n ?_
  refine WF.seq ?_
  refine WF.region ?_
  refine WL.op rfl (OW.lits (vs := [_, _, _, _, _, _, _, _, _, _, _]) (evp_cons rfl (evp_cons rfl (evp_cons rfl (evp_cons rfl (evp_cons rfl (evp_cons rfl (evp_cons rfl (evp_cons rfl (evp_cons rfl (evp_cons rfl (evp_cons rfl evp_nil))))))))))) Try.underlying46 Try.sizeOf3 Try.zeroValue3 ⟨rfl, rfl, rfl, rfl, rfl, rfl, rfl, rfl, rfl, rfl, rfl, trivial⟩ rfl rfl rfl ?_ (by decide))
  intro v3 w2 ho5 hx4
  refine WL.va rfl rfl rfl (X.assign rfl) ?_
  refine WL.nil ?_
  refine thn_n ?_
  refine WF.seq ?_
  refine WF.region ?_
  refine WL.va rfl rfl rfl (X.buildL (cs := (Acc.c ⟨1048579, 2, 5, 4, 1⟩)) (evp_cons rfl (evp_cons rfl (evp_cons rfl (evp_cons rfl (evp_cons rfl evp_nil))))) Try.type37 Try.underlying37 rfl rfl ⟨rfl, rfl, rfl, rfl, rfl, trivial⟩ rfl) ?_
  refine WL.op rfl (OW.lits (vs := [agg (Acc.c ⟨1048579, 2, 5, 4, 1⟩)]) (evp_cons rfl evp_nil) Try.underlying22 Try.sizeOf37 Try.zeroValue37 ⟨rfl, trivial⟩ rfl rfl rfl ?_ (by decide))
  intro v11 wa ho7 hx6
  have o11 : OwnV wa _ 37 v11 [⟨1048579, 2, 5, 4, 1⟩] := ho7
  refine WL.va rfl rfl rfl (X.buildL (cs := (Acc.c ⟨1048579, 1, 0, 0, 0⟩)) (evp_cons rfl (evp_cons rfl evp_nil)) Try.type37 Try.underlying37 rfl rfl ⟨rfl, rfl, trivial⟩ rfl) ?_
  refine WL.va rfl rfl rfl (X.buildL (cs := (Acc.c ⟨1048579, 3, 9, 0, 0⟩)) (evp_cons rfl (evp_cons rfl (evp_cons rfl evp_nil))) Try.type37 Try.underlying37 rfl rfl ⟨rfl, rfl, rfl, trivial⟩ rfl) ?_
  refine WL.va rfl rfl rfl (X.buildL (cs := (Acc.c ⟨1048580, 0, 0, 0, 0⟩)) (evp_cons rfl (evp_cons rfl evp_nil)) Try.type37 Try.underlying37 rfl rfl ⟨rfl, rfl, trivial⟩ rfl) ?_
  refine WL.op rfl (OW.lits (vs := [agg (Acc.c ⟨1048579, 1, 0, 0, 0⟩), agg (Acc.c ⟨1048579, 3, 9, 0, 0⟩), agg (Acc.c ⟨1048580, 0, 0, 0, 0⟩)]) (evp_cons rfl (evp_cons rfl (evp_cons rfl evp_nil))) Try.underlying22 Try.sizeOf37 Try.zeroValue37 ⟨rfl, rfl, rfl, trivial⟩ rfl rfl rfl ?_ (by decide))
  intro v15 wb ho9 hx8
  have o15 : OwnV wb _ 37 v15 [⟨1048579, 1, 0, 0, 0⟩, ⟨1048579, 3, 9, 0, 0⟩, ⟨1048580, 0, 0, 0, 0⟩] := ho9
  refine WL.va rfl rfl rfl (X.buildL (cs := (Acc.c ⟨9, 0, 0, 0, 0⟩)) (evp_cons rfl evp_nil) Try.type37 Try.underlying37 rfl rfl ⟨rfl, trivial⟩ rfl) ?_
  refine WL.va rfl rfl rfl (X.buildL (cs := (Acc.c ⟨1048579, 2, 1, 0, 0⟩)) (evp_cons rfl (evp_cons rfl (evp_cons rfl evp_nil))) Try.type37 Try.underlying37 rfl rfl ⟨rfl, rfl, rfl, trivial⟩ rfl) ?_
  refine WL.va rfl rfl rfl (X.buildL (cs := (Acc.c ⟨3, 0, 0, 0, 0⟩)) (evp_cons rfl evp_nil) Try.type37 Try.underlying37 rfl rfl ⟨rfl, trivial⟩ rfl) ?_
  refine WL.va rfl rfl rfl (X.buildL (cs := (Acc.c ⟨1048579, 2, 7, 0, 0⟩)) (evp_cons rfl (evp_cons rfl (evp_cons rfl evp_nil))) Try.type37 Try.underlying37 rfl rfl ⟨rfl, rfl, rfl, trivial⟩ rfl) ?_
  refine WL.op rfl (OW.lits (vs := [agg (Acc.c ⟨9, 0, 0, 0, 0⟩), agg (Acc.c ⟨1048579, 2, 1, 0, 0⟩), agg (Acc.c ⟨3, 0, 0, 0, 0⟩), agg (Acc.c ⟨1048579, 2, 7, 0, 0⟩)]) (evp_cons rfl (evp_cons rfl (evp_cons rfl (evp_cons rfl evp_nil)))) Try.underlying22 Try.sizeOf37 Try.zeroValue37 ⟨rfl, rfl, rfl, rfl, trivial⟩ rfl rfl rfl ?_ (by decide))
  intro v20 wc ho11 hx10
  have o20 : OwnV wc _ 37 v20 [⟨9, 0, 0, 0, 0⟩, ⟨1048579, 2, 1, 0, 0⟩, ⟨3, 0, 0, 0, 0⟩, ⟨1048579, 2, 7, 0, 0⟩] := ho11
  refine WL.op rfl (OW.lits (vs := [.slice none 0 0, v11, v15, v20]) (evp_cons rfl (evp_cons rfl (evp_cons rfl (evp_cons rfl evp_nil)))) Try.underlying44 Try.sizeOf22 Try.zeroValue22 ⟨rfl, own_sz o11, own_sz o15, own_sz o20, trivial⟩ rfl rfl rfl ?_ (by decide))
  intro v21 wv ho13 hx12
  have hfl := flat_ones (vs := [.slice none 0 0, v11, v15, v20]) (by intro u hu; simp only [List.mem_cons, List.not_mem_nil, or_false] at hu; rcases hu with e | e | e | e <;> rw [e] <;> first | rfl | exact own_one o11 | exact own_one o15 | exact own_one o20)
  rw [hfl] at ho13
  have hrv0 : Row wv v21 4 1 [.slice none 0 0, v11, v15, v20] := Row.of_own ho13
  have hvs0 : ∀ j, j < 4 → ∃ l, Votes wv (([.slice none 0 0, v11, v15, v20] : List Value).getD j undef) l := by
    intro j hj
    match j, hj with
    | 0, _ => exact ⟨[], Row.nil _ _⟩
    | 1, _ => exact ⟨_, Row.ext (Row.of_own o11) (Ext.trans (Ext.trans hx8 hx10) hx12)⟩
    | 2, _ => exact ⟨_, Row.ext (Row.of_own o15) (Ext.trans hx10 hx12)⟩
    | 3, _ => exact ⟨_, Row.ext (Row.of_own o20) hx12⟩
  obtain ⟨cs4, hrv, hvs⟩ : ∃ c4, Row wv v21 4 1 c4 ∧ ∀ j, j < 4 → ∃ l, Votes wv (c4.getD j undef) l := ⟨_, hrv0, hvs0⟩
  refine WL.va rfl rfl rfl (X.assign rfl) ?_
  refine WL.nil ?_
  refine thn_n ?_
  refine WF.seq ?_
  refine WF.seq ?_
  refine WF.region ?_
  refine WL.va rfl rfl rfl (X.assignI rfl) ?_
  refine WL.nil ?_
  refine thn_n ?_
  refine WF.block ?_
  refine WF.named (fun F14 hF15 => ?_)
  refine WF.loopN (fun mL0 f' w' => ∃ (i : Nat), mL0 = nums.length - i ∧ f' 3 = .int .i64 (i : Int) ∧ Agree [1, 2, 9, 10, 11, 12, 13, 14, 15, 16, 17, 18, 19, 20, 21] f' F14 ∧ Ext wv w' ∧ i ≤ nums.length) ?_ ?_
  · exact ⟨_, 0, rfl, (congrFun hF15 3), (Agree.refl _ _), (Ext.refl _), (Nat.zero_le _)⟩
  · rintro mL0 fL0 wL0 ⟨i, hmL0, e3_L0, hAL0, hwL0, hi0⟩
    refine WF.seq ?_
    refine WF.seq ?_
    refine WF.region ?_
    refine WL.va rfl rfl rfl (X.moveI e3_L0) ?_
    refine WL.va rfl rfl rfl (X.move ((hAL0.eq 1).trans (congrFun hF15 1))) ?_
    refine WL.va rfl rfl rfl (X.len (show Ints _ _ nums from Row.of_own ho5) rfl Try.underlying46) ?_
    refine WL.va rfl rfl rfl (X.lss rfl rfl) ?_
    refine WL.nil ?_
    refine thn_n ?_
    refine WF.cond rfl (fun h0_16 => ?_) (fun h0_16 => ?_)
    · have gh0_16 := (of_decide_eq_true h0_16)
      have hil : i < nums.length := by omega
      refine WF.skip ?_
      refine thn_n ?_
      refine WF.seq ?_
      refine WF.block ?_
      refine WF.seq ?_
      refine WF.region ?_
      refine WL.va rfl rfl rfl (X.assignI rfl) ?_
      refine WL.nil ?_
      refine thn_n ?_
      refine WF.block ?_
      refine WF.named (fun F18 hF19 => ?_)
      refine WF.loopN (fun mL1 f' w' => ∃ (k : Nat), mL1 = nums.length - k ∧ f' 4 = .int .i64 (k : Int) ∧ Agree [1, 2, 3, 9, 10, 11, 12, 13, 14, 15, 16, 17, 18, 19, 20, 21, 22, 23, 24, 25] f' F18 ∧ Ext wv w' ∧ k ≤ nums.length) ?_ ?_
      · exact ⟨_, 0, rfl, (congrFun hF19 4), (Agree.refl _ _), hwL0, (Nat.zero_le _)⟩
      · rintro mL1 fL1 wL1 ⟨k, hmL1, e4_L1, hAL1, hwL1, hk0⟩
        refine WF.seq ?_
        refine WF.seq ?_
        refine WF.region ?_
        refine WL.va rfl rfl rfl (X.moveI e4_L1) ?_
        refine WL.va rfl rfl rfl (X.move ((hAL1.eq 1).trans ((congrFun hF19 1).trans ((hAL0.eq 1).trans (congrFun hF15 1))))) ?_
        refine WL.va rfl rfl rfl (X.len (show Ints _ _ nums from Row.of_own ho5) rfl Try.underlying46) ?_
        refine WL.va rfl rfl rfl (X.lss rfl rfl) ?_
        refine WL.nil ?_
        refine thn_n ?_
        refine WF.cond rfl (fun h1_20 => ?_) (fun h1_20 => ?_)
        · have gh1_20 := (of_decide_eq_true h1_20)
          have hkl : k < nums.length := by omega
          refine WF.skip ?_
          refine thn_n ?_
          refine WF.seq ?_
          refine WF.block ?_
          refine WF.seq ?_
          refine WF.region ?_
          refine WL.va rfl rfl rfl (X.assignI rfl) ?_
          refine WL.nil ?_
          refine thn_n ?_
          refine WF.block ?_
          refine WF.named (fun F22 hF23 => ?_)
          refine WF.loopN (fun mL2 f' w' => ∃ (j : Nat), mL2 = 4 - j ∧ f' 5 = .int .i64 (j : Int) ∧ Agree [1, 2, 3, 4, 9, 10, 11, 12, 13, 14, 15, 16, 17, 18, 19, 20, 21, 22, 23, 24, 25, 28, 29, 30, 31] f' F22 ∧ Ext wv w' ∧ j ≤ 4) ?_ ?_
          · exact ⟨_, 0, rfl, (congrFun hF23 5), (Agree.refl _ _), hwL1, (Nat.zero_le _)⟩
          · rintro mL2 fL2 wL2 ⟨j, hmL2, e5_L2, hAL2, hwL2, hj0⟩
            refine WF.seq ?_
            refine WF.seq ?_
            refine WF.region ?_
            refine WL.va rfl rfl rfl (X.moveI e5_L2) ?_
            refine WL.va rfl rfl rfl (X.move ((hAL2.eq 2).trans ((congrFun hF23 2).trans ((hAL1.eq 2).trans ((congrFun hF19 2).trans ((hAL0.eq 2).trans (congrFun hF15 2))))))) ?_
            refine WL.va rfl rfl rfl (X.len hrv rfl Try.underlying44) ?_
            refine WL.va rfl rfl rfl (X.lss rfl rfl) ?_
            refine WL.nil ?_
            refine thn_n ?_
            refine WF.cond rfl (fun h2_24 => ?_) (fun h2_24 => ?_)
            · have gh2_24 := (of_decide_eq_true h2_24)
              have hj4 : j < 4 := by omega
              obtain ⟨l, hlj0⟩ := hvs j hj4
              refine WF.skip ?_
              refine thn_n ?_
              refine WF.seq ?_
              refine WF.block ?_
              refine WF.seq ?_
              refine WF.drawn (.q 0 (.q 1 (.q 2 (.q 3 (.q 4 (.q 5 (.q 6 (.q 7 (.q 8 (.q 9 (.q 10 (.q 11 (.q 12 (.q 13 (.q 14 (.q 15 (.l 16 (.l 17 (.q 18 (.q 19 (.q 20 (.q 21 (.q 22 (.q 23 (.q 24 (.q 25 (.q 26 (.q 27 (.q 28 (.q 29 (.q 30 (.q 31 (.l 32 (.l 33 (.q 34 (.q 35 (.q 36 (.q 37 (.q 38 (.q 39 (.q 40 (.q 41 (.q 42 (.q 43 (.q 44 (.q 45 (.q 46 (.q 47 (.q 48 (.q 49 (.l 50 (.l 51 (.q 52 (.q 53 (.q 54 (.q 55 (.q 56 (.q 57 (.q 58 (.q 59 (.q 60 (.q 61 (.q 62 (.q 63 (.q 64 (.q 65 (.q 66 (.q 67 (.l 68 (.q 69 (.q 70 .nil))))))))))))))))))))))))))))))))))))))))))))))))))))))))))))))))))))))) (fun w' => Ext wL2 w') 71 (by kernel_rfl) (by kernel_rfl) (Ext.drew _) ?_
              refine WO.q rfl rfl rfl rfl (fun w' hE26 => (X.move ((hAL2.eq 2).trans ((congrFun hF23 2).trans ((hAL1.eq 2).trans ((congrFun hF19 2).trans ((hAL0.eq 2).trans (congrFun hF15 2)))))))) ?_
              refine WO.q rfl rfl rfl rfl (fun w' hE26 => (X.moveI e5_L2)) ?_
              refine WO.q rfl rfl rfl rfl (fun w' hE26 => (X.idx hrv rfl rfl (by omega) Try.underlying44 Try.sizeOf22)) ?_
              refine WO.q rfl rfl rfl rfl (fun w' hE26 => (X.load1 hrv (Ext.trans hwL2 hE26) rfl (by omega) Try.isAgg22)) ?_
              refine WO.q rfl rfl rfl rfl (fun w' hE26 => (X.move ((hAL2.eq 1).trans ((congrFun hF23 1).trans ((hAL1.eq 1).trans ((congrFun hF19 1).trans ((hAL0.eq 1).trans (congrFun hF15 1)))))))) ?_
              refine WO.q rfl rfl rfl rfl (fun w' hE26 => (X.moveI ((hAL2.eq 3).trans ((congrFun hF23 3).trans ((hAL1.eq 3).trans ((congrFun hF19 3).trans e3_L0)))))) ?_
              refine WO.q rfl rfl rfl rfl (fun w' hE26 => (X.idx (show Ints _ _ nums from Row.of_own ho5) rfl rfl (by omega) Try.underlying46 Try.sizeOf3)) ?_
              refine WO.q rfl rfl rfl rfl (fun w' hE26 => (X.loadI (show Ints _ _ nums from Row.of_own ho5) (Ext.trans (Ext.trans (Ext.trans (Ext.trans (Ext.trans hx6 hx8) hx10) hx12) hwL2) hE26) rfl (by omega) Try.isAgg3)) ?_
              refine WO.q rfl rfl rfl rfl (fun w' hE26 => (X.move ((hAL2.eq 1).trans ((congrFun hF23 1).trans ((hAL1.eq 1).trans ((congrFun hF19 1).trans ((hAL0.eq 1).trans (congrFun hF15 1)))))))) ?_
              refine WO.q rfl rfl rfl rfl (fun w' hE26 => (X.moveI ((hAL2.eq 3).trans ((congrFun hF23 3).trans ((hAL1.eq 3).trans ((congrFun hF19 3).trans e3_L0)))))) ?_
              refine WO.q rfl rfl rfl rfl (fun w' hE26 => (X.idx (show Ints _ _ nums from Row.of_own ho5) rfl rfl (by omega) Try.underlying46 Try.sizeOf3)) ?_
              refine WO.q rfl rfl rfl rfl (fun w' hE26 => (X.loadI (show Ints _ _ nums from Row.of_own ho5) (Ext.trans (Ext.trans (Ext.trans (Ext.trans (Ext.trans hx6 hx8) hx10) hx12) hwL2) hE26) rfl (by omega) Try.isAgg3)) ?_
              refine WO.q rfl rfl rfl rfl (fun w' hE26 => (X.move ((hAL2.eq 1).trans ((congrFun hF23 1).trans ((hAL1.eq 1).trans ((congrFun hF19 1).trans ((hAL0.eq 1).trans (congrFun hF15 1)))))))) ?_
              refine WO.q rfl rfl rfl rfl (fun w' hE26 => (X.moveI ((hAL2.eq 4).trans ((congrFun hF23 4).trans e4_L1)))) ?_
              refine WO.q rfl rfl rfl rfl (fun w' hE26 => (X.idx (show Ints _ _ nums from Row.of_own ho5) rfl rfl (by omega) Try.underlying46 Try.sizeOf3)) ?_
              refine WO.q rfl rfl rfl rfl (fun w' hE26 => (X.loadI (show Ints _ _ nums from Row.of_own ho5) (Ext.trans (Ext.trans (Ext.trans (Ext.trans (Ext.trans hx6 hx8) hx10) hx12) hwL2) hE26) rfl (by omega) Try.isAgg3)) ?_
              refine WO.l ?_
              refine LO.go rfl rfl (OW.enter rfl (by decide) (X.call Try.call22 (evl_cons rfl (evl_cons rfl (evl_cons rfl (evl_cons rfl evl_nil))))) (vote_ok _ _ _ _ _) ?_)
              rintro v28 w27 ⟨rfl, hx29⟩
              refine ⟨(Ext.trans (Ext.drew _) hx29), ?_⟩
              refine WO.l ?_
              refine LO.go rfl rfl (OW.enter rfl (by decide) (X.call Try.call3 (evl_cons rfl (evl_cons rfl (evl_cons rfl evl_nil)))) (known_takes (l := l) (id := (nums.getD i 0)) (m := voteM 8 (nums.getD i 0) (nums.getD k 0) 0) (Row.ext hlj0 (Ext.trans (Ext.trans hwL2 (Ext.drew _)) hx29)) (nums_in i) (vote_in64 (by decide) (nums_in i) (nums_in k) (by decide)) rfl rfl) ?_)
              rintro v31 w30 ⟨rfl, hx32⟩
              refine ⟨(Ext.trans (Ext.trans (Ext.drew _) hx29) hx32), ?_⟩
              refine WO.q rfl rfl rfl rfl (fun w' hE26 => (X.not rfl)) ?_
              refine WO.q rfl rfl rfl rfl (fun w' hE26 => (X.moveB rfl)) ?_
              refine WO.qg rfl rfl rfl rfl rfl (fun w' hE26 => (X.move ((hAL2.eq 2).trans ((congrFun hF23 2).trans ((hAL1.eq 2).trans ((congrFun hF19 2).trans ((hAL0.eq 2).trans (congrFun hF15 2)))))))) ?_
              refine WO.qg rfl rfl rfl rfl rfl (fun w' hE26 => (X.moveI e5_L2)) ?_
              refine WO.qg rfl rfl rfl rfl rfl (fun w' hE26 => (X.idx hrv rfl rfl (by omega) Try.underlying44 Try.sizeOf22)) ?_
              refine WO.qg rfl rfl rfl rfl rfl (fun w' hE26 => (X.load1 hrv (Ext.trans hwL2 hE26) rfl (by omega) Try.isAgg22)) ?_
              refine WO.qg rfl rfl rfl rfl rfl (fun w' hE26 => (X.move ((hAL2.eq 1).trans ((congrFun hF23 1).trans ((hAL1.eq 1).trans ((congrFun hF19 1).trans ((hAL0.eq 1).trans (congrFun hF15 1)))))))) ?_
              refine WO.qg rfl rfl rfl rfl rfl (fun w' hE26 => (X.moveI ((hAL2.eq 4).trans ((congrFun hF23 4).trans e4_L1)))) ?_
              refine WO.qg rfl rfl rfl rfl rfl (fun w' hE26 => (X.idx (show Ints _ _ nums from Row.of_own ho5) rfl rfl (by omega) Try.underlying46 Try.sizeOf3)) ?_
              refine WO.qg rfl rfl rfl rfl rfl (fun w' hE26 => (X.loadI (show Ints _ _ nums from Row.of_own ho5) (Ext.trans (Ext.trans (Ext.trans (Ext.trans (Ext.trans hx6 hx8) hx10) hx12) hwL2) hE26) rfl (by omega) Try.isAgg3)) ?_
              refine WO.qg rfl rfl rfl rfl rfl (fun w' hE26 => (X.move ((hAL2.eq 1).trans ((congrFun hF23 1).trans ((hAL1.eq 1).trans ((congrFun hF19 1).trans ((hAL0.eq 1).trans (congrFun hF15 1)))))))) ?_
              refine WO.qg rfl rfl rfl rfl rfl (fun w' hE26 => (X.moveI ((hAL2.eq 3).trans ((congrFun hF23 3).trans ((hAL1.eq 3).trans ((congrFun hF19 3).trans e3_L0)))))) ?_
              refine WO.qg rfl rfl rfl rfl rfl (fun w' hE26 => (X.idx (show Ints _ _ nums from Row.of_own ho5) rfl rfl (by omega) Try.underlying46 Try.sizeOf3)) ?_
              refine WO.qg rfl rfl rfl rfl rfl (fun w' hE26 => (X.loadI (show Ints _ _ nums from Row.of_own ho5) (Ext.trans (Ext.trans (Ext.trans (Ext.trans (Ext.trans hx6 hx8) hx10) hx12) hwL2) hE26) rfl (by omega) Try.isAgg3)) ?_
              refine WO.l ?_
              refine LO.gog rfl rfl rfl (OW.enter rfl (by decide) (X.call Try.call22 (evl_cons rfl (evl_cons rfl (evl_cons rfl (evl_cons rfl evl_nil))))) (vote_ok _ _ _ _ _) ?_)
              rintro v36 w35 ⟨rfl, hx37⟩
              refine ⟨(Ext.trans (Ext.trans (Ext.trans (Ext.drew _) hx29) hx32) hx37), ?_⟩
              refine WO.l ?_
              refine LO.gog rfl rfl rfl (OW.enter rfl (by decide) (X.call Try.call3 (evl_cons rfl (evl_cons rfl (evl_cons rfl evl_nil)))) (known_takes (l := l) (id := 1) (m := voteM 10 3 (nums.getD k 0) (nums.getD i 0)) (Row.ext hlj0 (Ext.trans (Ext.trans (Ext.trans (Ext.trans hwL2 (Ext.drew _)) hx29) hx32) hx37)) (by decide) (vote_in64 (by decide) (by decide) (nums_in k) (nums_in i)) rfl rfl) ?_)
              rintro v39 w38 ⟨rfl, hx40⟩
              refine ⟨(Ext.trans (Ext.trans (Ext.trans (Ext.trans (Ext.drew _) hx29) hx32) hx37) hx40), ?_⟩
              refine WO.qg rfl rfl rfl rfl rfl (fun w' hE26 => (X.not rfl)) ?_
              refine WO.q rfl rfl rfl rfl (fun w' hE26 => (X.pickF rfl rfl rfl)) ?_
              refine WO.q rfl rfl rfl rfl (fun w' hE26 => (X.moveB rfl)) ?_
              refine WO.qg rfl rfl rfl rfl rfl (fun w' hE26 => (X.move ((hAL2.eq 2).trans ((congrFun hF23 2).trans ((hAL1.eq 2).trans ((congrFun hF19 2).trans ((hAL0.eq 2).trans (congrFun hF15 2)))))))) ?_
              refine WO.qg rfl rfl rfl rfl rfl (fun w' hE26 => (X.moveI e5_L2)) ?_
              refine WO.qg rfl rfl rfl rfl rfl (fun w' hE26 => (X.idx hrv rfl rfl (by omega) Try.underlying44 Try.sizeOf22)) ?_
              refine WO.qg rfl rfl rfl rfl rfl (fun w' hE26 => (X.load1 hrv (Ext.trans hwL2 hE26) rfl (by omega) Try.isAgg22)) ?_
              refine WO.qg rfl rfl rfl rfl rfl (fun w' hE26 => (X.move ((hAL2.eq 1).trans ((congrFun hF23 1).trans ((hAL1.eq 1).trans ((congrFun hF19 1).trans ((hAL0.eq 1).trans (congrFun hF15 1)))))))) ?_
              refine WO.qg rfl rfl rfl rfl rfl (fun w' hE26 => (X.moveI ((hAL2.eq 3).trans ((congrFun hF23 3).trans ((hAL1.eq 3).trans ((congrFun hF19 3).trans e3_L0)))))) ?_
              refine WO.qg rfl rfl rfl rfl rfl (fun w' hE26 => (X.idx (show Ints _ _ nums from Row.of_own ho5) rfl rfl (by omega) Try.underlying46 Try.sizeOf3)) ?_
              refine WO.qg rfl rfl rfl rfl rfl (fun w' hE26 => (X.loadI (show Ints _ _ nums from Row.of_own ho5) (Ext.trans (Ext.trans (Ext.trans (Ext.trans (Ext.trans hx6 hx8) hx10) hx12) hwL2) hE26) rfl (by omega) Try.isAgg3)) ?_
              refine WO.qg rfl rfl rfl rfl rfl (fun w' hE26 => (X.add rfl rfl rfl)) ?_
              refine WO.qg rfl rfl rfl rfl rfl (fun w' hE26 => (X.move ((hAL2.eq 1).trans ((congrFun hF23 1).trans ((hAL1.eq 1).trans ((congrFun hF19 1).trans ((hAL0.eq 1).trans (congrFun hF15 1)))))))) ?_
              refine WO.qg rfl rfl rfl rfl rfl (fun w' hE26 => (X.moveI ((hAL2.eq 4).trans ((congrFun hF23 4).trans e4_L1)))) ?_
              refine WO.qg rfl rfl rfl rfl rfl (fun w' hE26 => (X.idx (show Ints _ _ nums from Row.of_own ho5) rfl rfl (by omega) Try.underlying46 Try.sizeOf3)) ?_
              refine WO.qg rfl rfl rfl rfl rfl (fun w' hE26 => (X.loadI (show Ints _ _ nums from Row.of_own ho5) (Ext.trans (Ext.trans (Ext.trans (Ext.trans (Ext.trans hx6 hx8) hx10) hx12) hwL2) hE26) rfl (by omega) Try.isAgg3)) ?_
              refine WO.l ?_
              refine LO.gog rfl rfl rfl (OW.enter rfl (by decide) (X.call Try.call22 (evl_cons rfl (evl_cons rfl (evl_cons rfl (evl_cons rfl evl_nil))))) (vote_ok _ _ _ _ _) ?_)
              rintro v44 w43 ⟨rfl, hx45⟩
              refine ⟨(Ext.trans (Ext.trans (Ext.trans (Ext.trans (Ext.trans (Ext.drew _) hx29) hx32) hx37) hx40) hx45), ?_⟩
              refine WO.l ?_
              refine LO.gog rfl rfl rfl (OW.enter rfl (by decide) (X.call Try.call3 (evl_cons rfl (evl_cons rfl (evl_cons rfl evl_nil)))) (known_takes (l := l) (id := 1) (m := voteM (IntKind.i64.wrap ((nums.getD i 0) + 8)) 3 (nums.getD k 0) 1) (Row.ext hlj0 (Ext.trans (Ext.trans (Ext.trans (Ext.trans (Ext.trans (Ext.trans hwL2 (Ext.drew _)) hx29) hx32) hx37) hx40) hx45)) (by decide) (vote_in64 (wrap_in64 _) (by decide) (nums_in k) (by decide)) rfl rfl) ?_)
              rintro v47 w46 ⟨rfl, hx48⟩
              refine ⟨(Ext.trans (Ext.trans (Ext.trans (Ext.trans (Ext.trans (Ext.trans (Ext.drew _) hx29) hx32) hx37) hx40) hx45) hx48), ?_⟩
              refine WO.qg rfl rfl rfl rfl rfl (fun w' hE26 => (X.not rfl)) ?_
              refine WO.q rfl rfl rfl rfl (fun w' hE26 => (X.pickF rfl rfl rfl)) ?_
              refine WO.q rfl rfl rfl rfl (fun w' hE26 => (X.moveB rfl)) ?_
              refine WO.qg rfl rfl rfl rfl rfl (fun w' hE26 => (X.move ((hAL2.eq 2).trans ((congrFun hF23 2).trans ((hAL1.eq 2).trans ((congrFun hF19 2).trans ((hAL0.eq 2).trans (congrFun hF15 2)))))))) ?_
              refine WO.qg rfl rfl rfl rfl rfl (fun w' hE26 => (X.moveI e5_L2)) ?_
              refine WO.qg rfl rfl rfl rfl rfl (fun w' hE26 => (X.idx hrv rfl rfl (by omega) Try.underlying44 Try.sizeOf22)) ?_
              refine WO.qg rfl rfl rfl rfl rfl (fun w' hE26 => (X.load1 hrv (Ext.trans hwL2 hE26) rfl (by omega) Try.isAgg22)) ?_
              refine WO.qg rfl rfl rfl rfl rfl (fun w' hE26 => (X.move ((hAL2.eq 1).trans ((congrFun hF23 1).trans ((hAL1.eq 1).trans ((congrFun hF19 1).trans ((hAL0.eq 1).trans (congrFun hF15 1)))))))) ?_
              refine WO.qg rfl rfl rfl rfl rfl (fun w' hE26 => (X.moveI ((hAL2.eq 3).trans ((congrFun hF23 3).trans ((hAL1.eq 3).trans ((congrFun hF19 3).trans e3_L0)))))) ?_
              refine WO.qg rfl rfl rfl rfl rfl (fun w' hE26 => (X.idx (show Ints _ _ nums from Row.of_own ho5) rfl rfl (by omega) Try.underlying46 Try.sizeOf3)) ?_
              refine WO.qg rfl rfl rfl rfl rfl (fun w' hE26 => (X.loadI (show Ints _ _ nums from Row.of_own ho5) (Ext.trans (Ext.trans (Ext.trans (Ext.trans (Ext.trans hx6 hx8) hx10) hx12) hwL2) hE26) rfl (by omega) Try.isAgg3)) ?_
              refine WO.qg rfl rfl rfl rfl rfl (fun w' hE26 => (X.move ((hAL2.eq 1).trans ((congrFun hF23 1).trans ((hAL1.eq 1).trans ((congrFun hF19 1).trans ((hAL0.eq 1).trans (congrFun hF15 1)))))))) ?_
              refine WO.qg rfl rfl rfl rfl rfl (fun w' hE26 => (X.moveI ((hAL2.eq 4).trans ((congrFun hF23 4).trans e4_L1)))) ?_
              refine WO.qg rfl rfl rfl rfl rfl (fun w' hE26 => (X.idx (show Ints _ _ nums from Row.of_own ho5) rfl rfl (by omega) Try.underlying46 Try.sizeOf3)) ?_
              refine WO.qg rfl rfl rfl rfl rfl (fun w' hE26 => (X.loadI (show Ints _ _ nums from Row.of_own ho5) (Ext.trans (Ext.trans (Ext.trans (Ext.trans (Ext.trans hx6 hx8) hx10) hx12) hwL2) hE26) rfl (by omega) Try.isAgg3)) ?_
              refine WO.qg rfl rfl rfl rfl rfl (fun w' hE26 => (X.buildL (cs := (Msg.bare (oddM (nums.getD i 0) (nums.getD k 0)))) (evp_cons rfl (evp_cons rfl (evp_cons rfl (evp_cons rfl evp_nil)))) Try.type26 Try.underlying26 rfl rfl ⟨rfl, rfl, rfl, rfl, trivial⟩ rfl)) ?_
              refine WO.l ?_
              refine LO.gog rfl rfl rfl (OW.enter rfl (by decide) (X.call Try.call3 (evl_cons rfl (evl_cons rfl (evl_cons rfl evl_nil)))) (known_takes (l := l) (id := 1) (m := oddM (nums.getD i 0) (nums.getD k 0)) (Row.ext hlj0 (Ext.trans (Ext.trans (Ext.trans (Ext.trans (Ext.trans (Ext.trans (Ext.trans hwL2 (Ext.drew _)) hx29) hx32) hx37) hx40) hx45) hx48)) (by decide) (odd_in64 (nums_in i) (nums_in k)) rfl rfl) ?_)
              rintro v52 w51 ⟨rfl, hx53⟩
              refine ⟨(Ext.trans (Ext.trans (Ext.trans (Ext.trans (Ext.trans (Ext.trans (Ext.trans (Ext.drew _) hx29) hx32) hx37) hx40) hx45) hx48) hx53), ?_⟩
              refine WO.qg rfl rfl rfl rfl rfl (fun w' hE26 => (X.not rfl)) ?_
              refine WO.q rfl rfl rfl rfl (fun w' hE26 => (X.pickF rfl rfl rfl)) ?_
              refine WO.nil ?_
              refine WL.nil ?_
              refine thn_n ?_
              refine WF.cond_f rfl ?_
              refine WF.skip ?_
              refine blk_n ?_
              refine thn_n ?_
              refine WF.region ?_
              refine WL.va rfl rfl rfl (X.moveI e5_L2) ?_
              refine WL.va rfl rfl rfl (X.add rfl rfl (w64 (by omega))) ?_
              refine WL.va rfl rfl rfl (X.assignI rfl) ?_
              refine WL.nil ?_
              exact thn_n ⟨_, (by omega), j + 1, rfl, rfl, (by repeat (first | exact hAL2 | refine Agree.put ?_ rfl | refine Agree.sub hAL1 rfl ?_ | refine Agree.sub hAL0 rfl ?_ | refine Agree.named hF23 ?_ | refine Agree.named hF19 ?_ | refine Agree.named hF15 ?_)), (Ext.trans (Ext.trans (Ext.trans (Ext.trans (Ext.trans (Ext.trans (Ext.trans (Ext.trans hwL2 (Ext.drew _)) hx29) hx32) hx37) hx40) hx45) hx48) hx53), (by omega)⟩
            · have gh2_24 := (of_decide_eq_false h2_24)
              refine WF.exit ?_
              refine thn_x ?_
              refine thn_x ?_
              refine blk_eq ?_
              refine blk_n ?_
              refine thn_n ?_
              refine WF.region ?_
              refine WL.va rfl rfl rfl (X.moveI ((hAL2.eq 4).trans ((congrFun hF23 4).trans e4_L1))) ?_
              refine WL.va rfl rfl rfl (X.add rfl rfl (w64 (by omega))) ?_
              refine WL.va rfl rfl rfl (X.assignI rfl) ?_
              refine WL.nil ?_
              exact thn_n ⟨_, (by omega), k + 1, rfl, rfl, (by repeat (first | exact hAL1 | refine Agree.put ?_ rfl | refine Agree.sub hAL2 rfl ?_ | refine Agree.sub hAL0 rfl ?_ | refine Agree.named hF23 ?_ | refine Agree.named hF19 ?_ | refine Agree.named hF15 ?_)), hwL2, (by omega)⟩
        · have gh1_20 := (of_decide_eq_false h1_20)
          refine WF.exit ?_
          refine thn_x ?_
          refine thn_x ?_
          refine blk_eq ?_
          refine blk_n ?_
          refine thn_n ?_
          refine WF.region ?_
          refine WL.va rfl rfl rfl (X.moveI ((hAL1.eq 3).trans ((congrFun hF19 3).trans e3_L0))) ?_
          refine WL.va rfl rfl rfl (X.add rfl rfl (w64 (by omega))) ?_
          refine WL.va rfl rfl rfl (X.assignI rfl) ?_
          refine WL.nil ?_
          exact thn_n ⟨_, (by omega), i + 1, rfl, rfl, (by repeat (first | exact hAL0 | refine Agree.put ?_ rfl | refine Agree.sub hAL1 rfl ?_ | refine Agree.named hF19 ?_ | refine Agree.named hF15 ?_)), hwL1, (by omega)⟩
    · have gh0_16 := (of_decide_eq_false h0_16)
      refine WF.exit ?_
      refine thn_x ?_
      refine thn_x ?_
      refine blk_eq ?_
      refine thn_n ?_
      refine WF.seq ?_
      refine WF.region ?_
      have hwB0 := World.grownBy.size (Ext.trans (Ext.trans (Ext.trans (Ext.trans (Ext.trans hx4 hx6) hx8) hx10) hx12) hwL0)
      refine WL.op rfl (OW.make (n := 1024) rfl rfl Try.underlying22 Try.type37 rfl rfl (show 40 * 1024 ≤ _ by decide) (by unfold maxLen; omega) ?_ (by decide))
      intro vf wf ho57 hx56
      have hmk := OwnV.made ho57
      obtain ⟨B, hBe⟩ : ∃ B, B = wL0.heap.size := ⟨_, rfl⟩
      rw [← hBe] at hmk
      have hwB : w.heap.size ≤ B := by omega
      refine WL.va rfl rfl rfl (X.assign rfl) ?_
      refine WL.nil ?_
      refine thn_n ?_
      refine WF.seq ?_
      refine WF.seq ?_
      refine WF.region ?_
      refine WL.va rfl rfl rfl (X.assignI rfl) ?_
      refine WL.nil ?_
      refine thn_n ?_
      refine WF.block ?_
      refine WF.named (fun F58 hF59 => ?_)
      refine WF.loopN (fun mL3 f' w' => ∃ (c : Nat) (F : List Acc), mL3 = 1024 - c ∧ f' 7 = .int .i64 (c : Int) ∧ Agree [1, 2, 3, 6, 9, 10, 11, 12, 13, 14, 15, 16, 17, 18, 19, 20, 21, 22, 23, 24, 25, 111] f' F58 ∧ Ext w w' ∧ c ≤ 1024 ∧ F.length = 1024 ∧ OwnV w' B 37 vf F) ?_ ?_
      · exact ⟨_, 0, _, rfl, (congrFun hF59 7), (Agree.refl _ _), (Ext.trans (Ext.trans (Ext.trans (Ext.trans (Ext.trans (Ext.trans hx4 hx6) hx8) hx10) hx12) hwL0) hx56), ⟨Nat.zero_le _, List.length_replicate, hmk⟩⟩
      · rintro mL3 fL3 wL3 ⟨c, F, hmL3, e7_L3, hAL3, hwL3, ⟨hc0, hF, ho⟩⟩
        refine WF.seq ?_
        refine WF.seq ?_
        refine WF.region ?_
        refine WL.va rfl rfl rfl (X.moveI e7_L3) ?_
        refine WL.va rfl rfl rfl (X.move ((hAL3.eq 6).trans (congrFun hF59 6))) ?_
        refine WL.va rfl rfl rfl (X.len (Row.of_own ho) rfl Try.underlying22) ?_
        refine WL.va rfl rfl rfl (X.lss rfl rfl) ?_
        refine WL.nil ?_
        refine thn_n ?_
        refine WF.cond rfl (fun h4_60 => ?_) (fun h4_60 => ?_)
        · have gh4_60 := (of_decide_eq_true h4_60)
          refine WF.skip ?_
          refine thn_n ?_
          refine WF.seq ?_
          refine WF.block ?_
          refine WF.region ?_
          refine WL.va rfl rfl rfl (X.move ((hAL3.eq 6).trans (congrFun hF59 6))) ?_
          refine WL.va rfl rfl rfl (X.moveI e7_L3) ?_
          refine WL.va rfl rfl rfl (X.moveI e7_L3) ?_
          refine WL.va rfl rfl rfl (X.add rfl rfl (w64 (by omega))) ?_
          refine WL.va rfl rfl rfl (X.buildL (cs := (Acc.c ⟨1048576 + (c : Int), 2, 0, 0, 0⟩)) (evp_cons rfl (evp_cons rfl evp_nil)) Try.type37 Try.underlying37 rfl rfl ⟨rfl, rfl, trivial⟩ rfl) ?_
          refine WL.va rfl rfl rfl (X.idx (Row.of_own ho) rfl rfl (by omega) Try.underlying22 Try.sizeOf37) ?_
          refine WL.op rfl (OW.storeEl (ds := (Acc.c ⟨1048576 + (c : Int), 2, 0, 0, 0⟩)) ho (by omega) rfl rfl rfl (by simp [Value.oneCell']) Try.sizeOf37 ?_)
          intro w62 ho65 hx64
          have ho1 : OwnV _ _ _ _ _ := OwnV.set (by omega) ho65
          refine WL.nil ?_
          refine blk_n ?_
          refine thn_n ?_
          refine WF.region ?_
          refine WL.va rfl rfl rfl (X.moveI e7_L3) ?_
          refine WL.va rfl rfl rfl (X.add rfl rfl (w64 (by omega))) ?_
          refine WL.va rfl rfl rfl (X.assignI rfl) ?_
          refine WL.nil ?_
          exact thn_n ⟨_, (by omega), c + 1, _, rfl, rfl, (by repeat (first | exact hAL3 | refine Agree.put ?_ rfl | refine Agree.sub hAL0 rfl ?_ | refine Agree.named hF59 ?_ | refine Agree.named hF15 ?_)), (Ext.own hwL3 ho hwB hx64), ⟨by omega, by simp [hF], ho1⟩⟩
        · have gh4_60 := (of_decide_eq_false h4_60)
          refine WF.exit ?_
          refine thn_x ?_
          refine thn_x ?_
          refine blk_eq ?_
          refine thn_n ?_
          refine WF.seq ?_
          refine WF.seq ?_
          refine WF.region ?_
          have hvf : Votes wL3 vf F := Row.of_own ho
          have hfo := ho
          refine WL.va rfl rfl rfl (X.assignI rfl) ?_
          refine WL.nil ?_
          refine thn_n ?_
          refine WF.block ?_
          refine WF.named (fun F66 hF67 => ?_)
          refine WF.loopN (fun mL4 f' w' => ∃ (c : Nat), mL4 = 3 - c ∧ f' 8 = .int .i64 (c : Int) ∧ Agree [1, 2, 3, 6, 7, 9, 10, 11, 12, 13, 14, 15, 16, 17, 18, 19, 20, 21, 22, 23, 24, 25, 111, 112, 113, 114, 115] f' F66 ∧ Ext wL3 w' ∧ c ≤ 3) ?_ ?_
          · exact ⟨_, 0, rfl, (congrFun hF67 8), (Agree.refl _ _), (Ext.refl _), (Nat.zero_le _)⟩
          · rintro mL4 fL4 wL4 ⟨c, hmL4, e8_L4, hAL4, hwL4, hc3⟩
            refine WF.seq ?_
            refine WF.seq ?_
            refine WF.region ?_
            refine WL.va rfl rfl rfl (X.moveI e8_L4) ?_
            refine WL.va rfl rfl rfl (X.lss rfl rfl) ?_
            refine WL.nil ?_
            refine thn_n ?_
            refine WF.cond rfl (fun h5_68 => ?_) (fun h5_68 => ?_)
            · have gh5_68 := (of_decide_eq_true h5_68)
              refine WF.skip ?_
              refine thn_n ?_
              refine WF.seq ?_
              refine WF.block ?_
              refine WF.seq ?_
              refine WF.drawn (.q 0 (.q 1 (.q 2 (.l 3 (.l 4 (.q 5 (.q 6 (.q 7 (.q 8 (.q 9 (.l 10 (.l 11 (.q 12 (.q 13 (.q 14 (.q 15 (.q 16 (.q 17 (.q 18 (.l 19 (.q 20 (.q 21 .nil)))))))))))))))))))))) (fun w' => Ext wL4 w') 22 (by kernel_rfl) (by kernel_rfl) (Ext.drew _) ?_
              refine WO.q rfl rfl rfl rfl (fun w' hE70 => (X.move ((hAL4.eq 6).trans ((congrFun hF67 6).trans ((hAL3.eq 6).trans (congrFun hF59 6)))))) ?_
              refine WO.q rfl rfl rfl rfl (fun w' hE70 => (X.moveI e8_L4)) ?_
              refine WO.q rfl rfl rfl rfl (fun w' hE70 => (X.slL (Row.of_own ho) rfl rfl (by omega) Try.underlying22 Try.sizeOf37)) ?_
              refine WO.l ?_
              refine LO.go rfl rfl (OW.enter rfl (by decide) (X.call Try.call22 (evl_cons rfl (evl_cons rfl (evl_cons rfl (evl_cons rfl evl_nil))))) (vote_ok _ _ _ _ _) ?_)
              rintro v72 w71 ⟨rfl, hx73⟩
              refine ⟨(Ext.trans (Ext.drew _) hx73), ?_⟩
              refine WO.l ?_
              refine LO.go rfl rfl (OW.enter rfl (by decide) (X.call Try.call3 (evl_cons rfl (evl_cons rfl (evl_cons rfl evl_nil)))) (known_takes (l := _) (id := 1) (m := voteM 8 2 5 0) (Row.ext (votes_from hvf c (by omega)) (Ext.trans (Ext.trans hwL4 (Ext.drew _)) hx73)) (by decide) (vote_in64 (by decide) (by decide) (by decide) (by decide)) rfl rfl) ?_)
              rintro v75 w74 ⟨rfl, hx76⟩
              refine ⟨(Ext.trans (Ext.trans (Ext.drew _) hx73) hx76), ?_⟩
              refine WO.q rfl rfl rfl rfl (fun w' hE70 => (X.not rfl)) ?_
              refine WO.q rfl rfl rfl rfl (fun w' hE70 => (X.moveB rfl)) ?_
              refine WO.qg rfl rfl rfl rfl rfl (fun w' hE70 => (X.move ((hAL4.eq 6).trans ((congrFun hF67 6).trans ((hAL3.eq 6).trans (congrFun hF59 6)))))) ?_
              refine WO.qg rfl rfl rfl rfl rfl (fun w' hE70 => (X.slL (k := 4) (Row.of_own hfo) rfl rfl (by omega) Try.underlying22 Try.sizeOf37)) ?_
              refine WO.qg rfl rfl rfl rfl rfl (fun w' hE70 => (X.moveI e8_L4)) ?_
              refine WO.l ?_
              refine LO.gog rfl rfl rfl (OW.enter rfl (by decide) (X.call Try.call22 (evl_cons rfl (evl_cons rfl (evl_cons rfl (evl_cons rfl evl_nil))))) (vote_ok _ _ _ _ _) ?_)
              rintro v80 w79 ⟨rfl, hx81⟩
              refine ⟨(Ext.trans (Ext.trans (Ext.trans (Ext.drew _) hx73) hx76) hx81), ?_⟩
              refine WO.l ?_
              refine LO.gog rfl rfl rfl (OW.enter rfl (by decide) (X.call Try.call3 (evl_cons rfl (evl_cons rfl (evl_cons rfl evl_nil)))) (known_takes (l := _) (id := 1) (m := voteM 10 2 (c : Int) 1) (Row.ext (votes_from hvf 4 (by omega)) (Ext.trans (Ext.trans (Ext.trans (Ext.trans hwL4 (Ext.drew _)) hx73) hx76) hx81)) (by decide) (vote_in64 (by decide) (by decide) (by omega) (by decide)) rfl rfl) ?_)
              rintro v83 w82 ⟨rfl, hx84⟩
              refine ⟨(Ext.trans (Ext.trans (Ext.trans (Ext.trans (Ext.drew _) hx73) hx76) hx81) hx84), ?_⟩
              refine WO.qg rfl rfl rfl rfl rfl (fun w' hE70 => (X.not rfl)) ?_
              refine WO.q rfl rfl rfl rfl (fun w' hE70 => (X.pickF rfl rfl rfl)) ?_
              refine WO.q rfl rfl rfl rfl (fun w' hE70 => (X.moveB rfl)) ?_
              refine WO.qg rfl rfl rfl rfl rfl (fun w' hE70 => (X.move ((hAL4.eq 6).trans ((congrFun hF67 6).trans ((hAL3.eq 6).trans (congrFun hF59 6)))))) ?_
              refine WO.qg rfl rfl rfl rfl rfl (fun w' hE70 => (X.moveI e8_L4)) ?_
              refine WO.qg rfl rfl rfl rfl rfl (fun w' hE70 => (X.add rfl rfl (w64 (by omega)))) ?_
              refine WO.qg rfl rfl rfl rfl rfl (fun w' hE70 => (X.buildL (cs := (Msg.bare (fullM (1 + (c : Int))))) (evp_cons rfl (evp_cons rfl (evp_cons rfl (evp_cons rfl (evp_cons rfl evp_nil))))) Try.type26 Try.underlying26 rfl rfl ⟨rfl, rfl, rfl, rfl, rfl, trivial⟩ rfl)) ?_
              refine WO.l ?_
              refine LO.gog rfl rfl rfl (OW.enter rfl (by decide) (X.call Try.call3 (evl_cons rfl (evl_cons rfl (evl_cons rfl evl_nil)))) (known_takes (l := F) (id := 1) (m := fullM (1 + (c : Int))) (Row.ext hvf (Ext.trans (Ext.trans (Ext.trans (Ext.trans (Ext.trans hwL4 (Ext.drew _)) hx73) hx76) hx81) hx84)) (by decide) (full_in64 (by omega)) rfl rfl) ?_)
              rintro v88 w87 ⟨rfl, hx89⟩
              refine ⟨(Ext.trans (Ext.trans (Ext.trans (Ext.trans (Ext.trans (Ext.drew _) hx73) hx76) hx81) hx84) hx89), ?_⟩
              refine WO.qg rfl rfl rfl rfl rfl (fun w' hE70 => (X.not rfl)) ?_
              refine WO.q rfl rfl rfl rfl (fun w' hE70 => (X.pickF rfl rfl rfl)) ?_
              refine WO.nil ?_
              refine WL.nil ?_
              refine thn_n ?_
              refine WF.cond_f rfl ?_
              refine WF.skip ?_
              refine blk_n ?_
              refine thn_n ?_
              refine WF.region ?_
              refine WL.va rfl rfl rfl (X.moveI e8_L4) ?_
              refine WL.va rfl rfl rfl (X.add rfl rfl (w64 (by omega))) ?_
              refine WL.va rfl rfl rfl (X.assignI rfl) ?_
              refine WL.nil ?_
              exact thn_n ⟨_, (by omega), c + 1, rfl, rfl, (by repeat (first | exact hAL4 | refine Agree.put ?_ rfl | refine Agree.sub hAL3 rfl ?_ | refine Agree.sub hAL0 rfl ?_ | refine Agree.named hF67 ?_ | refine Agree.named hF59 ?_ | refine Agree.named hF15 ?_)), (Ext.trans (Ext.trans (Ext.trans (Ext.trans (Ext.trans (Ext.trans hwL4 (Ext.drew _)) hx73) hx76) hx81) hx84) hx89), (by omega)⟩
            · have gh5_68 := (of_decide_eq_false h5_68)
              refine WF.exit ?_
              refine thn_x ?_
              refine thn_x ?_
              refine blk_eq ?_
              refine thn_n ?_
              refine WF.seq ?_
              refine WF.region ?_
              refine WL.va rfl rfl rfl (X.buildL (cs := (Rnd.c ⟨6, 7, false⟩)) (evp_cons rfl (evp_cons rfl evp_nil)) Try.type49 Try.underlying49 rfl rfl ⟨rfl, rfl, trivial⟩ rfl) ?_
              refine WL.va rfl rfl rfl (X.buildL (cs := (Rnd.c ⟨5, 3, true⟩)) (evp_cons rfl (evp_cons rfl (evp_cons rfl evp_nil))) Try.type49 Try.underlying49 rfl rfl ⟨rfl, rfl, rfl, trivial⟩ rfl) ?_
              refine WL.op rfl (OW.lits (vs := [agg (Rnd.c ⟨6, 7, false⟩), agg (Rnd.c ⟨5, 3, true⟩)]) (evp_cons rfl (evp_cons rfl evp_nil)) Try.underlying42 Try.sizeOf49 Try.zeroValue49 ⟨rfl, rfl, trivial⟩ rfl rfl rfl ?_ (by decide))
              intro v93 w92 ho95 hx94
              have hrn : Rnds w92 v93 [⟨6, 7, false⟩, ⟨5, 3, true⟩] := Row.of_own ho95
              refine WL.c rfl rfl rfl (X.call Try.call5 (evl_cons rfl (evl_cons rfl (evl_cons rfl (evl_cons rfl (evl_cons rfl evl_nil)))))) (acceptorOne_walk 1 3 true _ _ 1 _ (by decide) (by decide) hrn (by decide)) ?_
              rintro v97 w96 ⟨rfl, hx98⟩
              refine WL.va rfl rfl rfl (X.moveB rfl) ?_
              refine WL.cg rfl rfl rfl rfl (X.call Try.call9 evl_nil) (works_ok _) ?_
              rintro v101 w100 ⟨rfl, hx102⟩
              refine WL.va rfl rfl rfl (X.pickT rfl rfl rfl) ?_
              refine WL.va rfl rfl rfl (X.assignB rfl) ?_
              refine WL.nil ?_
              refine thn_n ?_
              refine WF.ret ?_
              refine fin_r ?_
              exact ⟨rfl, (Ext.trans (Ext.trans (Ext.trans (Ext.trans hwL3 hwL4) hx94) hx98) hx102)⟩

end Go.Proofs.Ytgbkgkicgaikdaa
