/- The walk of the reference's Put. -/
import Derived.Test.YtccbpfbcaogcnaaMgE
namespace Go.Proofs.Ytccbpfbcaogcnaa
open Go Go.RowKit Kf
set_option maxRecDepth 20000

set_option maxHeartbeats 4000000 in
theorem putR_ok (vE vD : Value) (m : Mg) (w : World) (h : MgAt w vE vD m) : FnOk Try.prog 17 [agg (mc m.n m.ok vE vD)] w (fun r w' => (∃ v, r = .tuple #[v, i64 (chk m)] ∧ (chk m = 0 → OwnB w' w.heap.size 5 v (mput m)) ∧ (chk m ≠ 0 → v = .slice none 0 0)) ∧ Ext w w') := by
  obtain ⟨E, hE, rE, dE⟩ := h.E
  have hEl : E.length = m.E.length := by rw [← hE]; simp
  have lE := h.E.le
  have lD := Bytes.le64 h.D
  have hpl := places_len (m.g 0)
  have rE2 : Row w vE m.E.length 3 (E.flatMap EV.c) := by rw [← hEl]; exact rE
  have hnl : (fints (places (m.g 0))).length = (places (m.g 0)).length := List.length_map ..
  refine FnOk.enter (rs := [2, 3]) Try.func17 rfl Try.ntmps17 Try.results17 rfl rfl ?_
  refine WF.seq ?_
  refine WF.region ?_
  refine WL.op rfl (OW.boxA (cs := (mc m.n m.ok vE vD)) rfl ?_ (by decide))
  intro g1 w1 heg1 hlg1 hO1 hx3
  have := World.grownBy.size hx3
  refine WL.va rfl rfl rfl (X.assign rfl) ?_
  refine WL.va rfl rfl rfl (X.assignI rfl) ?_
  refine WL.nil ?_
  refine thn_n ?_
  refine WF.seq ?_
  refine WF.region ?_
  refine WL.va rfl rfl rfl (X.loadOA hO1 (Ext.refl _) rfl rfl Try.isAgg25 Try.sizeOf25) ?_
  refine WL.c rfl rfl rfl (X.call Try.call14 (evl_cons rfl evl_nil)) (checkR_ok vE vD m _ (h.ext hx3)) ?_
  rintro v6 w5 ⟨rfl, hx7⟩
  have := World.grownBy.size hx7
  refine WL.va rfl rfl rfl (X.assignI rfl) ?_
  refine WL.nil ?_
  refine thn_n ?_
  refine WF.seq ?_
  refine WF.seq ?_
  refine WF.region ?_
  refine WL.va rfl rfl rfl (X.moveI rfl) ?_
  refine WL.va rfl rfl rfl (X.neq rfl rfl) ?_
  refine WL.nil ?_
  refine thn_n ?_
  refine WF.cond rfl (fun h0_8 => ?_) (fun h0_8 => ?_)
  · have gh0_8 := (of_decide_eq_true h0_8)
    refine WF.seq ?_
    refine WF.region ?_
    refine WL.va rfl rfl rfl (X.moveI rfl) ?_
    refine WL.va rfl rfl rfl (X.assign rfl) ?_
    refine WL.va rfl rfl rfl (X.assignI rfl) ?_
    refine WL.nil ?_
    refine thn_n ?_
    refine WF.ret ?_
    refine thn_r ?_
    refine fin_r ?_
    exact ⟨⟨_, rfl, fun q => absurd q (by assumption), fun _ => rfl⟩, (Ext.trans hx3 hx7)⟩
  · have gh0_8 := (Decidable.of_not_not (of_decide_eq_false h0_8))
    have hc0 : chk m = 0 := gh0_8
    obtain ⟨c0, c1, c2, c3, c4, c5⟩ := chk_ok hc0
    have hfl := fields_le m (m.g 0)
    have hfe := flatE_take m.E
    refine WF.skip ?_
    refine thn_n ?_
    refine WF.seq ?_
    refine WF.drawn (.q 0 (.q 1 (.q 3 (.q 4 (.q 6 (.q 7 (.l 2 (.l 5 (.l 8 (.q 9 .nil)))))))))) (fun w' => Ext w5 w') 10 (by kernel_rfl) (by kernel_rfl) (Ext.drew _) ?_
    have := World.grownBy.size (Ext.drew w5)
    refine WO.q rfl rfl rfl rfl (fun w' hE10 => (X.fieldAddrO (off := 0) rfl Try.underlying25 rfl rfl Try.sizeOf3)) ?_
    refine WO.q rfl rfl rfl rfl (fun w' hE10 => (X.loadO hO1 (Ext.trans hx7 hE10) rfl rfl Try.isAgg3)) ?_
    refine WO.q rfl rfl rfl rfl (fun w' hE10 => (X.fieldAddrO (off := 1) rfl Try.underlying25 rfl rfl Try.sizeOf3)) ?_
    refine WO.q rfl rfl rfl rfl (fun w' hE10 => (X.loadO hO1 (Ext.trans hx7 hE10) rfl rfl Try.isAgg3)) ?_
    refine WO.q rfl rfl rfl rfl (fun w' hE10 => (X.fieldAddrO (off := 2) rfl Try.underlying25 rfl rfl Try.sizeOf3)) ?_
    refine WO.q rfl rfl rfl rfl (fun w' hE10 => (X.loadO hO1 (Ext.trans hx7 hE10) rfl rfl Try.isAgg3)) ?_
    refine WO.l ?_
    refine LO.go rfl rfl (OW.enter rfl (by decide) (X.call Try.call47 (evl_cons rfl (evl_cons rfl evl_nil))) (refInt_ok _ [] _ _ (Bytes.nil _) (by decide)) ?_)
    rintro va1 wa1 ⟨oa1, hx11⟩
    have := World.grownBy.size hx11
    refine ⟨(Ext.trans (Ext.drew _) hx11), ?_⟩
    refine WO.l ?_
    refine LO.go rfl rfl (OW.enter rfl (by decide) (X.call Try.call47 (evl_cons rfl (evl_cons rfl evl_nil))) (refInt_ok _ _ _ _ (Row.ext (Row.of_own oa1) (Ext.refl wa1)) (by simp [Pk.enc_len])) ?_)
    rintro va2 wa2 ⟨oa2, hx12⟩
    have := World.grownBy.size hx12
    refine ⟨(Ext.trans (Ext.trans (Ext.drew _) hx11) hx12), ?_⟩
    refine WO.l ?_
    have hz3 := World.grownBy.size (show Ext w wa2 from (Ext.trans (Ext.trans (Ext.trans (Ext.trans hx3 hx7) (Ext.drew _)) hx11) hx12))
    refine LO.go rfl rfl (OW.enter rfl (by decide) (X.call Try.call47 (evl_cons rfl (evl_cons rfl evl_nil))) (refInt_ok _ _ _ _ (Row.ext (Row.of_own oa2) (Ext.refl wa2)) (by simp [Pk.enc_len])) ?_)
    rintro va3 wa3 ⟨oa3, hx13⟩
    have := World.grownBy.size hx13
    refine ⟨(Ext.trans (Ext.trans (Ext.trans (Ext.drew _) hx11) hx12) hx13), ?_⟩
    have ob0 : OwnB wa3 w.heap.size 5 va3 (head3 m) := own_mono (show OwnB wa3 _ 5 va3 (head3 m) from by rw [List.nil_append] at oa3; exact oa3) hz3
    refine WO.q rfl rfl rfl rfl (fun w' hE10 => (X.assign rfl)) ?_
    refine WO.nil ?_
    refine WL.nil ?_
    refine thn_n ?_
    refine WF.seq ?_
    refine WF.region ?_
    refine WL.va rfl rfl rfl (X.fieldAddrO (off := 0) rfl Try.underlying25 rfl rfl Try.sizeOf3) ?_
    refine WL.va rfl rfl rfl (X.loadO hO1 (Ext.trans (Ext.trans (Ext.trans (Ext.trans hx7 (Ext.drew _)) hx11) hx12) hx13) rfl rfl Try.isAgg3) ?_
    refine WL.c rfl rfl rfl (X.call Try.call37 (evl_cons rfl evl_nil)) (has_ok (m.g 0) _) ?_
    rintro vh wh ⟨oh, hx14⟩
    have := World.grownBy.size hx14
    refine WL.va rfl rfl rfl (X.assign rfl) ?_
    refine WL.nil ?_
    refine thn_n ?_
    refine WF.seq ?_
    refine WF.region ?_
    refine WL.va rfl rfl rfl (X.loadOA hO1 (Ext.trans (Ext.trans (Ext.trans (Ext.trans (Ext.trans hx7 (Ext.drew _)) hx11) hx12) hx13) hx14) rfl rfl Try.isAgg25 Try.sizeOf25) ?_
    refine WL.c rfl rfl rfl (X.call Try.call38 (evl_cons rfl evl_nil)) (numbers_ok _ _ m _ (h.ext (Ext.trans (Ext.trans (Ext.trans (Ext.trans (Ext.trans (Ext.trans hx3 hx7) (Ext.drew _)) hx11) hx12) hx13) hx14))) ?_
    rintro vn wn ⟨on, hx15⟩
    have := World.grownBy.size hx15
    refine WL.va rfl rfl rfl (X.assign rfl) ?_
    refine WL.nil ?_
    refine thn_n ?_
    refine WF.seq ?_
    refine WF.seq ?_
    refine WF.region ?_
    refine WL.va rfl rfl rfl (X.assignI rfl) ?_
    refine WL.nil ?_
    refine thn_n ?_
    refine WF.block ?_
    refine WF.named (fun F16 hF17 => ?_)
    refine WF.loopN (fun mL0 f' w' => ∃ (i : Nat) (vb : Value), mL0 = (places (m.g 0)).length - i ∧ f' 8 = .int .i64 (i : Int) ∧ f' 5 = vb ∧ Agree [0, 1, 2, 3, 4, 6, 7, 12, 13, 14, 15, 17, 18, 19, 20, 21, 22, 23, 24, 25, 26, 27, 28, 29, 30] f' F16 ∧ Ext wn w' ∧ i ≤ (places (m.g 0)).length ∧ OwnB w' w.heap.size 5 vb (head3 m ++ fieldsB m ((places (m.g 0)).take i))) ?_ ?_
    · exact ⟨_, 0, _, rfl, (congrFun hF17 8), (congrFun hF17 5), (Agree.refl _ _), (Ext.refl _), ⟨Nat.zero_le _, by rw [List.take_zero]; show OwnB _ _ _ _ (_ ++ []); rw [List.append_nil]; exact own_ext ob0 (Ext.trans hx14 hx15)⟩⟩
    · rintro mL0 fL0 wL0 ⟨i, vb, hmL0, e8_L0, e5_L0, hAL0, hwL0, ⟨hi0, ob⟩⟩
      have := World.grownBy.size hwL0
      refine WF.seq ?_
      refine WF.seq ?_
      refine WF.region ?_
      refine WL.va rfl rfl rfl (X.moveI e8_L0) ?_
      refine WL.va rfl rfl rfl (X.move ((hAL0.eq 6).trans (congrFun hF17 6))) ?_
      refine WL.va rfl rfl rfl (X.len (Row.of_own oh) rfl Try.underlying45) ?_
      refine WL.va rfl rfl rfl (X.lss rfl rfl) ?_
      refine WL.nil ?_
      refine thn_n ?_
      refine WF.cond rfl (fun h1_18 => ?_) (fun h1_18 => ?_)
      · have gh1_18 := (of_decide_eq_true h1_18)
        have hi : i < (places (m.g 0)).length := by have := gh1_18; rw [hnl] at this; omega
        obtain ⟨q, hq, hq14, _, htk⟩ := next_place hi
        have hqe : (places (m.g 0))[i] = q := by rw [List.getElem?_eq_getElem hi] at hq; injection hq
        have hfp := fieldsB_take m (places (m.g 0)) i
        refine WF.skip ?_
        refine thn_n ?_
        refine WF.seq ?_
        refine WF.block ?_
        refine WF.seq ?_
        refine WF.region ?_
        refine WL.va rfl rfl rfl (X.move ((hAL0.eq 6).trans (congrFun hF17 6))) ?_
        refine WL.va rfl rfl rfl (X.moveI e8_L0) ?_
        refine WL.va rfl rfl rfl (X.idx (Row.of_own oh) rfl rfl (by rw [hnl]; exact hi) Try.underlying45 Try.sizeOf3) ?_
        refine WL.va rfl rfl rfl (((X.loadI (Row.of_own oh) (Ext.trans hx15 hwL0) rfl (by rw [hnl]; exact hi) Try.isAgg3)).trans (by rw [fints_get hi, hqe])) ?_
        refine WL.nil ?_
        refine thn_n ?_
        refine WF.block ?_
        refine WF.seq ?_
        refine WF.region ?_
        refine WL.va rfl rfl rfl (X.eql rfl rfl) ?_
        refine WL.va rfl rfl rfl (X.assignB rfl) ?_
        refine WL.nil ?_
        refine thn_n ?_
        refine WF.cond rfl (fun h2_20 => ?_) (fun h2_20 => ?_)
        · have gh2_20 := (of_decide_eq_true h2_20)
          have hq11 : q = 11 := by have := gh2_20; omega
          refine WF.seq ?_
          refine WF.region ?_
          refine WL.va rfl rfl rfl (X.assignI rfl) ?_
          refine WL.nil ?_
          refine thn_n ?_
          refine WF.seq ?_
          refine WF.seq ?_
          refine WF.region ?_
          refine WL.va rfl rfl rfl (X.fieldAddrO (off := 14) ((hAL0.eq 1).trans (congrFun hF17 1)) Try.underlying25 rfl rfl Try.sizeOf4) ?_
          refine WL.va rfl rfl rfl (X.loadO hO1 (Ext.trans (Ext.trans (Ext.trans (Ext.trans (Ext.trans (Ext.trans (Ext.trans hx7 (Ext.drew _)) hx11) hx12) hx13) hx14) hx15) hwL0) rfl rfl Try.isAgg4) ?_
          refine WL.nil ?_
          refine thn_n ?_
          refine WF.cond rfl (fun h3_22 => ?_) (fun h3_22 => ?_)
          · have gh3_22 := h3_22
            have hok : m.ok = true := gh3_22
            refine WF.region ?_
            refine WL.va rfl rfl rfl (X.assignI rfl) ?_
            refine WL.nil ?_
            refine thn_n ?_
            refine WF.region ?_
            refine WL.va rfl rfl rfl (X.move e5_L0) ?_
            refine WL.va rfl rfl rfl (X.moveI rfl) ?_
            have hz5 := World.grownBy.size (show Ext w wL0 from (Ext.trans (Ext.trans (Ext.trans (Ext.trans (Ext.trans (Ext.trans (Ext.trans (Ext.trans hx3 hx7) (Ext.drew _)) hx11) hx12) hx13) hx14) hx15) hwL0))
            refine WL.c rfl rfl rfl (X.call Try.call47 (evl_cons rfl (evl_cons rfl evl_nil))) (refInt_ok _ _ _ _ (Row.ext (Row.of_own ob) (Ext.refl wL0)) (by rw [List.length_append, head3_len]; omega)) ?_
            rintro vb5 w24 ⟨o5, hx25⟩
            have := World.grownBy.size hx25
            have ofin : OwnB w24 w.heap.size 5 vb5 (head3 m ++ fieldsB m ((places (m.g 0)).take i ++ [q])) := by
              rw [fieldsB_app, F11 hq11, ← List.append_assoc]
              rw [hok]; exact own_mono o5 hz5
            refine WL.va rfl rfl rfl (X.assign rfl) ?_
            refine WL.nil ?_
            refine blk_n ?_
            refine blk_n ?_
            refine thn_n ?_
            refine WF.region ?_
            refine WL.va rfl rfl rfl (X.moveI e8_L0) ?_
            refine WL.va rfl rfl rfl (X.add rfl rfl (w64 (by omega))) ?_
            refine WL.va rfl rfl rfl (X.assignI rfl) ?_
            refine WL.nil ?_
            exact thn_n ⟨_, (by omega), i + 1, _, rfl, rfl, rfl, (by repeat (first | exact hAL0 | refine Agree.put ?_ rfl | refine Agree.named hF17 ?_)), (Ext.trans hwL0 hx25), ⟨by omega, by rw [htk]; exact ofin⟩⟩
          · have gh3_22 := h3_22
            have hok : m.ok = false := gh3_22
            refine WF.skip ?_
            refine thn_n ?_
            refine WF.region ?_
            refine WL.va rfl rfl rfl (X.move e5_L0) ?_
            refine WL.va rfl rfl rfl (X.moveI rfl) ?_
            have hz5 := World.grownBy.size (show Ext w wL0 from (Ext.trans (Ext.trans (Ext.trans (Ext.trans (Ext.trans (Ext.trans (Ext.trans (Ext.trans hx3 hx7) (Ext.drew _)) hx11) hx12) hx13) hx14) hx15) hwL0))
            refine WL.c rfl rfl rfl (X.call Try.call47 (evl_cons rfl (evl_cons rfl evl_nil))) (refInt_ok _ _ _ _ (Row.ext (Row.of_own ob) (Ext.refl wL0)) (by rw [List.length_append, head3_len]; omega)) ?_
            rintro vb5 w26 ⟨o5, hx27⟩
            have := World.grownBy.size hx27
            have ofin : OwnB w26 w.heap.size 5 vb5 (head3 m ++ fieldsB m ((places (m.g 0)).take i ++ [q])) := by
              rw [fieldsB_app, F11 hq11, ← List.append_assoc]
              rw [hok]; exact own_mono o5 hz5
            refine WL.va rfl rfl rfl (X.assign rfl) ?_
            refine WL.nil ?_
            refine blk_n ?_
            refine blk_n ?_
            refine thn_n ?_
            refine WF.region ?_
            refine WL.va rfl rfl rfl (X.moveI e8_L0) ?_
            refine WL.va rfl rfl rfl (X.add rfl rfl (w64 (by omega))) ?_
            refine WL.va rfl rfl rfl (X.assignI rfl) ?_
            refine WL.nil ?_
            exact thn_n ⟨_, (by omega), i + 1, _, rfl, rfl, rfl, (by repeat (first | exact hAL0 | refine Agree.put ?_ rfl | refine Agree.named hF17 ?_)), (Ext.trans hwL0 hx27), ⟨by omega, by rw [htk]; exact ofin⟩⟩
        · have gh2_20 := (of_decide_eq_false h2_20)
          have hq11 : q ≠ 11 := by have := gh2_20; omega
          refine WF.seq ?_
          refine WF.region ?_
          refine WL.va rfl rfl rfl (X.eql rfl rfl) ?_
          refine WL.va rfl rfl rfl (X.assignB rfl) ?_
          refine WL.nil ?_
          refine thn_n ?_
          refine WF.cond rfl (fun h4_28 => ?_) (fun h4_28 => ?_)
          · have gh4_28 := (of_decide_eq_true h4_28)
            have hq12 : q = 12 := by have := gh4_28; omega
            refine WF.seq ?_
            refine WF.region ?_
            refine WL.va rfl rfl rfl (X.move e5_L0) ?_
            refine WL.va rfl rfl rfl (X.fieldAddrO (off := 15) ((hAL0.eq 1).trans (congrFun hF17 1)) Try.underlying25 rfl rfl Try.sizeOf22) ?_
            refine WL.va rfl rfl rfl (X.loadO hO1 (Ext.trans (Ext.trans (Ext.trans (Ext.trans (Ext.trans (Ext.trans (Ext.trans hx7 (Ext.drew _)) hx11) hx12) hx13) hx14) hx15) hwL0) rfl rfl Try.isAgg22) ?_
            refine WL.va rfl rfl rfl (X.len rE2 rfl Try.underlying22) ?_
            have hz6 := World.grownBy.size (show Ext w wL0 from (Ext.trans (Ext.trans (Ext.trans (Ext.trans (Ext.trans (Ext.trans (Ext.trans (Ext.trans hx3 hx7) (Ext.drew _)) hx11) hx12) hx13) hx14) hx15) hwL0))
            refine WL.c rfl rfl rfl (X.call Try.call47 (evl_cons rfl (evl_cons rfl evl_nil))) (refInt_ok _ _ _ _ (Row.ext (Row.of_own ob) (Ext.refl wL0)) (by rw [List.length_append, head3_len]; omega)) ?_
            rintro vb6 w6b ⟨o6, hx30⟩
            have := World.grownBy.size hx30
            have ok0 := own_mono o6 hz6
            refine WL.va rfl rfl rfl (X.assign rfl) ?_
            refine WL.nil ?_
            refine thn_n ?_
            refine WF.seq ?_
            refine WF.region ?_
            refine WL.va rfl rfl rfl (X.assignI rfl) ?_
            refine WL.nil ?_
            refine thn_n ?_
            refine WF.block ?_
            refine WF.named (fun F31 hF32 => ?_)
            refine WF.loopN (fun mL1 f' w' => ∃ (k : Nat) (vk : Value), mL1 = E.length - k ∧ f' 10 = .int .i64 (k : Int) ∧ f' 5 = vk ∧ Agree [0, 1, 2, 3, 4, 6, 7, 8, 12, 13, 14, 15, 17, 18, 19, 20, 21, 22, 23, 24, 25, 26, 27, 28, 29, 30, 31, 32, 33, 34, 37, 38, 39, 40, 50, 51, 57, 58, 59, 60, 61, 62, 63] f' F31 ∧ Ext w6b w' ∧ k ≤ E.length ∧ OwnB w' w.heap.size 5 vk ((head3 m ++ fieldsB m ((places (m.g 0)).take i)) ++ Pk.enc m.E.length ++ flatE (m.E.take k))) ?_ ?_
            · exact ⟨_, 0, _, rfl, (congrFun hF32 10), (congrFun hF32 5), (Agree.refl _ _), (Ext.refl _), ⟨Nat.zero_le _, by rw [List.take_zero]; show OwnB _ _ _ _ (_ ++ []); rw [List.append_nil]; exact own_ext ok0 (Ext.refl w6b)⟩⟩
            · rintro mL1 fL1 wL1 ⟨k, vk, hmL1, e10_L1, e5_L1, hAL1, hwL1, ⟨hk0, okk⟩⟩
              have := World.grownBy.size hwL1
              refine WF.seq ?_
              refine WF.seq ?_
              refine WF.region ?_
              refine WL.va rfl rfl rfl (X.moveI e10_L1) ?_
              refine WL.va rfl rfl rfl (X.fieldAddrO (off := 15) ((hAL1.eq 1).trans ((congrFun hF32 1).trans ((hAL0.eq 1).trans (congrFun hF17 1)))) Try.underlying25 rfl rfl Try.sizeOf22) ?_
              refine WL.va rfl rfl rfl (X.loadO hO1 (Ext.trans (Ext.trans (Ext.trans (Ext.trans (Ext.trans (Ext.trans (Ext.trans (Ext.trans (Ext.trans hx7 (Ext.drew _)) hx11) hx12) hx13) hx14) hx15) hwL0) hx30) hwL1) rfl rfl Try.isAgg22) ?_
              refine WL.va rfl rfl rfl (X.len rE2 rfl Try.underlying22) ?_
              refine WL.va rfl rfl rfl (X.lss rfl rfl) ?_
              refine WL.nil ?_
              refine thn_n ?_
              refine WF.cond rfl (fun h5_33 => ?_) (fun h5_33 => ?_)
              · have gh5_33 := (of_decide_eq_true h5_33)
                have hk : k < E.length := by omega
                have hdk := sumE_map hE hk
                have hdl := sumE_le (l := m.E) (k + 1)
                have hfk := hfe k
                refine WF.skip ?_
                refine thn_n ?_
                refine WF.seq ?_
                refine WF.block ?_
                refine WF.seq ?_
                refine WF.region ?_
                refine WL.va rfl rfl rfl (X.fieldAddrO (off := 15) ((hAL1.eq 1).trans ((congrFun hF32 1).trans ((hAL0.eq 1).trans (congrFun hF17 1)))) Try.underlying25 rfl rfl Try.sizeOf22) ?_
                refine WL.va rfl rfl rfl (X.loadO hO1 (Ext.trans (Ext.trans (Ext.trans (Ext.trans (Ext.trans (Ext.trans (Ext.trans (Ext.trans (Ext.trans hx7 (Ext.drew _)) hx11) hx12) hx13) hx14) hx15) hwL0) hx30) hwL1) rfl rfl Try.isAgg22) ?_
                refine WL.va rfl rfl rfl (X.moveI e10_L1) ?_
                refine WL.va rfl rfl rfl (X.idx rE2 rfl rfl (by omega) Try.underlying22 Try.sizeOf57) ?_
                refine WL.va rfl rfl rfl (X.loadEl rE2 (Ext.trans (Ext.trans (Ext.trans (Ext.trans (Ext.trans (Ext.trans (Ext.trans (Ext.trans (Ext.trans (Ext.trans hx3 hx7) (Ext.drew _)) hx11) hx12) hx13) hx14) hx15) hwL0) hx30) hwL1) rfl (by omega) (ERow.el (E := E) (k := k) hk) Try.isAgg57 Try.sizeOf57) ?_
                refine WL.op rfl (OW.allocO (cs := [i64 0, i64 0, .slice none 0 0]) Try.zeroValue57 rfl ?_ (by decide))
                intro g11 w35 heg11 hlg11 hO11 hx37
                have := World.grownBy.size hx37
                refine WL.op rfl (OW.storeOA hO11 rfl rfl rfl (dE.one1 hk) Try.sizeOf57 ?_)
                intro w39 hO11 hx41
                have := World.grownBy.size hx41
                replace hO1 := (hO1.ext (Ext.trans (Ext.trans (Ext.trans (Ext.trans (Ext.trans (Ext.trans (Ext.trans (Ext.trans (Ext.trans (Ext.trans hx7 (Ext.drew _)) hx11) hx12) hx13) hx14) hx15) hwL0) hx30) hwL1) hx37)).keptO hx41 (by omega)
                refine WL.nil ?_
                refine thn_n ?_
                refine WF.seq ?_
                refine WF.drawn (.q 0 (.q 1 (.q 2 (.q 4 (.q 5 (.l 3 (.l 6 (.q 7 .nil)))))))) (fun w' => Ext w39 w') 8 (by kernel_rfl) (by kernel_rfl) (Ext.drew _) ?_
                have := World.grownBy.size (Ext.drew w39)
                refine WO.q rfl rfl rfl rfl (fun w' hE43 => (X.move e5_L1)) ?_
                refine WO.q rfl rfl rfl rfl (fun w' hE43 => (X.fieldAddrO (off := 0) rfl Try.underlying57 rfl rfl Try.sizeOf3)) ?_
                refine WO.q rfl rfl rfl rfl (fun w' hE43 => (X.loadO hO11 hE43 rfl rfl Try.isAgg3)) ?_
                refine WO.q rfl rfl rfl rfl (fun w' hE43 => (X.fieldAddrO (off := 1) rfl Try.underlying57 rfl rfl Try.sizeOf3)) ?_
                refine WO.q rfl rfl rfl rfl (fun w' hE43 => (X.loadO hO11 hE43 rfl rfl Try.isAgg3)) ?_
                refine WO.l ?_
                refine LO.go rfl rfl (OW.enter rfl (by decide) (X.call Try.call47 (evl_cons rfl (evl_cons rfl evl_nil))) (refInt_ok _ _ _ _ (Row.ext (Row.of_own okk) (Ext.trans (Ext.store hx37 hx41 (by omega)) (Ext.drew _))) (by simp only [List.length_append, head3_len, Pk.enc_len]; omega)) ?_)
                rintro vd1 wd1 ⟨od1, hx44⟩
                have := World.grownBy.size hx44
                refine ⟨(Ext.trans (Ext.drew _) hx44), ?_⟩
                refine WO.l ?_
                refine LO.go rfl rfl (OW.enter rfl (by decide) (X.call Try.call47 (evl_cons rfl (evl_cons rfl evl_nil))) (refInt_ok _ _ _ _ (Row.ext (Row.of_own od1) (Ext.refl wd1)) (by simp only [List.length_append, head3_len, Pk.enc_len]; omega)) ?_)
                rintro vd2 wd2 ⟨od2, hx45⟩
                have := World.grownBy.size hx45
                refine ⟨(Ext.trans (Ext.trans (Ext.drew _) hx44) hx45), ?_⟩
                refine WO.q rfl rfl rfl rfl (fun w' hE43 => (X.assign rfl)) ?_
                refine WO.nil ?_
                refine WL.nil ?_
                refine thn_n ?_
                refine WF.region ?_
                refine WL.va rfl rfl rfl (X.move rfl) ?_
                refine WL.va rfl rfl rfl (X.fieldAddrO (off := 2) rfl Try.underlying57 rfl rfl Try.sizeOf23) ?_
                refine WL.va rfl rfl rfl (X.loadO hO11 (Ext.trans (Ext.trans (Ext.drew _) hx44) hx45) rfl rfl Try.isAgg23) ?_
                have hz9 := World.grownBy.size (show Ext w wd2 from (Ext.trans (Ext.trans (Ext.trans (Ext.trans (Ext.trans (Ext.trans (Ext.trans (Ext.trans (Ext.trans (Ext.trans (Ext.trans (Ext.trans (Ext.trans (Ext.trans hx3 hx7) (Ext.drew _)) hx11) hx12) hx13) hx14) hx15) hwL0) hx30) hwL1) (Ext.store hx37 hx41 (by omega))) (Ext.drew _)) hx44) hx45))
                refine WL.c rfl rfl rfl (X.call Try.call48 (evl_cons rfl (evl_cons rfl evl_nil))) (refBlob_ok _ _ _ (E[k]'hk).1.Data _ (Row.ext (Row.of_own od2) (Ext.refl wd2)) (Row.ext (dE _ (List.getElem_mem hk)) (Ext.trans (Ext.trans (Ext.trans (Ext.trans (Ext.trans (Ext.trans (Ext.trans (Ext.trans (Ext.trans (Ext.trans (Ext.trans (Ext.trans (Ext.trans (Ext.trans hx3 hx7) (Ext.drew _)) hx11) hx12) hx13) hx14) hx15) hwL0) hx30) hwL1) (Ext.store hx37 hx41 (by omega))) (Ext.drew _)) hx44) hx45)) (by simp only [List.length_append, head3_len, Pk.enc_len]; omega)) ?_
                rintro vd3 w46 ⟨od3, hx47⟩
                have := World.grownBy.size hx47
                refine WL.va rfl rfl rfl (X.assign rfl) ?_
                refine WL.nil ?_
                refine blk_n ?_
                refine thn_n ?_
                refine WF.region ?_
                refine WL.va rfl rfl rfl (X.moveI e10_L1) ?_
                refine WL.va rfl rfl rfl (X.add rfl rfl (w64 (by omega))) ?_
                refine WL.va rfl rfl rfl (X.assignI rfl) ?_
                refine WL.nil ?_
                exact thn_n ⟨_, (by omega), k + 1, _, rfl, rfl, rfl, (by repeat (first | exact hAL1 | refine Agree.put ?_ rfl | refine Agree.sub hAL0 rfl ?_ | refine Agree.named hF32 ?_ | refine Agree.named hF17 ?_)), (Ext.trans (Ext.trans (Ext.trans (Ext.trans (Ext.trans hwL1 (Ext.store hx37 hx41 (by omega))) (Ext.drew _)) hx44) hx45) hx47), ⟨by omega, by rw [flatE_snoc hE hk, ← List.append_assoc, ← List.append_assoc, ← List.append_assoc]; exact own_mono od3 hz9⟩⟩
              · have gh5_33 := (of_decide_eq_false h5_33)
                have ofin : OwnB wL1 w.heap.size 5 vk (head3 m ++ fieldsB m ((places (m.g 0)).take i ++ [q])) := by
                  rw [fieldsB_app, F12 hq12, ← List.append_assoc]
                  rw [List.take_of_length_le (show m.E.length ≤ k by omega)] at okk
                  simpa only [List.append_assoc] using okk
                refine WF.exit ?_
                refine thn_x ?_
                refine thn_x ?_
                refine blk_eq ?_
                refine blk_n ?_
                refine blk_n ?_
                refine thn_n ?_
                refine WF.region ?_
                refine WL.va rfl rfl rfl (X.moveI ((hAL1.eq 8).trans ((congrFun hF32 8).trans e8_L0))) ?_
                refine WL.va rfl rfl rfl (X.add rfl rfl (w64 (by omega))) ?_
                refine WL.va rfl rfl rfl (X.assignI rfl) ?_
                refine WL.nil ?_
                exact thn_n ⟨_, (by omega), i + 1, _, rfl, rfl, e5_L1, (by repeat (first | exact hAL0 | refine Agree.put ?_ rfl | refine Agree.sub hAL1 rfl ?_ | refine Agree.named hF32 ?_ | refine Agree.named hF17 ?_)), (Ext.trans (Ext.trans hwL0 hx30) hwL1), ⟨by omega, by rw [htk]; exact ofin⟩⟩
          · have gh4_28 := (of_decide_eq_false h4_28)
            have hq12 : q ≠ 12 := by have := gh4_28; omega
            refine WF.seq ?_
            refine WF.region ?_
            refine WL.va rfl rfl rfl (X.eql rfl rfl) ?_
            refine WL.va rfl rfl rfl (X.assignB rfl) ?_
            refine WL.nil ?_
            refine thn_n ?_
            refine WF.cond rfl (fun h6_48 => ?_) (fun h6_48 => ?_)
            · have gh6_48 := (of_decide_eq_true h6_48)
              have hq13 : q = 13 := by have := gh6_48; omega
              refine WF.region ?_
              refine WL.va rfl rfl rfl (X.move e5_L0) ?_
              refine WL.va rfl rfl rfl (X.fieldAddrO (off := 16) ((hAL0.eq 1).trans (congrFun hF17 1)) Try.underlying25 rfl rfl Try.sizeOf23) ?_
              refine WL.va rfl rfl rfl (X.loadO hO1 (Ext.trans (Ext.trans (Ext.trans (Ext.trans (Ext.trans (Ext.trans (Ext.trans hx7 (Ext.drew _)) hx11) hx12) hx13) hx14) hx15) hwL0) rfl rfl Try.isAgg23) ?_
              have hz10 := World.grownBy.size (show Ext w wL0 from (Ext.trans (Ext.trans (Ext.trans (Ext.trans (Ext.trans (Ext.trans (Ext.trans (Ext.trans hx3 hx7) (Ext.drew _)) hx11) hx12) hx13) hx14) hx15) hwL0))
              refine WL.c rfl rfl rfl (X.call Try.call48 (evl_cons rfl (evl_cons rfl evl_nil))) (refBlob_ok _ _ _ m.D _ (Row.ext (Row.of_own ob) (Ext.refl wL0)) (Row.ext h.D (Ext.trans (Ext.trans (Ext.trans (Ext.trans (Ext.trans (Ext.trans (Ext.trans (Ext.trans hx3 hx7) (Ext.drew _)) hx11) hx12) hx13) hx14) hx15) hwL0)) (by rw [List.length_append, head3_len]; omega)) ?_
              rintro vb10 w50 ⟨o10, hx51⟩
              have := World.grownBy.size hx51
              have ofin : OwnB w50 w.heap.size 5 vb10 (head3 m ++ fieldsB m ((places (m.g 0)).take i ++ [q])) := by
                rw [fieldsB_app, F13 hq13, ← List.append_assoc]
                exact own_mono o10 hz10
              refine WL.va rfl rfl rfl (X.assign rfl) ?_
              refine WL.nil ?_
              refine blk_n ?_
              refine blk_n ?_
              refine thn_n ?_
              refine WF.region ?_
              refine WL.va rfl rfl rfl (X.moveI e8_L0) ?_
              refine WL.va rfl rfl rfl (X.add rfl rfl (w64 (by omega))) ?_
              refine WL.va rfl rfl rfl (X.assignI rfl) ?_
              refine WL.nil ?_
              exact thn_n ⟨_, (by omega), i + 1, _, rfl, rfl, rfl, (by repeat (first | exact hAL0 | refine Agree.put ?_ rfl | refine Agree.named hF17 ?_)), (Ext.trans hwL0 hx51), ⟨by omega, by rw [htk]; exact ofin⟩⟩
            · have gh6_48 := (of_decide_eq_false h6_48)
              have hq13 : q ≠ 13 := by have := gh6_48; omega
              have hqn : q < 11 := by omega
              refine WF.region ?_
              refine WL.va rfl rfl rfl (X.move e5_L0) ?_
              refine WL.va rfl rfl rfl (X.move ((hAL0.eq 7).trans (congrFun hF17 7))) ?_
              refine WL.va rfl rfl rfl (X.move ((hAL0.eq 6).trans (congrFun hF17 6))) ?_
              refine WL.va rfl rfl rfl (X.moveI e8_L0) ?_
              refine WL.va rfl rfl rfl (X.idx (Row.of_own oh) rfl rfl (by rw [hnl]; exact hi) Try.underlying45 Try.sizeOf3) ?_
              refine WL.va rfl rfl rfl (((X.loadI (Row.of_own oh) (Ext.trans hx15 hwL0) rfl (by rw [hnl]; exact hi) Try.isAgg3)).trans (by rw [fints_get hi, hqe])) ?_
              refine WL.va rfl rfl rfl (X.idx (Row.of_own on) rfl rfl (show q < 11 from hqn) Try.underlying45 Try.sizeOf3) ?_
              refine WL.va rfl rfl rfl (((X.loadI (Row.of_own on) hwL0 rfl (show q < 11 from hqn) Try.isAgg3)).trans (by rw [numL_get _ hqn])) ?_
              have hz12 := World.grownBy.size (show Ext w wL0 from (Ext.trans (Ext.trans (Ext.trans (Ext.trans (Ext.trans (Ext.trans (Ext.trans (Ext.trans hx3 hx7) (Ext.drew _)) hx11) hx12) hx13) hx14) hx15) hwL0))
              refine WL.c rfl rfl rfl (X.call Try.call47 (evl_cons rfl (evl_cons rfl evl_nil))) (refInt_ok _ _ _ _ (Row.ext (Row.of_own ob) (Ext.refl wL0)) (by rw [List.length_append, head3_len]; omega)) ?_
              rintro vb12 w52 ⟨o12, hx53⟩
              have := World.grownBy.size hx53
              have ofin : OwnB w52 w.heap.size 5 vb12 (head3 m ++ fieldsB m ((places (m.g 0)).take i ++ [q])) := by
                rw [fieldsB_app, Fn hqn, ← List.append_assoc]
                exact own_mono o12 hz12
              refine WL.va rfl rfl rfl (X.assign rfl) ?_
              refine WL.nil ?_
              refine blk_n ?_
              refine blk_n ?_
              refine thn_n ?_
              refine WF.region ?_
              refine WL.va rfl rfl rfl (X.moveI e8_L0) ?_
              refine WL.va rfl rfl rfl (X.add rfl rfl (w64 (by omega))) ?_
              refine WL.va rfl rfl rfl (X.assignI rfl) ?_
              refine WL.nil ?_
              exact thn_n ⟨_, (by omega), i + 1, _, rfl, rfl, rfl, (by repeat (first | exact hAL0 | refine Agree.put ?_ rfl | refine Agree.named hF17 ?_)), (Ext.trans hwL0 hx53), ⟨by omega, by rw [htk]; exact ofin⟩⟩
      · have gh1_18 := (of_decide_eq_false h1_18)
        have obm : OwnB wL0 w.heap.size 5 vb (mbytes m) := by
          rw [List.take_of_length_le (by have := gh1_18; rw [hnl] at this; omega)] at ob; exact ob
        refine WF.exit ?_
        refine thn_x ?_
        refine thn_x ?_
        refine blk_eq ?_
        refine thn_n ?_
        refine WF.seq ?_
        refine WF.region ?_
        refine WL.va rfl rfl rfl (X.move e5_L0) ?_
        have hz13 := World.grownBy.size (show Ext w wL0 from (Ext.trans (Ext.trans (Ext.trans (Ext.trans (Ext.trans (Ext.trans (Ext.trans (Ext.trans hx3 hx7) (Ext.drew _)) hx11) hx12) hx13) hx14) hx15) hwL0))
        refine WL.c rfl rfl rfl (X.call Try.call49 (evl_cons rfl evl_nil)) (frefPut_ok _ (mbytes m) _ (Row.ext (Row.of_own obm) (Ext.refl wL0))) ?_
        rintro vf w54 ⟨⟨vx, rfl, of0⟩, hx55⟩
        have := World.grownBy.size hx55
        have hpo := Frm.put_ok (mbytes_len hc0)
        rw [hpo] at of0
        refine WL.va rfl rfl rfl (X.extract rfl rfl) ?_
        refine WL.va rfl rfl rfl (X.extract rfl rfl) ?_
        refine WL.va rfl rfl rfl (X.assign rfl) ?_
        refine WL.va rfl rfl rfl (X.assignI rfl) ?_
        refine WL.nil ?_
        refine thn_n ?_
        refine WF.ret ?_
        refine fin_r ?_
        rw [hpo]
        refine ⟨⟨vx, (by rw [hc0]; rfl), fun _ => own_mono of0 hz13, fun q => absurd hc0 q⟩, (Ext.trans (Ext.trans (Ext.trans (Ext.trans (Ext.trans (Ext.trans (Ext.trans (Ext.trans (Ext.trans hx3 hx7) (Ext.drew _)) hx11) hx12) hx13) hx14) hx15) hwL0) hx55)⟩

end Go.Proofs.Ytccbpfbcaogcnaa
