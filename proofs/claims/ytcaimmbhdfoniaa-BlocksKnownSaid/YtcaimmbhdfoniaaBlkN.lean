/- The walk of the reference's Keep. -/
import Derived.Test.YtcaimmbhdfoniaaBlkM
namespace Go.Proofs.Ytcaimmbhdfoniaa
open Go Go.RowKit Kf

set_option maxHeartbeats 8000000 in
theorem refKeep_ok (v : Value) (kk : List Kp) (s lo hi : Int) (vb : Value) (bl : List Bl) (w : World) (h : Kps w v kk) (hrk : RightK kk) (hkl : kk.length ≤ 1000) (hb : Bls w vb bl) (hrb : RightB bl) : FnOk Try.prog 16 [v, i64 s, agg [i64 lo, i64 hi], vb] w (fun r w' => (∃ F, F.map Prod.fst = keepK kk s lo hi bl ∧ KOwn w' w.heap.size r F) ∧ Ext w w') := by
  have hkk := h
  obtain ⟨E, rfl, re, de⟩ := h
  rw [List.length_map] at hkl
  have hd : ∀ x ∈ E.map Prod.fst, x.Data.length ≤ 1000000 := fun x hx => by have := (hrk.each x hx).2.2; omega
  have hdb : ∀ x ∈ bl, x.Data.length ≤ 1000000 := fun x hx => by have := (hrb.each x hx).2.2.1; omega
  refine FnOk.enter (rs := [8]) Try.func16 rfl Try.ntmps16 Try.results16 rfl rfl ?_
  refine WF.seq ?_
  refine WF.region ?_
  refine WL.op rfl (OW.boxA (cs := [i64 lo, i64 hi]) rfl ?_ (by decide))
  intro g6 wb heg6 hlg6 hO6 hx2
  have := World.grownBy.size hx2
  have hwb0 := hx2
  refine WL.va rfl rfl rfl (X.assign rfl) ?_
  refine WL.nil ?_
  refine thn_n ?_
  refine WF.seq ?_
  refine WF.region ?_
  refine WL.va rfl rfl rfl (X.assign rfl) ?_
  refine WL.nil ?_
  refine thn_n ?_
  refine WF.seq ?_
  refine WF.seq ?_
  refine WF.region ?_
  refine WL.va rfl rfl rfl (X.assignI rfl) ?_
  refine WL.nil ?_
  refine thn_n ?_
  refine WF.block ?_
  refine WF.named (fun F4 hF5 => ?_)
  refine WF.loopN (fun mL0 f' w' => ∃ (k : Nat) (vf : Value) (FR : List KV), mL0 = 64 - k ∧ f' 10 = .int .i64 (k : Int) ∧ f' 9 = vf ∧ Agree [0, 1, 2, 3, 6, 8] f' F4 ∧ Ext wb w' ∧ k ≤ 64 ∧ KOwn w' wb.heap.size vf FR ∧ FR.map Prod.fst = freshL (E.map Prod.fst) s lo hi bl k ∧ FR.length ≤ k) ?_ ?_
  · exact ⟨_, 0, (.slice none 0 0), [], rfl, (congrFun hF5 10), (congrFun hF5 9), (Agree.refl _ _), (Ext.refl _), ⟨Nat.zero_le _, KOwn.nil _ _, rfl, Nat.le_refl _⟩⟩
  · rintro mL0 fL0 wL0 ⟨k, vf, FR, hmL0, e10_L0, e9_L0, hAL0, hwL0, ⟨hk0, ho, hFR, hFl⟩⟩
    have := World.grownBy.size hwL0
    refine WF.seq ?_
    refine WF.seq ?_
    refine WF.region ?_
    refine WL.va rfl rfl rfl (X.moveI e10_L0) ?_
    refine WL.va rfl rfl rfl (X.lss rfl rfl) ?_
    refine WL.nil ?_
    refine thn_n ?_
    refine WF.cond rfl (fun h0_6 => ?_) (fun h0_6 => ?_)
    · have gh0_6 := (of_decide_eq_true h0_6)
      have hk : k < 64 := by omega
      refine WF.skip ?_
      refine thn_n ?_
      refine WF.seq ?_
      refine WF.block ?_
      refine WF.seq ?_
      refine WF.region ?_
      refine WL.va rfl rfl rfl (X.move ((hAL0.eq 0).trans (congrFun hF5 0))) ?_
      refine WL.va rfl rfl rfl (X.moveI ((hAL0.eq 1).trans (congrFun hF5 1))) ?_
      refine WL.va rfl rfl rfl (X.moveI e10_L0) ?_
      refine WL.c rfl rfl rfl (X.call Try.call18 (evl_cons rfl (evl_cons rfl (evl_cons rfl evl_nil)))) (refKept_ok _ (E.map Prod.fst) s (k : Int) _ (hkk.ext (Ext.trans hx2 hwL0)) hd) ?_
      rintro tk wk ⟨⟨dk, rfl, ok0⟩, hx8⟩
      have := World.grownBy.size hx8
      refine WL.va rfl rfl rfl (X.move rfl) ?_
      refine WL.va rfl rfl rfl (X.extract rfl rfl) ?_
      refine WL.va rfl rfl rfl (X.extract rfl rfl) ?_
      refine WL.va rfl rfl rfl (X.assign rfl) ?_
      refine WL.va rfl rfl rfl (X.assignB rfl) ?_
      refine WL.nil ?_
      refine thn_n ?_
      refine WF.named (fun F10 hF11 => ?_)
      refine WF.cut (fun f' w' => ∃ (dX : Value) (bX : Bool), f' 11 = dX ∧ f' 12 = .bool bX ∧ Agree [0, 1, 2, 3, 6, 8, 9, 10, 16, 17, 20, 21, 22, 23, 24, 25, 26] f' F10 ∧ Ext wk w' ∧ (bX = true → ∃ d, freshO (E.map Prod.fst) s lo hi bl (k : Int) = some d ∧ OwnB w' wL0.heap.size 5 dX d) ∧ (bX = false → freshO (E.map Prod.fst) s lo hi bl (k : Int) = none)) ?_ ?_
      · refine WF.seq ?_
        refine WF.region ?_
        refine WL.va rfl rfl rfl (X.loadOA hO6 (Ext.trans hwL0 hx8) ((congrFun hF11 6).trans ((hAL0.eq 6).trans (congrFun hF5 6))) rfl Try.isAgg30 Try.sizeOf30) ?_
        refine WL.va rfl rfl rfl (X.moveI ((congrFun hF11 10).trans e10_L0)) ?_
        refine WL.c rfl rfl rfl (X.call Try.call41 (evl_cons rfl (evl_cons rfl evl_nil))) (refIn1_ok lo hi (k : Int) _) ?_
        rintro v13 w12 ⟨rfl, hx14⟩
        have := World.grownBy.size hx14
        refine WL.nil ?_
        refine thn_n ?_
        refine WF.cond rfl (fun h1_15 => ?_) (fun h1_15 => ?_)
        · have gh1_15 := h1_15
          have hin := gh1_15
          refine WF.seq ?_
          refine WF.region ?_
          refine WL.va rfl rfl rfl (X.move ((congrFun hF11 3).trans ((hAL0.eq 3).trans (congrFun hF5 3)))) ?_
          refine WL.va rfl rfl rfl (X.moveI ((congrFun hF11 10).trans e10_L0)) ?_
          have szq := World.grownBy.size (show Ext wL0 w12 from (Ext.trans hx8 hx14))
          refine WL.c rfl rfl rfl (X.call Try.call32 (evl_cons rfl (evl_cons rfl evl_nil))) (refGet_ok _ bl (k : Int) _ (hb.ext (Ext.trans (Ext.trans (Ext.trans hx2 hwL0) hx8) hx14)) hdb) ?_
          rintro dv w17 ⟨od, hx18⟩
          have := World.grownBy.size hx18
          have hcut : (true = true → ∃ d, freshO (E.map Prod.fst) s lo hi bl (k : Int) = some d ∧ OwnB w17 wL0.heap.size 5 dv d) ∧ (true = false → freshO (E.map Prod.fst) s lo hi bl (k : Int) = none) := ⟨fun _ => ⟨_, by unfold freshO; rw [if_pos hin], own_mono od szq⟩, fun h => by cases h⟩
          refine WL.va rfl rfl rfl (X.assign rfl) ?_
          refine WL.nil ?_
          refine thn_n ?_
          refine WF.region ?_
          refine WL.va rfl rfl rfl (X.assignB rfl) ?_
          refine WL.nil ?_
          refine thn_n ?_
          exact ⟨_, _, rfl, rfl, (by repeat (first | exact (Agree.refl _ F10) | refine Agree.put ?_ rfl | refine Agree.sub hAL0 rfl ?_ | refine Agree.named hF11 ?_ | refine Agree.named hF5 ?_)), (Ext.trans hx14 hx18), hcut⟩
        · have gh1_15 := h1_15
          have hin : ¬ inSp lo hi (k : Int) = true := by rw [gh1_15]; simp
          have okx := own_ext ok0 (show Ext wk w12 from hx14)
          have hcut : ((kepO (E.map Prod.fst) s (k : Int)).isSome = true → ∃ d, freshO (E.map Prod.fst) s lo hi bl (k : Int) = some d ∧ OwnB w12 wL0.heap.size 5 dk d) ∧ ((kepO (E.map Prod.fst) s (k : Int)).isSome = false → freshO (E.map Prod.fst) s lo hi bl (k : Int) = none) := ⟨fun h => by obtain ⟨d, hd⟩ := Option.isSome_iff_exists.1 h; rw [hd] at okx; exact ⟨d, by unfold freshO; rw [if_neg hin]; exact hd, okx⟩, fun h => by unfold freshO; rw [if_neg hin]; simpa using h⟩
          refine WF.skip ?_
          refine thn_n ?_
          exact ⟨_, _, (congrFun hF11 11), (congrFun hF11 12), (by repeat (first | exact (Agree.refl _ F10) | refine Agree.put ?_ rfl | refine Agree.sub hAL0 rfl ?_ | refine Agree.named hF11 ?_ | refine Agree.named hF5 ?_)), hx14, hcut⟩
      · rintro fCs6 wCs6 ⟨dX, bX, e11_Cs6, e12_Cs6, hACs6, hwCs6, hcut2⟩
        have := World.grownBy.size hwCs6
        refine WF.seq ?_
        refine WF.region ?_
        refine WL.va rfl rfl rfl (X.moveB e12_Cs6) ?_
        refine WL.nil ?_
        refine thn_n ?_
        refine WF.cond rfl (fun h2_20 => ?_) (fun h2_20 => ?_)
        · have gh2_20 := h2_20
          obtain ⟨d, hfr, od⟩ := hcut2.1 gh2_20
          refine WF.region ?_
          refine WL.va rfl rfl rfl (X.move ((hACs6.eq 9).trans ((congrFun hF11 9).trans e9_L0))) ?_
          refine WL.va rfl rfl rfl (X.moveI ((hACs6.eq 1).trans ((congrFun hF11 1).trans ((hAL0.eq 1).trans (congrFun hF5 1))))) ?_
          refine WL.va rfl rfl rfl (X.moveI ((hACs6.eq 10).trans ((congrFun hF11 10).trans e10_L0))) ?_
          refine WL.va rfl rfl rfl (X.move e11_Cs6) ?_
          have gq1 := (show Ext wL0 wCs6 from (Ext.trans hx8 hwCs6))
          have hBz := World.grownBy.size (show Ext wb wCs6 from (Ext.trans (Ext.trans hwL0 hx8) hwCs6))
          refine WL.va rfl rfl rfl (X.buildL (P := Try.prog) (t := 61) (cs := (KV.c ((⟨s, (k : Int), d⟩ : Kp), dX))) (evp_cons rfl (evp_cons rfl (evp_cons rfl evp_nil))) Try.type61 Try.underlying61 rfl rfl ⟨rfl, rfl, own_one od, trivial⟩ rfl) ?_
          refine WL.op rfl (OW.lits (vs := [agg (KV.c ((⟨s, (k : Int), d⟩ : Kp), dX))]) (evp_cons rfl evp_nil) Try.underlying22 Try.sizeOf61 Try.zeroValue61 ⟨rfl, trivial⟩ rfl rfl rfl ?_ (by decide))
          intro v23 w22 ho25 hx24
          have := World.grownBy.size hx24
          have o1 : World.ownsRow w22 _ 61 3 v23 1 (KV.c ((⟨s, (k : Int), d⟩ : Kp), dX)) := ho25
          have gq2 := hx24
          refine WL.op rfl (OW.append (bytes := 40) (own_ext (own_ext ho.row gq1) gq2) (Row.of_own o1) (KV.c_one (e := ((⟨s, (k : Int), d⟩ : Kp), dX)) (Bytes.of_own od)) rfl rfl Try.underlying22 Try.type61 rfl rfl rfl rfl (by decide) (by unfold maxLen; omega) (by omega) (Nat.le_trans hBz (World.grownBy.size gq2)) ?_ (by decide))
          intro v27 w26 ho29 hx28 hmvhx28
          have ho2 := ho.app (s := ⟨s, (k : Int), d⟩) od gq1 gq2 ho29 hx28 hmvhx28 (World.grownBy.size hwL0)
          refine WL.va rfl rfl rfl (X.assign rfl) ?_
          refine WL.nil ?_
          refine blk_n ?_
          refine thn_n ?_
          refine WF.region ?_
          refine WL.va rfl rfl rfl (X.moveI ((hACs6.eq 10).trans ((congrFun hF11 10).trans e10_L0))) ?_
          refine WL.va rfl rfl rfl (X.add rfl rfl (w64 (by omega))) ?_
          refine WL.va rfl rfl rfl (X.assignI rfl) ?_
          refine WL.nil ?_
          first | exact thn_n ⟨_, (by omega), k + 1, _, _, rfl, rfl, rfl, (by repeat (first | exact hAL0 | refine Agree.put ?_ rfl | refine Agree.sub hACs6 rfl ?_ | refine Agree.named hF11 ?_ | refine Agree.named hF5 ?_)), (Ext.own (Ext.trans (Ext.trans (Ext.trans hwL0 hx8) hwCs6) hx24) (own_ext (own_ext ho.row gq1) gq2) (Nat.le_refl _) hx28), ⟨by omega, ho2, by rw [freshL_succ, hfr, List.map_append, hFR]; rfl, by simp; omega⟩⟩ | exact thn_n ⟨_, (by omega), k + 1, _, _, rfl, rfl, rfl, (by repeat (first | exact hAL0 | refine Agree.put ?_ rfl | refine Agree.sub hACs6 rfl ?_ | refine Agree.named hF11 ?_ | refine Agree.named hF5 ?_)), (Ext.own (Ext.trans (Ext.trans (Ext.trans hwL0 hx8) hwCs6) hx24) (own_ext (own_ext ho.row gq1) gq2) (Nat.le_refl _) hx28), ⟨by omega, ho9, by rw [freshL_succ, hfr, hFR]; simp, by omega⟩⟩
        · have gh2_20 := h2_20
          have hfr := hcut2.2 gh2_20
          have ho9 := ho.ext (show Ext wL0 wCs6 from (Ext.trans hx8 hwCs6))
          refine WF.skip ?_
          refine blk_n ?_
          refine thn_n ?_
          refine WF.region ?_
          refine WL.va rfl rfl rfl (X.moveI ((hACs6.eq 10).trans ((congrFun hF11 10).trans e10_L0))) ?_
          refine WL.va rfl rfl rfl (X.add rfl rfl (w64 (by omega))) ?_
          refine WL.va rfl rfl rfl (X.assignI rfl) ?_
          refine WL.nil ?_
          first | exact thn_n ⟨_, (by omega), k + 1, _, _, rfl, rfl, ((hACs6.eq 9).trans ((congrFun hF11 9).trans e9_L0)), (by repeat (first | exact hAL0 | refine Agree.put ?_ rfl | refine Agree.sub hACs6 rfl ?_ | refine Agree.named hF11 ?_ | refine Agree.named hF5 ?_)), (Ext.trans (Ext.trans hwL0 hx8) hwCs6), ⟨by omega, ho2, by rw [freshL_succ, hfr, List.map_append, hFR]; rfl, by simp; omega⟩⟩ | exact thn_n ⟨_, (by omega), k + 1, _, _, rfl, rfl, ((hACs6.eq 9).trans ((congrFun hF11 9).trans e9_L0)), (by repeat (first | exact hAL0 | refine Agree.put ?_ rfl | refine Agree.sub hACs6 rfl ?_ | refine Agree.named hF11 ?_ | refine Agree.named hF5 ?_)), (Ext.trans (Ext.trans hwL0 hx8) hwCs6), ⟨by omega, ho9, by rw [freshL_succ, hfr, hFR]; simp, by omega⟩⟩
    · have gh0_6 := (of_decide_eq_false h0_6)
      obtain rfl : k = 64 := by omega
      have hwL := (show Ext w wL0 from (Ext.trans hx2 hwL0))
      refine WF.exit ?_
      refine thn_x ?_
      refine thn_x ?_
      refine blk_eq ?_
      refine thn_n ?_
      refine WF.seq ?_
      refine WF.region ?_
      refine WL.va rfl rfl rfl (X.assign rfl) ?_
      refine WL.nil ?_
      refine thn_n ?_
      refine WF.seq ?_
      refine WF.seq ?_
      refine WF.region ?_
      refine WL.va rfl rfl rfl (X.assignI rfl) ?_
      refine WL.nil ?_
      refine thn_n ?_
      refine WF.block ?_
      refine WF.named (fun F30 hF31 => ?_)
      refine WF.loopN (fun mL1 f' w' => ∃ (i : Nat) (vo : Value) (O : List KV), mL1 = E.length - i ∧ f' 14 = .int .i64 (i : Int) ∧ f' 13 = vo ∧ Agree [0, 1, 2, 3, 6, 8, 9, 10, 16, 17] f' F30 ∧ Ext wL0 w' ∧ i ≤ E.length ∧ KOwnR w' wL0.heap.size vo O ∧ KDat wL0 O ∧ O.map Prod.fst = ((E.map Prod.fst).take i).filter (fun x => decide (x.Snap < s)) ∧ O.length ≤ i) ?_ ?_
      · exact ⟨_, 0, (.slice none 0 0), [], rfl, (congrFun hF31 14), (congrFun hF31 13), (Agree.refl _ _), (Ext.refl _), ⟨Nat.zero_le _, KOwnR.nil _ _, (fun e he => by cases he), rfl, Nat.le_refl _⟩⟩
      · rintro mL1 fL1 wL1 ⟨i, vo, O, hmL1, e14_L1, e13_L1, hAL1, hwL1, ⟨hi0, hoO, hD, hO, hOl⟩⟩
        have := World.grownBy.size hwL1
        refine WF.seq ?_
        refine WF.seq ?_
        refine WF.region ?_
        refine WL.va rfl rfl rfl (X.moveI e14_L1) ?_
        refine WL.va rfl rfl rfl (X.move ((hAL1.eq 0).trans ((congrFun hF31 0).trans ((hAL0.eq 0).trans (congrFun hF5 0))))) ?_
        refine WL.va rfl rfl rfl (X.len re rfl Try.underlying22) ?_
        refine WL.va rfl rfl rfl (X.lss rfl rfl) ?_
        refine WL.nil ?_
        refine thn_n ?_
        refine WF.cond rfl (fun h3_32 => ?_) (fun h3_32 => ?_)
        · have gh3_32 := (of_decide_eq_true h3_32)
          have hi : i < E.length := by omega
          refine WF.skip ?_
          refine thn_n ?_
          refine WF.seq ?_
          refine WF.block ?_
          refine WF.seq ?_
          refine WF.region ?_
          refine WL.va rfl rfl rfl (X.move ((hAL1.eq 0).trans ((congrFun hF31 0).trans ((hAL0.eq 0).trans (congrFun hF5 0))))) ?_
          refine WL.va rfl rfl rfl (X.moveI e14_L1) ?_
          refine WL.va rfl rfl rfl (X.idx re rfl rfl (by omega) Try.underlying22 Try.sizeOf61) ?_
          refine WL.va rfl rfl rfl (X.fieldAddrA rfl Try.underlying61 rfl rfl Try.sizeOf3) ?_
          refine WL.va rfl rfl rfl (X.loadE re (Ext.trans (Ext.trans hx2 hwL0) hwL1) rfl (by omega) ((KRow.get hi (by decide)).trans rfl) Try.isAgg3) ?_
          refine WL.va rfl rfl rfl (X.moveI ((hAL1.eq 1).trans ((congrFun hF31 1).trans ((hAL0.eq 1).trans (congrFun hF5 1))))) ?_
          refine WL.va rfl rfl rfl (X.lss rfl rfl) ?_
          refine WL.nil ?_
          refine thn_n ?_
          refine WF.cond rfl (fun h4_34 => ?_) (fun h4_34 => ?_)
          · have gh4_34 := (of_decide_eq_true h4_34)
            have hp := gh4_34
            refine WF.region ?_
            refine WL.va rfl rfl rfl (X.move e13_L1) ?_
            refine WL.va rfl rfl rfl (X.move ((hAL1.eq 0).trans ((congrFun hF31 0).trans ((hAL0.eq 0).trans (congrFun hF5 0))))) ?_
            refine WL.va rfl rfl rfl (X.moveI e14_L1) ?_
            refine WL.va rfl rfl rfl (X.idx re rfl rfl (by omega) Try.underlying22 Try.sizeOf61) ?_
            refine WL.va rfl rfl rfl (X.loadEl re (Ext.trans (Ext.trans hx2 hwL0) hwL1) rfl (by omega) (KRow.el hi) Try.isAgg61 Try.sizeOf61) ?_
            refine WL.op rfl (OW.lits (vs := [agg (KV.c (E[i]'hi))]) (evp_cons rfl evp_nil) Try.underlying22 Try.sizeOf61 Try.zeroValue61 ⟨rfl, trivial⟩ rfl rfl rfl ?_ (by decide))
            intro v37 w36 ho39 hx38
            have := World.grownBy.size hx38
            have o1 : World.ownsRow w36 _ 61 3 v37 1 (KV.c (E[i]'hi)) := ho39
            have hoP := own_ext hoO (show Ext wL1 w36 from hx38)
            have hwP := (show Ext wL0 w36 from (Ext.trans hwL1 hx38))
            refine WL.op rfl (OW.append (bytes := 40) hoP (Row.of_own o1) (KDat.one1 de hi) rfl rfl Try.underlying22 Try.type61 rfl rfl rfl rfl (by decide) (by unfold maxLen; omega) (by omega) (World.grownBy.size hwP) ?_ (by decide))
            intro v41 w40 ho43 hx42 hmvhx42
            have ho2 := KOwnR.app ho43
            have hD2 := KDat.app (e := (E[i]'hi)) hD (Row.ext (de _ (List.getElem_mem hi)) hwL)
            refine WL.va rfl rfl rfl (X.assign rfl) ?_
            refine WL.nil ?_
            refine blk_n ?_
            refine thn_n ?_
            refine WF.region ?_
            refine WL.va rfl rfl rfl (X.moveI e14_L1) ?_
            refine WL.va rfl rfl rfl (X.add rfl rfl (w64 (by omega))) ?_
            refine WL.va rfl rfl rfl (X.assignI rfl) ?_
            refine WL.nil ?_
            first | exact thn_n ⟨_, (by omega), i + 1, _, _, rfl, rfl, rfl, (by repeat (first | exact hAL1 | refine Agree.put ?_ rfl | refine Agree.sub hAL0 rfl ?_ | refine Agree.named hF31 ?_ | refine Agree.named hF5 ?_)), (Ext.own hwP hoP (Nat.le_refl _) hx42), ⟨by omega, ho2, hD2, by rw [take_map hi, List.filter_append, List.map_append, hO, List.filter_cons, decide_eq_true hp]; rfl, by simp; omega⟩⟩ | exact thn_n ⟨_, (by omega), i + 1, _, _, rfl, rfl, rfl, (by repeat (first | exact hAL1 | refine Agree.put ?_ rfl | refine Agree.sub hAL0 rfl ?_ | refine Agree.named hF31 ?_ | refine Agree.named hF5 ?_)), (Ext.own hwP hoP (Nat.le_refl _) hx42), ⟨by omega, ho9, hD, by rw [take_map hi, List.filter_append, hO, List.filter_cons, decide_eq_false hp]; simp, by omega⟩⟩
          · have gh4_34 := (of_decide_eq_false h4_34)
            have hp := gh4_34
            have ho9 := own_ext hoO (show Ext wL1 wL1 from (Ext.refl _))
            refine WF.skip ?_
            refine blk_n ?_
            refine thn_n ?_
            refine WF.region ?_
            refine WL.va rfl rfl rfl (X.moveI e14_L1) ?_
            refine WL.va rfl rfl rfl (X.add rfl rfl (w64 (by omega))) ?_
            refine WL.va rfl rfl rfl (X.assignI rfl) ?_
            refine WL.nil ?_
            first | exact thn_n ⟨_, (by omega), i + 1, _, _, rfl, rfl, e13_L1, (by repeat (first | exact hAL1 | refine Agree.put ?_ rfl | refine Agree.sub hAL0 rfl ?_ | refine Agree.named hF31 ?_ | refine Agree.named hF5 ?_)), hwL1, ⟨by omega, ho2, hD2, by rw [take_map hi, List.filter_append, List.map_append, hO, List.filter_cons, decide_eq_true hp]; rfl, by simp; omega⟩⟩ | exact thn_n ⟨_, (by omega), i + 1, _, _, rfl, rfl, e13_L1, (by repeat (first | exact hAL1 | refine Agree.put ?_ rfl | refine Agree.sub hAL0 rfl ?_ | refine Agree.named hF31 ?_ | refine Agree.named hF5 ?_)), hwL1, ⟨by omega, ho9, hD, by rw [take_map hi, List.filter_append, hO, List.filter_cons, decide_eq_false hp]; simp, by omega⟩⟩
        · have gh3_32 := (of_decide_eq_false h3_32)
          obtain rfl : i = E.length := by omega
          rw [List.take_of_length_le (by simp)] at hO
          refine WF.exit ?_
          refine thn_x ?_
          refine thn_x ?_
          refine blk_eq ?_
          refine thn_n ?_
          refine WF.seq ?_
          refine WF.region ?_
          refine WL.va rfl rfl rfl (X.move e13_L1) ?_
          refine WL.va rfl rfl rfl (X.move ((hAL1.eq 9).trans ((congrFun hF31 9).trans e9_L0))) ?_
          have hoP := own_ext hoO (show Ext wL1 wL1 from (Ext.refl _))
          have hwP := (show Ext wL0 wL1 from hwL1)
          refine WL.op rfl (OW.append (bytes := 40) hoP (Row.ext (Row.of_own ho.row) hwP) ho.sdat.one rfl rfl Try.underlying22 Try.type61 rfl rfl rfl rfl (by decide) (by unfold maxLen; omega) (by omega) (World.grownBy.size hwP) ?_ (by decide))
          intro v45 w44 ho47 hx46 hmvhx46
          have ho3 : KOwnR w44 wL0.heap.size v45 (O ++ FR) := by have h3 := ho47; unfold KOwnR; rw [List.length_append, List.flatMap_append]; exact h3
          have hD3 : KDat wL0 (O ++ FR) := fun e he => by rcases List.mem_append.1 he with he | he; exact hD e he; exact ho.sdat e he
          refine WL.va rfl rfl rfl (X.assign rfl) ?_
          refine WL.nil ?_
          refine thn_n ?_
          refine WF.seq ?_
          refine WF.seq ?_
          refine WF.region ?_
          refine WL.va rfl rfl rfl (X.assignI rfl) ?_
          refine WL.nil ?_
          refine thn_n ?_
          refine WF.block ?_
          refine WF.named (fun F48 hF49 => ?_)
          refine WF.loopN (fun mL2 f' w' => ∃ (j : Nat) (vo2 : Value) (O2 : List KV), mL2 = E.length - j ∧ f' 15 = .int .i64 (j : Int) ∧ f' 13 = vo2 ∧ Agree [0, 1, 2, 3, 6, 8, 9, 10, 14, 16, 17, 41, 42, 43, 44, 61, 62, 63] f' F48 ∧ Ext wL0 w' ∧ j ≤ E.length ∧ KOwnR w' wL0.heap.size vo2 O2 ∧ KDat wL0 O2 ∧ O2.map Prod.fst = (E.map Prod.fst).filter (fun x => decide (x.Snap < s)) ++ freshL (E.map Prod.fst) s lo hi bl 64 ++ ((E.map Prod.fst).take j).filter (fun x => decide (s < x.Snap)) ∧ O2.length ≤ 1064 + j) ?_ ?_
          · exact ⟨_, 0, _, O ++ FR, rfl, (congrFun hF49 15), (congrFun hF49 13), (Agree.refl _ _), (Ext.own hwP hoP (Nat.le_refl _) hx46), ⟨Nat.zero_le _, ho3, hD3, by rw [List.map_append, hO, hFR]; simp, by rw [List.length_append]; omega⟩⟩
          · rintro mL2 fL2 wL2 ⟨j, vo2, O2, hmL2, e15_L2, e13_L2, hAL2, hwL2, ⟨hj0, hoO, hD, hO2, hOl2⟩⟩
            have := World.grownBy.size hwL2
            refine WF.seq ?_
            refine WF.seq ?_
            refine WF.region ?_
            refine WL.va rfl rfl rfl (X.moveI e15_L2) ?_
            refine WL.va rfl rfl rfl (X.move ((hAL2.eq 0).trans ((congrFun hF49 0).trans ((hAL1.eq 0).trans ((congrFun hF31 0).trans ((hAL0.eq 0).trans (congrFun hF5 0))))))) ?_
            refine WL.va rfl rfl rfl (X.len re rfl Try.underlying22) ?_
            refine WL.va rfl rfl rfl (X.lss rfl rfl) ?_
            refine WL.nil ?_
            refine thn_n ?_
            refine WF.cond rfl (fun h5_50 => ?_) (fun h5_50 => ?_)
            · have gh5_50 := (of_decide_eq_true h5_50)
              have hj : j < E.length := by omega
              refine WF.skip ?_
              refine thn_n ?_
              refine WF.seq ?_
              refine WF.block ?_
              refine WF.seq ?_
              refine WF.region ?_
              refine WL.va rfl rfl rfl (X.move ((hAL2.eq 0).trans ((congrFun hF49 0).trans ((hAL1.eq 0).trans ((congrFun hF31 0).trans ((hAL0.eq 0).trans (congrFun hF5 0))))))) ?_
              refine WL.va rfl rfl rfl (X.moveI e15_L2) ?_
              refine WL.va rfl rfl rfl (X.idx re rfl rfl (by omega) Try.underlying22 Try.sizeOf61) ?_
              refine WL.va rfl rfl rfl (X.fieldAddrA rfl Try.underlying61 rfl rfl Try.sizeOf3) ?_
              refine WL.va rfl rfl rfl (X.loadE re (Ext.trans (Ext.trans hx2 hwL0) hwL2) rfl (by omega) ((KRow.get hj (by decide)).trans rfl) Try.isAgg3) ?_
              refine WL.va rfl rfl rfl (X.moveI ((hAL2.eq 1).trans ((congrFun hF49 1).trans ((hAL1.eq 1).trans ((congrFun hF31 1).trans ((hAL0.eq 1).trans (congrFun hF5 1))))))) ?_
              refine WL.va rfl rfl rfl (X.gtr rfl rfl) ?_
              refine WL.nil ?_
              refine thn_n ?_
              refine WF.cond rfl (fun h6_52 => ?_) (fun h6_52 => ?_)
              · have gh6_52 := (of_decide_eq_true h6_52)
                have hp := gh6_52
                refine WF.region ?_
                refine WL.va rfl rfl rfl (X.move e13_L2) ?_
                refine WL.va rfl rfl rfl (X.move ((hAL2.eq 0).trans ((congrFun hF49 0).trans ((hAL1.eq 0).trans ((congrFun hF31 0).trans ((hAL0.eq 0).trans (congrFun hF5 0))))))) ?_
                refine WL.va rfl rfl rfl (X.moveI e15_L2) ?_
                refine WL.va rfl rfl rfl (X.idx re rfl rfl (by omega) Try.underlying22 Try.sizeOf61) ?_
                refine WL.va rfl rfl rfl (X.loadEl re (Ext.trans (Ext.trans hx2 hwL0) hwL2) rfl (by omega) (KRow.el hj) Try.isAgg61 Try.sizeOf61) ?_
                refine WL.op rfl (OW.lits (vs := [agg (KV.c (E[j]'hj))]) (evp_cons rfl evp_nil) Try.underlying22 Try.sizeOf61 Try.zeroValue61 ⟨rfl, trivial⟩ rfl rfl rfl ?_ (by decide))
                intro v55 w54 ho57 hx56
                have := World.grownBy.size hx56
                have o1 : World.ownsRow w54 _ 61 3 v55 1 (KV.c (E[j]'hj)) := ho57
                have hoP := own_ext hoO (show Ext wL2 w54 from hx56)
                have hwP := (show Ext wL0 w54 from (Ext.trans hwL2 hx56))
                refine WL.op rfl (OW.append (bytes := 40) hoP (Row.of_own o1) (KDat.one1 de hj) rfl rfl Try.underlying22 Try.type61 rfl rfl rfl rfl (by decide) (by unfold maxLen; omega) (by omega) (World.grownBy.size hwP) ?_ (by decide))
                intro v59 w58 ho61 hx60 hmvhx60
                have ho2 := KOwnR.app ho61
                have hD2 := KDat.app (e := (E[j]'hj)) hD (Row.ext (de _ (List.getElem_mem hj)) hwL)
                refine WL.va rfl rfl rfl (X.assign rfl) ?_
                refine WL.nil ?_
                refine blk_n ?_
                refine thn_n ?_
                refine WF.region ?_
                refine WL.va rfl rfl rfl (X.moveI e15_L2) ?_
                refine WL.va rfl rfl rfl (X.add rfl rfl (w64 (by omega))) ?_
                refine WL.va rfl rfl rfl (X.assignI rfl) ?_
                refine WL.nil ?_
                first | exact thn_n ⟨_, (by omega), j + 1, _, _, rfl, rfl, rfl, (by repeat (first | exact hAL2 | refine Agree.put ?_ rfl | refine Agree.sub hAL1 rfl ?_ | refine Agree.sub hAL0 rfl ?_ | refine Agree.named hF49 ?_ | refine Agree.named hF31 ?_ | refine Agree.named hF5 ?_)), (Ext.own hwP hoP (Nat.le_refl _) hx60), ⟨by omega, ho2, hD2, by rw [take_map hj, List.filter_append, List.map_append, hO2, List.filter_cons, decide_eq_true hp]; simp, by simp; omega⟩⟩ | exact thn_n ⟨_, (by omega), j + 1, _, _, rfl, rfl, rfl, (by repeat (first | exact hAL2 | refine Agree.put ?_ rfl | refine Agree.sub hAL1 rfl ?_ | refine Agree.sub hAL0 rfl ?_ | refine Agree.named hF49 ?_ | refine Agree.named hF31 ?_ | refine Agree.named hF5 ?_)), (Ext.own hwP hoP (Nat.le_refl _) hx60), ⟨by omega, ho9, hD, by rw [take_map hj, List.filter_append, hO2, List.filter_cons, decide_eq_false hp]; simp, by omega⟩⟩
              · have gh6_52 := (of_decide_eq_false h6_52)
                have hp := gh6_52
                have ho9 := own_ext hoO (show Ext wL2 wL2 from (Ext.refl _))
                refine WF.skip ?_
                refine blk_n ?_
                refine thn_n ?_
                refine WF.region ?_
                refine WL.va rfl rfl rfl (X.moveI e15_L2) ?_
                refine WL.va rfl rfl rfl (X.add rfl rfl (w64 (by omega))) ?_
                refine WL.va rfl rfl rfl (X.assignI rfl) ?_
                refine WL.nil ?_
                first | exact thn_n ⟨_, (by omega), j + 1, _, _, rfl, rfl, e13_L2, (by repeat (first | exact hAL2 | refine Agree.put ?_ rfl | refine Agree.sub hAL1 rfl ?_ | refine Agree.sub hAL0 rfl ?_ | refine Agree.named hF49 ?_ | refine Agree.named hF31 ?_ | refine Agree.named hF5 ?_)), hwL2, ⟨by omega, ho2, hD2, by rw [take_map hj, List.filter_append, List.map_append, hO2, List.filter_cons, decide_eq_true hp]; simp, by simp; omega⟩⟩ | exact thn_n ⟨_, (by omega), j + 1, _, _, rfl, rfl, e13_L2, (by repeat (first | exact hAL2 | refine Agree.put ?_ rfl | refine Agree.sub hAL1 rfl ?_ | refine Agree.sub hAL0 rfl ?_ | refine Agree.named hF49 ?_ | refine Agree.named hF31 ?_ | refine Agree.named hF5 ?_)), hwL2, ⟨by omega, ho9, hD, by rw [take_map hj, List.filter_append, hO2, List.filter_cons, decide_eq_false hp]; simp, by omega⟩⟩
            · have gh5_50 := (of_decide_eq_false h5_50)
              obtain rfl : j = E.length := by omega
              rw [List.take_of_length_le (by simp)] at hO2
              have hfin : O2.map Prod.fst = keepK (E.map Prod.fst) s lo hi bl := by rw [hO2, ← refKeep_eq hrk hrb]; rfl
              refine WF.exit ?_
              refine thn_x ?_
              refine thn_x ?_
              refine blk_eq ?_
              refine thn_n ?_
              refine WF.seq ?_
              refine WF.region ?_
              refine WL.va rfl rfl rfl (X.move e13_L2) ?_
              have szq := World.grownBy.size (show Ext w wL2 from (Ext.trans (Ext.trans hx2 hwL0) hwL2))
              refine WL.c rfl rfl rfl (X.call Try.call13 (evl_cons rfl evl_nil)) (copyKs_ok _ _ _ ⟨_, rfl, Row.of_own (own_ext hoO (Ext.refl wL2)), hD.ext hwL2⟩ (by rw [hfin]; have := keep_len (kk := (E.map Prod.fst)) (s := s) (lo := lo) (hi := hi) (bl := bl); rw [List.length_map] at this; omega) (fun x hx => by rw [hfin] at hx; have := ((keep_right hrk hrb).each x hx).2.2; omega)) ?_
              rintro v63 w62 ⟨⟨F, hF, oF⟩, hx65⟩
              have := World.grownBy.size hx65
              refine WL.va rfl rfl rfl (X.assign rfl) ?_
              refine WL.nil ?_
              refine thn_n ?_
              refine WF.ret ?_
              refine fin_r ?_
              exact ⟨⟨F, by rw [hF, hfin], oF.mono szq⟩, (Ext.trans (Ext.trans (Ext.trans hx2 hwL0) hwL2) hx65)⟩

end Go.Proofs.Ytcaimmbhdfoniaa
