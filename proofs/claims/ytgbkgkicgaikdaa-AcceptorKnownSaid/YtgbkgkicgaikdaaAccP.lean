/- The walk of AcceptorOne. -/
import Derived.Test.YtgbkgkicgaikdaaOne
namespace Go.Proofs.Ytgbkgkicgaikdaa
open Go Go.RowKit Kf

theorem pick_ok (k n : Int) (w : World) (_hk : -9223372036854775808 ≤ k ∧ k ≤ 9223372036854775807) (hn : -9223372036854775808 ≤ n ∧ n ≤ 9223372036854775807) : FnOk Try.prog 19 [i64 k, i64 n] w (fun r w' => (∃ p : Int, r = i64 p ∧ (n < 1 → p = 0) ∧ (1 ≤ n → 0 ≤ p ∧ p < n)) ∧ w = w') := by
  refine FnOk.enter (rs := [4]) Try.func19 rfl Try.ntmps19 Try.results19 rfl rfl ?_
  refine WF.seq ?_
  refine WF.region ?_
  refine WL.va rfl rfl rfl (X.assignI rfl) ?_
  refine WL.nil ?_
  refine thn_n ?_
  refine WF.seq ?_
  refine WF.seq ?_
  refine WF.region ?_
  refine WL.va rfl rfl rfl (X.moveI rfl) ?_
  refine WL.va rfl rfl rfl (X.lss rfl rfl) ?_
  refine WL.nil ?_
  refine thn_n ?_
  refine WF.cond rfl (fun h0_1 => ?_) (fun h0_1 => ?_)
  · have gh0_1 := (of_decide_eq_true h0_1)
    have hq := gh0_1
    refine WF.seq ?_
    refine WF.region ?_
    refine WL.va rfl rfl rfl (X.assignI rfl) ?_
    refine WL.nil ?_
    refine thn_n ?_
    refine WF.ret ?_
    refine thn_r ?_
    refine fin_r ?_
    exact ⟨⟨0, rfl, fun _ => rfl, fun h => by omega⟩, rfl⟩
  · have gh0_1 := (of_decide_eq_false h0_1)
    have hq := gh0_1
    have hr1 := Int.tmod_lt_of_pos k (show 0 < n by omega)
    have hr2 := Int.lt_tmod_of_pos k (show 0 < n by omega)
    refine WF.skip ?_
    refine thn_n ?_
    refine WF.seq ?_
    refine WF.region ?_
    refine WL.va rfl rfl rfl (X.moveI rfl) ?_
    refine WL.va rfl rfl rfl (X.moveI rfl) ?_
    refine WL.va rfl rfl rfl (X.rem rfl rfl (by omega) rfl) ?_
    refine WL.va rfl rfl rfl (X.assignI rfl) ?_
    refine WL.nil ?_
    refine thn_n ?_
    refine WF.seq ?_
    refine WF.seq ?_
    refine WF.region ?_
    refine WL.va rfl rfl rfl (X.moveI rfl) ?_
    refine WL.va rfl rfl rfl (X.lss rfl rfl) ?_
    refine WL.nil ?_
    refine thn_n ?_
    refine WF.cond rfl (fun h1_3 => ?_) (fun h1_3 => ?_)
    · have gh1_3 := (of_decide_eq_true h1_3)
      have hlt := gh1_3
      refine WF.region ?_
      refine WL.va rfl rfl rfl (X.moveI rfl) ?_
      refine WL.va rfl rfl rfl (X.moveI rfl) ?_
      refine WL.va rfl rfl rfl (X.add rfl rfl (w64 (by omega))) ?_
      refine WL.va rfl rfl rfl (X.assignI rfl) ?_
      refine WL.nil ?_
      refine thn_n ?_
      refine WF.seq ?_
      refine WF.region ?_
      refine WL.va rfl rfl rfl (X.moveI rfl) ?_
      refine WL.va rfl rfl rfl (X.assignI rfl) ?_
      refine WL.nil ?_
      refine thn_n ?_
      refine WF.ret ?_
      refine fin_r ?_
      exact ⟨⟨_, rfl, fun h => by omega, fun _ => ⟨by omega, by omega⟩⟩, rfl⟩
    · have gh1_3 := (of_decide_eq_false h1_3)
      have hlt := gh1_3
      refine WF.skip ?_
      refine thn_n ?_
      refine WF.seq ?_
      refine WF.region ?_
      refine WL.va rfl rfl rfl (X.moveI rfl) ?_
      refine WL.va rfl rfl rfl (X.assignI rfl) ?_
      refine WL.nil ?_
      refine thn_n ?_
      refine WF.ret ?_
      refine fin_r ?_
      exact ⟨⟨_, rfl, fun h => by omega, fun _ => ⟨by omega, by omega⟩⟩, rfl⟩

set_option maxHeartbeats 2000000 in
theorem acceptorOne_walk (how first : Int) (cm : Bool) (vl : Value) (l : List Rnd) (late : Int) (w : World) (hhow : -9223372036854775808 ≤ how ∧ how ≤ 9223372036854775807) (_hfi : 0 ≤ first ∧ first ≤ 255) (hvl : Rnds w vl l) (hlate : -9223372036854775808 ≤ late ∧ late ≤ 9223372036854775807) : FnOk Try.prog 5 [i64 how, .int .u8 first, .bool cm, vl, i64 late] w (fun r w' => r = .bool true ∧ Ext w w') := by
  have hle : (l.length : Int) ≤ 9223372036854775807 := by obtain ⟨_, c, _, h1, h2, _⟩ := hvl.shape; unfold maxLen at h2; omega
  refine FnOk.enter (rs := [10]) Try.func5 rfl Try.ntmps5 Try.results5 rfl rfl ?_
  refine WF.seq ?_
  refine WF.region ?_
  refine WL.va rfl rfl rfl (X.assignB rfl) ?_
  refine WL.nil ?_
  refine thn_n ?_
  refine WF.seq ?_
  refine WF.seq ?_
  refine WF.region ?_
  refine WL.va rfl rfl rfl (X.move rfl) ?_
  refine WL.va rfl rfl rfl (X.len hvl rfl Try.underlying42) ?_
  refine WL.va rfl rfl rfl (X.gtr rfl rfl) ?_
  refine WL.nil ?_
  refine thn_n ?_
  refine WF.cond rfl (fun h0_3 => ?_) (fun h0_3 => ?_)
  · have gh0_3 := (of_decide_eq_true h0_3)
    refine WF.seq ?_
    refine WF.region ?_
    refine WL.c rfl rfl rfl (X.call Try.call9 evl_nil) (works_ok _) ?_
    rintro v6 w5 ⟨rfl, hx7⟩
    refine WL.va rfl rfl rfl (X.assignB rfl) ?_
    refine WL.nil ?_
    refine thn_n ?_
    refine WF.ret ?_
    refine thn_r ?_
    refine fin_r ?_
    exact ⟨rfl, hx7⟩
  · have gh0_3 := (of_decide_eq_false h0_3)
    have h60 : l.length ≤ 60 := by omega
    refine WF.skip ?_
    refine thn_n ?_
    refine WF.seq ?_
    refine WF.region ?_
    refine WL.va rfl rfl rfl (X.moveI rfl) ?_
    refine WL.c rfl rfl rfl (X.call Try.call19 (evl_cons rfl (evl_cons rfl evl_nil))) (pick_ok _ _ _ hhow (by omega)) ?_
    rintro v10 w9 ⟨⟨z0, rfl, _, hz0⟩, rfl⟩
    have hz1 := hz0 (by omega)
    obtain ⟨n, hn, hn7⟩ : ∃ n : Nat, (n : Int) = 1 + 2 * z0 ∧ n ≤ 7 := ⟨(1 + 2 * z0).toNat, by omega, by omega⟩
    refine WL.va rfl rfl rfl (X.mul rfl rfl (w64 (by omega))) ?_
    refine WL.va rfl rfl rfl (X.add rfl rfl ((w64 (by omega)).trans hn.symm)) ?_
    refine WL.va rfl rfl rfl (X.assignI rfl) ?_
    refine WL.nil ?_
    refine thn_n ?_
    refine WF.seq ?_
    refine WF.region ?_
    refine WL.op rfl (OW.make (n := 7) rfl rfl Try.underlying44 Try.type22 rfl rfl (show 24 * 7 ≤ _ by decide) (by unfold maxLen; omega) ?_ (by decide))
    intro vvs w12 ho14 hx13
    obtain ⟨B, hBe⟩ : ∃ B, B = w.heap.size := ⟨_, rfl⟩
    obtain ⟨T, hTe⟩ : ∃ T, T = w12.heap.size := ⟨_, rfl⟩
    have hwB : w.heap.size ≤ B := by omega
    have hwT : w.heap.size ≤ T := by have := World.grownBy.size hx13; omega
    have hV0 : VV w12 B T vvs none _ _ := VV.new (by rw [hTe]; exact OwnT.of (by rw [hBe]; exact made7 ▸ ho14)) none
    refine WL.va rfl rfl rfl (X.assign rfl) ?_
    refine WL.nil ?_
    refine thn_n ?_
    refine WF.seq ?_
    refine WF.region ?_
    refine WL.va rfl rfl rfl (X.assignI rfl) ?_
    refine WL.nil ?_
    refine thn_n ?_
    refine WF.named (fun F15 hF16 => ?_)
    refine WF.cut (fun f' w' => f' 13 = .int .i64 (freeV cm) ∧ Agree [0, 1, 2, 3, 4, 10, 11, 12, 19, 20, 21, 23, 24, 25, 26, 27] f' F15 ∧ w12 = w') ?_ ?_
    · refine WF.seq ?_
      refine WF.region ?_
      refine WL.va rfl rfl rfl (X.moveB (congrFun hF16 2)) ?_
      refine WL.nil ?_
      refine thn_n ?_
      refine WF.cond rfl (fun h1_16 => ?_) (fun h1_16 => ?_)
      · have gh1_16 := h1_16
        have hcm : cm = true := gh1_16
        refine WF.region ?_
        refine WL.va rfl rfl rfl (X.assignI rfl) ?_
        refine WL.nil ?_
        refine thn_n ?_
        exact ⟨(by first | exact (rfl).trans (congrArg i64 (freeV_t hcm)) | exact (rfl).trans (congrArg i64 (freeV_f hcm))), (by repeat (first | exact (Agree.refl _ F15) | refine Agree.put ?_ rfl | refine Agree.named hF16 ?_)), rfl⟩
      · have gh1_16 := h1_16
        have hcm : ¬ cm = true := by rw [gh1_16]; simp
        refine WF.skip ?_
        refine thn_n ?_
        exact ⟨(by first | exact ((congrFun hF16 13)).trans (congrArg i64 (freeV_t hcm)) | exact ((congrFun hF16 13)).trans (congrArg i64 (freeV_f hcm))), (by repeat (first | exact (Agree.refl _ F15) | refine Agree.put ?_ rfl | refine Agree.named hF16 ?_)), rfl⟩
    · rintro fCs6 wCs6 ⟨e13_Cs6, hACs6, rfl⟩
      refine WF.seq ?_
      refine WF.region ?_
      refine WL.va rfl rfl rfl (X.assignI rfl) ?_
      refine WL.nil ?_
      refine thn_n ?_
      refine WF.seq ?_
      refine WF.region ?_
      refine WL.va rfl rfl rfl (X.assignB rfl) ?_
      refine WL.nil ?_
      refine thn_n ?_
      refine WF.named (fun F19 hF20 => ?_)
      refine WF.cut (fun f' w' => ∃ (cs1 : List Value) (L1 : List (List Acc)) (ch : Int), f' 14 = .int .i64 ch ∧ Agree [0, 1, 2, 3, 4, 10, 11, 12, 13, 15, 19, 20, 21, 23, 24, 25, 26, 27] f' F19 ∧ Ext w w' ∧ VV w' B T vvs none cs1 L1 ∧ PInv n 0 1 (valOf cm (List.replicate l.length 0)) (stA L1) ch ∧ T ≤ w'.heap.size) ?_ ?_
      · refine WF.seq ?_
        refine WF.region ?_
        refine WL.va rfl rfl rfl (X.move ((congrFun hF20 12).trans ((hACs6.eq 12).trans (congrFun hF16 12)))) ?_
        refine WL.va rfl rfl rfl (X.moveI ((congrFun hF20 11).trans ((hACs6.eq 11).trans (congrFun hF16 11)))) ?_
        refine WL.va rfl rfl rfl (X.moveI ((congrFun hF20 1).trans ((hACs6.eq 1).trans (congrFun hF16 1)))) ?_
        refine WL.va rfl rfl rfl (X.moveI ((congrFun hF20 13).trans e13_Cs6)) ?_
        refine WL.c rfl rfl rfl (X.call Try.call20 (evl_cons rfl (evl_cons rfl (evl_cons rfl (evl_cons rfl (evl_cons rfl evl_nil)))))) (send_ok _ _ _ n first 0 (freeV cm) B T none _ hV0 (by omega) (fun q hq => by cases hq) hn7 (by omega) (freeV_12 cm)) ?_
        rintro v22 w21 ⟨cs1, L1, hV1, hS1, rfl, hx23⟩
        have hP1 := one_send (v := freeV cm) (one_start (n := n) (cm := cm) (m := l.length)) hn7 (Nat.le_refl 0) (Nat.le_refl 0) rfl (by have := freeV_12 cm; omega) hS1
        have hszs := World.grownBy.size hx23
        refine WL.nil ?_
        refine thn_n ?_
        refine WF.cond rfl (fun h2_24 => ?_) (fun h2_24 => ?_)
        · have gh2_24 := (of_decide_eq_true h2_24)
          have hmaj := gh2_24
          refine WF.region ?_
          refine WL.va rfl rfl rfl (X.moveI ((congrFun hF20 13).trans e13_Cs6)) ?_
          refine WL.va rfl rfl rfl (X.assignI rfl) ?_
          refine WL.nil ?_
          refine thn_n ?_
          exact ⟨_, _, _, rfl, (by repeat (first | exact (Agree.refl _ F19) | refine Agree.put ?_ rfl | refine Agree.sub hACs6 rfl ?_ | refine Agree.named hF20 ?_ | refine Agree.named hF16 ?_)), (Ext.own hx13 hV0.own.own hwB hx23), ⟨hV1, (by first | exact (hP1.1 hmaj).2 | exact hP1.2 hmaj), (by omega)⟩⟩
        · have gh2_24 := (of_decide_eq_false h2_24)
          have hmaj := gh2_24
          refine WF.skip ?_
          refine thn_n ?_
          exact ⟨_, _, _, (congrFun hF20 14), (by repeat (first | exact (Agree.refl _ F19) | refine Agree.put ?_ rfl | refine Agree.sub hACs6 rfl ?_ | refine Agree.named hF20 ?_ | refine Agree.named hF16 ?_)), (Ext.own hx13 hV0.own.own hwB hx23), ⟨hV1, (by first | exact (hP1.1 hmaj).2 | exact hP1.2 hmaj), (by omega)⟩⟩
      · rintro fCs10 wCs10 ⟨cs1, L1, ch, e14_Cs10, hACs10, hwCs10, ⟨hV1, hP1, hT1⟩⟩
        refine WF.seq ?_
        refine WF.region ?_
        refine WL.va rfl rfl rfl (X.move ((hACs10.eq 3).trans ((congrFun hF20 3).trans ((hACs6.eq 3).trans (congrFun hF16 3))))) ?_
        refine WL.va rfl rfl rfl (X.len hvl rfl Try.underlying42) ?_
        refine WL.op rfl (OW.makeI (n := l.length) rfl rfl Try.underlying46 Try.type3 rfl rfl rfl (by omega) ?_ (by decide))
        intro v16 w26 ho28 hx27
        obtain ⟨B2, hB2e⟩ : ∃ B2, B2 = wCs10.heap.size := ⟨_, rfl⟩
        have hVi := (hV1.switch (p' := v16.ownBlock) (fun q hq => (ho28.lt q hq).1)).ext hx27
        have hOi : OwnI w26 B2 3 v16 (List.replicate l.length 0) := by rw [hB2e]; exact ho28
        have hszi : B2 ≤ w26.heap.size := by have := World.grownBy.size hx27; omega
        have hTB : T ≤ B2 := by omega
        refine WL.va rfl rfl rfl (X.assign rfl) ?_
        refine WL.nil ?_
        refine thn_n ?_
        refine WF.seq ?_
        refine WF.region ?_
        refine WL.va rfl rfl rfl (X.moveI ((hACs10.eq 4).trans ((congrFun hF20 4).trans ((hACs6.eq 4).trans (congrFun hF16 4))))) ?_
        refine WL.c rfl rfl rfl (X.call Try.call19 (evl_cons rfl (evl_cons rfl evl_nil))) (pick_ok _ _ _ hlate (by omega)) ?_
        rintro v30 w29 ⟨⟨z2, rfl, _, hz2⟩, rfl⟩
        have hz3 := hz2 (by omega)
        obtain ⟨d, rfl⟩ := Int.eq_ofNat_of_zero_le hz3.1
        refine WL.va rfl rfl rfl (X.assignI rfl) ?_
        refine WL.nil ?_
        refine thn_n ?_
        refine WF.seq ?_
        refine WF.seq ?_
        refine WF.region ?_
        refine WL.va rfl rfl rfl (X.assignI rfl) ?_
        refine WL.nil ?_
        refine thn_n ?_
        refine WF.block ?_
        refine WF.named (fun F32 hF33 => ?_)
        refine WF.loopN (fun mL0 f' w' => ∃ (k : Nat) (cs1 : List Value) (L1 : List (List Acc)) (ch : Int) (Pr : List Int), mL0 = l.length + d - k ∧ f' 17 = .int .i64 (k : Int) ∧ f' 14 = .int .i64 ch ∧ f' 15 = .bool true ∧ Agree [0, 1, 2, 3, 4, 10, 11, 12, 13, 16, 19, 20, 21, 23, 24, 25, 26, 27, 35, 36, 37, 38, 39] f' F32 ∧ Ext w w' ∧ k ≤ l.length + d ∧ VV w' B T vvs v16.ownBlock cs1 L1 ∧ OwnI w' B2 3 v16 Pr ∧ Pr.length = l.length ∧ PInv n (min k l.length) (k - d + 1) (valOf cm Pr) (stA L1) ch ∧ B2 ≤ w'.heap.size) ?_ ?_
        · exact ⟨_, 0, _, _, _, _, rfl, (congrFun hF33 17), ((congrFun hF33 14).trans e14_Cs10), ((congrFun hF33 15).trans ((hACs10.eq 15).trans (congrFun hF20 15))), (Agree.refl _ _), (Ext.trans hwCs10 hx27), ⟨Nat.zero_le _, hVi, hOi, (by simp), (by rw [Nat.zero_min, Nat.zero_sub]; exact hP1), hszi⟩⟩
        · rintro mL0 fL0 wL0 ⟨k, cs1, L1, ch, Pr, hmL0, e17_L0, e14_L0, e15_L0, hAL0, hwL0, ⟨hk, hV, hO, hPl, hP, hsz⟩⟩
          refine WF.seq ?_
          refine WF.seq ?_
          refine WF.region ?_
          refine WL.va rfl rfl rfl (X.moveI e17_L0) ?_
          refine WL.va rfl rfl rfl (X.move ((hAL0.eq 3).trans ((congrFun hF33 3).trans ((hACs10.eq 3).trans ((congrFun hF20 3).trans ((hACs6.eq 3).trans (congrFun hF16 3))))))) ?_
          refine WL.va rfl rfl rfl (X.len hvl rfl Try.underlying42) ?_
          refine WL.va rfl rfl rfl (X.moveI ((hAL0.eq 4).trans (congrFun hF33 4))) ?_
          refine WL.va rfl rfl rfl (X.add rfl rfl (w64 (by omega))) ?_
          refine WL.va rfl rfl rfl (X.lss rfl rfl) ?_
          refine WL.nil ?_
          refine thn_n ?_
          refine WF.cond rfl (fun h3_35 => ?_) (fun h3_35 => ?_)
          · have gh3_35 := (of_decide_eq_true h3_35)
            have hkd : k < l.length + d := by omega
            refine WF.skip ?_
            refine thn_n ?_
            refine WF.seq ?_
            refine WF.block ?_
            refine WF.named (fun F37 hF38 => ?_)
            refine WF.cut (fun f' w' => ∃ (cs3 : List Value) (L3 : List (List Acc)) (Pr3 : List Int), Agree [0, 1, 2, 3, 4, 10, 11, 12, 13, 14, 15, 16, 17, 19, 20, 21, 23, 24, 25, 26, 27, 35, 36, 37, 38, 39, 40, 41, 42, 43, 44, 45] f' F37 ∧ Ext w w' ∧ VV w' B T vvs v16.ownBlock cs3 L3 ∧ OwnI w' B2 3 v16 Pr3 ∧ Pr3.length = l.length ∧ PInv n (min (k + 1) l.length) (k - d + 1) (valOf cm Pr3) (stA L3) ch ∧ B2 ≤ w'.heap.size) ?_ ?_
            · refine WF.seq ?_
              refine WF.region ?_
              refine WL.va rfl rfl rfl (X.moveI ((congrFun hF38 17).trans e17_L0)) ?_
              refine WL.va rfl rfl rfl (X.move ((congrFun hF38 3).trans ((hAL0.eq 3).trans ((congrFun hF33 3).trans ((hACs10.eq 3).trans ((congrFun hF20 3).trans ((hACs6.eq 3).trans (congrFun hF16 3)))))))) ?_
              refine WL.va rfl rfl rfl (X.len hvl rfl Try.underlying42) ?_
              refine WL.va rfl rfl rfl (X.lss rfl rfl) ?_
              refine WL.nil ?_
              refine thn_n ?_
              refine WF.cond rfl (fun h4_39 => ?_) (fun h4_39 => ?_)
              · have gh4_39 := (of_decide_eq_true h4_39)
                have hkl : k < l.length := by omega
                replace hP : PInv n k (k - d + 1) (valOf cm Pr) (stA L1) ch := by rw [show min k l.length = k by omega] at hP; exact hP
                refine WF.region ?_
                refine WL.va rfl rfl rfl (X.move ((congrFun hF38 16).trans ((hAL0.eq 16).trans (congrFun hF33 16)))) ?_
                refine WL.va rfl rfl rfl (X.moveI ((congrFun hF38 17).trans e17_L0)) ?_
                refine WL.va rfl rfl rfl (X.move ((congrFun hF38 12).trans ((hAL0.eq 12).trans ((congrFun hF33 12).trans ((hACs10.eq 12).trans ((congrFun hF20 12).trans ((hACs6.eq 12).trans (congrFun hF16 12)))))))) ?_
                refine WL.va rfl rfl rfl (X.moveI ((congrFun hF38 11).trans ((hAL0.eq 11).trans ((congrFun hF33 11).trans ((hACs10.eq 11).trans ((congrFun hF20 11).trans ((hACs6.eq 11).trans (congrFun hF16 11)))))))) ?_
                refine WL.va rfl rfl rfl (X.move ((congrFun hF38 3).trans ((hAL0.eq 3).trans ((congrFun hF33 3).trans ((hACs10.eq 3).trans ((congrFun hF20 3).trans ((hACs6.eq 3).trans (congrFun hF16 3)))))))) ?_
                refine WL.va rfl rfl rfl (X.moveI ((congrFun hF38 17).trans e17_L0)) ?_
                refine WL.va rfl rfl rfl (X.idx hvl rfl rfl (by omega) Try.underlying42 Try.sizeOf49) ?_
                refine WL.va rfl rfl rfl (X.loadEl hvl hwL0 rfl (by omega) (Rnds.el (l := l) (k := k) hkl) Try.isAgg49 Try.sizeOf49) ?_
                refine WL.va rfl rfl rfl (X.moveI ((congrFun hF38 17).trans e17_L0)) ?_
                refine WL.va rfl rfl rfl (X.add rfl rfl (w64 (by omega))) ?_
                have hVa := hV.ext (Ext.refl _)
                have hOa := own_ext hO (Ext.refl _)
                refine WL.c rfl rfl rfl (X.call Try.call21 (evl_cons rfl (evl_cons rfl (evl_cons rfl (evl_cons rfl evl_nil))))) (ask_ok vvs _ _ n l[k].Ask l[k].Send l[k].Free ((k : Int) + 1) B T v16.ownBlock _ hVa (by omega) (fun q hq => (hOa.lt q hq).2) hn7 (by omega) hP.ballot0) ?_
                rintro v42 w41 ⟨cs2, L2, vl2, hV2, hS2, rfl, hA2, hx43⟩
                have hO2 := VV.others hVa hOa hTB hx43
                have hP2 := one_ask (P := Pr) hP hn7 (by omega) hS2 hA2
                have hszk := World.grownBy.size hx43
                refine WL.va rfl rfl rfl (X.idx (Ints.of_own hO2) rfl rfl (by omega) Try.underlying46 Try.sizeOf3) ?_
                refine WL.op rfl (OW.storeI hO2 (by omega) rfl rfl Try.sizeOf3 ?_)
                intro w44 ho47 hx46
                have hO2s := ho47
                have hszt := World.grownBy.size hx46
                have hV2s := hV2.keptP hx46 (fun q hq => Nat.le_trans hTB (hO2.lt q hq).1)
                refine WL.nil ?_
                refine thn_n ?_
                exact ⟨_, _, _, (by repeat (first | exact (Agree.refl _ F37) | refine Agree.put ?_ rfl | refine Agree.sub hAL0 rfl ?_ | refine Agree.sub hACs10 rfl ?_ | refine Agree.sub hACs6 rfl ?_ | refine Agree.named hF38 ?_ | refine Agree.named hF33 ?_ | refine Agree.named hF20 ?_ | refine Agree.named hF16 ?_)), (Ext.own (Ext.own hwL0 hVa.own.own hwB hx43) hO2 (by omega) hx46), (by first | exact ⟨hV2s, hO2s, (by simp [hPl]), (by rw [show min (k + 1) l.length = k + 1 by omega]; exact hP2), (by omega)⟩ | exact ⟨hV, hO, hPl, (by rw [show min (k + 1) l.length = min k l.length by omega]; exact hP), (by omega)⟩)⟩
              · have gh4_39 := (of_decide_eq_false h4_39)
                have hkl : ¬ k < l.length := by omega
                refine WF.skip ?_
                refine thn_n ?_
                exact ⟨_, _, _, (by repeat (first | exact (Agree.refl _ F37) | refine Agree.put ?_ rfl | refine Agree.sub hAL0 rfl ?_ | refine Agree.sub hACs10 rfl ?_ | refine Agree.sub hACs6 rfl ?_ | refine Agree.named hF38 ?_ | refine Agree.named hF33 ?_ | refine Agree.named hF20 ?_ | refine Agree.named hF16 ?_)), hwL0, (by first | exact ⟨hV2s, hO2s, (by simp [hPl]), (by rw [show min (k + 1) l.length = k + 1 by omega]; exact hP2), (by omega)⟩ | exact ⟨hV, hO, hPl, (by rw [show min (k + 1) l.length = min k l.length by omega]; exact hP), (by omega)⟩)⟩
            · rintro fCs17 wCs17 ⟨cs3, L3, Pr3, hACs17, hwCs17, ⟨hV3, hO3, hPl3, hP3, hsz3⟩⟩
              refine WF.seq ?_
              refine WF.region ?_
              obtain ⟨zk, hzk⟩ : ∃ zk : Int, zk = (k : Int) - d := ⟨_, rfl⟩
              refine WL.va rfl rfl rfl (X.moveI ((hACs17.eq 17).trans ((congrFun hF38 17).trans e17_L0))) ?_
              refine WL.va rfl rfl rfl (X.moveI ((hACs17.eq 4).trans ((congrFun hF38 4).trans ((hAL0.eq 4).trans (congrFun hF33 4))))) ?_
              refine WL.va rfl rfl rfl (X.sub rfl rfl ((w64 (by omega)).trans hzk.symm)) ?_
              refine WL.va rfl rfl rfl (X.assignI rfl) ?_
              refine WL.nil ?_
              refine thn_n ?_
              refine WF.seq ?_
              refine WF.seq ?_
              refine WF.region ?_
              refine WL.va rfl rfl rfl (X.moveI rfl) ?_
              refine WL.va rfl rfl rfl (X.lss rfl rfl) ?_
              refine WL.va rfl rfl rfl (X.moveB rfl) ?_
              refine WL.split (j := 2) rfl (fun h49 => ?_) (fun h49 => ?_)
              · have gh49 := (of_decide_eq_true h49)
                refine WL.p rfl rfl rfl (congrArg some h49) ?_
                refine WL.p rfl rfl rfl (congrArg some h49) ?_
                refine WL.p rfl rfl rfl (congrArg some h49) ?_
                refine WL.p rfl rfl rfl (congrArg some h49) ?_
                refine WL.p rfl rfl rfl (congrArg some h49) ?_
                refine WL.va rfl rfl rfl (X.pickT rfl h49 rfl) ?_
                refine WL.nil ?_
                refine thn_n ?_
                refine WF.cond_t rfl ?_
                refine WF.exit ?_
                refine thn_x ?_
                refine blk_eq ?_
                refine thn_n ?_
                refine WF.region ?_
                refine WL.va rfl rfl rfl (X.moveI ((hACs17.eq 17).trans ((congrFun hF38 17).trans e17_L0))) ?_
                refine WL.va rfl rfl rfl (X.add rfl rfl (w64 (by omega))) ?_
                refine WL.va rfl rfl rfl (X.assignI rfl) ?_
                refine WL.nil ?_
                first | exact thn_n ⟨_, (by omega), k + 1, _, _, _, _, rfl, rfl, ((hACs17.eq 14).trans ((congrFun hF38 14).trans e14_L0)), (by first | exact ((hACs17.eq 15).trans ((congrFun hF38 15).trans e15_L0)) | exact (((hACs17.eq 15).trans ((congrFun hF38 15).trans e15_L0))).trans (congrArg Value.bool (decide_eq_true hcv))), (by repeat (first | exact hAL0 | refine Agree.put ?_ rfl | refine Agree.sub hACs17 rfl ?_ | refine Agree.sub hACs10 rfl ?_ | refine Agree.sub hACs6 rfl ?_ | refine Agree.named hF38 ?_ | refine Agree.named hF33 ?_ | refine Agree.named hF20 ?_ | refine Agree.named hF16 ?_)), hwCs17, ⟨by omega, hV3, hO3, hPl3, hP3.raise (by omega) (by omega), by omega⟩⟩ | exact thn_n ⟨_, (by omega), k + 1, _, _, _, _, rfl, rfl, ((hACs17.eq 14).trans ((congrFun hF38 14).trans e14_L0)), (by first | exact ((hACs17.eq 15).trans ((congrFun hF38 15).trans e15_L0)) | exact (((hACs17.eq 15).trans ((congrFun hF38 15).trans e15_L0))).trans (congrArg Value.bool (decide_eq_true hcv))), (by repeat (first | exact hAL0 | refine Agree.put ?_ rfl | refine Agree.sub hACs17 rfl ?_ | refine Agree.sub hACs10 rfl ?_ | refine Agree.sub hACs6 rfl ?_ | refine Agree.named hF38 ?_ | refine Agree.named hF33 ?_ | refine Agree.named hF20 ?_ | refine Agree.named hF16 ?_)), hwCs17, ⟨by omega, hV4, hO4, hPl3, (by rw [show k + 1 - d + 1 = j + 1 + 1 by omega]; first | exact (hP4.1 hmaj).2 | exact hP4.2 hmaj), by omega⟩⟩
              · have gh49 := (of_decide_eq_false h49)
                obtain ⟨j, rfl⟩ : ∃ j : Nat, zk = (j : Int) := ⟨zk.toNat, by omega⟩
                have hjl : j < l.length := by omega
                refine WL.vg rfl (congrArg some h49) rfl rfl (X.move ((hACs17.eq 16).trans ((congrFun hF38 16).trans ((hAL0.eq 16).trans (congrFun hF33 16))))) ?_
                refine WL.vg rfl (congrArg some h49) rfl rfl (X.moveI rfl) ?_
                refine WL.vg rfl (congrArg some h49) rfl rfl (X.idx (Ints.of_own hO3) rfl rfl (by omega) Try.underlying46 Try.sizeOf3) ?_
                refine WL.vg rfl (congrArg some h49) rfl rfl (X.loadI (Ints.of_own hO3) (Ext.refl _) rfl (by omega) Try.isAgg3) ?_
                refine WL.vg rfl (congrArg some h49) rfl rfl (X.eql rfl rfl) ?_
                refine WL.va rfl rfl rfl (X.pickF rfl h49 rfl) ?_
                refine WL.nil ?_
                refine thn_n ?_
                refine WF.cond rfl (fun h5_51 => ?_) (fun h5_51 => ?_)
                · have gh5_51 := (of_decide_eq_true h5_51)
                  refine WF.exit ?_
                  refine thn_x ?_
                  refine blk_eq ?_
                  refine thn_n ?_
                  refine WF.region ?_
                  refine WL.va rfl rfl rfl (X.moveI ((hACs17.eq 17).trans ((congrFun hF38 17).trans e17_L0))) ?_
                  refine WL.va rfl rfl rfl (X.add rfl rfl (w64 (by omega))) ?_
                  refine WL.va rfl rfl rfl (X.assignI rfl) ?_
                  refine WL.nil ?_
                  first | exact thn_n ⟨_, (by omega), k + 1, _, _, _, _, rfl, rfl, ((hACs17.eq 14).trans ((congrFun hF38 14).trans e14_L0)), (by first | exact ((hACs17.eq 15).trans ((congrFun hF38 15).trans e15_L0)) | exact (((hACs17.eq 15).trans ((congrFun hF38 15).trans e15_L0))).trans (congrArg Value.bool (decide_eq_true hcv))), (by repeat (first | exact hAL0 | refine Agree.put ?_ rfl | refine Agree.sub hACs17 rfl ?_ | refine Agree.sub hACs10 rfl ?_ | refine Agree.sub hACs6 rfl ?_ | refine Agree.named hF38 ?_ | refine Agree.named hF33 ?_ | refine Agree.named hF20 ?_ | refine Agree.named hF16 ?_)), hwCs17, ⟨by omega, hV3, hO3, hPl3, hP3.raise (by omega) (by omega), by omega⟩⟩ | exact thn_n ⟨_, (by omega), k + 1, _, _, _, _, rfl, rfl, ((hACs17.eq 14).trans ((congrFun hF38 14).trans e14_L0)), (by first | exact ((hACs17.eq 15).trans ((congrFun hF38 15).trans e15_L0)) | exact (((hACs17.eq 15).trans ((congrFun hF38 15).trans e15_L0))).trans (congrArg Value.bool (decide_eq_true hcv))), (by repeat (first | exact hAL0 | refine Agree.put ?_ rfl | refine Agree.sub hACs17 rfl ?_ | refine Agree.sub hACs10 rfl ?_ | refine Agree.sub hACs6 rfl ?_ | refine Agree.named hF38 ?_ | refine Agree.named hF33 ?_ | refine Agree.named hF20 ?_ | refine Agree.named hF16 ?_)), hwCs17, ⟨by omega, hV4, hO4, hPl3, (by rw [show k + 1 - d + 1 = j + 1 + 1 by omega]; first | exact (hP4.1 hmaj).2 | exact hP4.2 hmaj), by omega⟩⟩
                · have gh5_51 := (of_decide_eq_false h5_51)
                  have hne0 : Pr3.getD j 0 ≠ 0 := gh5_51
                  refine WF.skip ?_
                  refine thn_n ?_
                  refine WF.seq ?_
                  refine WF.drawn (.q 0 (.q 1 (.q 2 (.q 3 (.q 4 (.q 5 (.q 6 (.q 7 (.q 8 (.q 9 (.q 10 (.q 11 (.l 12 (.l 13 .nil)))))))))))))) (fun w' => Ext w w') 14 (by kernel_rfl) (by kernel_rfl) (Ext.trans hwCs17 (Ext.drew _)) ?_
                  refine WO.q rfl rfl rfl rfl (fun w' hE53 => (X.move ((hACs17.eq 12).trans ((congrFun hF38 12).trans ((hAL0.eq 12).trans ((congrFun hF33 12).trans ((hACs10.eq 12).trans ((congrFun hF20 12).trans ((hACs6.eq 12).trans (congrFun hF16 12)))))))))) ?_
                  refine WO.q rfl rfl rfl rfl (fun w' hE53 => (X.moveI ((hACs17.eq 11).trans ((congrFun hF38 11).trans ((hAL0.eq 11).trans ((congrFun hF33 11).trans ((hACs10.eq 11).trans ((congrFun hF20 11).trans ((hACs6.eq 11).trans (congrFun hF16 11)))))))))) ?_
                  refine WO.q rfl rfl rfl rfl (fun w' hE53 => (X.move ((hACs17.eq 3).trans ((congrFun hF38 3).trans ((hAL0.eq 3).trans ((congrFun hF33 3).trans ((hACs10.eq 3).trans ((congrFun hF20 3).trans ((hACs6.eq 3).trans (congrFun hF16 3)))))))))) ?_
                  refine WO.q rfl rfl rfl rfl (fun w' hE53 => (X.moveI rfl)) ?_
                  refine WO.q rfl rfl rfl rfl (fun w' hE53 => (X.idx hvl rfl rfl (by omega) Try.underlying42 Try.sizeOf49)) ?_
                  refine WO.q rfl rfl rfl rfl (fun w' hE53 => (X.fieldAddrA rfl Try.underlying49 rfl rfl Try.sizeOf5)) ?_
                  refine WO.q rfl rfl rfl rfl (fun w' hE53 => (X.loadE hvl hE53 rfl (by omega) ((Rnds.get (l := l) (k := j) hjl (by decide)).trans rfl) Try.isAgg5)) ?_
                  refine WO.q rfl rfl rfl rfl (fun w' hE53 => (X.moveI rfl)) ?_
                  refine WO.q rfl rfl rfl rfl (fun w' hE53 => (X.add rfl rfl (w64 (by omega)))) ?_
                  refine WO.q rfl rfl rfl rfl (fun w' hE53 => (X.move ((hACs17.eq 16).trans ((congrFun hF38 16).trans ((hAL0.eq 16).trans (congrFun hF33 16)))))) ?_
                  refine WO.q rfl rfl rfl rfl (fun w' hE53 => (X.moveI rfl)) ?_
                  refine WO.q rfl rfl rfl rfl (fun w' hE53 => (X.idx (Ints.of_own hO3) rfl rfl (by omega) Try.underlying46 Try.sizeOf3)) ?_
                  refine WO.l ?_
                  refine LO.go rfl rfl (OW.val rfl (by decide) (X.loadI (Ints.of_own hO3) (Ext.drew _) rfl (by omega) Try.isAgg3) ?_)
                  refine ⟨(Ext.trans hwCs17 (Ext.drew _)), ?_⟩
                  refine WO.l ?_
                  have hVb := hV3.ext (Ext.drew _)
                  have hOb := own_ext hO3 (Ext.drew _)
                  refine LO.go rfl rfl (OW.enter rfl (by decide) (X.call Try.call20 (evl_cons rfl (evl_cons rfl (evl_cons rfl (evl_cons rfl (evl_cons rfl evl_nil)))))) (send_ok vvs _ _ n (l[j]'hjl).Send ((j : Int) + 1) (Pr3.getD j 0) B T v16.ownBlock _ hVb (show T ≤ wCs17.heap.size from by omega) (fun q hq => (hOb.lt q hq).2) hn7 (by omega) (one_12 hP3 hne0)) ?_)
                  rintro v55 w54 ⟨cs4, L4, hV4, hS4, rfl, hx56⟩
                  refine ⟨(Ext.own (Ext.trans hwCs17 (Ext.drew _)) hVb.own.own hwB hx56), ?_⟩
                  have hO4 := VV.others hVb hOb hTB hx56
                  have hP4 := one_send (b := j + 1) hP3 hn7 (by omega) (by omega) rfl hne0 hS4
                  have hszk : wCs17.heap.size ≤ w54.heap.size := (show wCs17.drew.heap.size ≤ w54.heap.size from World.grownBy.size hx56)
                  refine WO.nil ?_
                  refine WL.nil ?_
                  refine thn_n ?_
                  refine WF.cond rfl (fun h6_57 => ?_) (fun h6_57 => ?_)
                  · have gh6_57 := (of_decide_eq_true h6_57)
                    have hmaj := gh6_57
                    refine WF.seq ?_
                    refine WF.region ?_
                    refine WL.va rfl rfl rfl (X.moveB ((hACs17.eq 15).trans ((congrFun hF38 15).trans e15_L0))) ?_
                    refine WL.va rfl rfl rfl (X.moveB rfl) ?_
                    refine WL.vg rfl rfl rfl rfl (X.moveI ((hACs17.eq 14).trans ((congrFun hF38 14).trans e14_L0))) ?_
                    refine WL.vg rfl rfl rfl rfl (X.eql rfl rfl) ?_
                    refine WL.vg rfl rfl rfl rfl (X.moveB rfl) ?_
                    refine WL.split (j := 4) rfl (fun h60 => ?_) (fun h60 => ?_)
                    · have gh60 := (of_decide_eq_true h60)
                      refine WL.p rfl rfl rfl (congrArg some h60) ?_
                      refine WL.p rfl rfl rfl (congrArg some h60) ?_
                      refine WL.p rfl rfl rfl (congrArg some h60) ?_
                      refine WL.p rfl rfl rfl (congrArg some h60) ?_
                      refine WL.p rfl rfl rfl (congrArg some h60) ?_
                      refine WL.p rfl rfl rfl (congrArg some h60) ?_
                      refine WL.vg rfl rfl rfl rfl (X.pickT rfl h60 rfl) ?_
                      refine WL.va rfl rfl rfl (X.pickT rfl rfl rfl) ?_
                      refine WL.va rfl rfl rfl (X.assignB rfl) ?_
                      refine WL.nil ?_
                      refine thn_n ?_
                      refine WF.region ?_
                      refine WL.va rfl rfl rfl (X.move ((hACs17.eq 16).trans ((congrFun hF38 16).trans ((hAL0.eq 16).trans (congrFun hF33 16))))) ?_
                      refine WL.va rfl rfl rfl (X.moveI rfl) ?_
                      refine WL.va rfl rfl rfl (X.idx (Ints.of_own hO4) rfl rfl (by omega) Try.underlying46 Try.sizeOf3) ?_
                      refine WL.va rfl rfl rfl (X.loadI (Ints.of_own hO4) (Ext.refl _) rfl (by omega) Try.isAgg3) ?_
                      refine WL.va rfl rfl rfl (X.assignI rfl) ?_
                      refine WL.nil ?_
                      refine blk_n ?_
                      refine thn_n ?_
                      refine WF.region ?_
                      refine WL.va rfl rfl rfl (X.moveI ((hACs17.eq 17).trans ((congrFun hF38 17).trans e17_L0))) ?_
                      refine WL.va rfl rfl rfl (X.add rfl rfl (w64 (by omega))) ?_
                      refine WL.va rfl rfl rfl (X.assignI rfl) ?_
                      refine WL.nil ?_
                      first | exact thn_n ⟨_, (by omega), k + 1, _, _, _, _, rfl, rfl, rfl, (by first | exact rfl | exact (rfl).trans (congrArg Value.bool (decide_eq_true hcv))), (by repeat (first | exact hAL0 | refine Agree.put ?_ rfl | refine Agree.sub hACs17 rfl ?_ | refine Agree.sub hACs10 rfl ?_ | refine Agree.sub hACs6 rfl ?_ | refine Agree.named hF38 ?_ | refine Agree.named hF33 ?_ | refine Agree.named hF20 ?_ | refine Agree.named hF16 ?_)), (Ext.own (Ext.trans hwCs17 (Ext.drew _)) hVb.own.own hwB hx56), ⟨by omega, hV3, hO3, hPl3, hP3.raise (by omega) (by omega), by omega⟩⟩ | exact thn_n ⟨_, (by omega), k + 1, _, _, _, _, rfl, rfl, rfl, (by first | exact rfl | exact (rfl).trans (congrArg Value.bool (decide_eq_true hcv))), (by repeat (first | exact hAL0 | refine Agree.put ?_ rfl | refine Agree.sub hACs17 rfl ?_ | refine Agree.sub hACs10 rfl ?_ | refine Agree.sub hACs6 rfl ?_ | refine Agree.named hF38 ?_ | refine Agree.named hF33 ?_ | refine Agree.named hF20 ?_ | refine Agree.named hF16 ?_)), (Ext.own (Ext.trans hwCs17 (Ext.drew _)) hVb.own.own hwB hx56), ⟨by omega, hV4, hO4, hPl3, (by rw [show k + 1 - d + 1 = j + 1 + 1 by omega]; first | exact (hP4.1 hmaj).2 | exact hP4.2 hmaj), by omega⟩⟩
                    · have gh60 := (of_decide_eq_false h60)
                      have hcv : ch = Pr3.getD j 0 := (hP4.1 hmaj).1.resolve_left gh60
                      refine WL.vg rfl (congrArg some h60) rfl rfl (X.moveI ((hACs17.eq 14).trans ((congrFun hF38 14).trans e14_L0))) ?_
                      refine WL.vg rfl (congrArg some h60) rfl rfl (X.move ((hACs17.eq 16).trans ((congrFun hF38 16).trans ((hAL0.eq 16).trans (congrFun hF33 16))))) ?_
                      refine WL.vg rfl (congrArg some h60) rfl rfl (X.moveI rfl) ?_
                      refine WL.vg rfl (congrArg some h60) rfl rfl (X.idx (Ints.of_own hO4) rfl rfl (by omega) Try.underlying46 Try.sizeOf3) ?_
                      refine WL.vg rfl (congrArg some h60) rfl rfl (X.loadI (Ints.of_own hO4) (Ext.refl _) rfl (by omega) Try.isAgg3) ?_
                      refine WL.vg rfl (congrArg some h60) rfl rfl (X.eql rfl rfl) ?_
                      refine WL.vg rfl rfl rfl rfl (X.pickF rfl h60 rfl) ?_
                      refine WL.va rfl rfl rfl (X.pickT rfl rfl rfl) ?_
                      refine WL.va rfl rfl rfl (X.assignB rfl) ?_
                      refine WL.nil ?_
                      refine thn_n ?_
                      refine WF.region ?_
                      refine WL.va rfl rfl rfl (X.move ((hACs17.eq 16).trans ((congrFun hF38 16).trans ((hAL0.eq 16).trans (congrFun hF33 16))))) ?_
                      refine WL.va rfl rfl rfl (X.moveI rfl) ?_
                      refine WL.va rfl rfl rfl (X.idx (Ints.of_own hO4) rfl rfl (by omega) Try.underlying46 Try.sizeOf3) ?_
                      refine WL.va rfl rfl rfl (X.loadI (Ints.of_own hO4) (Ext.refl _) rfl (by omega) Try.isAgg3) ?_
                      refine WL.va rfl rfl rfl (X.assignI rfl) ?_
                      refine WL.nil ?_
                      refine blk_n ?_
                      refine thn_n ?_
                      refine WF.region ?_
                      refine WL.va rfl rfl rfl (X.moveI ((hACs17.eq 17).trans ((congrFun hF38 17).trans e17_L0))) ?_
                      refine WL.va rfl rfl rfl (X.add rfl rfl (w64 (by omega))) ?_
                      refine WL.va rfl rfl rfl (X.assignI rfl) ?_
                      refine WL.nil ?_
                      first | exact thn_n ⟨_, (by omega), k + 1, _, _, _, _, rfl, rfl, rfl, (by first | exact rfl | exact (rfl).trans (congrArg Value.bool (decide_eq_true hcv))), (by repeat (first | exact hAL0 | refine Agree.put ?_ rfl | refine Agree.sub hACs17 rfl ?_ | refine Agree.sub hACs10 rfl ?_ | refine Agree.sub hACs6 rfl ?_ | refine Agree.named hF38 ?_ | refine Agree.named hF33 ?_ | refine Agree.named hF20 ?_ | refine Agree.named hF16 ?_)), (Ext.own (Ext.trans hwCs17 (Ext.drew _)) hVb.own.own hwB hx56), ⟨by omega, hV3, hO3, hPl3, hP3.raise (by omega) (by omega), by omega⟩⟩ | exact thn_n ⟨_, (by omega), k + 1, _, _, _, _, rfl, rfl, rfl, (by first | exact rfl | exact (rfl).trans (congrArg Value.bool (decide_eq_true hcv))), (by repeat (first | exact hAL0 | refine Agree.put ?_ rfl | refine Agree.sub hACs17 rfl ?_ | refine Agree.sub hACs10 rfl ?_ | refine Agree.sub hACs6 rfl ?_ | refine Agree.named hF38 ?_ | refine Agree.named hF33 ?_ | refine Agree.named hF20 ?_ | refine Agree.named hF16 ?_)), (Ext.own (Ext.trans hwCs17 (Ext.drew _)) hVb.own.own hwB hx56), ⟨by omega, hV4, hO4, hPl3, (by rw [show k + 1 - d + 1 = j + 1 + 1 by omega]; first | exact (hP4.1 hmaj).2 | exact hP4.2 hmaj), by omega⟩⟩
                  · have gh6_57 := (of_decide_eq_false h6_57)
                    have hmaj := gh6_57
                    refine WF.skip ?_
                    refine blk_n ?_
                    refine thn_n ?_
                    refine WF.region ?_
                    refine WL.va rfl rfl rfl (X.moveI ((hACs17.eq 17).trans ((congrFun hF38 17).trans e17_L0))) ?_
                    refine WL.va rfl rfl rfl (X.add rfl rfl (w64 (by omega))) ?_
                    refine WL.va rfl rfl rfl (X.assignI rfl) ?_
                    refine WL.nil ?_
                    first | exact thn_n ⟨_, (by omega), k + 1, _, _, _, _, rfl, rfl, ((hACs17.eq 14).trans ((congrFun hF38 14).trans e14_L0)), (by first | exact ((hACs17.eq 15).trans ((congrFun hF38 15).trans e15_L0)) | exact (((hACs17.eq 15).trans ((congrFun hF38 15).trans e15_L0))).trans (congrArg Value.bool (decide_eq_true hcv))), (by repeat (first | exact hAL0 | refine Agree.put ?_ rfl | refine Agree.sub hACs17 rfl ?_ | refine Agree.sub hACs10 rfl ?_ | refine Agree.sub hACs6 rfl ?_ | refine Agree.named hF38 ?_ | refine Agree.named hF33 ?_ | refine Agree.named hF20 ?_ | refine Agree.named hF16 ?_)), (Ext.own (Ext.trans hwCs17 (Ext.drew _)) hVb.own.own hwB hx56), ⟨by omega, hV3, hO3, hPl3, hP3.raise (by omega) (by omega), by omega⟩⟩ | exact thn_n ⟨_, (by omega), k + 1, _, _, _, _, rfl, rfl, ((hACs17.eq 14).trans ((congrFun hF38 14).trans e14_L0)), (by first | exact ((hACs17.eq 15).trans ((congrFun hF38 15).trans e15_L0)) | exact (((hACs17.eq 15).trans ((congrFun hF38 15).trans e15_L0))).trans (congrArg Value.bool (decide_eq_true hcv))), (by repeat (first | exact hAL0 | refine Agree.put ?_ rfl | refine Agree.sub hACs17 rfl ?_ | refine Agree.sub hACs10 rfl ?_ | refine Agree.sub hACs6 rfl ?_ | refine Agree.named hF38 ?_ | refine Agree.named hF33 ?_ | refine Agree.named hF20 ?_ | refine Agree.named hF16 ?_)), (Ext.own (Ext.trans hwCs17 (Ext.drew _)) hVb.own.own hwB hx56), ⟨by omega, hV4, hO4, hPl3, (by rw [show k + 1 - d + 1 = j + 1 + 1 by omega]; first | exact (hP4.1 hmaj).2 | exact hP4.2 hmaj), by omega⟩⟩
          · have gh3_35 := (of_decide_eq_false h3_35)
            refine WF.exit ?_
            refine thn_x ?_
            refine thn_x ?_
            refine blk_eq ?_
            refine thn_n ?_
            refine WF.seq ?_
            refine WF.region ?_
            refine WL.va rfl rfl rfl (X.moveB e15_L0) ?_
            refine WL.va rfl rfl rfl (X.moveB rfl) ?_
            refine WL.cg rfl rfl rfl rfl (X.call Try.call9 evl_nil) (works_ok _) ?_
            rintro v64 w63 ⟨rfl, hx65⟩
            refine WL.va rfl rfl rfl (X.pickT rfl rfl rfl) ?_
            refine WL.va rfl rfl rfl (X.assignB rfl) ?_
            refine WL.nil ?_
            refine thn_n ?_
            refine WF.ret ?_
            refine fin_r ?_
            exact ⟨rfl, (Ext.trans hwL0 hx65)⟩

end Go.Proofs.Ytgbkgkicgaikdaa
