/- The walk of Serial. -/
import Derived.Test.YtobjmehppmhkdaaSew
import Derived.Test.YtobjmehppmhkdaaIn
namespace Go.Proofs.Ytobjmehppmhkdaa
open Go Go.RowKit Kf
set_option maxRecDepth 20000

theorem pickZ_ok (k n : Int) (w : World) (_hk : -9223372036854775808 ≤ k ∧ k ≤ 9223372036854775807) (hn : 1 ≤ n ∧ n ≤ 1000000) : FnOk Try.prog 10 [i64 k, i64 n] w (fun r w' => r = i64 (pickZ k n) ∧ w = w') := by
  refine FnOk.enter (rs := [4]) Try.func10 rfl Try.ntmps10 Try.results10 rfl rfl ?_
  refine WF.seq ?_
  refine WF.region ?_
  refine WL.va rfl rfl rfl (X.assignI rfl) ?_
  refine WL.nil ?_
  refine thn_n ?_
  refine WF.seq ?_
  refine WF.seq ?_
  refine WF.region ?_
  refine WL.va rfl rfl rfl (X.moveI rfl) ?_
  refine WL.va rfl rfl rfl (X.lss rfl rfl) ?_
  refine WL.nil ?_
  refine thn_n ?_
  refine WF.cond rfl (fun h0_1 => ?_) (fun h0_1 => ?_)
  · have gh0_1 := (of_decide_eq_true h0_1)
    exact absurd gh0_1 (by omega)
  · have gh0_1 := (of_decide_eq_false h0_1)
    have hr1 := Int.tmod_lt_of_pos k (show 0 < n by omega)
    have hr2 := Int.lt_tmod_of_pos k (show 0 < n by omega)
    refine WF.skip ?_
    refine thn_n ?_
    refine WF.seq ?_
    refine WF.region ?_
    refine WL.va rfl rfl rfl (X.moveI rfl) ?_
    refine WL.va rfl rfl rfl (X.moveI rfl) ?_
    refine WL.va rfl rfl rfl (X.rem rfl rfl (by omega) rfl) ?_
    refine WL.va rfl rfl rfl (X.assignI rfl) ?_
    refine WL.nil ?_
    refine thn_n ?_
    refine WF.seq ?_
    refine WF.seq ?_
    refine WF.region ?_
    refine WL.va rfl rfl rfl (X.moveI rfl) ?_
    refine WL.va rfl rfl rfl (X.lss rfl rfl) ?_
    refine WL.nil ?_
    refine thn_n ?_
    refine WF.cond rfl (fun h1_3 => ?_) (fun h1_3 => ?_)
    · have gh1_3 := (of_decide_eq_true h1_3)
      have hp : pickZ k n = k.tmod n + n := by unfold pickZ; rw [if_pos gh1_3]
      refine WF.region ?_
      refine WL.va rfl rfl rfl (X.moveI rfl) ?_
      refine WL.va rfl rfl rfl (X.moveI rfl) ?_
      refine WL.va rfl rfl rfl (X.add rfl rfl (w64 (by omega))) ?_
      refine WL.va rfl rfl rfl (X.assignI rfl) ?_
      refine WL.nil ?_
      refine thn_n ?_
      refine WF.seq ?_
      refine WF.region ?_
      refine WL.va rfl rfl rfl (X.moveI rfl) ?_
      refine WL.va rfl rfl rfl (X.assignI rfl) ?_
      refine WL.nil ?_
      refine thn_n ?_
      refine WF.ret ?_
      refine fin_r ?_
      exact ⟨congrArg i64 hp.symm, rfl⟩
    · have gh1_3 := (of_decide_eq_false h1_3)
      have hp : pickZ k n = k.tmod n := by unfold pickZ; rw [if_neg gh1_3]
      refine WF.skip ?_
      refine thn_n ?_
      refine WF.seq ?_
      refine WF.region ?_
      refine WL.va rfl rfl rfl (X.moveI rfl) ?_
      refine WL.va rfl rfl rfl (X.assignI rfl) ?_
      refine WL.nil ?_
      refine thn_n ?_
      refine WF.ret ?_
      refine fin_r ?_
      exact ⟨congrArg i64 hp.symm, rfl⟩

set_option maxHeartbeats 1000000 in
theorem great_ok (v : Value) (l : List (List Dd)) (w : World) (hv : Ddss w v l) : FnOk Try.prog 6 [v] w (fun r w' => (∃ b, r = .bool b ∧ (b = false → l.length ≤ 12 ∧ ∀ i (hi : i < l.length), l[i].length ≤ 8)) ∧ Ext w w') := by
  obtain ⟨vs, hr, hel⟩ := hv
  refine FnOk.enter (rs := [2]) Try.func6 rfl Try.ntmps6 Try.results6 rfl rfl ?_
  refine WF.seq ?_
  refine WF.region ?_
  refine WL.va rfl rfl rfl (X.assignB rfl) ?_
  refine WL.nil ?_
  refine thn_n ?_
  refine WF.seq ?_
  refine WF.seq ?_
  refine WF.region ?_
  refine WL.va rfl rfl rfl (X.move rfl) ?_
  refine WL.va rfl rfl rfl (X.len hr rfl Try.underlying22) ?_
  refine WL.va rfl rfl rfl (X.gtr rfl rfl) ?_
  refine WL.nil ?_
  refine thn_n ?_
  refine WF.cond rfl (fun h0_2 => ?_) (fun h0_2 => ?_)
  · have gh0_2 := (of_decide_eq_true h0_2)
    refine WF.seq ?_
    refine WF.region ?_
    refine WL.va rfl rfl rfl (X.assignB rfl) ?_
    refine WL.nil ?_
    refine thn_n ?_
    refine WF.ret ?_
    refine thn_r ?_
    refine fin_r ?_
    exact ⟨⟨true, rfl, fun h => by cases h⟩, (Ext.refl _)⟩
  · have gh0_2 := (of_decide_eq_false h0_2)
    have hlen : l.length ≤ 12 := by have := gh0_2; omega
    refine WF.skip ?_
    refine thn_n ?_
    refine WF.seq ?_
    refine WF.seq ?_
    refine WF.region ?_
    refine WL.va rfl rfl rfl (X.assignI rfl) ?_
    refine WL.nil ?_
    refine thn_n ?_
    refine WF.block ?_
    refine WF.named (fun F5 hF6 => ?_)
    refine WF.loopN (fun mL0 f' w' => ∃ (k : Nat), mL0 = l.length - k ∧ f' 3 = .int .i64 (k : Int) ∧ Agree [0, 4, 5, 6] f' F5 ∧ Ext w w' ∧ k ≤ l.length ∧ ∀ j (hj : j < l.length), j < k → l[j].length ≤ 8) ?_ ?_
    · exact ⟨_, 0, rfl, (congrFun hF6 3), (Agree.refl _ _), (Ext.refl _), ⟨Nat.zero_le _, fun j _ h => absurd h (by omega)⟩⟩
    · rintro mL0 fL0 wL0 ⟨k, hmL0, e3_L0, hAL0, hwL0, ⟨hk0, hno⟩⟩
      refine WF.seq ?_
      refine WF.seq ?_
      refine WF.region ?_
      refine WL.va rfl rfl rfl (X.moveI e3_L0) ?_
      refine WL.va rfl rfl rfl (X.move ((hAL0.eq 0).trans (congrFun hF6 0))) ?_
      refine WL.va rfl rfl rfl (X.len hr rfl Try.underlying22) ?_
      refine WL.va rfl rfl rfl (X.lss rfl rfl) ?_
      refine WL.nil ?_
      refine thn_n ?_
      refine WF.cond rfl (fun h1_7 => ?_) (fun h1_7 => ?_)
      · have gh1_7 := (of_decide_eq_true h1_7)
        have hk : k < l.length := by have := gh1_7; omega
        refine WF.skip ?_
        refine thn_n ?_
        refine WF.seq ?_
        refine WF.block ?_
        refine WF.seq ?_
        refine WF.region ?_
        refine WL.va rfl rfl rfl (X.move ((hAL0.eq 0).trans (congrFun hF6 0))) ?_
        refine WL.va rfl rfl rfl (X.moveI e3_L0) ?_
        refine WL.va rfl rfl rfl (X.idx hr rfl rfl hk Try.underlying22 Try.sizeOf51) ?_
        refine WL.va rfl rfl rfl (X.load1 hr hwL0 rfl hk Try.isAgg51) ?_
        refine WL.va rfl rfl rfl (X.len (hel k hk) rfl Try.underlying51) ?_
        refine WL.va rfl rfl rfl (X.gtr rfl rfl) ?_
        refine WL.nil ?_
        refine thn_n ?_
        refine WF.cond rfl (fun h2_9 => ?_) (fun h2_9 => ?_)
        · have gh2_9 := (of_decide_eq_true h2_9)
          refine WF.seq ?_
          refine WF.region ?_
          refine WL.va rfl rfl rfl (X.assignB rfl) ?_
          refine WL.nil ?_
          refine thn_n ?_
          refine WF.ret ?_
          refine blk_r ?_
          refine thn_r ?_
          refine thn_r ?_
          refine blk_r ?_
          refine thn_r ?_
          refine fin_r ?_
          exact ⟨⟨true, rfl, fun h => by cases h⟩, hwL0⟩
        · have gh2_9 := (of_decide_eq_false h2_9)
          have h8 : l[k].length ≤ 8 := by have := gh2_9; omega
          refine WF.skip ?_
          refine blk_n ?_
          refine thn_n ?_
          refine WF.region ?_
          refine WL.va rfl rfl rfl (X.moveI e3_L0) ?_
          refine WL.va rfl rfl rfl (X.add rfl rfl (w64 (by omega))) ?_
          refine WL.va rfl rfl rfl (X.assignI rfl) ?_
          refine WL.nil ?_
          exact thn_n ⟨_, (by omega), k + 1, rfl, rfl, (by repeat (first | exact hAL0 | refine Agree.put ?_ rfl | refine Agree.named hF6 ?_)), hwL0, ⟨by omega, fun j hj h => by by_cases q : j = k; (subst q; exact h8); exact hno j hj (by omega)⟩⟩
      · have gh1_7 := (of_decide_eq_false h1_7)
        have hk : l.length ≤ k := by have := gh1_7; omega
        refine WF.exit ?_
        refine thn_x ?_
        refine thn_x ?_
        refine blk_eq ?_
        refine thn_n ?_
        refine WF.seq ?_
        refine WF.region ?_
        refine WL.va rfl rfl rfl (X.assignB rfl) ?_
        refine WL.nil ?_
        refine thn_n ?_
        refine WF.ret ?_
        refine fin_r ?_
        exact ⟨⟨false, rfl, fun _ => ⟨hlen, fun i hi => hno i hi (by omega)⟩⟩, hwL0⟩

set_option maxHeartbeats 16000000 in
theorem serial_walk (v vc : Value) (l : List (List Dd)) (ch : List Bool) (sp : Int) (w : World) (hv : Ddss w v l) (hc : Row w vc ch.length 1 (ch.map Value.bool)) (hl : l.length ≤ 12) (h8 : ∀ i (hi : i < l.length), l[i].length ≤ 8) (hin : ∀ i (hi : i < l.length), ∀ d ∈ l[i], -9223372036854775808 ≤ d.Block ∧ d.Block ≤ 9223372036854775807) : FnOk Try.prog 8 [v, vc, i64 sp] w (fun r w' => (∃ vo, r = .tuple #[vo, .bool (serialL l ch sp).sp] ∧ Evs w' vo (histL (serialL l ch sp).txs) ∧ (histL (serialL l ch sp).txs).length ≤ 1000) ∧ Ext w w') := by
  obtain ⟨vs, hr, hel⟩ := hv
  refine FnOk.enter (rs := [6, 7]) Try.func8 rfl Try.ntmps8 Try.results8 rfl rfl ?_
  refine WF.seq ?_
  refine WF.region ?_
  refine WL.va rfl rfl rfl (X.assign rfl) ?_
  refine WL.va rfl rfl rfl (X.assignB rfl) ?_
  refine WL.nil ?_
  refine thn_n ?_
  refine WF.seq ?_
  refine WF.region ?_
  refine WL.va rfl rfl rfl (X.assign rfl) ?_
  refine WL.nil ?_
  refine thn_n ?_
  refine WF.seq ?_
  refine WF.region ?_
  refine WL.va rfl rfl rfl (X.assign rfl) ?_
  refine WL.nil ?_
  refine thn_n ?_
  refine WF.seq ?_
  refine WF.region ?_
  refine WL.va rfl rfl rfl (X.assignI rfl) ?_
  refine WL.nil ?_
  refine thn_n ?_
  refine WF.seq ?_
  refine WF.region ?_
  refine WL.va rfl rfl rfl (X.assignB rfl) ?_
  refine WL.nil ?_
  refine thn_n ?_
  refine WF.seq ?_
  refine WF.seq ?_
  refine WF.region ?_
  refine WL.va rfl rfl rfl (X.assignI rfl) ?_
  refine WL.nil ?_
  refine thn_n ?_
  refine WF.block ?_
  refine WF.named (fun F3 hF4 => ?_)
  refine WF.loopN (fun mL0 f' w' => ∃ (i : Nat) (vo vd : Value) (E : List EvV) (Fd : List BV) (S : OS), mL0 = l.length - i ∧ f' 12 = .int .i64 (i : Int) ∧ f' 8 = vo ∧ f' 9 = vd ∧ f' 10 = .int .i64 (S.n : Int) ∧ f' 11 = .bool S.sp ∧ Agree [0, 1, 2, 6, 7] f' F3 ∧ Ext w w' ∧ i ≤ l.length ∧ S = serialL (l.take i) ch sp ∧ S.txs.length = i ∧ S.n ≤ 8 * i ∧ E.length ≤ 20 * i ∧ SerW w' w.heap.size vo E vd Fd vd Fd ∧ E.map Prod.fst = histL S.txs ∧ Fd.map Prod.fst = S.disk) ?_ ?_
  · exact ⟨_, 0, (.slice none 0 0), (.slice none 0 0), [], [], (⟨[], [], 0, false⟩ : OS), rfl, (congrFun hF4 12), (congrFun hF4 8), (congrFun hF4 9), (congrFun hF4 10), (congrFun hF4 11), (Agree.refl _ _), (Ext.refl _), ⟨Nat.zero_le _, rfl, rfl, Nat.le_refl _, Nat.le_refl _, SerW.zero _ _, rfl, rfl⟩⟩
  · rintro mL0 fL0 wL0 ⟨i, vo, vd, E, Fd, S, hmL0, e12_L0, e8_L0, e9_L0, e10_L0, e11_L0, hAL0, hwL0, ⟨hi0, hS, hSl, hSn, hEl, SW0, hE, hFd⟩⟩
    refine WF.seq ?_
    refine WF.seq ?_
    refine WF.region ?_
    refine WL.va rfl rfl rfl (X.moveI e12_L0) ?_
    refine WL.va rfl rfl rfl (X.move ((hAL0.eq 0).trans (congrFun hF4 0))) ?_
    refine WL.va rfl rfl rfl (X.len hr rfl Try.underlying22) ?_
    refine WL.va rfl rfl rfl (X.lss rfl rfl) ?_
    refine WL.nil ?_
    refine thn_n ?_
    refine WF.cond rfl (fun h0_6 => ?_) (fun h0_6 => ?_)
    · have gh0_6 := (of_decide_eq_true h0_6)
      have hi : i < l.length := by have := gh0_6; omega
      have hOI : OI sp S := by rw [hS]; exact serial_ok
      have hi8 := h8 i hi
      refine WF.skip ?_
      refine thn_n ?_
      refine WF.seq ?_
      refine WF.block ?_
      refine WF.seq ?_
      refine WF.region ?_
      refine WL.va rfl rfl rfl (X.moveI e12_L0) ?_
      refine WL.va rfl rfl rfl (X.add rfl rfl (show _ = (1048577 + (S.txs.length : Int)) from (w64 (by omega)).trans (by omega))) ?_
      refine WL.va rfl rfl rfl (X.assignI rfl) ?_
      refine WL.nil ?_
      refine thn_n ?_
      refine WF.seq ?_
      refine WF.region ?_
      refine WL.va rfl rfl rfl (X.move e9_L0) ?_
      refine WL.va rfl rfl rfl (X.assign rfl) ?_
      refine WL.nil ?_
      refine thn_n ?_
      refine WF.named (fun F8 hF9 => ?_)
      refine WF.cut (fun f' w' => f' 15 = .bool (isC ch i) ∧ Agree [0, 1, 2, 6, 7, 8, 9, 10, 11, 12, 13, 14, 20, 21, 22, 23, 26, 27, 28] f' F8 ∧ wL0 = w') ?_ ?_
      · refine WF.region ?_
        refine WL.va rfl rfl rfl (X.moveI ((congrFun hF9 12).trans e12_L0)) ?_
        refine WL.va rfl rfl rfl (X.move ((congrFun hF9 1).trans ((hAL0.eq 1).trans (congrFun hF4 1)))) ?_
        refine WL.va rfl rfl rfl (X.len hc rfl Try.underlying23) ?_
        refine WL.va rfl rfl rfl (X.geq rfl rfl) ?_
        refine WL.va rfl rfl rfl (X.moveB rfl) ?_
        refine WL.split (j := 4) rfl (fun h11 => ?_) (fun h11 => ?_)
        · have gh11 := (of_decide_eq_true h11)
          have hic : ch.length ≤ i := by have := gh11; omega
          refine WL.p rfl rfl rfl (congrArg some h11) ?_
          refine WL.p rfl rfl rfl (congrArg some h11) ?_
          refine WL.p rfl rfl rfl (congrArg some h11) ?_
          refine WL.p rfl rfl rfl (congrArg some h11) ?_
          refine WL.va rfl rfl rfl (X.pickT rfl h11 rfl) ?_
          refine WL.va rfl rfl rfl (X.assignB rfl) ?_
          refine WL.nil ?_
          refine thn_n ?_
          exact ⟨(Eq.trans rfl (by first | exact is_t hic | rfl)), (by repeat (first | exact (Agree.refl _ F8) | refine Agree.put ?_ rfl | refine Agree.sub hAL0 rfl ?_ | refine Agree.named hF9 ?_ | refine Agree.named hF4 ?_)), rfl⟩
        · have gh11 := (of_decide_eq_false h11)
          have hic : i < ch.length := by have := gh11; omega
          refine WL.vg rfl (congrArg some h11) rfl rfl (X.move ((congrFun hF9 1).trans ((hAL0.eq 1).trans (congrFun hF4 1)))) ?_
          refine WL.vg rfl (congrArg some h11) rfl rfl (X.moveI ((congrFun hF9 12).trans e12_L0)) ?_
          refine WL.vg rfl (congrArg some h11) rfl rfl (X.idx hc rfl rfl (by omega) Try.underlying23 Try.sizeOf4) ?_
          refine WL.vg rfl (congrArg some h11) rfl rfl (X.loadCh hc hwL0 rfl hic rfl Try.isAgg4) ?_
          refine WL.va rfl rfl rfl (X.pickF rfl h11 rfl) ?_
          refine WL.va rfl rfl rfl (X.assignB rfl) ?_
          refine WL.nil ?_
          refine thn_n ?_
          exact ⟨(Eq.trans rfl (by first | exact is_t hic | rfl)), (by repeat (first | exact (Agree.refl _ F8) | refine Agree.put ?_ rfl | refine Agree.sub hAL0 rfl ?_ | refine Agree.named hF9 ?_ | refine Agree.named hF4 ?_)), rfl⟩
      · rintro fCr10 wCr10 ⟨e15_Cr10, hACr10, rfl⟩
        refine WF.seq ?_
        refine WF.seq ?_
        refine WF.region ?_
        refine WL.va rfl rfl rfl (X.assignI rfl) ?_
        refine WL.nil ?_
        refine thn_n ?_
        refine WF.block ?_
        refine WF.named (fun F15 hF16 => ?_)
        refine WF.loopN (fun mL1 f' w' => ∃ (k : Nat) (vo vm : Value) (E1 : List EvV) (Fm : List BV) (G : GS), mL1 = (l[i]'hi).length - k ∧ f' 16 = .int .i64 (k : Int) ∧ f' 8 = vo ∧ f' 14 = vm ∧ f' 10 = .int .i64 (G.n : Int) ∧ f' 11 = .bool (S.sp || G.hit) ∧ Agree [0, 1, 2, 6, 7, 9, 12, 13, 15, 20, 21, 22, 23, 26, 27, 28] f' F15 ∧ Ext w w' ∧ k ≤ (l[i]'hi).length ∧ G = genA sp (isC ch i) S.disk S.n ((l[i]'hi).take k) ∧ E1.length ≤ 20 * i + 2 * k ∧ SerW w' w.heap.size vo E1 vd Fd vm Fm ∧ E1.map Prod.fst = histL S.txs ++ bodyL (1048577 + (S.txs.length : Int)) G.acts ∧ Fm.map Prod.fst = G.m) ?_ ?_
        · exact ⟨_, 0, vo, vd, E, Fd, (⟨[], S.disk, S.n, false⟩ : GS), rfl, (congrFun hF16 16), ((congrFun hF16 8).trans ((hACr10.eq 8).trans ((congrFun hF9 8).trans e8_L0))), ((congrFun hF16 14).trans ((hACr10.eq 14).trans (congrFun hF9 14))), ((congrFun hF16 10).trans ((hACr10.eq 10).trans ((congrFun hF9 10).trans e10_L0))), (Eq.trans ((congrFun hF16 11).trans ((hACr10.eq 11).trans ((congrFun hF9 11).trans e11_L0))) (by simp)), (Agree.refl _ _), hwL0, ⟨Nat.zero_le _, rfl, (by omega), SW0.ext (Ext.refl wL0), (by rw [hE]; simp [bodyL]), hFd⟩⟩
        · rintro mL1 fL1 wL1 ⟨k, vo, vm, E1, Fm, G, hmL1, e16_L1, e8_L1, e14_L1, e10_L1, e11_L1, hAL1, hwL1, ⟨hk0, hG, hEl1, SW, hEg, hFm⟩⟩
          refine WF.seq ?_
          refine WF.seq ?_
          refine WF.region ?_
          refine WL.va rfl rfl rfl (X.moveI e16_L1) ?_
          refine WL.va rfl rfl rfl (X.move ((hAL1.eq 0).trans ((congrFun hF16 0).trans ((hACr10.eq 0).trans ((congrFun hF9 0).trans ((hAL0.eq 0).trans (congrFun hF4 0))))))) ?_
          refine WL.va rfl rfl rfl (X.moveI ((hAL1.eq 12).trans ((congrFun hF16 12).trans ((hACr10.eq 12).trans ((congrFun hF9 12).trans e12_L0))))) ?_
          refine WL.va rfl rfl rfl (X.idx hr rfl rfl hi Try.underlying22 Try.sizeOf51) ?_
          refine WL.va rfl rfl rfl (X.load1 hr hwL1 rfl hi Try.isAgg51) ?_
          refine WL.va rfl rfl rfl (X.len (show Row _ _ (l[i]'hi).length 4 _ from hel i hi) rfl Try.underlying51) ?_
          refine WL.va rfl rfl rfl (X.lss rfl rfl) ?_
          refine WL.nil ?_
          refine thn_n ?_
          refine WF.cond rfl (fun h1_18 => ?_) (fun h1_18 => ?_)
          · have gh1_18 := (of_decide_eq_true h1_18)
            have hk : k < (l[i]'hi).length := by have := gh1_18; omega
            have hGI : GI sp (isC ch i) S.disk S.n ((l[i]'hi).take k).length G := by rw [hG]; exact genA_ok hOI.right ((l[i]'hi).take k)
            have hGl : ((l[i]'hi).take k).length = k := by simp; omega
            rw [hGl] at hGI
            have hGn := hGI.n
            have hrm : RightB G.m := by rw [hGI.m]; exact sets_right hOI.right _
            have hpin := pick64_in ((l[i]'hi)[k]'hk).Block
            refine WF.skip ?_
            refine thn_n ?_
            refine WF.seq ?_
            refine WF.block ?_
            refine WF.seq ?_
            refine WF.region ?_
            refine WL.va rfl rfl rfl (X.move ((hAL1.eq 0).trans ((congrFun hF16 0).trans ((hACr10.eq 0).trans ((congrFun hF9 0).trans ((hAL0.eq 0).trans (congrFun hF4 0))))))) ?_
            refine WL.va rfl rfl rfl (X.moveI ((hAL1.eq 12).trans ((congrFun hF16 12).trans ((hACr10.eq 12).trans ((congrFun hF9 12).trans e12_L0))))) ?_
            refine WL.va rfl rfl rfl (X.idx hr rfl rfl hi Try.underlying22 Try.sizeOf51) ?_
            refine WL.va rfl rfl rfl (X.load1 hr hwL1 rfl hi Try.isAgg51) ?_
            refine WL.va rfl rfl rfl (X.moveI e16_L1) ?_
            refine WL.va rfl rfl rfl (X.idx (show Row _ _ (l[i]'hi).length 4 _ from hel i hi) rfl rfl hk Try.underlying51 Try.sizeOf54) ?_
            refine WL.va rfl rfl rfl (X.loadEl (show Row _ _ (l[i]'hi).length 4 _ from hel i hi) hwL1 rfl hk (flat_el Dd.c_len hk) Try.isAgg54 Try.sizeOf54) ?_
            refine WL.op rfl (OW.allocO (cs := [i64 0, .bool false, .bool false, .int .u8 0]) Try.zeroValue54 rfl ?_ (by decide))
            intro g17 w20 heg17 hlg17 hO17 hx22
            have := World.grownBy.size hx22
            refine WL.op rfl (OW.storeOA hO17 rfl rfl rfl (by intro u hu; simp only [Dd.c, List.mem_cons, List.not_mem_nil, or_false] at hu; rcases hu with rfl | rfl | rfl | rfl <;> rfl) Try.sizeOf54 ?_)
            intro w24 hO17 hx26
            have := World.grownBy.size hx26
            replace hO17 : Blk _ _ _ (Dd.c ((l[i]'hi)[k]'hk)) := hO17
            refine WL.nil ?_
            refine thn_n ?_
            refine WF.seq ?_
            refine WF.region ?_
            refine WL.va rfl rfl rfl (X.fieldAddrO (off := 0) rfl Try.underlying54 rfl rfl Try.sizeOf3) ?_
            refine WL.va rfl rfl rfl (X.loadO hO17 (Ext.refl _) rfl rfl Try.isAgg3) ?_
            refine WL.c rfl rfl rfl (X.call Try.call10 (evl_cons (v := (i64 ((l[i]'hi)[k]'hk).Block)) rfl (evl_cons (v := (i64 64)) rfl evl_nil))) (pickZ_ok ((l[i]'hi)[k]'hk).Block 64 _ (hin i hi _ (List.getElem_mem hk)) (by omega)) ?_
            rintro v29 w28 ⟨rfl, rfl⟩
            refine WL.va rfl rfl rfl (X.assignI rfl) ?_
            refine WL.nil ?_
            refine thn_n ?_
            refine WF.seq ?_
            refine WF.seq ?_
            refine WF.region ?_
            refine WL.va rfl rfl rfl (X.fieldAddrO (off := 1) rfl Try.underlying54 rfl rfl Try.sizeOf4) ?_
            refine WL.va rfl rfl rfl (X.loadO hO17 (Ext.refl _) rfl rfl Try.isAgg4) ?_
            refine WL.nil ?_
            refine thn_n ?_
            refine WF.cond rfl (fun h2_31 => ?_) (fun h2_31 => ?_)
            · have gh2_31 := h2_31
              have hwr : ((l[i]'hi)[k]'hk).Write = true := gh2_31
              have hstep := st_w (sp := sp) (is := isC ch i) (s := G) hwr
              refine WF.seq ?_
              refine WF.region ?_
              refine WL.va rfl rfl rfl (X.move e8_L1) ?_
              refine WL.va rfl rfl rfl (X.moveI ((hAL1.eq 13).trans ((congrFun hF16 13).trans ((hACr10.eq 13).trans (congrFun hF9 13))))) ?_
              refine WL.va rfl rfl rfl (X.moveI rfl) ?_
              refine WL.va rfl rfl rfl (X.fieldAddrO (off := 3) rfl Try.underlying54 rfl rfl Try.sizeOf5) ?_
              refine WL.va rfl rfl rfl (X.loadO hO17 (Ext.refl _) rfl rfl Try.isAgg5) ?_
              refine WL.c rfl rfl rfl (X.call Try.call16 (evl_cons (v := (i64 (1048577 + (S.txs.length : Int)))) rfl (evl_cons (v := (i64 (pick64 ((l[i]'hi)[k]'hk).Block))) rfl (evl_cons (v := (u8 ((l[i]'hi)[k]'hk).B)) rfl evl_nil)))) (wrote_ok (1048577 + (S.txs.length : Int)) (pick64 ((l[i]'hi)[k]'hk).Block) ((l[i]'hi)[k]'hk).B _) ?_
              rintro vW wW ⟨⟨E2, hE2, oW⟩, hx33⟩
              have := World.grownBy.size hx33
              have lE2 := map_len hE2
              change E2.length = 2 at lE2
              have SWa := SW.ext (show Ext wL1 wW from (Ext.trans (Ext.store hx22 hx26 (by omega)) hx33))
              have oWb := oW.ext (show Ext wW wW from (Ext.refl _))
              have hwa := (show Ext w wW from (Ext.trans (Ext.trans hwL1 (Ext.store hx22 hx26 (by omega))) hx33))
              have zwl := World.grownBy.size hwL1
              have zwa := World.grownBy.size (show Ext w wW from (Ext.trans (Ext.trans hwL1 (Ext.store hx22 hx26 (by omega))) hx33))
              have zwb := World.grownBy.size (show Ext wL1 wW from (Ext.trans (Ext.store hx22 hx26 (by omega)) hx33))
              refine WL.op rfl (OW.append (bytes := 184) SWa.ev.row (Row.of_own oWb.row) oW.ones rfl rfl Try.underlying26 Try.type42 rfl rfl rfl rfl (by decide) (by unfold maxLen; omega) (by omega) (by omega) ?_ (by decide))
              intro vP wP ho35 hx34 hmvhx34
              have := World.grownBy.size hx34
              replace hO17 := (hO17.ext hx33).keptR hx34 (fun b hb => by have := SW.ev.top b hb; omega)
              have SW2 := SWa.app oWb (by omega) (fun b hb => by have := SW.ev.top b hb; omega) ho35 hx34 hmvhx34
              have zp := World.grownBy.size hx34
              refine WL.va rfl rfl rfl (X.assign rfl) ?_
              refine WL.nil ?_
              refine thn_n ?_
              refine WF.seq ?_
              refine WF.region ?_
              refine WL.va rfl rfl rfl (X.move e14_L1) ?_
              refine WL.va rfl rfl rfl (X.moveI rfl) ?_
              refine WL.va rfl rfl rfl (X.fieldAddrO (off := 3) rfl Try.underlying54 rfl rfl Try.sizeOf5) ?_
              refine WL.va rfl rfl rfl (X.loadO hO17 (Ext.refl _) rfl rfl Try.isAgg5) ?_
              refine WL.op rfl (OW.lits (vs := [u8 ((l[i]'hi)[k]'hk).B, u8 0, u8 0, u8 1]) (evp_cons rfl (evp_cons rfl (evp_cons rfl (evp_cons rfl evp_nil)))) Try.underlying36 Try.sizeOf5 Try.zeroValue5 ⟨rfl, rfl, rfl, rfl, trivial⟩ rfl rfl rfl ?_ (by decide))
              intro vZ wZ ho37 hx36
              have := World.grownBy.size hx36
              have hZ : OwnB wZ wP.heap.size 5 vZ [((l[i]'hi)[k]'hk).B, 0, 0, 1] := ho37
              have zz := World.grownBy.size hx36
              refine WL.c rfl rfl rfl (X.call Try.call24 (evl_cons rfl (evl_cons (v := (i64 (pick64 ((l[i]'hi)[k]'hk).Block))) rfl (evl_cons rfl evl_nil)))) (set_ok _ G.m (pick64 ((l[i]'hi)[k]'hk).Block) _ (b4 ((l[i]'hi)[k]'hk).B) _ (SW2.mn.sessE hFm |>.ext hx36) hrm (show Bytes _ _ [((l[i]'hi)[k]'hk).B, 0, 0, 1] from Bytes.of_own hZ)) ?_
              rintro vS wS ⟨⟨F3, hF3, oF3⟩, hx38⟩
              have := World.grownBy.size hx38
              have zs := World.grownBy.size hx38
              have SW3 := (SW2.ext (show Ext wP wS from (Ext.trans hx36 hx38))).setm oF3 (by omega) (fun b hb => by have := SW2.ev.top b hb; omega)
              refine WL.va rfl rfl rfl (X.assign rfl) ?_
              refine WL.nil ?_
              refine thn_n ?_
              refine WF.exit ?_
              refine thn_x ?_
              refine blk_eq ?_
              refine thn_n ?_
              refine WF.region ?_
              refine WL.va rfl rfl rfl (X.moveI e16_L1) ?_
              refine WL.va rfl rfl rfl (X.add rfl rfl (w64 (by omega))) ?_
              refine WL.va rfl rfl rfl (X.assignI rfl) ?_
              refine WL.nil ?_
              first | exact thn_n ⟨_, (by omega), k + 1, vP, vS, E1 ++ E2, F3, (⟨G.acts ++ [.w (pick64 ((l[i]'hi)[k]'hk).Block) ((l[i]'hi)[k]'hk).B], setB G.m (pick64 ((l[i]'hi)[k]'hk).Block) (b4 ((l[i]'hi)[k]'hk).B), G.n, G.hit⟩ : GS), rfl, rfl, rfl, rfl, e10_L1, (by first | exact e11_L1 | exact (e11_L1 : _ = Value.bool true).trans (by simp)), (by repeat (first | exact hAL1 | refine Agree.put ?_ rfl | refine Agree.sub hACr10 rfl ?_ | refine Agree.sub hAL0 rfl ?_ | refine Agree.named hF16 ?_ | refine Agree.named hF9 ?_ | refine Agree.named hF4 ?_)), (Ext.trans (Ext.trans (Ext.own hwa SWa.ev.row (Nat.le_refl _) hx34) hx36) hx38), ⟨by omega, by rw [gen_take hk, ← hG, hstep], by rw [List.length_append]; omega, SW3, by rw [List.map_append, hEg, hE2, List.append_assoc, body_app]; simp [bodyL, Act.evs], hF3⟩⟩ | exact thn_n ⟨_, (by omega), k + 1, vQ, vm, E1 ++ E2, Fm, (⟨G.acts ++ [.r (pick64 ((l[i]'hi)[k]'hk).Block) (spoilD (getB G.m (pick64 ((l[i]'hi)[k]'hk).Block)))], G.m, G.n + 1, true⟩ : GS), rfl, rfl, rfl, rfl, e10_L1, (by first | exact e11_L1 | exact (e11_L1 : _ = Value.bool true).trans (by simp)), (by repeat (first | exact hAL1 | refine Agree.put ?_ rfl | refine Agree.sub hACr10 rfl ?_ | refine Agree.sub hAL0 rfl ?_ | refine Agree.named hF16 ?_ | refine Agree.named hF9 ?_ | refine Agree.named hF4 ?_)), (Ext.trans (Ext.trans (Ext.own hwa SWa.ev.row (Nat.le_refl _) hx34) hx36) hx38), ⟨by omega, by rw [gen_take hk, ← hG, hstep], by rw [List.length_append]; omega, SW3, by rw [List.map_append, hEg, hE2, List.append_assoc, body_app]; simp [bodyL, Act.evs], hFm⟩⟩ | exact thn_n ⟨_, (by omega), k + 1, vQ, vm, E1 ++ E2, Fm, (⟨G.acts ++ [.r (pick64 ((l[i]'hi)[k]'hk).Block) (getB G.m (pick64 ((l[i]'hi)[k]'hk).Block))], G.m, G.n + 1, G.hit⟩ : GS), rfl, rfl, rfl, rfl, e10_L1, (by first | exact e11_L1 | exact (e11_L1 : _ = Value.bool true).trans (by simp)), (by repeat (first | exact hAL1 | refine Agree.put ?_ rfl | refine Agree.sub hACr10 rfl ?_ | refine Agree.sub hAL0 rfl ?_ | refine Agree.named hF16 ?_ | refine Agree.named hF9 ?_ | refine Agree.named hF4 ?_)), (Ext.trans (Ext.trans (Ext.own hwa SWa.ev.row (Nat.le_refl _) hx34) hx36) hx38), ⟨by omega, by rw [gen_take hk, ← hG, hstep], by rw [List.length_append]; omega, SW3, by rw [List.map_append, hEg, hE2, List.append_assoc, body_app]; simp [bodyL, Act.evs], hFm⟩⟩
            · have gh2_31 := h2_31
              have hwr : ((l[i]'hi)[k]'hk).Write = false := gh2_31
              refine WF.skip ?_
              refine thn_n ?_
              refine WF.seq ?_
              refine WF.region ?_
              refine WL.va rfl rfl rfl (X.move e14_L1) ?_
              refine WL.va rfl rfl rfl (X.moveI rfl) ?_
              refine WL.c rfl rfl rfl (X.call Try.call26 (evl_cons rfl (evl_cons (v := (i64 (pick64 ((l[i]'hi)[k]'hk).Block))) rfl evl_nil))) (get_ok _ G.m (pick64 ((l[i]'hi)[k]'hk).Block) _ (SW.mn.sessE hFm |>.ext (Ext.store hx22 hx26 (by omega))) hrm) ?_
              rintro vG wG ⟨hgt, hx39⟩
              have := World.grownBy.size hx39
              have zg := World.grownBy.size hx39
              have hgl : (getB G.m (pick64 ((l[i]'hi)[k]'hk).Block)).length = 4 := getB_len hrm
              refine WL.c rfl rfl rfl (X.call Try.call25 (evl_cons rfl evl_nil)) (copyBytes_ok _ (getB G.m (pick64 ((l[i]'hi)[k]'hk).Block)) _ (Bytes.of_own hgt) (by omega)) ?_
              rintro vC wC ⟨hcp, hx40⟩
              have := World.grownBy.size hx40
              have zc := World.grownBy.size hx40
              refine WL.va rfl rfl rfl (X.assign rfl) ?_
              refine WL.nil ?_
              refine thn_n ?_
              refine WF.seq ?_
              refine WF.named (fun F41 hF42 => ?_)
              refine WF.cut (fun f' w' => f' 87 = .bool (hitB sp (isC ch i) G.n) ∧ Agree [0, 1, 2, 6, 7, 8, 9, 10, 11, 12, 13, 14, 15, 16, 17, 18, 19, 20, 21, 22, 23, 26, 27, 28, 39, 40, 41, 42, 43, 44, 45, 48, 49, 50, 51, 52, 53, 54, 55, 56, 57, 58, 59, 73, 74, 75, 76] f' F41 ∧ wC = w') ?_ ?_
              · refine WF.region ?_
                refine WL.va rfl rfl rfl (X.moveI ((congrFun hF42 10).trans e10_L1)) ?_
                refine WL.va rfl rfl rfl (X.moveI ((congrFun hF42 2).trans ((hAL1.eq 2).trans ((congrFun hF16 2).trans ((hACr10.eq 2).trans ((congrFun hF9 2).trans ((hAL0.eq 2).trans (congrFun hF4 2)))))))) ?_
                refine WL.va rfl rfl rfl (X.eql rfl rfl) ?_
                refine WL.va rfl rfl rfl (X.moveB rfl) ?_
                refine WL.split (j := 3) rfl (fun h44 => ?_) (fun h44 => ?_)
                · have gh44 := (of_decide_eq_true h44)
                  have hn1 : ((G.n : Nat) : Int) = sp := gh44
                  refine WL.vg rfl (congrArg some h44) rfl rfl (X.moveB ((congrFun hF42 15).trans ((hAL1.eq 15).trans ((congrFun hF16 15).trans e15_Cr10)))) ?_
                  refine WL.va rfl rfl rfl (X.pickT rfl h44 rfl) ?_
                  refine WL.va rfl rfl rfl (X.moveB rfl) ?_
                  refine WL.split (j := 6) rfl (fun h45 => ?_) (fun h45 => ?_)
                  · have gh45 := h45
                    have hic2 : isC ch i = true := gh45
                    refine WL.vg rfl (congrArg some h45) rfl rfl (X.move (congrFun hF42 19)) ?_
                    refine WL.vg rfl (congrArg some h45) rfl rfl (X.len (Bytes.of_own hcp) rfl Try.underlying36) ?_
                    refine WL.vg rfl (congrArg some h45) rfl rfl (X.gtr rfl rfl) ?_
                    refine WL.va rfl rfl rfl (X.pickT rfl h45 rfl) ?_
                    refine WL.nil ?_
                    refine thn_n ?_
                    exact ⟨(Eq.trans rfl (by first | exact congrArg Value.bool (hit_1 hn1) | exact congrArg Value.bool (hit_3 hn1 hic2 hgl) | exact congrArg Value.bool (hit_2 hn1 hic2))), (by repeat (first | exact (Agree.refl _ F41) | refine Agree.put ?_ rfl | refine Agree.sub hAL1 rfl ?_ | refine Agree.sub hACr10 rfl ?_ | refine Agree.sub hAL0 rfl ?_ | refine Agree.named hF42 ?_ | refine Agree.named hF16 ?_ | refine Agree.named hF9 ?_ | refine Agree.named hF4 ?_)), rfl⟩
                  · have gh45 := h45
                    have hic2 : isC ch i = false := gh45
                    refine WL.p rfl rfl rfl (congrArg some h45) ?_
                    refine WL.p rfl rfl rfl (congrArg some h45) ?_
                    refine WL.p rfl rfl rfl (congrArg some h45) ?_
                    refine WL.va rfl rfl rfl (X.pickF rfl h45 rfl) ?_
                    refine WL.nil ?_
                    refine thn_n ?_
                    exact ⟨(Eq.trans rfl (by first | exact congrArg Value.bool (hit_1 hn1) | exact congrArg Value.bool (hit_3 hn1 hic2 hgl) | exact congrArg Value.bool (hit_2 hn1 hic2))), (by repeat (first | exact (Agree.refl _ F41) | refine Agree.put ?_ rfl | refine Agree.sub hAL1 rfl ?_ | refine Agree.sub hACr10 rfl ?_ | refine Agree.sub hAL0 rfl ?_ | refine Agree.named hF42 ?_ | refine Agree.named hF16 ?_ | refine Agree.named hF9 ?_ | refine Agree.named hF4 ?_)), rfl⟩
                · have gh44 := (of_decide_eq_false h44)
                  have hn1 : ¬ ((G.n : Nat) : Int) = sp := gh44
                  refine WL.p rfl rfl rfl (congrArg some h44) ?_
                  refine WL.va rfl rfl rfl (X.pickF rfl h44 rfl) ?_
                  refine WL.va rfl rfl rfl (X.moveB rfl) ?_
                  refine WL.p rfl rfl rfl rfl ?_
                  refine WL.p rfl rfl rfl rfl ?_
                  refine WL.p rfl rfl rfl rfl ?_
                  refine WL.va rfl rfl rfl (X.pickF rfl rfl rfl) ?_
                  refine WL.nil ?_
                  refine thn_n ?_
                  exact ⟨(Eq.trans rfl (by first | exact congrArg Value.bool (hit_1 hn1) | exact congrArg Value.bool (hit_3 hn1 hic2 hgl) | exact congrArg Value.bool (hit_2 hn1 hic2))), (by repeat (first | exact (Agree.refl _ F41) | refine Agree.put ?_ rfl | refine Agree.sub hAL1 rfl ?_ | refine Agree.sub hACr10 rfl ?_ | refine Agree.sub hAL0 rfl ?_ | refine Agree.named hF42 ?_ | refine Agree.named hF16 ?_ | refine Agree.named hF9 ?_ | refine Agree.named hF4 ?_)), rfl⟩
              · rintro fCr20 wCr20 ⟨e87_Cr20, hACr20, rfl⟩
                refine WF.cond e87_Cr20 (fun h3_50 => ?_) (fun h3_50 => ?_)
                · have gh3_50 := h3_50
                  have hst : hitB sp (isC ch i) G.n = true := gh3_50
                  have hstep := st_h hwr hst
                  refine WF.seq ?_
                  refine WF.region ?_
                  refine WL.va rfl rfl rfl (X.move ((hACr20.eq 19).trans (congrFun hF42 19))) ?_
                  refine WL.va rfl rfl rfl (X.move ((hACr20.eq 19).trans (congrFun hF42 19))) ?_
                  refine WL.va rfl rfl rfl (X.idx (k := 0) (Bytes.of_own hcp) rfl rfl (by omega) Try.underlying36 Try.sizeOf5) ?_
                  refine WL.va rfl rfl rfl (X.loadB (Bytes.of_own hcp) (Ext.refl _) rfl (by omega) Try.isAgg5) ?_
                  refine WL.va rfl rfl rfl (X.add rfl rfl (add8 _ 1)) ?_
                  refine WL.va rfl rfl rfl (X.idx (k := 0) (Bytes.of_own hcp) rfl rfl (by omega) Try.underlying36 Try.sizeOf5) ?_
                  refine WL.op rfl (OW.storeB (own_ext hcp (Ext.refl _)) (by omega) rfl rfl Try.sizeOf5 ?_)
                  intro wT ho54 hx53
                  have hdat : OwnB wT wG.heap.size 5 vC (spoilD (getB G.m (pick64 ((l[i]'hi)[k]'hk).Block))) := spoil_set hgl ▸ ho54
                  refine WL.nil ?_
                  refine thn_n ?_
                  refine WF.region ?_
                  refine WL.va rfl rfl rfl (X.assignB rfl) ?_
                  refine WL.nil ?_
                  refine thn_n ?_
                  refine WF.seq ?_
                  refine WF.region ?_
                  refine WL.va rfl rfl rfl (X.moveI ((hACr20.eq 10).trans ((congrFun hF42 10).trans e10_L1))) ?_
                  refine WL.va rfl rfl rfl (X.add rfl rfl (show _ = ((G.n + 1 : Nat) : Int) from (w64 (by omega)).trans (by omega))) ?_
                  refine WL.va rfl rfl rfl (X.assignI rfl) ?_
                  refine WL.nil ?_
                  refine thn_n ?_
                  refine WF.region ?_
                  refine WL.va rfl rfl rfl (X.move ((hACr20.eq 8).trans ((congrFun hF42 8).trans e8_L1))) ?_
                  refine WL.va rfl rfl rfl (X.moveI ((hACr20.eq 13).trans ((congrFun hF42 13).trans ((hAL1.eq 13).trans ((congrFun hF16 13).trans ((hACr10.eq 13).trans (congrFun hF9 13))))))) ?_
                  refine WL.va rfl rfl rfl (X.moveI ((hACr20.eq 18).trans (congrFun hF42 18))) ?_
                  refine WL.va rfl rfl rfl (X.move ((hACr20.eq 19).trans (congrFun hF42 19))) ?_
                  refine WL.c rfl rfl rfl (X.call Try.call17 (evl_cons (v := (i64 (1048577 + (S.txs.length : Int)))) rfl (evl_cons (v := (i64 (pick64 ((l[i]'hi)[k]'hk).Block))) rfl (evl_cons rfl evl_nil)))) (read_ok (1048577 + (S.txs.length : Int)) (pick64 ((l[i]'hi)[k]'hk).Block) _ _ wG.heap.size _ hdat) ?_
                  rintro vR wR ⟨⟨E2, hE2, oW⟩, hx56⟩
                  have := World.grownBy.size hx56
                  have lE2 := map_len hE2
                  change E2.length = 2 at lE2
                  have SWa := SW.ext (show Ext wL1 wR from (Ext.trans (Ext.trans (Ext.trans (Ext.store hx22 hx26 (by omega)) hx39) (Ext.own hx40 (own_ext hcp (Ext.refl _)) (Nat.le_refl _) hx53)) hx56))
                  have oWb := oW.ext (show Ext wR wR from (Ext.refl _))
                  have hwa := (show Ext w wR from (Ext.trans (Ext.trans (Ext.trans (Ext.trans hwL1 (Ext.store hx22 hx26 (by omega))) hx39) (Ext.own hx40 (own_ext hcp (Ext.refl _)) (Nat.le_refl _) hx53)) hx56))
                  have zwl := World.grownBy.size hwL1
                  have zwa := World.grownBy.size (show Ext w wR from (Ext.trans (Ext.trans (Ext.trans (Ext.trans hwL1 (Ext.store hx22 hx26 (by omega))) hx39) (Ext.own hx40 (own_ext hcp (Ext.refl _)) (Nat.le_refl _) hx53)) hx56))
                  have zwb := World.grownBy.size (show Ext wL1 wR from (Ext.trans (Ext.trans (Ext.trans (Ext.store hx22 hx26 (by omega)) hx39) (Ext.own hx40 (own_ext hcp (Ext.refl _)) (Nat.le_refl _) hx53)) hx56))
                  refine WL.op rfl (OW.append (bytes := 184) SWa.ev.row (Row.of_own oWb.row) oW.ones rfl rfl Try.underlying26 Try.type42 rfl rfl rfl rfl (by decide) (by unfold maxLen; omega) (by omega) (by omega) ?_ (by decide))
                  intro vQ wQ ho58 hx57 hmvhx57
                  have SW3 := SWa.app oWb (by omega) (fun b hb => by have := SW.ev.top b hb; omega) ho58 hx57 hmvhx57
                  refine WL.va rfl rfl rfl (X.assign rfl) ?_
                  refine WL.nil ?_
                  refine blk_n ?_
                  refine thn_n ?_
                  refine WF.region ?_
                  refine WL.va rfl rfl rfl (X.moveI ((hACr20.eq 16).trans ((congrFun hF42 16).trans e16_L1))) ?_
                  refine WL.va rfl rfl rfl (X.add rfl rfl (w64 (by omega))) ?_
                  refine WL.va rfl rfl rfl (X.assignI rfl) ?_
                  refine WL.nil ?_
                  first | exact thn_n ⟨_, (by omega), k + 1, vP, vS, E1 ++ E2, F3, (⟨G.acts ++ [.w (pick64 ((l[i]'hi)[k]'hk).Block) ((l[i]'hi)[k]'hk).B], setB G.m (pick64 ((l[i]'hi)[k]'hk).Block) (b4 ((l[i]'hi)[k]'hk).B), G.n, G.hit⟩ : GS), rfl, rfl, rfl, ((hACr20.eq 14).trans ((congrFun hF42 14).trans e14_L1)), rfl, (by first | exact rfl | exact (rfl : _ = Value.bool true).trans (by simp)), (by repeat (first | exact hAL1 | refine Agree.put ?_ rfl | refine Agree.sub hACr20 rfl ?_ | refine Agree.sub hACr10 rfl ?_ | refine Agree.sub hAL0 rfl ?_ | refine Agree.named hF42 ?_ | refine Agree.named hF16 ?_ | refine Agree.named hF9 ?_ | refine Agree.named hF4 ?_)), (Ext.own hwa SWa.ev.row (Nat.le_refl _) hx57), ⟨by omega, by rw [gen_take hk, ← hG, hstep], by rw [List.length_append]; omega, SW3, by rw [List.map_append, hEg, hE2, List.append_assoc, body_app]; simp [bodyL, Act.evs], hF3⟩⟩ | exact thn_n ⟨_, (by omega), k + 1, vQ, vm, E1 ++ E2, Fm, (⟨G.acts ++ [.r (pick64 ((l[i]'hi)[k]'hk).Block) (spoilD (getB G.m (pick64 ((l[i]'hi)[k]'hk).Block)))], G.m, G.n + 1, true⟩ : GS), rfl, rfl, rfl, ((hACr20.eq 14).trans ((congrFun hF42 14).trans e14_L1)), rfl, (by first | exact rfl | exact (rfl : _ = Value.bool true).trans (by simp)), (by repeat (first | exact hAL1 | refine Agree.put ?_ rfl | refine Agree.sub hACr20 rfl ?_ | refine Agree.sub hACr10 rfl ?_ | refine Agree.sub hAL0 rfl ?_ | refine Agree.named hF42 ?_ | refine Agree.named hF16 ?_ | refine Agree.named hF9 ?_ | refine Agree.named hF4 ?_)), (Ext.own hwa SWa.ev.row (Nat.le_refl _) hx57), ⟨by omega, by rw [gen_take hk, ← hG, hstep], by rw [List.length_append]; omega, SW3, by rw [List.map_append, hEg, hE2, List.append_assoc, body_app]; simp [bodyL, Act.evs], hFm⟩⟩ | exact thn_n ⟨_, (by omega), k + 1, vQ, vm, E1 ++ E2, Fm, (⟨G.acts ++ [.r (pick64 ((l[i]'hi)[k]'hk).Block) (getB G.m (pick64 ((l[i]'hi)[k]'hk).Block))], G.m, G.n + 1, G.hit⟩ : GS), rfl, rfl, rfl, ((hACr20.eq 14).trans ((congrFun hF42 14).trans e14_L1)), rfl, (by first | exact rfl | exact (rfl : _ = Value.bool true).trans (by simp)), (by repeat (first | exact hAL1 | refine Agree.put ?_ rfl | refine Agree.sub hACr20 rfl ?_ | refine Agree.sub hACr10 rfl ?_ | refine Agree.sub hAL0 rfl ?_ | refine Agree.named hF42 ?_ | refine Agree.named hF16 ?_ | refine Agree.named hF9 ?_ | refine Agree.named hF4 ?_)), (Ext.own hwa SWa.ev.row (Nat.le_refl _) hx57), ⟨by omega, by rw [gen_take hk, ← hG, hstep], by rw [List.length_append]; omega, SW3, by rw [List.map_append, hEg, hE2, List.append_assoc, body_app]; simp [bodyL, Act.evs], hFm⟩⟩
                · have gh3_50 := h3_50
                  have hst : hitB sp (isC ch i) G.n = false := gh3_50
                  have hstep := st_r hwr hst
                  have hdat : OwnB wC wG.heap.size 5 vC (getB G.m (pick64 ((l[i]'hi)[k]'hk).Block)) := own_ext hcp (Ext.refl wC)
                  refine WF.skip ?_
                  refine thn_n ?_
                  refine WF.seq ?_
                  refine WF.region ?_
                  refine WL.va rfl rfl rfl (X.moveI ((hACr20.eq 10).trans ((congrFun hF42 10).trans e10_L1))) ?_
                  refine WL.va rfl rfl rfl (X.add rfl rfl (show _ = ((G.n + 1 : Nat) : Int) from (w64 (by omega)).trans (by omega))) ?_
                  refine WL.va rfl rfl rfl (X.assignI rfl) ?_
                  refine WL.nil ?_
                  refine thn_n ?_
                  refine WF.region ?_
                  refine WL.va rfl rfl rfl (X.move ((hACr20.eq 8).trans ((congrFun hF42 8).trans e8_L1))) ?_
                  refine WL.va rfl rfl rfl (X.moveI ((hACr20.eq 13).trans ((congrFun hF42 13).trans ((hAL1.eq 13).trans ((congrFun hF16 13).trans ((hACr10.eq 13).trans (congrFun hF9 13))))))) ?_
                  refine WL.va rfl rfl rfl (X.moveI ((hACr20.eq 18).trans (congrFun hF42 18))) ?_
                  refine WL.va rfl rfl rfl (X.move ((hACr20.eq 19).trans (congrFun hF42 19))) ?_
                  refine WL.c rfl rfl rfl (X.call Try.call17 (evl_cons (v := (i64 (1048577 + (S.txs.length : Int)))) rfl (evl_cons (v := (i64 (pick64 ((l[i]'hi)[k]'hk).Block))) rfl (evl_cons rfl evl_nil)))) (read_ok (1048577 + (S.txs.length : Int)) (pick64 ((l[i]'hi)[k]'hk).Block) _ _ wG.heap.size _ hdat) ?_
                  rintro vR wR ⟨⟨E2, hE2, oW⟩, hx59⟩
                  have := World.grownBy.size hx59
                  have lE2 := map_len hE2
                  change E2.length = 2 at lE2
                  have SWa := SW.ext (show Ext wL1 wR from (Ext.trans (Ext.trans (Ext.trans (Ext.store hx22 hx26 (by omega)) hx39) hx40) hx59))
                  have oWb := oW.ext (show Ext wR wR from (Ext.refl _))
                  have hwa := (show Ext w wR from (Ext.trans (Ext.trans (Ext.trans (Ext.trans hwL1 (Ext.store hx22 hx26 (by omega))) hx39) hx40) hx59))
                  have zwl := World.grownBy.size hwL1
                  have zwa := World.grownBy.size (show Ext w wR from (Ext.trans (Ext.trans (Ext.trans (Ext.trans hwL1 (Ext.store hx22 hx26 (by omega))) hx39) hx40) hx59))
                  have zwb := World.grownBy.size (show Ext wL1 wR from (Ext.trans (Ext.trans (Ext.trans (Ext.store hx22 hx26 (by omega)) hx39) hx40) hx59))
                  refine WL.op rfl (OW.append (bytes := 184) SWa.ev.row (Row.of_own oWb.row) oW.ones rfl rfl Try.underlying26 Try.type42 rfl rfl rfl rfl (by decide) (by unfold maxLen; omega) (by omega) (by omega) ?_ (by decide))
                  intro vQ wQ ho61 hx60 hmvhx60
                  have SW3 := SWa.app oWb (by omega) (fun b hb => by have := SW.ev.top b hb; omega) ho61 hx60 hmvhx60
                  refine WL.va rfl rfl rfl (X.assign rfl) ?_
                  refine WL.nil ?_
                  refine blk_n ?_
                  refine thn_n ?_
                  refine WF.region ?_
                  refine WL.va rfl rfl rfl (X.moveI ((hACr20.eq 16).trans ((congrFun hF42 16).trans e16_L1))) ?_
                  refine WL.va rfl rfl rfl (X.add rfl rfl (w64 (by omega))) ?_
                  refine WL.va rfl rfl rfl (X.assignI rfl) ?_
                  refine WL.nil ?_
                  first | exact thn_n ⟨_, (by omega), k + 1, vP, vS, E1 ++ E2, F3, (⟨G.acts ++ [.w (pick64 ((l[i]'hi)[k]'hk).Block) ((l[i]'hi)[k]'hk).B], setB G.m (pick64 ((l[i]'hi)[k]'hk).Block) (b4 ((l[i]'hi)[k]'hk).B), G.n, G.hit⟩ : GS), rfl, rfl, rfl, ((hACr20.eq 14).trans ((congrFun hF42 14).trans e14_L1)), rfl, (by first | exact ((hACr20.eq 11).trans ((congrFun hF42 11).trans e11_L1)) | exact (((hACr20.eq 11).trans ((congrFun hF42 11).trans e11_L1)) : _ = Value.bool true).trans (by simp)), (by repeat (first | exact hAL1 | refine Agree.put ?_ rfl | refine Agree.sub hACr20 rfl ?_ | refine Agree.sub hACr10 rfl ?_ | refine Agree.sub hAL0 rfl ?_ | refine Agree.named hF42 ?_ | refine Agree.named hF16 ?_ | refine Agree.named hF9 ?_ | refine Agree.named hF4 ?_)), (Ext.own hwa SWa.ev.row (Nat.le_refl _) hx60), ⟨by omega, by rw [gen_take hk, ← hG, hstep], by rw [List.length_append]; omega, SW3, by rw [List.map_append, hEg, hE2, List.append_assoc, body_app]; simp [bodyL, Act.evs], hF3⟩⟩ | exact thn_n ⟨_, (by omega), k + 1, vQ, vm, E1 ++ E2, Fm, (⟨G.acts ++ [.r (pick64 ((l[i]'hi)[k]'hk).Block) (spoilD (getB G.m (pick64 ((l[i]'hi)[k]'hk).Block)))], G.m, G.n + 1, true⟩ : GS), rfl, rfl, rfl, ((hACr20.eq 14).trans ((congrFun hF42 14).trans e14_L1)), rfl, (by first | exact ((hACr20.eq 11).trans ((congrFun hF42 11).trans e11_L1)) | exact (((hACr20.eq 11).trans ((congrFun hF42 11).trans e11_L1)) : _ = Value.bool true).trans (by simp)), (by repeat (first | exact hAL1 | refine Agree.put ?_ rfl | refine Agree.sub hACr20 rfl ?_ | refine Agree.sub hACr10 rfl ?_ | refine Agree.sub hAL0 rfl ?_ | refine Agree.named hF42 ?_ | refine Agree.named hF16 ?_ | refine Agree.named hF9 ?_ | refine Agree.named hF4 ?_)), (Ext.own hwa SWa.ev.row (Nat.le_refl _) hx60), ⟨by omega, by rw [gen_take hk, ← hG, hstep], by rw [List.length_append]; omega, SW3, by rw [List.map_append, hEg, hE2, List.append_assoc, body_app]; simp [bodyL, Act.evs], hFm⟩⟩ | exact thn_n ⟨_, (by omega), k + 1, vQ, vm, E1 ++ E2, Fm, (⟨G.acts ++ [.r (pick64 ((l[i]'hi)[k]'hk).Block) (getB G.m (pick64 ((l[i]'hi)[k]'hk).Block))], G.m, G.n + 1, G.hit⟩ : GS), rfl, rfl, rfl, ((hACr20.eq 14).trans ((congrFun hF42 14).trans e14_L1)), rfl, (by first | exact ((hACr20.eq 11).trans ((congrFun hF42 11).trans e11_L1)) | exact (((hACr20.eq 11).trans ((congrFun hF42 11).trans e11_L1)) : _ = Value.bool true).trans (by simp)), (by repeat (first | exact hAL1 | refine Agree.put ?_ rfl | refine Agree.sub hACr20 rfl ?_ | refine Agree.sub hACr10 rfl ?_ | refine Agree.sub hAL0 rfl ?_ | refine Agree.named hF42 ?_ | refine Agree.named hF16 ?_ | refine Agree.named hF9 ?_ | refine Agree.named hF4 ?_)), (Ext.own hwa SWa.ev.row (Nat.le_refl _) hx60), ⟨by omega, by rw [gen_take hk, ← hG, hstep], by rw [List.length_append]; omega, SW3, by rw [List.map_append, hEg, hE2, List.append_assoc, body_app]; simp [bodyL, Act.evs], hFm⟩⟩
          · have gh1_18 := (of_decide_eq_false h1_18)
            have hk : (l[i]'hi).length ≤ k := by have := gh1_18; omega
            have hGf : G = genA sp (isC ch S.txs.length) S.disk S.n (l[i]'hi) := by rw [hSl, hG, List.take_of_length_le hk]
            have hGI : GI sp (isC ch S.txs.length) S.disk S.n (l[i]'hi).length G := by rw [hGf]; exact genA_ok hOI.right _
            have hGfl := hGI.len
            have hGn := hGI.n
            have hGnil : (l[i]'hi).length = 0 → bodyL (1048577 + (S.txs.length : Int)) G.acts = [] := fun q => by rw [List.eq_nil_of_length_eq_zero (hGfl.trans q)]; rfl
            refine WF.exit ?_
            refine thn_x ?_
            refine thn_x ?_
            refine blk_eq ?_
            refine thn_n ?_
            refine WF.seq ?_
            refine WF.seq ?_
            refine WF.region ?_
            refine WL.va rfl rfl rfl (X.move ((hAL1.eq 0).trans ((congrFun hF16 0).trans ((hACr10.eq 0).trans ((congrFun hF9 0).trans ((hAL0.eq 0).trans (congrFun hF4 0))))))) ?_
            refine WL.va rfl rfl rfl (X.moveI ((hAL1.eq 12).trans ((congrFun hF16 12).trans ((hACr10.eq 12).trans ((congrFun hF9 12).trans e12_L0))))) ?_
            refine WL.va rfl rfl rfl (X.idx hr rfl rfl hi Try.underlying22 Try.sizeOf51) ?_
            refine WL.va rfl rfl rfl (X.load1 hr hwL1 rfl hi Try.isAgg51) ?_
            refine WL.va rfl rfl rfl (X.len (show Row _ _ (l[i]'hi).length 4 _ from hel i hi) rfl Try.underlying51) ?_
            refine WL.va rfl rfl rfl (X.eql rfl rfl) ?_
            refine WL.nil ?_
            refine thn_n ?_
            refine WF.cond rfl (fun h4_62 => ?_) (fun h4_62 => ?_)
            · have gh4_62 := (of_decide_eq_true h4_62)
              have h0 : (l[i]'hi).length = 0 := by have := gh4_62; omega
              obtain ⟨x, hx1, hx2⟩ := stepT_0 (sp := sp) (ch := ch) (S := S) h0 hGf
              have SW3 := SW.start.ext (show Ext wL1 wL1 from (Ext.refl _))
              refine WF.exit ?_
              refine thn_x ?_
              refine blk_eq ?_
              refine thn_n ?_
              refine WF.region ?_
              refine WL.va rfl rfl rfl (X.moveI ((hAL1.eq 12).trans ((congrFun hF16 12).trans ((hACr10.eq 12).trans ((congrFun hF9 12).trans e12_L0))))) ?_
              refine WL.va rfl rfl rfl (X.add rfl rfl (w64 (by omega))) ?_
              refine WL.va rfl rfl rfl (X.assignI rfl) ?_
              refine WL.nil ?_
              first | exact thn_n ⟨_, (by omega), i + 1, vo, vd, E1, Fd, (⟨S.txs ++ [x], S.disk, G.n, S.sp || G.hit⟩ : OS), rfl, rfl, e8_L1, ((hAL1.eq 9).trans ((congrFun hF16 9).trans ((hACr10.eq 9).trans ((congrFun hF9 9).trans e9_L0)))), e10_L1, e11_L1, (by repeat (first | exact hAL0 | refine Agree.put ?_ rfl | refine Agree.sub hAL1 rfl ?_ | refine Agree.sub hACr10 rfl ?_ | refine Agree.named hF16 ?_ | refine Agree.named hF9 ?_ | refine Agree.named hF4 ?_)), hwL1, ⟨by omega, by rw [serial_take hi, ← hS]; exact hx2.symm, by simp [hSl], (by show G.n ≤ _; omega), by omega, SW3, by rw [hist_snoc, hx1, List.append_nil, hEg, hGnil h0, List.append_nil], hFd⟩⟩ | exact thn_n ⟨_, (by omega), i + 1, vF, vm, E1 ++ E2, Fm, (⟨S.txs ++ [x], G.m, G.n, S.sp || G.hit⟩ : OS), rfl, rfl, e8_L1, ((hAL1.eq 9).trans ((congrFun hF16 9).trans ((hACr10.eq 9).trans ((congrFun hF9 9).trans e9_L0)))), e10_L1, e11_L1, (by repeat (first | exact hAL0 | refine Agree.put ?_ rfl | refine Agree.sub hAL1 rfl ?_ | refine Agree.sub hACr10 rfl ?_ | refine Agree.named hF16 ?_ | refine Agree.named hF9 ?_ | refine Agree.named hF4 ?_)), hwL1, ⟨by omega, by rw [serial_take hi, ← hS]; exact hx2.symm, by simp [hSl], (by show G.n ≤ _; omega), by rw [List.length_append]; omega, SW3, by rw [hist_snoc, hx1, List.map_append, hEg, hE2, List.append_assoc], hFm⟩⟩ | exact thn_n ⟨_, (by omega), i + 1, vM, vd, E1 ++ E2, Fd, (⟨S.txs ++ [x], S.disk, G.n, S.sp || G.hit⟩ : OS), rfl, rfl, e8_L1, ((hAL1.eq 9).trans ((congrFun hF16 9).trans ((hACr10.eq 9).trans ((congrFun hF9 9).trans e9_L0)))), e10_L1, e11_L1, (by repeat (first | exact hAL0 | refine Agree.put ?_ rfl | refine Agree.sub hAL1 rfl ?_ | refine Agree.sub hACr10 rfl ?_ | refine Agree.named hF16 ?_ | refine Agree.named hF9 ?_ | refine Agree.named hF4 ?_)), hwL1, ⟨by omega, by rw [serial_take hi, ← hS]; exact hx2.symm, by simp [hSl], (by show G.n ≤ _; omega), by rw [List.length_append]; omega, SW3, by rw [hist_snoc, hx1, List.map_append, hEg, hE2, List.append_assoc], hFd⟩⟩
            · have gh4_62 := (of_decide_eq_false h4_62)
              have h0 : ¬ (l[i]'hi).length = 0 := by have := gh4_62; omega
              refine WF.skip ?_
              refine thn_n ?_
              refine WF.seq ?_
              refine WF.region ?_
              refine WL.va rfl rfl rfl (X.moveB ((hAL1.eq 15).trans ((congrFun hF16 15).trans e15_Cr10))) ?_
              refine WL.nil ?_
              refine thn_n ?_
              refine WF.cond rfl (fun h5_63 => ?_) (fun h5_63 => ?_)
              · have gh5_63 := h5_63
                have hci : isC ch S.txs.length = true := by rw [hSl]; exact gh5_63
                obtain ⟨x, hx1, hx2⟩ := stepT_c (sp := sp) h0 hGfl hci hGf
                refine WF.seq ?_
                refine WF.region ?_
                refine WL.va rfl rfl rfl (X.move e8_L1) ?_
                refine WL.va rfl rfl rfl (X.moveI ((hAL1.eq 13).trans ((congrFun hF16 13).trans ((hACr10.eq 13).trans (congrFun hF9 13))))) ?_
                refine WL.c rfl rfl rfl (X.call Try.call18 (evl_cons (v := (i64 (1048577 + (S.txs.length : Int)))) rfl (evl_cons (v := (.bool true)) rfl evl_nil))) (ended_ok (1048577 + (S.txs.length : Int)) true _) ?_
                rintro vE wE ⟨⟨E2, hE2, oW⟩, hx65⟩
                have lE2 := map_len hE2
                change E2.length = 3 at lE2
                have SWa := SW.ext (show Ext wL1 wE from hx65)
                have oWb := oW.ext (show Ext wE wE from (Ext.refl _))
                have hwa := (show Ext w wE from (Ext.trans hwL1 hx65))
                have zwl := World.grownBy.size hwL1
                have zwa := World.grownBy.size (show Ext w wE from (Ext.trans hwL1 hx65))
                have zwb := World.grownBy.size (show Ext wL1 wE from hx65)
                refine WL.op rfl (OW.append (bytes := 184) SWa.ev.row (Row.of_own oWb.row) oW.ones rfl rfl Try.underlying26 Try.type42 rfl rfl rfl rfl (by decide) (by unfold maxLen; omega) (by omega) (by omega) ?_ (by decide))
                intro vF wF ho67 hx66 hmvhx66
                have SW3 := (SWa.app oWb (by omega) (fun b hb => by have := SW.ev.top b hb; omega) ho67 hx66 hmvhx66).commit
                refine WL.va rfl rfl rfl (X.assign rfl) ?_
                refine WL.nil ?_
                refine thn_n ?_
                refine WF.region ?_
                refine WL.va rfl rfl rfl (X.move e14_L1) ?_
                refine WL.va rfl rfl rfl (X.assign rfl) ?_
                refine WL.nil ?_
                refine blk_n ?_
                refine thn_n ?_
                refine WF.region ?_
                refine WL.va rfl rfl rfl (X.moveI ((hAL1.eq 12).trans ((congrFun hF16 12).trans ((hACr10.eq 12).trans ((congrFun hF9 12).trans e12_L0))))) ?_
                refine WL.va rfl rfl rfl (X.add rfl rfl (w64 (by omega))) ?_
                refine WL.va rfl rfl rfl (X.assignI rfl) ?_
                refine WL.nil ?_
                first | exact thn_n ⟨_, (by omega), i + 1, vo, vd, E1, Fd, (⟨S.txs ++ [x], S.disk, G.n, S.sp || G.hit⟩ : OS), rfl, rfl, rfl, rfl, e10_L1, e11_L1, (by repeat (first | exact hAL0 | refine Agree.put ?_ rfl | refine Agree.sub hAL1 rfl ?_ | refine Agree.sub hACr10 rfl ?_ | refine Agree.named hF16 ?_ | refine Agree.named hF9 ?_ | refine Agree.named hF4 ?_)), (Ext.own hwa SWa.ev.row (Nat.le_refl _) hx66), ⟨by omega, by rw [serial_take hi, ← hS]; exact hx2.symm, by simp [hSl], (by show G.n ≤ _; omega), by omega, SW3, by rw [hist_snoc, hx1, List.append_nil, hEg, hGnil h0, List.append_nil], hFd⟩⟩ | exact thn_n ⟨_, (by omega), i + 1, vF, vm, E1 ++ E2, Fm, (⟨S.txs ++ [x], G.m, G.n, S.sp || G.hit⟩ : OS), rfl, rfl, rfl, rfl, e10_L1, e11_L1, (by repeat (first | exact hAL0 | refine Agree.put ?_ rfl | refine Agree.sub hAL1 rfl ?_ | refine Agree.sub hACr10 rfl ?_ | refine Agree.named hF16 ?_ | refine Agree.named hF9 ?_ | refine Agree.named hF4 ?_)), (Ext.own hwa SWa.ev.row (Nat.le_refl _) hx66), ⟨by omega, by rw [serial_take hi, ← hS]; exact hx2.symm, by simp [hSl], (by show G.n ≤ _; omega), by rw [List.length_append]; omega, SW3, by rw [hist_snoc, hx1, List.map_append, hEg, hE2, List.append_assoc], hFm⟩⟩ | exact thn_n ⟨_, (by omega), i + 1, vM, vd, E1 ++ E2, Fd, (⟨S.txs ++ [x], S.disk, G.n, S.sp || G.hit⟩ : OS), rfl, rfl, rfl, rfl, e10_L1, e11_L1, (by repeat (first | exact hAL0 | refine Agree.put ?_ rfl | refine Agree.sub hAL1 rfl ?_ | refine Agree.sub hACr10 rfl ?_ | refine Agree.named hF16 ?_ | refine Agree.named hF9 ?_ | refine Agree.named hF4 ?_)), (Ext.own hwa SWa.ev.row (Nat.le_refl _) hx66), ⟨by omega, by rw [serial_take hi, ← hS]; exact hx2.symm, by simp [hSl], (by show G.n ≤ _; omega), by rw [List.length_append]; omega, SW3, by rw [hist_snoc, hx1, List.map_append, hEg, hE2, List.append_assoc], hFd⟩⟩
              · have gh5_63 := h5_63
                have hci : isC ch S.txs.length = false := by rw [hSl]; exact gh5_63
                obtain ⟨x, hx1, hx2⟩ := stepT_d (sp := sp) h0 hGfl hci hGf
                refine WF.region ?_
                refine WL.va rfl rfl rfl (X.move e8_L1) ?_
                refine WL.va rfl rfl rfl (X.moveI ((hAL1.eq 13).trans ((congrFun hF16 13).trans ((hACr10.eq 13).trans (congrFun hF9 13))))) ?_
                refine WL.va rfl rfl rfl (X.buildL (P := Try.prog) (t := 38) (cs := (commitC.c (.slice none 0 0))) (evp_cons rfl evp_nil) Try.type38 Try.underlying38 rfl rfl ⟨rfl, trivial⟩ rfl) ?_
                refine WL.va rfl rfl rfl (X.buildL (P := Try.prog) (t := 40) (cs := (unkA.c (.slice none 0 0))) (evp_cons rfl evp_nil) Try.type40 Try.underlying40 rfl rfl ⟨rfl, trivial⟩ rfl) ?_
                refine WL.c rfl rfl rfl (X.call Try.call19 (evl_cons rfl (evl_cons rfl (evl_cons rfl evl_nil)))) (done_ok (1048577 + (S.txs.length : Int)) commitC unkA (.slice none 0 0) (.slice none 0 0) wL1.heap.size _ (nilO _ _) (nilO _ _)) ?_
                rintro vN wN ⟨⟨E2, hE2, oW⟩, hx68⟩
                have lE2 := map_len hE2
                change E2.length = 2 at lE2
                have SWa := SW.ext (show Ext wL1 wN from hx68)
                have oWb := oW.ext (show Ext wN wN from (Ext.refl _))
                have hwa := (show Ext w wN from (Ext.trans hwL1 hx68))
                have zwl := World.grownBy.size hwL1
                have zwa := World.grownBy.size (show Ext w wN from (Ext.trans hwL1 hx68))
                have zwb := World.grownBy.size (show Ext wL1 wN from hx68)
                refine WL.op rfl (OW.append (bytes := 184) SWa.ev.row (Row.of_own oWb.row) oW.ones rfl rfl Try.underlying26 Try.type42 rfl rfl rfl rfl (by decide) (by unfold maxLen; omega) (by omega) (by omega) ?_ (by decide))
                intro vM wM ho70 hx69 hmvhx69
                have SW3 := (SWa.app oWb (by omega) (fun b hb => by have := SW.ev.top b hb; omega) ho70 hx69 hmvhx69).start
                refine WL.va rfl rfl rfl (X.assign rfl) ?_
                refine WL.nil ?_
                refine blk_n ?_
                refine thn_n ?_
                refine WF.region ?_
                refine WL.va rfl rfl rfl (X.moveI ((hAL1.eq 12).trans ((congrFun hF16 12).trans ((hACr10.eq 12).trans ((congrFun hF9 12).trans e12_L0))))) ?_
                refine WL.va rfl rfl rfl (X.add rfl rfl (w64 (by omega))) ?_
                refine WL.va rfl rfl rfl (X.assignI rfl) ?_
                refine WL.nil ?_
                first | exact thn_n ⟨_, (by omega), i + 1, vo, vd, E1, Fd, (⟨S.txs ++ [x], S.disk, G.n, S.sp || G.hit⟩ : OS), rfl, rfl, rfl, ((hAL1.eq 9).trans ((congrFun hF16 9).trans ((hACr10.eq 9).trans ((congrFun hF9 9).trans e9_L0)))), e10_L1, e11_L1, (by repeat (first | exact hAL0 | refine Agree.put ?_ rfl | refine Agree.sub hAL1 rfl ?_ | refine Agree.sub hACr10 rfl ?_ | refine Agree.named hF16 ?_ | refine Agree.named hF9 ?_ | refine Agree.named hF4 ?_)), (Ext.own hwa SWa.ev.row (Nat.le_refl _) hx69), ⟨by omega, by rw [serial_take hi, ← hS]; exact hx2.symm, by simp [hSl], (by show G.n ≤ _; omega), by omega, SW3, by rw [hist_snoc, hx1, List.append_nil, hEg, hGnil h0, List.append_nil], hFd⟩⟩ | exact thn_n ⟨_, (by omega), i + 1, vF, vm, E1 ++ E2, Fm, (⟨S.txs ++ [x], G.m, G.n, S.sp || G.hit⟩ : OS), rfl, rfl, rfl, ((hAL1.eq 9).trans ((congrFun hF16 9).trans ((hACr10.eq 9).trans ((congrFun hF9 9).trans e9_L0)))), e10_L1, e11_L1, (by repeat (first | exact hAL0 | refine Agree.put ?_ rfl | refine Agree.sub hAL1 rfl ?_ | refine Agree.sub hACr10 rfl ?_ | refine Agree.named hF16 ?_ | refine Agree.named hF9 ?_ | refine Agree.named hF4 ?_)), (Ext.own hwa SWa.ev.row (Nat.le_refl _) hx69), ⟨by omega, by rw [serial_take hi, ← hS]; exact hx2.symm, by simp [hSl], (by show G.n ≤ _; omega), by rw [List.length_append]; omega, SW3, by rw [hist_snoc, hx1, List.map_append, hEg, hE2, List.append_assoc], hFm⟩⟩ | exact thn_n ⟨_, (by omega), i + 1, vM, vd, E1 ++ E2, Fd, (⟨S.txs ++ [x], S.disk, G.n, S.sp || G.hit⟩ : OS), rfl, rfl, rfl, ((hAL1.eq 9).trans ((congrFun hF16 9).trans ((hACr10.eq 9).trans ((congrFun hF9 9).trans e9_L0)))), e10_L1, e11_L1, (by repeat (first | exact hAL0 | refine Agree.put ?_ rfl | refine Agree.sub hAL1 rfl ?_ | refine Agree.sub hACr10 rfl ?_ | refine Agree.named hF16 ?_ | refine Agree.named hF9 ?_ | refine Agree.named hF4 ?_)), (Ext.own hwa SWa.ev.row (Nat.le_refl _) hx69), ⟨by omega, by rw [serial_take hi, ← hS]; exact hx2.symm, by simp [hSl], (by show G.n ≤ _; omega), by rw [List.length_append]; omega, SW3, by rw [hist_snoc, hx1, List.map_append, hEg, hE2, List.append_assoc], hFd⟩⟩
    · have gh0_6 := (of_decide_eq_false h0_6)
      have hi : l.length ≤ i := by have := gh0_6; omega
      refine WF.exit ?_
      refine thn_x ?_
      refine thn_x ?_
      refine blk_eq ?_
      refine thn_n ?_
      refine WF.seq ?_
      refine WF.region ?_
      refine WL.va rfl rfl rfl (X.move e8_L0) ?_
      refine WL.va rfl rfl rfl (X.moveB e11_L0) ?_
      refine WL.va rfl rfl rfl (X.assign rfl) ?_
      refine WL.va rfl rfl rfl (X.assignB rfl) ?_
      refine WL.nil ?_
      refine thn_n ?_
      refine WF.ret ?_
      refine fin_r ?_
      rw [List.take_of_length_le hi] at hS
      subst hS
      have hEm := map_len hE
      exact ⟨⟨_, rfl, SW0.ev.evsE hE, by omega⟩, hwL0⟩

end Go.Proofs.Ytobjmehppmhkdaa
