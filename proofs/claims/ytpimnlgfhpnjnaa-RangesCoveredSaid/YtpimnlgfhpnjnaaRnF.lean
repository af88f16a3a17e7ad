/- The walks of RangesCovered. -/
import Derived.Test.YtpimnlgfhpnjnaaCov
namespace Go.Proofs.Ytpimnlgfhpnjnaa
open Go Go.RowKit Kf
set_option maxRecDepth 20000

theorem findS_ok {m : Mp} {v : Value} {n : Int} {r : Rg} (w : World) (hv : Rgs w v m.R) (h : findM m.R n = some r) : FnOk Try.prog 23 [agg (m.c v), i64 n] w (fun r' w' => r' = .tuple #[agg r.c, .bool true] ∧ Ext w w') := by
  have := findC_ok m v n w hv
  rw [h] at this
  exact this
theorem sameRanges_self {a b : List Rg} {va vb : Value} {w : World} (ha : Rgs w va a) (hb : Rgs w vb b) (e : a = b) : FnOk Try.prog 21 [va, vb] w (fun r w' => r = .bool true ∧ Ext w w') := by
  have := sameRanges_ok _ _ _ _ _ ha hb
  rwa [decide_eq_true e] at this
abbrev RgN (w : World) (G T : Nat) (v : Value) (l : List Rg) : Prop := RowN w G T v l.length 4 (l.flatMap Rg.c)
theorem plan_next2 {m : Mp} {x : Mv} (hE : -9223372036854775808 ≤ m.E ∧ m.E ≤ 9223372036854775807) (hc : checkB m = true) (h : (planM m x).2 = 0) : checkB (planM m x).1 = true ∧ (-9223372036854775808 ≤ (planM m x).1.E ∧ (planM m x).1.E ≤ 9223372036854775807) ∧ m.M = Mv.zero ∧ (planM m x).1.E = m.E + 1 ∧ (planM m x).1.M.Epoch = (planM m x).1.E ∧ (planM m x).1.R = m.R := by
  obtain ⟨h1, h2, h3, h4⟩ := plan_next hE hc h
  refine ⟨h1, ⟨h2, h3⟩, h4, ?_⟩
  rw [planM_yes (plan_code h)]
  exact ⟨rfl, rfl, rfl⟩
theorem done_next2 {m m1 : Mp} {c : Int} (hE : -9223372036854775808 ≤ m.E ∧ m.E ≤ 9223372036854775807) (hc : checkB m = true) (h1 : DonePost m m.M.Epoch m1 c) : (c ≠ 0 → m.M = Mv.zero) ∧ (c = 0 → Moved m ∧ checkB m1 = true ∧ m1.E = m.E ∧ m1.M = Mv.zero ∧ DoneL m.R m.M m.E m1.R) := by
  rcases h1 with ⟨a1, a2, a3⟩ | ⟨a1, a2, a3, a4, a5⟩
  · refine ⟨fun _ => ?_, fun e => by rw [a3] at e; cases e⟩
    apply Decidable.byContradiction
    intro hM
    have hm := check_moved hE hc hM
    have := hm.val.pos
    have he := hm.epoch
    unfold doneNo at a1
    simp only [Bool.or_eq_true, decide_eq_true_iff] at a1
    omega
  · refine ⟨fun e => absurd a2 e, fun _ => ?_⟩
    obtain ⟨hM, he⟩ := moved_of hE hc a1
    rw [he] at a5
    have hd := hM.done a5
    refine ⟨hM, ?_, a3, a4, a5⟩
    rw [show m1 = ⟨m1.R, m.E, Mv.zero⟩ from Mp.eq_iff.2 ⟨rfl, a3, a4⟩]
    exact hd
theorem whose_ok (m : Mp) (v : Value) (n : Int) (r : Rg) (w : World) (hv : Rgs w v m.R) (h : findM m.R n = some r) : FnOk Try.prog 22 [agg (m.c v), i64 n] w (fun r' w' => r' = i64 r.Group ∧ Ext w w') := by
  obtain ⟨q1, q2⟩ : r.Lo ≤ n ∧ n < r.Hi := (find_mem h).2
  refine FnOk.enter (rs := [4]) Try.func22 rfl Try.ntmps22 Try.results22 rfl rfl ?_
  refine WF.seq ?_
  refine WF.region ?_
  refine WL.op rfl (OW.boxA (cs := (m.c v)) rfl ?_ (by decide))
  intro g2 w1 heg2 hlg2 hO2 hx3
  have := World.grownBy.size hx3
  refine WL.va rfl rfl rfl (X.assignI rfl) ?_
  refine WL.nil ?_
  refine thn_n ?_
  refine WF.seq ?_
  refine WF.region ?_
  refine WL.va rfl rfl rfl (X.loadOA hO2 (Ext.refl _) rfl rfl Try.isAgg26 Try.sizeOf26) ?_
  refine WL.va rfl rfl rfl (X.moveI rfl) ?_
  refine WL.c rfl rfl rfl (X.call Try.call23 (evl_cons rfl (evl_cons rfl evl_nil))) (findS_ok _ (Row.ext hv hx3) h) ?_
  rintro v6 w5 ⟨rfl, hx7⟩
  have := World.grownBy.size hx7
  refine WL.va rfl rfl rfl (X.move rfl) ?_
  refine WL.va rfl rfl rfl (X.extract rfl rfl) ?_
  refine WL.va rfl rfl rfl (X.extract rfl rfl) ?_
  refine WL.op rfl (OW.allocO (cs := [i64 0, i64 0, i64 0, i64 0]) Try.zeroValue41 rfl ?_ (by decide))
  intro g5 w9 heg5 hlg5 hO5 hx11
  have := World.grownBy.size hx11
  refine WL.op rfl (OW.storeOA hO5 rfl rfl rfl (Rg.c_one _) Try.sizeOf41 ?_)
  intro w13 hO5 hx15
  have := World.grownBy.size hx15
  replace hO2 := (hO2.ext (Ext.trans hx7 hx11)).keptO hx15 (by omega)
  refine WL.va rfl rfl rfl (X.assignB rfl) ?_
  refine WL.nil ?_
  refine thn_n ?_
  refine WF.seq ?_
  refine WF.seq ?_
  refine WF.region ?_
  refine WL.va rfl rfl rfl (X.moveB rfl) ?_
  refine WL.va rfl rfl rfl (X.not rfl) ?_
  refine WL.va rfl rfl rfl (X.moveB rfl) ?_
  refine WL.split (j := 2) rfl (fun h18 => ?_) (fun h18 => ?_)
  · have gh18 := (nt h18)
    cases gh18
  · have gh18 := (nf h18)
    refine WL.vg rfl (congrArg some h18) rfl rfl (X.fieldAddrO (off := 0) rfl Try.underlying41 rfl rfl Try.sizeOf3) ?_
    refine WL.vg rfl (congrArg some h18) rfl rfl (X.loadO hO5 (Ext.refl _) rfl rfl Try.isAgg3) ?_
    refine WL.vg rfl (congrArg some h18) rfl rfl (X.moveI rfl) ?_
    refine WL.vg rfl (congrArg some h18) rfl rfl (X.gtr rfl rfl) ?_
    refine WL.va rfl rfl rfl (X.pickF rfl h18 rfl) ?_
    refine WL.va rfl rfl rfl (X.moveB rfl) ?_
    refine WL.split (j := 8) rfl (fun h20 => ?_) (fun h20 => ?_)
    · have gh20 := (of_decide_eq_true h20)
      omega
    · have gh20 := (of_decide_eq_false h20)
      refine WL.vg rfl (congrArg some h20) rfl rfl (X.fieldAddrO (off := 1) rfl Try.underlying41 rfl rfl Try.sizeOf3) ?_
      refine WL.vg rfl (congrArg some h20) rfl rfl (X.loadO hO5 (Ext.refl _) rfl rfl Try.isAgg3) ?_
      refine WL.vg rfl (congrArg some h20) rfl rfl (X.moveI rfl) ?_
      refine WL.vg rfl (congrArg some h20) rfl rfl (X.leq rfl rfl) ?_
      refine WL.va rfl rfl rfl (X.pickF rfl h20 rfl) ?_
      refine WL.nil ?_
      refine thn_n ?_
      refine WF.cond rfl (fun h0_21 => ?_) (fun h0_21 => ?_)
      · have gh0_21 := (of_decide_eq_true h0_21)
        omega
      · have gh0_21 := (of_decide_eq_false h0_21)
        refine WF.skip ?_
        refine thn_n ?_
        refine WF.seq ?_
        refine WF.region ?_
        refine WL.va rfl rfl rfl (X.fieldAddrO (off := 2) rfl Try.underlying41 rfl rfl Try.sizeOf3) ?_
        refine WL.va rfl rfl rfl (X.loadO hO5 (Ext.refl _) rfl rfl Try.isAgg3) ?_
        refine WL.va rfl rfl rfl (X.assignI rfl) ?_
        refine WL.nil ?_
        refine thn_n ?_
        refine WF.ret ?_
        refine fin_r ?_
        exact ⟨rfl, (Ext.trans (Ext.trans hx3 hx7) (Ext.store hx11 hx15 (by omega)))⟩

theorem onceC_ok (m : Mp) (v : Value) (n : Int) (w : World) (hv : Rgs w v m.R) : FnOk Try.prog 24 [agg (m.c v), i64 n] w (fun r' w' => r' = i64 ((onceN m.R n : Nat) : Int) ∧ Ext w w') := by
  have hle := hv.le64
  refine FnOk.enter (rs := [4]) Try.func24 rfl Try.ntmps24 Try.results24 rfl rfl ?_
  refine WF.seq ?_
  refine WF.region ?_
  refine WL.op rfl (OW.boxA (cs := (m.c v)) rfl ?_ (by decide))
  intro g2 wb heg2 hlg2 hO2 hx2
  have := World.grownBy.size hx2
  refine WL.va rfl rfl rfl (X.assignI rfl) ?_
  refine WL.nil ?_
  refine thn_n ?_
  refine WF.seq ?_
  refine WF.region ?_
  refine WL.va rfl rfl rfl (X.assignI rfl) ?_
  refine WL.nil ?_
  refine thn_n ?_
  refine WF.seq ?_
  refine WF.seq ?_
  refine WF.region ?_
  refine WL.va rfl rfl rfl (X.assignI rfl) ?_
  refine WL.nil ?_
  refine thn_n ?_
  refine WF.block ?_
  refine WF.named (fun F4 hF5 => ?_)
  refine WF.loopN (fun mL0 f' w' => ∃ (k : Nat), mL0 = m.R.length - k ∧ f' 6 = .int .i64 (k : Int) ∧ f' 5 = .int .i64 ((onceN (m.R.take k) n : Nat) : Int) ∧ Agree [0, 1, 2, 4] f' F4 ∧ Ext wb w' ∧ k ≤ m.R.length) ?_ ?_
  · exact ⟨_, 0, rfl, (congrFun hF5 6), (congrFun hF5 5), (Agree.refl _ _), (Ext.refl _), (Nat.zero_le _)⟩
  · rintro mL0 fL0 wL0 ⟨k, hmL0, e6_L0, e5_L0, hAL0, hwL0, hk0⟩
    have := World.grownBy.size hwL0
    have hol := once_le (l := m.R.take k) (n := n)
    rw [List.length_take] at hol
    refine WF.seq ?_
    refine WF.seq ?_
    refine WF.region ?_
    refine WL.va rfl rfl rfl (X.moveI e6_L0) ?_
    refine WL.va rfl rfl rfl (X.fieldAddrO (off := 0) ((hAL0.eq 2).trans (congrFun hF5 2)) Try.underlying26 rfl rfl Try.sizeOf22) ?_
    refine WL.va rfl rfl rfl (X.loadO hO2 hwL0 rfl rfl Try.isAgg22) ?_
    refine WL.va rfl rfl rfl (X.len hv rfl Try.underlying22) ?_
    refine WL.va rfl rfl rfl (X.lss rfl rfl) ?_
    refine WL.nil ?_
    refine thn_n ?_
    refine WF.cond rfl (fun h0_6 => ?_) (fun h0_6 => ?_)
    · have gh0_6 := (of_decide_eq_true h0_6)
      have hk : k < m.R.length := by omega
      refine WF.skip ?_
      refine thn_n ?_
      refine WF.named (fun F8 hF9 => ?_)
      refine WF.cut (fun f' w' => f' 5 = .int .i64 ((onceN (m.R.take (k + 1)) n : Nat) : Int) ∧ Agree [0, 1, 2, 4, 6, 7, 8, 9, 10, 11] f' F8 ∧ wL0 = w') ?_ ?_
      · refine WF.block ?_
        refine WF.seq ?_
        refine WF.region ?_
        refine WL.va rfl rfl rfl (X.moveI ((congrFun hF9 1).trans ((hAL0.eq 1).trans (congrFun hF5 1)))) ?_
        refine WL.va rfl rfl rfl (X.fieldAddrO (off := 0) ((congrFun hF9 2).trans ((hAL0.eq 2).trans (congrFun hF5 2))) Try.underlying26 rfl rfl Try.sizeOf22) ?_
        refine WL.va rfl rfl rfl (X.loadO hO2 hwL0 rfl rfl Try.isAgg22) ?_
        refine WL.va rfl rfl rfl (X.moveI ((congrFun hF9 6).trans e6_L0)) ?_
        refine WL.va rfl rfl rfl (X.idx hv rfl rfl (by omega) Try.underlying22 Try.sizeOf41) ?_
        refine WL.va rfl rfl rfl (X.fieldAddrA rfl Try.underlying41 rfl rfl Try.sizeOf3) ?_
        refine WL.va rfl rfl rfl (X.loadE hv (Ext.trans hx2 hwL0) rfl (by omega) ((Rgs.get hk (by decide)).trans rfl) Try.isAgg3) ?_
        refine WL.va rfl rfl rfl (X.geq rfl rfl) ?_
        refine WL.va rfl rfl rfl (X.moveB rfl) ?_
        refine WL.split (j := 8) rfl (fun h11 => ?_) (fun h11 => ?_)
        · have gh11 := (of_decide_eq_true h11)
          have q1 : (m.R[k]'hk).Lo ≤ n := gh11
          refine WL.vg rfl (congrArg some h11) rfl rfl (X.moveI ((congrFun hF9 1).trans ((hAL0.eq 1).trans (congrFun hF5 1)))) ?_
          refine WL.vg rfl (congrArg some h11) rfl rfl (X.fieldAddrO (off := 0) ((congrFun hF9 2).trans ((hAL0.eq 2).trans (congrFun hF5 2))) Try.underlying26 rfl rfl Try.sizeOf22) ?_
          refine WL.vg rfl (congrArg some h11) rfl rfl (X.loadO hO2 hwL0 rfl rfl Try.isAgg22) ?_
          refine WL.vg rfl (congrArg some h11) rfl rfl (X.moveI ((congrFun hF9 6).trans e6_L0)) ?_
          refine WL.vg rfl (congrArg some h11) rfl rfl (X.idx hv rfl rfl (by omega) Try.underlying22 Try.sizeOf41) ?_
          refine WL.vg rfl (congrArg some h11) rfl rfl (X.fieldAddrA rfl Try.underlying41 rfl rfl Try.sizeOf3) ?_
          refine WL.vg rfl (congrArg some h11) rfl rfl (X.loadE hv (Ext.trans hx2 hwL0) rfl (by omega) ((Rgs.get hk (by decide)).trans rfl) Try.isAgg3) ?_
          refine WL.vg rfl (congrArg some h11) rfl rfl (X.lss rfl rfl) ?_
          refine WL.va rfl rfl rfl (X.pickT rfl h11 rfl) ?_
          refine WL.nil ?_
          refine thn_n ?_
          refine WF.cond rfl (fun h1_12 => ?_) (fun h1_12 => ?_)
          · have gh1_12 := (of_decide_eq_true h1_12)
            have hc : onceN (m.R.take (k + 1)) n = onceN (m.R.take k) n + 1 := (once_take hk).trans (by rw [if_pos ⟨q1, gh1_12⟩])
            refine WF.region ?_
            refine WL.va rfl rfl rfl (X.moveI ((congrFun hF9 5).trans e5_L0)) ?_
            refine WL.va rfl rfl rfl (X.add rfl rfl (w64 (by omega))) ?_
            refine WL.va rfl rfl rfl (X.assignI rfl) ?_
            refine WL.nil ?_
            refine blk_n ?_
            refine thn_n ?_
            exact ⟨(Eq.trans rfl (congrArg i64 (by omega))), (by repeat (first | exact (Agree.refl _ F8) | refine Agree.put ?_ rfl | refine Agree.sub hAL0 rfl ?_ | refine Agree.named hF9 ?_ | refine Agree.named hF5 ?_)), rfl⟩
          · have gh1_12 := (of_decide_eq_false h1_12)
            have hc : onceN (m.R.take (k + 1)) n = onceN (m.R.take k) n + 0 := (once_take hk).trans (by rw [if_neg (fun e => gh1_12 e.2)])
            refine WF.skip ?_
            refine blk_n ?_
            refine thn_n ?_
            exact ⟨(Eq.trans ((congrFun hF9 5).trans e5_L0) (congrArg i64 (by omega))), (by repeat (first | exact (Agree.refl _ F8) | refine Agree.put ?_ rfl | refine Agree.sub hAL0 rfl ?_ | refine Agree.named hF9 ?_ | refine Agree.named hF5 ?_)), rfl⟩
        · have gh11 := (of_decide_eq_false h11)
          have q1 : ¬ (m.R[k]'hk).Lo ≤ n := gh11
          have hc : onceN (m.R.take (k + 1)) n = onceN (m.R.take k) n + 0 := (once_take hk).trans (by rw [if_neg (fun e => q1 e.1)])
          refine WL.p rfl rfl rfl (congrArg some h11) ?_
          refine WL.p rfl rfl rfl (congrArg some h11) ?_
          refine WL.p rfl rfl rfl (congrArg some h11) ?_
          refine WL.p rfl rfl rfl (congrArg some h11) ?_
          refine WL.p rfl rfl rfl (congrArg some h11) ?_
          refine WL.p rfl rfl rfl (congrArg some h11) ?_
          refine WL.p rfl rfl rfl (congrArg some h11) ?_
          refine WL.p rfl rfl rfl (congrArg some h11) ?_
          refine WL.va rfl rfl rfl (X.pickF rfl h11 rfl) ?_
          refine WL.nil ?_
          refine thn_n ?_
          refine WF.cond_f rfl ?_
          refine WF.skip ?_
          refine blk_n ?_
          refine thn_n ?_
          exact ⟨(Eq.trans ((congrFun hF9 5).trans e5_L0) (congrArg i64 (by omega))), (by repeat (first | exact (Agree.refl _ F8) | refine Agree.put ?_ rfl | refine Agree.sub hAL0 rfl ?_ | refine Agree.named hF9 ?_ | refine Agree.named hF5 ?_)), rfl⟩
      · rintro fCb1 wCb1 ⟨e5_Cb1, hACb1, rfl⟩
        refine WF.region ?_
        refine WL.va rfl rfl rfl (X.moveI ((hACb1.eq 6).trans ((congrFun hF9 6).trans e6_L0))) ?_
        refine WL.va rfl rfl rfl (X.add rfl rfl (w64 (by omega))) ?_
        refine WL.va rfl rfl rfl (X.assignI rfl) ?_
        refine WL.nil ?_
        exact thn_n ⟨_, (by omega), k + 1, rfl, rfl, e5_Cb1, (by repeat (first | exact hAL0 | refine Agree.put ?_ rfl | refine Agree.sub hACb1 rfl ?_ | refine Agree.named hF9 ?_ | refine Agree.named hF5 ?_)), hwL0, (by omega)⟩
    · have gh0_6 := (of_decide_eq_false h0_6)
      obtain rfl : k = m.R.length := by omega
      refine WF.exit ?_
      refine thn_x ?_
      refine thn_x ?_
      refine blk_eq ?_
      refine thn_n ?_
      refine WF.seq ?_
      refine WF.region ?_
      refine WL.va rfl rfl rfl (X.moveI e5_L0) ?_
      refine WL.va rfl rfl rfl (X.assignI rfl) ?_
      refine WL.nil ?_
      refine thn_n ?_
      refine WF.ret ?_
      refine fin_r ?_
      rw [List.take_length]; exact ⟨rfl, (Ext.trans hx2 hwL0)⟩

theorem onceS_ok {m : Mp} {v : Value} {n : Int} {w : World} (hv : Rgs w v m.R) (h : onceN m.R n = 1) : FnOk Try.prog 24 [agg (m.c v), i64 n] w (fun r' w' => r' = i64 1 ∧ Ext w w') := by
  have := onceC_ok m v n w hv
  rw [h] at this
  exact this
set_option maxHeartbeats 16000000 in
theorem rangesCovered_walk (m : Mp) (v vl : Value) (l : List Mv) (w : World) (hv : Rgs w v m.R) (hI : MpIn m) (hl : Mvs w vl l) : FnOk Try.prog 4 [agg (m.c v), vl] w (fun r w' => r = .bool true ∧ Ext w w') := by
  have hE := hI.1
  have hll : (l.length : Int) ≤ 9223372036854775807 := by obtain ⟨_, c, _, h1, h2, _⟩ := hl.shape; unfold maxLen at h2; omega
  refine FnOk.enter (rs := [4]) Try.func4 rfl Try.ntmps4 Try.results4 rfl rfl ?_
  refine WF.seq ?_
  refine WF.region ?_
  refine WL.op rfl (OW.boxA (cs := (m.c v)) rfl ?_ (by decide))
  intro g2 w1 heg2 hlg2 hO2 hx3
  have := World.grownBy.size hx3
  refine WL.va rfl rfl rfl (X.assignB rfl) ?_
  refine WL.nil ?_
  refine thn_n ?_
  refine WF.seq ?_
  refine WF.seq ?_
  refine WF.region ?_
  refine WL.va rfl rfl rfl (X.loadOA hO2 (Ext.refl _) rfl rfl Try.isAgg26 Try.sizeOf26) ?_
  refine WL.c rfl rfl rfl (X.call Try.call11 (evl_cons rfl evl_nil)) (checkC_ok m v _ (Row.ext hv hx3) hE) ?_
  rintro v7 w6 ⟨rfl, hx8⟩
  have := World.grownBy.size hx8
  refine WL.va rfl rfl rfl (X.neq rfl rfl) ?_
  refine WL.nil ?_
  refine thn_n ?_
  refine WF.cond rfl (fun h0_9 => ?_) (fun h0_9 => ?_)
  · have gh0_9 := (of_decide_eq_true h0_9)
    refine WF.seq ?_
    refine WF.region ?_
    refine WL.c rfl rfl rfl (X.call Try.call13 evl_nil) (known_ok _) ?_
    rintro v12 w11 ⟨rfl, hx13⟩
    have := World.grownBy.size hx13
    refine WL.va rfl rfl rfl (X.assignB rfl) ?_
    refine WL.nil ?_
    refine thn_n ?_
    refine WF.ret ?_
    refine thn_r ?_
    refine fin_r ?_
    exact ⟨rfl, (Ext.trans (Ext.trans hx3 hx8) hx13)⟩
  · have gh0_9 := (Decidable.of_not_not (of_decide_eq_false h0_9))
    have hck : checkB m = true := codeOf_0 gh0_9
    refine WF.skip ?_
    refine thn_n ?_
    refine WF.seq ?_
    refine WF.seq ?_
    refine WF.region ?_
    refine WL.va rfl rfl rfl (X.assignI rfl) ?_
    refine WL.nil ?_
    refine thn_n ?_
    refine WF.block ?_
    refine WF.named (fun F15 hF16 => ?_)
    refine WF.loopN (fun mL0 f' w' => ∃ (k : Nat) (now : Mp) (vn : Value), mL0 = l.length - k ∧ f' 5 = .int .i64 (k : Int) ∧ Agree [0, 1, 2, 16, 17, 18] f' F15 ∧ Ext w w' ∧ k ≤ l.length ∧ checkB now = true ∧ (-9223372036854775808 ≤ now.E ∧ now.E ≤ 9223372036854775807) ∧ Blk w' g2 26 (now.c vn) ∧ RgN w' g2 w'.heap.size vn now.R) ?_ ?_
    · exact ⟨_, 0, m, v, rfl, (congrFun hF16 5), (Agree.refl _ _), (Ext.trans hx3 hx8), ⟨Nat.zero_le _, hck, hE, (hO2.ext hx8), ((RowN.of hv (by omega)).up (by omega)).ext (Ext.trans hx3 hx8)⟩⟩
    · rintro mL0 fL0 wL0 ⟨k, now, vn, hmL0, e5_L0, hAL0, hwL0, ⟨hk0, hnc, hnE, hO2, on⟩⟩
      have := World.grownBy.size hwL0
      have t2 := hO2.lt
      refine WF.seq ?_
      refine WF.seq ?_
      refine WF.region ?_
      refine WL.va rfl rfl rfl (X.moveI e5_L0) ?_
      refine WL.va rfl rfl rfl (X.move ((hAL0.eq 1).trans (congrFun hF16 1))) ?_
      refine WL.va rfl rfl rfl (X.len hl rfl Try.underlying27) ?_
      refine WL.va rfl rfl rfl (X.lss rfl rfl) ?_
      refine WL.va rfl rfl rfl (X.moveB rfl) ?_
      refine WL.split (j := 4) rfl (fun h18 => ?_) (fun h18 => ?_)
      · have gh18 := (of_decide_eq_true h18)
        refine WL.vg rfl (congrArg some h18) rfl rfl (X.moveI e5_L0) ?_
        refine WL.vg rfl (congrArg some h18) rfl rfl (X.lss rfl rfl) ?_
        refine WL.va rfl rfl rfl (X.pickT rfl h18 rfl) ?_
        refine WL.nil ?_
        refine thn_n ?_
        refine WF.cond rfl (fun h1_19 => ?_) (fun h1_19 => ?_)
        · have gh1_19 := (of_decide_eq_true h1_19)
          have hk : k < l.length := by omega
          refine WF.skip ?_
          refine thn_n ?_
          refine WF.seq ?_
          refine WF.block ?_
          refine WF.seq ?_
          refine WF.drawn (.q 0 (.q 1 (.q 2 (.q 3 (.q 4 (.b 5 9 (.q 6 (.q 7 (.q 8 (.l 9 (.l 10 (.q 11 .nil)))))) (.l 5 (.q 6 (.q 7 (.q 8 (.l 10 (.q 11 .nil)))))))))))) (fun w' => Ext wL0 w') 12 (by kernel_rfl) (by kernel_rfl) (Ext.drew _) ?_
          have := World.grownBy.size (Ext.drew wL0)
          refine WO.q rfl rfl rfl rfl (fun w' hE21 => (X.loadOA hO2 hE21 ((hAL0.eq 2).trans (congrFun hF16 2)) rfl Try.isAgg26 Try.sizeOf26)) ?_
          refine WO.q rfl rfl rfl rfl (fun w' hE21 => (X.move ((hAL0.eq 1).trans (congrFun hF16 1)))) ?_
          refine WO.q rfl rfl rfl rfl (fun w' hE21 => (X.moveI e5_L0)) ?_
          refine WO.q rfl rfl rfl rfl (fun w' hE21 => (X.idx hl rfl rfl (by omega) Try.underlying27 Try.sizeOf24)) ?_
          refine WO.q rfl rfl rfl rfl (fun w' hE21 => (X.loadEl hl (Ext.trans hwL0 hE21) rfl (by omega) (Mvs.el hk) Try.isAgg24 Try.sizeOf24)) ?_
          refine WO.b2 ?_ ?_
          · refine LO.go rfl rfl (OW.enter rfl (by decide) (X.call Try.call15 (evl_cons rfl (evl_cons rfl evl_nil))) (plan_ok now vn (l[k]'hk) _ (on.ext (Ext.drew _)).rd (Nat.le_trans (val_len hnc) (by decide)) hnE.1) ?_)
            rintro v23 w22 ⟨⟨vx, rfl, ox⟩, hx24⟩
            have := World.grownBy.size hx24
            refine ⟨(Ext.trans (Ext.drew _) hx24), ?_⟩
            have oxT := OwnT.of ox
            refine WO.q rfl rfl rfl rfl (fun w' hE21 => (X.move rfl)) ?_
            refine WO.q rfl rfl rfl rfl (fun w' hE21 => (X.extract rfl rfl)) ?_
            refine WO.q rfl rfl rfl rfl (fun w' hE21 => (X.extract rfl rfl)) ?_
            refine WO.l ?_
            refine LO.go rfl rfl (OW.allocO (cs := [.slice none 0 0, i64 0, i64 0, i64 0, i64 0, i64 0, i64 0]) Try.zeroValue26 rfl ?_ (by decide))
            intro g6 w25 heg6 hlg6 hO6 hx27
            have := World.grownBy.size hx27
            refine ⟨(Ext.trans (Ext.trans (Ext.drew _) hx24) hx27), ?_⟩
            refine WO.l ?_
            refine LO.go rfl rfl (OW.storeOA hO6 rfl rfl rfl (Mp.c_one (Row.of_own ox) _) Try.sizeOf26 ?_)
            intro w29 hO6 hx31
            have := World.grownBy.size hx31
            replace hO2 := (hO2.ext (Ext.trans (Ext.trans (Ext.drew _) hx24) hx27)).keptO hx31 (by omega)
            replace on := (on.ext (Ext.trans (Ext.trans (Ext.drew _) hx24) hx27)).keptO hx31 (by omega)
            replace oxT := (oxT.ext hx27).keptO hx31 (by omega)
            replace hO6 : Blk _ _ _ ((planM now (l[k]'hk)).1.c vx) := hO6
            refine ⟨(Ext.trans (Ext.trans (Ext.drew _) hx24) (Ext.store hx27 hx31 (by omega))), ?_⟩
            refine WO.q rfl rfl rfl rfl (fun w' hE21 => (X.assignI rfl)) ?_
            refine WO.nil ?_
            refine WL.nil ?_
            refine thn_n ?_
            refine WF.seq ?_
            refine WF.seq ?_
            refine WF.region ?_
            refine WL.va rfl rfl rfl (X.moveI rfl) ?_
            refine WL.va rfl rfl rfl (X.eql rfl rfl) ?_
            refine WL.nil ?_
            refine thn_n ?_
            refine WF.cond rfl (fun h2_33 => ?_) (fun h2_33 => ?_)
            · have gh2_33 := (of_decide_eq_true h2_33)
              obtain ⟨hA1, hA2, hA3, hA4, hA5, hA6⟩ := plan_next2 hnE hnc gh2_33
              refine WF.seq ?_
              refine WF.seq ?_
              refine WF.region ?_
              refine WL.va rfl rfl rfl (X.fieldAddrO (off := 2) ((hAL0.eq 2).trans (congrFun hF16 2)) Try.underlying26 rfl rfl Try.sizeOf24) ?_
              refine WL.va rfl rfl rfl (X.loadOP hO2 (Ext.refl _) rfl rfl rfl Try.isAgg24 Try.sizeOf24) ?_
              refine WL.va rfl rfl rfl (X.buildL (P := Try.prog) (t := 24) (cs := (Mv.c Mv.zero)) evp_nil Try.type24 Try.underlying24 rfl rfl trivial rfl) ?_
              refine WL.va rfl rfl rfl (X.neqA (na := now.M.ints) (nb := Mv.zero.ints) flatM fieldsM offsM rfl rfl rfl rfl (Mv.eqB _ _)) ?_
              refine WL.va rfl rfl rfl (X.moveB rfl) ?_
              refine WL.split (j := 4) rfl (fun h36 => ?_) (fun h36 => ?_)
              · have gh36 := h36
                rw [decide_eq_true hA3] at gh36; exact absurd gh36 (by decide)
              · have gh36 := h36
                refine WL.vg rfl (congrArg some h36) rfl rfl (X.loadOA hO6 (Ext.refl _) rfl rfl Try.isAgg26 Try.sizeOf26) ?_
                refine WL.cg rfl (congrArg some h36) rfl rfl (X.call Try.call11 (evl_cons rfl evl_nil)) (checkC_ok _ vx _ oxT.rd hA2) ?_
                rintro v38 w37 ⟨rfl, hx39⟩
                have := World.grownBy.size hx39
                refine WL.vg rfl (congrArg some h36) rfl rfl (X.neq rfl rfl) ?_
                refine WL.va rfl rfl rfl (X.pickF rfl h36 rfl) ?_
                refine WL.va rfl rfl rfl (X.moveB rfl) ?_
                refine WL.split (j := 9) rfl (fun h41 => ?_) (fun h41 => ?_)
                · have gh41 := (of_decide_eq_true h41)
                  exact absurd (by rw [hA1]; rfl) gh41
                · have gh41 := (Decidable.of_not_not (of_decide_eq_false h41))
                  refine WL.vg rfl (congrArg some h41) rfl rfl (X.fieldAddrO (off := 1) rfl Try.underlying26 rfl rfl Try.sizeOf3) ?_
                  refine WL.vg rfl (congrArg some h41) rfl rfl (X.loadO hO6 hx39 rfl rfl Try.isAgg3) ?_
                  refine WL.vg rfl (congrArg some h41) rfl rfl (X.fieldAddrO (off := 1) ((hAL0.eq 2).trans (congrFun hF16 2)) Try.underlying26 rfl rfl Try.sizeOf3) ?_
                  refine WL.vg rfl (congrArg some h41) rfl rfl (X.loadO hO2 hx39 rfl rfl Try.isAgg3) ?_
                  refine WL.vg rfl (congrArg some h41) rfl rfl (X.add rfl rfl (w64 (by omega))) ?_
                  refine WL.vg rfl (congrArg some h41) rfl rfl (X.neq rfl rfl) ?_
                  refine WL.va rfl rfl rfl (X.pickF rfl h41 rfl) ?_
                  refine WL.va rfl rfl rfl (X.moveB rfl) ?_
                  refine WL.split (j := 17) rfl (fun h43 => ?_) (fun h43 => ?_)
                  · have gh43 := (of_decide_eq_true h43)
                    exact absurd hA4 gh43
                  · have gh43 := (Decidable.of_not_not (of_decide_eq_false h43))
                    refine WL.vg rfl (congrArg some h43) rfl rfl (X.fieldAddrO (off := 2) rfl Try.underlying26 rfl rfl Try.sizeOf24) ?_
                    refine WL.vg rfl (congrArg some h43) rfl rfl (X.fieldAddrP (off := 0) rfl Try.underlying24 rfl rfl Try.sizeOf3) ?_
                    refine WL.vg rfl (congrArg some h43) rfl rfl (X.loadO hO6 hx39 rfl rfl Try.isAgg3) ?_
                    refine WL.vg rfl (congrArg some h43) rfl rfl (X.fieldAddrO (off := 1) rfl Try.underlying26 rfl rfl Try.sizeOf3) ?_
                    refine WL.vg rfl (congrArg some h43) rfl rfl (X.loadO hO6 hx39 rfl rfl Try.isAgg3) ?_
                    refine WL.vg rfl (congrArg some h43) rfl rfl (X.neq rfl rfl) ?_
                    refine WL.va rfl rfl rfl (X.pickF rfl h43 rfl) ?_
                    refine WL.va rfl rfl rfl (X.moveB rfl) ?_
                    refine WL.split (j := 25) rfl (fun h45 => ?_) (fun h45 => ?_)
                    · have gh45 := (of_decide_eq_true h45)
                      exact absurd hA5 gh45
                    · have gh45 := (Decidable.of_not_not (of_decide_eq_false h45))
                      refine WL.vg rfl (congrArg some h45) rfl rfl (X.fieldAddrO (off := 0) rfl Try.underlying26 rfl rfl Try.sizeOf22) ?_
                      refine WL.vg rfl (congrArg some h45) rfl rfl (X.loadO hO6 hx39 rfl rfl Try.isAgg22) ?_
                      refine WL.vg rfl (congrArg some h45) rfl rfl (X.fieldAddrO (off := 0) ((hAL0.eq 2).trans (congrFun hF16 2)) Try.underlying26 rfl rfl Try.sizeOf22) ?_
                      refine WL.vg rfl (congrArg some h45) rfl rfl (X.loadO hO2 hx39 rfl rfl Try.isAgg22) ?_
                      refine WL.cg rfl (congrArg some h45) rfl rfl (X.call Try.call21 (evl_cons rfl (evl_cons rfl evl_nil))) (sameRanges_self (oxT.ext hx39).rd (on.ext hx39).rd hA6) ?_
                      rintro v47 w46 ⟨rfl, hx48⟩
                      have := World.grownBy.size hx48
                      refine WL.vg rfl (congrArg some h45) rfl rfl (X.not rfl) ?_
                      refine WL.va rfl rfl rfl (X.pickF rfl h45 rfl) ?_
                      refine WL.nil ?_
                      refine thn_n ?_
                      refine WF.cond_f rfl ?_
                      refine WF.skip ?_
                      refine thn_n ?_
                      refine WF.seq ?_
                      refine WF.region ?_
                      refine WL.va rfl rfl rfl (X.loadOA hO6 (Ext.trans hx39 hx48) rfl rfl Try.isAgg26 Try.sizeOf26) ?_
                      refine WL.op rfl (OW.storeOA (hO2.ext (Ext.trans hx39 hx48)) ((hAL0.eq 2).trans (congrFun hF16 2)) rfl rfl (Mp.c_one (oxT.ext (Ext.trans hx39 hx48)).rd _) Try.sizeOf26 ?_)
                      intro w51 hO2 hx53
                      have := World.grownBy.size hx53
                      replace on := (on.ext (Ext.trans hx39 hx48)).keptO hx53 (by omega)
                      replace oxT := (oxT.ext (Ext.trans hx39 hx48)).keptO hx53 (by omega)
                      replace hO6 := (hO6.ext (Ext.trans hx39 hx48)).keptO hx53 (by omega)
                      replace hO2 : Blk _ _ _ ((planM now (l[k]'hk)).1.c vx) := hO2
                      refine WL.nil ?_
                      refine thn_n ?_
                      refine WF.exit ?_
                      refine thn_x ?_
                      refine blk_eq ?_
                      refine thn_n ?_
                      refine WF.region ?_
                      refine WL.va rfl rfl rfl (X.moveI e5_L0) ?_
                      refine WL.va rfl rfl rfl (X.add rfl rfl (w64 (by omega))) ?_
                      refine WL.va rfl rfl rfl (X.assignI rfl) ?_
                      refine WL.nil ?_
                      first | exact thn_n ⟨_, (by omega), k + 1, (planM now (l[k]'hk)).1, vx, rfl, rfl, (by repeat (first | exact hAL0 | refine Agree.put ?_ rfl | refine Agree.named hF16 ?_)), (Ext.store (Ext.trans (Ext.trans (Ext.trans (Ext.trans (Ext.trans hwL0 (Ext.drew _)) hx24) (Ext.store hx27 hx31 (by omega))) hx39) hx48) hx53 (by omega)), ⟨by omega, hA1, hA2, hO2, RowN.own oxT (by omega) (by omega)⟩⟩ | exact thn_n ⟨_, (by omega), k + 1, now, vn, rfl, rfl, (by repeat (first | exact hAL0 | refine Agree.put ?_ rfl | refine Agree.named hF16 ?_)), (Ext.store (Ext.trans (Ext.trans (Ext.trans (Ext.trans (Ext.trans hwL0 (Ext.drew _)) hx24) (Ext.store hx27 hx31 (by omega))) hx39) hx48) hx53 (by omega)), ⟨by omega, hnc, hnE, hO2, on.up (by omega)⟩⟩
            · have gh2_33 := (of_decide_eq_false h2_33)
              refine WF.skip ?_
              refine thn_n ?_
              refine WF.seq ?_
              refine WF.region ?_
              refine WL.va rfl rfl rfl (X.loadOA hO2 (Ext.refl _) ((hAL0.eq 2).trans (congrFun hF16 2)) rfl Try.isAgg26 Try.sizeOf26) ?_
              refine WL.va rfl rfl rfl (X.fieldAddrO (off := 2) ((hAL0.eq 2).trans (congrFun hF16 2)) Try.underlying26 rfl rfl Try.sizeOf24) ?_
              refine WL.va rfl rfl rfl (X.fieldAddrP (off := 0) rfl Try.underlying24 rfl rfl Try.sizeOf3) ?_
              refine WL.va rfl rfl rfl (X.loadO hO2 (Ext.refl _) rfl rfl Try.isAgg3) ?_
              refine WL.c rfl rfl rfl (X.call Try.call17 (evl_cons rfl (evl_cons rfl evl_nil))) (doneC_ok now vn now.M.Epoch _ on.rd (Nat.le_trans (val_len hnc) (by decide))) ?_
              rintro v56 w55 ⟨⟨vu, md, cd, rfl, ou, hdp⟩, hx57⟩
              have := World.grownBy.size hx57
              have ouT := OwnT.of ou
              obtain ⟨hd0, hd1⟩ := done_next2 hnE hnc hdp
              refine WL.va rfl rfl rfl (X.move rfl) ?_
              refine WL.va rfl rfl rfl (X.extract rfl rfl) ?_
              refine WL.va rfl rfl rfl (X.extract rfl rfl) ?_
              refine WL.op rfl (OW.storeOA (hO6.ext hx57) rfl rfl rfl (Mp.c_one (Row.of_own ou) _) Try.sizeOf26 ?_)
              intro w58 hO6 hx60
              have := World.grownBy.size hx60
              replace hO2 := (hO2.ext hx57).keptO hx60 (by omega)
              replace on := (on.ext hx57).keptO hx60 (by omega)
              replace oxT := (oxT.ext hx57).keptO hx60 (by omega)
              replace ouT := ouT.keptO hx60 (by omega)
              replace hO6 : Blk _ _ _ (md.c vu) := hO6
              refine WL.va rfl rfl rfl (X.assignI rfl) ?_
              refine WL.nil ?_
              refine thn_n ?_
              refine WF.seq ?_
              refine WF.seq ?_
              refine WF.region ?_
              refine WL.va rfl rfl rfl (X.moveI rfl) ?_
              refine WL.va rfl rfl rfl (X.neq rfl rfl) ?_
              refine WL.nil ?_
              refine thn_n ?_
              refine WF.cond rfl (fun h4_62 => ?_) (fun h4_62 => ?_)
              · have gh4_62 := (of_decide_eq_true h4_62)
                have hcd : ¬ cd = 0 := gh4_62
                refine WF.seq ?_
                refine WF.seq ?_
                refine WF.region ?_
                refine WL.va rfl rfl rfl (X.fieldAddrO (off := 2) ((hAL0.eq 2).trans (congrFun hF16 2)) Try.underlying26 rfl rfl Try.sizeOf24) ?_
                refine WL.va rfl rfl rfl (X.loadOP hO2 (Ext.refl _) rfl rfl rfl Try.isAgg24 Try.sizeOf24) ?_
                refine WL.va rfl rfl rfl (X.buildL (P := Try.prog) (t := 24) (cs := (Mv.c Mv.zero)) evp_nil Try.type24 Try.underlying24 rfl rfl trivial rfl) ?_
                refine WL.va rfl rfl rfl (X.neqA (na := now.M.ints) (nb := Mv.zero.ints) flatM fieldsM offsM rfl rfl rfl rfl (Mv.eqB _ _)) ?_
                refine WL.nil ?_
                refine thn_n ?_
                refine WF.cond rfl (fun h5_65 => ?_) (fun h5_65 => ?_)
                · have gh5_65 := h5_65
                  rw [decide_eq_true (hd0 hcd)] at gh5_65; exact absurd gh5_65 (by decide)
                · have gh5_65 := h5_65
                  refine WF.skip ?_
                  refine thn_n ?_
                  refine WF.exit ?_
                  refine thn_x ?_
                  refine blk_eq ?_
                  refine thn_n ?_
                  refine WF.region ?_
                  refine WL.va rfl rfl rfl (X.moveI e5_L0) ?_
                  refine WL.va rfl rfl rfl (X.add rfl rfl (w64 (by omega))) ?_
                  refine WL.va rfl rfl rfl (X.assignI rfl) ?_
                  refine WL.nil ?_
                  first | exact thn_n ⟨_, (by omega), k + 1, md, vu, rfl, rfl, (by repeat (first | exact hAL0 | refine Agree.put ?_ rfl | refine Agree.named hF16 ?_)), (Ext.trans (Ext.trans (Ext.trans hwL0 (Ext.drew _)) hx24) (Ext.store (Ext.trans (Ext.store hx27 hx31 (by omega)) hx57) hx60 (by omega))), ⟨by omega, hB1, hB2 ▸ hnE, hO2, RowN.own ouT (by omega) (by omega)⟩⟩ | exact thn_n ⟨_, (by omega), k + 1, (planM now (l[k]'hk)).1, vx, rfl, rfl, (by repeat (first | exact hAL0 | refine Agree.put ?_ rfl | refine Agree.named hF16 ?_)), (Ext.trans (Ext.trans (Ext.trans hwL0 (Ext.drew _)) hx24) (Ext.store (Ext.trans (Ext.store hx27 hx31 (by omega)) hx57) hx60 (by omega))), ⟨by omega, hA1, hA2, hO2, RowN.own oxT (by omega) (by omega)⟩⟩ | exact thn_n ⟨_, (by omega), k + 1, now, vn, rfl, rfl, (by repeat (first | exact hAL0 | refine Agree.put ?_ rfl | refine Agree.named hF16 ?_)), (Ext.trans (Ext.trans (Ext.trans hwL0 (Ext.drew _)) hx24) (Ext.store (Ext.trans (Ext.store hx27 hx31 (by omega)) hx57) hx60 (by omega))), ⟨by omega, hnc, hnE, hO2, on.up (by omega)⟩⟩
              · have gh4_62 := (Decidable.of_not_not (of_decide_eq_false h4_62))
                have hcd : cd = 0 := gh4_62
                obtain ⟨hM, hB1, hB2, hB3, hL⟩ := hd1 hcd
                refine WF.skip ?_
                refine thn_n ?_
                refine WF.seq ?_
                refine WF.region ?_
                refine WL.va rfl rfl rfl (X.fieldAddrO (off := 2) ((hAL0.eq 2).trans (congrFun hF16 2)) Try.underlying26 rfl rfl Try.sizeOf24) ?_
                refine WL.va rfl rfl rfl (X.loadOP hO2 (Ext.refl _) rfl rfl rfl Try.isAgg24 Try.sizeOf24) ?_
                refine WL.op rfl (OW.allocO (cs := [i64 0, i64 0, i64 0, i64 0, i64 0]) Try.zeroValue24 rfl ?_ (by decide))
                intro g9 w67 heg9 hlg9 hO9 hx69
                have := World.grownBy.size hx69
                refine WL.op rfl (OW.storeOA hO9 rfl rfl rfl (Mv.c_one _) Try.sizeOf24 ?_)
                intro wX hO9 hx72
                have := World.grownBy.size hx72
                replace hO2 := (hO2.ext hx69).keptO hx72 (by omega)
                replace on := (on.ext hx69).keptO hx72 (by omega)
                replace oxT := (oxT.ext hx69).keptO hx72 (by omega)
                replace hO6 := (hO6.ext hx69).keptO hx72 (by omega)
                replace ouT := (ouT.ext hx69).keptO hx72 (by omega)
                refine WL.nil ?_
                refine thn_n ?_
                refine WF.seq ?_
                refine WF.seq ?_
                refine WF.region ?_
                refine WL.va rfl rfl rfl (X.loadOA hO6 (Ext.refl _) rfl rfl Try.isAgg26 Try.sizeOf26) ?_
                refine WL.c rfl rfl rfl (X.call Try.call11 (evl_cons rfl evl_nil)) (checkC_ok md vu _ ouT.rd (hB2 ▸ hnE)) ?_
                rintro v75 w74 ⟨rfl, hx76⟩
                have := World.grownBy.size hx76
                refine WL.va rfl rfl rfl (X.neq rfl rfl) ?_
                refine WL.va rfl rfl rfl (X.moveB rfl) ?_
                refine WL.split (j := 3) rfl (fun h78 => ?_) (fun h78 => ?_)
                · have gh78 := (of_decide_eq_true h78)
                  exact absurd (by rw [hB1]; rfl) gh78
                · have gh78 := (Decidable.of_not_not (of_decide_eq_false h78))
                  refine WL.vg rfl (congrArg some h78) rfl rfl (X.fieldAddrO (off := 1) rfl Try.underlying26 rfl rfl Try.sizeOf3) ?_
                  refine WL.vg rfl (congrArg some h78) rfl rfl (X.loadO hO6 hx76 rfl rfl Try.isAgg3) ?_
                  refine WL.vg rfl (congrArg some h78) rfl rfl (X.fieldAddrO (off := 1) ((hAL0.eq 2).trans (congrFun hF16 2)) Try.underlying26 rfl rfl Try.sizeOf3) ?_
                  refine WL.vg rfl (congrArg some h78) rfl rfl (X.loadO hO2 hx76 rfl rfl Try.isAgg3) ?_
                  refine WL.vg rfl (congrArg some h78) rfl rfl (X.neq rfl rfl) ?_
                  refine WL.va rfl rfl rfl (X.pickF rfl h78 rfl) ?_
                  refine WL.va rfl rfl rfl (X.moveB rfl) ?_
                  refine WL.split (j := 10) rfl (fun h80 => ?_) (fun h80 => ?_)
                  · have gh80 := (of_decide_eq_true h80)
                    exact absurd hB2 gh80
                  · have gh80 := (Decidable.of_not_not (of_decide_eq_false h80))
                    refine WL.vg rfl (congrArg some h80) rfl rfl (X.fieldAddrO (off := 2) rfl Try.underlying26 rfl rfl Try.sizeOf24) ?_
                    refine WL.vg rfl (congrArg some h80) rfl rfl (X.loadOP hO6 hx76 rfl rfl rfl Try.isAgg24 Try.sizeOf24) ?_
                    refine WL.vg rfl (congrArg some h80) rfl rfl (X.buildL (P := Try.prog) (t := 24) (cs := (Mv.c Mv.zero)) evp_nil Try.type24 Try.underlying24 rfl rfl trivial rfl) ?_
                    refine WL.vg rfl (congrArg some h80) rfl rfl (X.neqA (na := md.M.ints) (nb := Mv.zero.ints) flatM fieldsM offsM rfl rfl rfl rfl (Mv.eqB _ _)) ?_
                    refine WL.va rfl rfl rfl (X.pickF rfl h80 rfl) ?_
                    refine WL.nil ?_
                    refine thn_n ?_
                    refine WF.cond rfl (fun h6_81 => ?_) (fun h6_81 => ?_)
                    · have gh6_81 := h6_81
                      rw [decide_eq_true hB3] at gh6_81; exact absurd gh6_81 (by decide)
                    · have gh6_81 := h6_81
                      refine WF.skip ?_
                      refine thn_n ?_
                      refine WF.seq ?_
                      refine WF.seq ?_
                      refine WF.region ?_
                      refine WL.va rfl rfl rfl (X.assignI rfl) ?_
                      refine WL.nil ?_
                      refine thn_n ?_
                      refine WF.block ?_
                      refine WF.named (fun F83 hF84 => ?_)
                      refine WF.loopN (fun mL1 f' w' => ∃ (n : Nat), mL1 = 64 - n ∧ f' 10 = .int .i64 (n : Int) ∧ Agree [0, 1, 2, 5, 6, 7, 8, 9, 16, 17, 18, 20, 21, 22, 23, 24, 25, 26, 27, 30, 31, 32, 33, 34, 35, 36, 37, 38, 39, 40, 75, 76, 77, 78, 79, 80, 81, 82, 83, 84, 89, 90, 91, 92, 93, 94, 95, 96, 97, 98, 99, 100, 101, 102, 103, 104, 105, 106] f' F83 ∧ Ext wX w' ∧ n ≤ 64) ?_ ?_
                      · exact ⟨_, 0, rfl, (congrFun hF84 10), (Agree.refl _ _), hx76, (by omega)⟩
                      · rintro mL1 fL1 wL1 ⟨n, hmL1, e10_L1, hAL1, hwL1, hn0⟩
                        have := World.grownBy.size hwL1
                        refine WF.seq ?_
                        refine WF.seq ?_
                        refine WF.region ?_
                        refine WL.va rfl rfl rfl (X.moveI e10_L1) ?_
                        refine WL.va rfl rfl rfl (X.lss rfl rfl) ?_
                        refine WL.nil ?_
                        refine thn_n ?_
                        refine WF.cond rfl (fun h7_85 => ?_) (fun h7_85 => ?_)
                        · have gh7_85 := (of_decide_eq_true h7_85)
                          obtain ⟨was, rn, hat⟩ := moved_at hM hL (n := (n : Int)) (by omega) (by omega)
                          refine WF.skip ?_
                          refine thn_n ?_
                          refine WF.seq ?_
                          refine WF.block ?_
                          refine WF.seq ?_
                          refine WF.region ?_
                          refine WL.va rfl rfl rfl (X.loadOA hO2 hwL1 ((hAL1.eq 2).trans ((congrFun hF84 2).trans ((hAL0.eq 2).trans (congrFun hF16 2)))) rfl Try.isAgg26 Try.sizeOf26) ?_
                          refine WL.va rfl rfl rfl (X.moveI e10_L1) ?_
                          refine WL.c rfl rfl rfl (X.call Try.call22 (evl_cons rfl (evl_cons rfl evl_nil))) (whose_ok now vn _ was _ (on.ext hwL1).rd hat.hwas) ?_
                          rintro v88 w87 ⟨rfl, hx89⟩
                          have := World.grownBy.size hx89
                          refine WL.va rfl rfl rfl (X.assignI rfl) ?_
                          refine WL.nil ?_
                          refine thn_n ?_
                          refine WF.named (fun F90 hF91 => ?_)
                          refine WF.cut (fun f' w' => f' 11 = i64 rn.Group ∧ Agree [0, 1, 2, 5, 6, 7, 8, 9, 10, 16, 17, 18, 20, 21, 22, 23, 24, 25, 26, 27, 30, 31, 32, 33, 34, 35, 36, 37, 38, 39, 40, 75, 76, 77, 78, 79, 80, 81, 82, 83, 84, 89, 90, 91, 92, 93, 94, 95, 96, 97, 98, 99, 100, 101, 102, 103, 104, 105, 106, 107, 108, 111, 112, 113] f' F90 ∧ w87 = w') ?_ ?_
                          · refine WF.seq ?_
                            refine WF.region ?_
                            refine WL.va rfl rfl rfl (X.moveI ((congrFun hF91 10).trans e10_L1)) ?_
                            refine WL.va rfl rfl rfl (X.fieldAddrO (off := 3) ((congrFun hF91 9).trans ((hAL1.eq 9).trans (congrFun hF84 9))) Try.underlying24 rfl rfl Try.sizeOf3) ?_
                            refine WL.va rfl rfl rfl (X.loadO hO9 (Ext.trans hwL1 hx89) rfl rfl Try.isAgg3) ?_
                            refine WL.va rfl rfl rfl (X.geq rfl rfl) ?_
                            refine WL.va rfl rfl rfl (X.moveB rfl) ?_
                            refine WL.split (j := 4) rfl (fun h93 => ?_) (fun h93 => ?_)
                            · have gh93 := (of_decide_eq_true h93)
                              have q1 : now.M.Lo ≤ (n : Int) := gh93
                              refine WL.vg rfl (congrArg some h93) rfl rfl (X.moveI ((congrFun hF91 10).trans e10_L1)) ?_
                              refine WL.vg rfl (congrArg some h93) rfl rfl (X.fieldAddrO (off := 4) ((congrFun hF91 9).trans ((hAL1.eq 9).trans (congrFun hF84 9))) Try.underlying24 rfl rfl Try.sizeOf3) ?_
                              refine WL.vg rfl (congrArg some h93) rfl rfl (X.loadO hO9 (Ext.trans hwL1 hx89) rfl rfl Try.isAgg3) ?_
                              refine WL.vg rfl (congrArg some h93) rfl rfl (X.lss rfl rfl) ?_
                              refine WL.va rfl rfl rfl (X.pickT rfl h93 rfl) ?_
                              refine WL.nil ?_
                              refine thn_n ?_
                              refine WF.cond rfl (fun h8_94 => ?_) (fun h8_94 => ?_)
                              · have gh8_94 := (of_decide_eq_true h8_94)
                                have q2 : (n : Int) < now.M.Hi := gh8_94
                                have hgr : now.M.To = rn.Group := (hat.to q1 q2).symm
                                refine WF.seq ?_
                                refine WF.seq ?_
                                refine WF.region ?_
                                refine WL.va rfl rfl rfl (X.moveI (congrFun hF91 11)) ?_
                                refine WL.va rfl rfl rfl (X.fieldAddrO (off := 1) ((congrFun hF91 9).trans ((hAL1.eq 9).trans (congrFun hF84 9))) Try.underlying24 rfl rfl Try.sizeOf3) ?_
                                refine WL.va rfl rfl rfl (X.loadO hO9 (Ext.trans hwL1 hx89) rfl rfl Try.isAgg3) ?_
                                refine WL.va rfl rfl rfl (X.neq rfl rfl) ?_
                                refine WL.nil ?_
                                refine thn_n ?_
                                refine WF.cond rfl (fun h9_96 => ?_) (fun h9_96 => ?_)
                                · have gh9_96 := (of_decide_eq_true h9_96)
                                  exact absurd (hat.from_ q1 q2) gh9_96
                                · have gh9_96 := (Decidable.of_not_not (of_decide_eq_false h9_96))
                                  refine WF.skip ?_
                                  refine thn_n ?_
                                  refine WF.region ?_
                                  refine WL.va rfl rfl rfl (X.fieldAddrO (off := 2) ((congrFun hF91 9).trans ((hAL1.eq 9).trans (congrFun hF84 9))) Try.underlying24 rfl rfl Try.sizeOf3) ?_
                                  refine WL.va rfl rfl rfl (X.loadO hO9 (Ext.trans hwL1 hx89) rfl rfl Try.isAgg3) ?_
                                  refine WL.va rfl rfl rfl (X.assignI rfl) ?_
                                  refine WL.nil ?_
                                  refine thn_n ?_
                                  exact ⟨(Eq.trans rfl (congrArg i64 hgr)), (by repeat (first | exact (Agree.refl _ F90) | refine Agree.put ?_ rfl | refine Agree.sub hAL1 rfl ?_ | refine Agree.sub hAL0 rfl ?_ | refine Agree.named hF91 ?_ | refine Agree.named hF84 ?_ | refine Agree.named hF16 ?_)), rfl⟩
                              · have gh8_94 := (of_decide_eq_false h8_94)
                                have hgr : was.Group = rn.Group := (hat.stay (fun e => gh8_94 e.2)).symm
                                refine WF.skip ?_
                                refine thn_n ?_
                                exact ⟨(Eq.trans (congrFun hF91 11) (congrArg i64 hgr)), (by repeat (first | exact (Agree.refl _ F90) | refine Agree.put ?_ rfl | refine Agree.sub hAL1 rfl ?_ | refine Agree.sub hAL0 rfl ?_ | refine Agree.named hF91 ?_ | refine Agree.named hF84 ?_ | refine Agree.named hF16 ?_)), rfl⟩
                            · have gh93 := (of_decide_eq_false h93)
                              have q1 : ¬ now.M.Lo ≤ (n : Int) := gh93
                              have hgr : was.Group = rn.Group := (hat.stay (fun e => q1 e.1)).symm
                              refine WL.p rfl rfl rfl (congrArg some h93) ?_
                              refine WL.p rfl rfl rfl (congrArg some h93) ?_
                              refine WL.p rfl rfl rfl (congrArg some h93) ?_
                              refine WL.p rfl rfl rfl (congrArg some h93) ?_
                              refine WL.va rfl rfl rfl (X.pickF rfl h93 rfl) ?_
                              refine WL.nil ?_
                              refine thn_n ?_
                              refine WF.cond_f rfl ?_
                              refine WF.skip ?_
                              refine thn_n ?_
                              exact ⟨(Eq.trans (congrFun hF91 11) (congrArg i64 hgr)), (by repeat (first | exact (Agree.refl _ F90) | refine Agree.put ?_ rfl | refine Agree.sub hAL1 rfl ?_ | refine Agree.sub hAL0 rfl ?_ | refine Agree.named hF91 ?_ | refine Agree.named hF84 ?_ | refine Agree.named hF16 ?_)), rfl⟩
                          · rintro fCs22 wCs22 ⟨e11_Cs22, hACs22, rfl⟩
                            refine WF.seq ?_
                            refine WF.region ?_
                            refine WL.va rfl rfl rfl (X.loadOA hO6 (Ext.trans hwL1 hx89) ((hACs22.eq 6).trans ((congrFun hF91 6).trans ((hAL1.eq 6).trans (congrFun hF84 6)))) rfl Try.isAgg26 Try.sizeOf26) ?_
                            refine WL.va rfl rfl rfl (X.moveI ((hACs22.eq 10).trans ((congrFun hF91 10).trans e10_L1))) ?_
                            refine WL.c rfl rfl rfl (X.call Try.call23 (evl_cons rfl (evl_cons rfl evl_nil))) (findS_ok _ (ouT.ext (Ext.trans hwL1 hx89)).rd hat.hnow) ?_
                            rintro v100 w99 ⟨rfl, hx101⟩
                            have := World.grownBy.size hx101
                            refine WL.va rfl rfl rfl (X.move rfl) ?_
                            refine WL.va rfl rfl rfl (X.extract rfl rfl) ?_
                            refine WL.va rfl rfl rfl (X.extract rfl rfl) ?_
                            refine WL.op rfl (OW.allocO (cs := [i64 0, i64 0, i64 0, i64 0]) Try.zeroValue41 rfl ?_ (by decide))
                            intro g12 w103 heg12 hlg12 hO12 hx105
                            have := World.grownBy.size hx105
                            refine WL.op rfl (OW.storeOA hO12 rfl rfl rfl (Rg.c_one _) Try.sizeOf41 ?_)
                            intro w107 hO12 hx109
                            have := World.grownBy.size hx109
                            replace hO2 := (hO2.ext (Ext.trans (Ext.trans (Ext.trans hwL1 hx89) hx101) hx105)).keptO hx109 (by omega)
                            replace on := (on.ext (Ext.trans (Ext.trans (Ext.trans hwL1 hx89) hx101) hx105)).keptO hx109 (by omega)
                            replace oxT := (oxT.ext (Ext.trans (Ext.trans (Ext.trans hwL1 hx89) hx101) hx105)).keptO hx109 (by omega)
                            replace hO6 := (hO6.ext (Ext.trans (Ext.trans (Ext.trans hwL1 hx89) hx101) hx105)).keptO hx109 (by omega)
                            replace ouT := (ouT.ext (Ext.trans (Ext.trans (Ext.trans hwL1 hx89) hx101) hx105)).keptO hx109 (by omega)
                            replace hO9 := (hO9.ext (Ext.trans (Ext.trans (Ext.trans hwL1 hx89) hx101) hx105)).keptO hx109 (by omega)
                            refine WL.va rfl rfl rfl (X.assignB rfl) ?_
                            refine WL.nil ?_
                            refine thn_n ?_
                            refine WF.seq ?_
                            refine WF.region ?_
                            refine WL.va rfl rfl rfl (X.loadOA hO2 (Ext.refl _) ((hACs22.eq 2).trans ((congrFun hF91 2).trans ((hAL1.eq 2).trans ((congrFun hF84 2).trans ((hAL0.eq 2).trans (congrFun hF16 2)))))) rfl Try.isAgg26 Try.sizeOf26) ?_
                            refine WL.va rfl rfl rfl (X.moveI ((hACs22.eq 10).trans ((congrFun hF91 10).trans e10_L1))) ?_
                            refine WL.c rfl rfl rfl (X.call Try.call23 (evl_cons rfl (evl_cons rfl evl_nil))) (findS_ok _ on.rd hat.hwas) ?_
                            rintro v112 w111 ⟨rfl, hx113⟩
                            have := World.grownBy.size hx113
                            refine WL.va rfl rfl rfl (X.move rfl) ?_
                            refine WL.va rfl rfl rfl (X.extract rfl rfl) ?_
                            refine WL.va rfl rfl rfl (X.extract rfl rfl) ?_
                            refine WL.op rfl (OW.allocO (cs := [i64 0, i64 0, i64 0, i64 0]) Try.zeroValue41 rfl ?_ (by decide))
                            intro g14 w115 heg14 hlg14 hO14 hx117
                            have := World.grownBy.size hx117
                            refine WL.op rfl (OW.storeOA hO14 rfl rfl rfl (Rg.c_one _) Try.sizeOf41 ?_)
                            intro w119 hO14 hx121
                            have := World.grownBy.size hx121
                            replace hO2 := (hO2.ext (Ext.trans hx113 hx117)).keptO hx121 (by omega)
                            replace on := (on.ext (Ext.trans hx113 hx117)).keptO hx121 (by omega)
                            replace oxT := (oxT.ext (Ext.trans hx113 hx117)).keptO hx121 (by omega)
                            replace hO6 := (hO6.ext (Ext.trans hx113 hx117)).keptO hx121 (by omega)
                            replace ouT := (ouT.ext (Ext.trans hx113 hx117)).keptO hx121 (by omega)
                            replace hO9 := (hO9.ext (Ext.trans hx113 hx117)).keptO hx121 (by omega)
                            replace hO12 := (hO12.ext (Ext.trans hx113 hx117)).keptO hx121 (by omega)
                            refine WL.va rfl rfl rfl (X.assignB rfl) ?_
                            refine WL.nil ?_
                            refine thn_n ?_
                            refine WF.seq ?_
                            refine WF.region ?_
                            refine WL.va rfl rfl rfl (X.moveB rfl) ?_
                            refine WL.va rfl rfl rfl (X.not rfl) ?_
                            refine WL.va rfl rfl rfl (X.moveB rfl) ?_
                            refine WL.split (j := 2) rfl (fun h124 => ?_) (fun h124 => ?_)
                            · have gh124 := (nt h124)
                              cases gh124
                            · have gh124 := (nf h124)
                              refine WL.vg rfl (congrArg some h124) rfl rfl (X.loadOA hO6 (Ext.refl _) ((hACs22.eq 6).trans ((congrFun hF91 6).trans ((hAL1.eq 6).trans (congrFun hF84 6)))) rfl Try.isAgg26 Try.sizeOf26) ?_
                              refine WL.vg rfl (congrArg some h124) rfl rfl (X.moveI ((hACs22.eq 10).trans ((congrFun hF91 10).trans e10_L1))) ?_
                              refine WL.cg rfl (congrArg some h124) rfl rfl (X.call Try.call24 (evl_cons rfl (evl_cons rfl evl_nil))) (onceS_ok ouT.rd hat.honce) ?_
                              rintro v126 w125 ⟨rfl, hx127⟩
                              have := World.grownBy.size hx127
                              refine WL.vg rfl (congrArg some h124) rfl rfl (X.neq rfl rfl) ?_
                              refine WL.va rfl rfl rfl (X.pickF rfl h124 rfl) ?_
                              refine WL.va rfl rfl rfl (X.moveB rfl) ?_
                              refine WL.vg rfl rfl rfl rfl (X.loadOA hO6 hx127 ((hACs22.eq 6).trans ((congrFun hF91 6).trans ((hAL1.eq 6).trans (congrFun hF84 6)))) rfl Try.isAgg26 Try.sizeOf26) ?_
                              refine WL.vg rfl rfl rfl rfl (X.moveI ((hACs22.eq 10).trans ((congrFun hF91 10).trans e10_L1))) ?_
                              refine WL.cg rfl rfl rfl rfl (X.call Try.call22 (evl_cons rfl (evl_cons rfl evl_nil))) (whose_ok md vu _ rn _ (ouT.ext hx127).rd hat.hnow) ?_
                              rintro v130 w129 ⟨rfl, hx131⟩
                              have := World.grownBy.size hx131
                              refine WL.vg rfl rfl rfl rfl (X.moveI e11_Cs22) ?_
                              refine WL.vg rfl rfl rfl rfl (X.neq rfl rfl) ?_
                              refine WL.va rfl rfl rfl (X.pickF rfl rfl rfl) ?_
                              refine WL.va rfl rfl rfl (X.moveB rfl) ?_
                              refine WL.split (j := 15) rfl (fun h133 => ?_) (fun h133 => ?_)
                              · have gh133 := (of_decide_eq_true h133)
                                exact absurd rfl gh133
                              · have gh133 := (Decidable.of_not_not (of_decide_eq_false h133))
                                refine WL.vg rfl (congrArg some h133) rfl rfl (X.loadOA hO12 (Ext.trans hx127 hx131) rfl rfl Try.isAgg41 Try.sizeOf41) ?_
                                refine WL.vg rfl (congrArg some h133) rfl rfl (X.loadOA hO14 (Ext.trans hx127 hx131) rfl rfl Try.isAgg41 Try.sizeOf41) ?_
                                refine WL.vg rfl (congrArg some h133) rfl rfl (X.neqA (na := rn.ints) (nb := was.ints) flatR fieldsR offsR rfl rfl rfl rfl (Rg.eqB _ _)) ?_
                                refine WL.vg rfl (congrArg some h133) rfl rfl (X.moveB rfl) ?_
                                refine WL.split (j := 19) rfl (fun h135 => ?_) (fun h135 => ?_)
                                · have gh135 := h135
                                  have hne : rn ≠ was := by simpa using gh135
                                  refine WL.vg rfl (congrArg some h135) rfl rfl (X.fieldAddrO (off := 3) rfl Try.underlying41 rfl rfl Try.sizeOf3) ?_
                                  refine WL.vg rfl (congrArg some h135) rfl rfl (X.loadO hO12 (Ext.trans hx127 hx131) rfl rfl Try.isAgg3) ?_
                                  refine WL.vg rfl (congrArg some h135) rfl rfl (X.fieldAddrO (off := 0) ((hACs22.eq 9).trans ((congrFun hF91 9).trans ((hAL1.eq 9).trans (congrFun hF84 9)))) Try.underlying24 rfl rfl Try.sizeOf3) ?_
                                  refine WL.vg rfl (congrArg some h135) rfl rfl (X.loadO hO9 (Ext.trans hx127 hx131) rfl rfl Try.isAgg3) ?_
                                  refine WL.vg rfl (congrArg some h135) rfl rfl (X.neq rfl rfl) ?_
                                  refine WL.vg rfl (congrArg some h133) rfl rfl (X.pickT rfl h135 rfl) ?_
                                  refine WL.va rfl rfl rfl (X.pickF rfl h133 rfl) ?_
                                  refine WL.va rfl rfl rfl (X.moveB rfl) ?_
                                  refine WL.split (j := 27) rfl (fun h137 => ?_) (fun h137 => ?_)
                                  · have gh137 := (of_decide_eq_true h137)
                                    exact absurd (hat.new hne) gh137
                                  · have gh137 := (Decidable.of_not_not (of_decide_eq_false h137))
                                    refine WL.vg rfl (congrArg some h137) rfl rfl (X.loadOA hO12 (Ext.trans hx127 hx131) rfl rfl Try.isAgg41 Try.sizeOf41) ?_
                                    refine WL.vg rfl (congrArg some h137) rfl rfl (X.loadOA hO14 (Ext.trans hx127 hx131) rfl rfl Try.isAgg41 Try.sizeOf41) ?_
                                    refine WL.vg rfl (congrArg some h137) rfl rfl (X.eqlA (na := rn.ints) (nb := was.ints) flatR fieldsR offsR rfl rfl rfl rfl (Rg.eqB _ _)) ?_
                                    refine WL.vg rfl (congrArg some h137) rfl rfl (X.moveB rfl) ?_
                                    refine WL.split (j := 31) rfl (fun h139 => ?_) (fun h139 => ?_)
                                    · have gh139 := h139
                                      have heq2 : rn = was := of_decide_eq_true gh139
                                      refine WL.vg rfl (congrArg some h139) rfl rfl (X.moveI e11_Cs22) ?_
                                      refine WL.vg rfl (congrArg some h139) rfl rfl (X.fieldAddrO (off := 1) ((hACs22.eq 9).trans ((congrFun hF91 9).trans ((hAL1.eq 9).trans (congrFun hF84 9)))) Try.underlying24 rfl rfl Try.sizeOf3) ?_
                                      refine WL.vg rfl (congrArg some h139) rfl rfl (X.loadO hO9 (Ext.trans hx127 hx131) rfl rfl Try.isAgg3) ?_
                                      refine WL.vg rfl (congrArg some h139) rfl rfl (X.eql rfl rfl) ?_
                                      refine WL.vg rfl (congrArg some h139) rfl rfl (X.moveB rfl) ?_
                                      refine WL.split (j := 36) rfl (fun h141 => ?_) (fun h141 => ?_)
                                      · have gh141 := (of_decide_eq_true h141)
                                        exact absurd gh141 (hat.old heq2).1
                                      · have gh141 := (of_decide_eq_false h141)
                                        refine WL.vg rfl (congrArg some h141) rfl rfl (X.moveI e11_Cs22) ?_
                                        refine WL.vg rfl (congrArg some h141) rfl rfl (X.fieldAddrO (off := 2) ((hACs22.eq 9).trans ((congrFun hF91 9).trans ((hAL1.eq 9).trans (congrFun hF84 9)))) Try.underlying24 rfl rfl Try.sizeOf3) ?_
                                        refine WL.vg rfl (congrArg some h141) rfl rfl (X.loadO hO9 (Ext.trans hx127 hx131) rfl rfl Try.isAgg3) ?_
                                        refine WL.vg rfl (congrArg some h141) rfl rfl (X.eql rfl rfl) ?_
                                        refine WL.vg rfl (congrArg some h139) rfl rfl (X.pickF rfl h141 rfl) ?_
                                        refine WL.vg rfl (congrArg some h137) rfl rfl (X.pickT rfl h139 rfl) ?_
                                        refine WL.va rfl rfl rfl (X.pickF rfl h137 rfl) ?_
                                        refine WL.nil ?_
                                        refine thn_n ?_
                                        refine WF.cond rfl (fun h10_142 => ?_) (fun h10_142 => ?_)
                                        · have gh10_142 := (of_decide_eq_true h10_142)
                                          exact absurd gh10_142 (hat.old heq2).2
                                        · have gh10_142 := (of_decide_eq_false h10_142)
                                          refine WF.skip ?_
                                          refine blk_n ?_
                                          refine thn_n ?_
                                          refine WF.region ?_
                                          refine WL.va rfl rfl rfl (X.moveI ((hACs22.eq 10).trans ((congrFun hF91 10).trans e10_L1))) ?_
                                          refine WL.va rfl rfl rfl (X.add rfl rfl (w64 (by omega))) ?_
                                          refine WL.va rfl rfl rfl (X.assignI rfl) ?_
                                          refine WL.nil ?_
                                          exact thn_n ⟨_, (by omega), n + 1, rfl, rfl, (by repeat (first | exact hAL1 | refine Agree.put ?_ rfl | refine Agree.sub hACs22 rfl ?_ | refine Agree.sub hAL0 rfl ?_ | refine Agree.named hF91 ?_ | refine Agree.named hF84 ?_ | refine Agree.named hF16 ?_)), (Ext.trans (Ext.trans (Ext.trans (Ext.trans (Ext.trans (Ext.trans (Ext.trans hwL1 hx89) hx101) (Ext.store hx105 hx109 (by omega))) hx113) (Ext.store hx117 hx121 (by omega))) hx127) hx131), (by omega)⟩
                                    · have gh139 := h139
                                      refine WL.p rfl rfl rfl (congrArg some h139) ?_
                                      refine WL.p rfl rfl rfl (congrArg some h139) ?_
                                      refine WL.p rfl rfl rfl (congrArg some h139) ?_
                                      refine WL.p rfl rfl rfl (congrArg some h139) ?_
                                      refine WL.p rfl rfl rfl (congrArg some h139) ?_
                                      refine WL.pn rfl rfl rfl rfl ?_
                                      refine WL.pn rfl rfl rfl rfl ?_
                                      refine WL.pn rfl rfl rfl rfl ?_
                                      refine WL.pn rfl rfl rfl rfl ?_
                                      refine WL.p rfl rfl rfl (congrArg some h139) ?_
                                      refine WL.vg rfl (congrArg some h137) rfl rfl (X.pickF rfl h139 rfl) ?_
                                      refine WL.va rfl rfl rfl (X.pickF rfl h137 rfl) ?_
                                      refine WL.nil ?_
                                      refine thn_n ?_
                                      refine WF.cond_f rfl ?_
                                      refine WF.skip ?_
                                      refine blk_n ?_
                                      refine thn_n ?_
                                      refine WF.region ?_
                                      refine WL.va rfl rfl rfl (X.moveI ((hACs22.eq 10).trans ((congrFun hF91 10).trans e10_L1))) ?_
                                      refine WL.va rfl rfl rfl (X.add rfl rfl (w64 (by omega))) ?_
                                      refine WL.va rfl rfl rfl (X.assignI rfl) ?_
                                      refine WL.nil ?_
                                      exact thn_n ⟨_, (by omega), n + 1, rfl, rfl, (by repeat (first | exact hAL1 | refine Agree.put ?_ rfl | refine Agree.sub hACs22 rfl ?_ | refine Agree.sub hAL0 rfl ?_ | refine Agree.named hF91 ?_ | refine Agree.named hF84 ?_ | refine Agree.named hF16 ?_)), (Ext.trans (Ext.trans (Ext.trans (Ext.trans (Ext.trans (Ext.trans (Ext.trans hwL1 hx89) hx101) (Ext.store hx105 hx109 (by omega))) hx113) (Ext.store hx117 hx121 (by omega))) hx127) hx131), (by omega)⟩
                                · have gh135 := h135
                                  refine WL.p rfl rfl rfl (congrArg some h135) ?_
                                  refine WL.p rfl rfl rfl (congrArg some h135) ?_
                                  refine WL.p rfl rfl rfl (congrArg some h135) ?_
                                  refine WL.p rfl rfl rfl (congrArg some h135) ?_
                                  refine WL.p rfl rfl rfl (congrArg some h135) ?_
                                  refine WL.vg rfl (congrArg some h133) rfl rfl (X.pickF rfl h135 rfl) ?_
                                  refine WL.va rfl rfl rfl (X.pickF rfl h133 rfl) ?_
                                  refine WL.va rfl rfl rfl (X.moveB rfl) ?_
                                  refine WL.vg rfl rfl rfl rfl (X.loadOA hO12 (Ext.trans hx127 hx131) rfl rfl Try.isAgg41 Try.sizeOf41) ?_
                                  refine WL.vg rfl rfl rfl rfl (X.loadOA hO14 (Ext.trans hx127 hx131) rfl rfl Try.isAgg41 Try.sizeOf41) ?_
                                  refine WL.vg rfl rfl rfl rfl (X.eqlA (na := rn.ints) (nb := was.ints) flatR fieldsR offsR rfl rfl rfl rfl (Rg.eqB _ _)) ?_
                                  refine WL.vg rfl rfl rfl rfl (X.moveB rfl) ?_
                                  refine WL.split (j := 31) rfl (fun h147 => ?_) (fun h147 => ?_)
                                  · have gh147 := h147
                                    have heq2 : rn = was := of_decide_eq_true gh147
                                    refine WL.vg rfl (congrArg some h147) rfl rfl (X.moveI e11_Cs22) ?_
                                    refine WL.vg rfl (congrArg some h147) rfl rfl (X.fieldAddrO (off := 1) ((hACs22.eq 9).trans ((congrFun hF91 9).trans ((hAL1.eq 9).trans (congrFun hF84 9)))) Try.underlying24 rfl rfl Try.sizeOf3) ?_
                                    refine WL.vg rfl (congrArg some h147) rfl rfl (X.loadO hO9 (Ext.trans hx127 hx131) rfl rfl Try.isAgg3) ?_
                                    refine WL.vg rfl (congrArg some h147) rfl rfl (X.eql rfl rfl) ?_
                                    refine WL.vg rfl (congrArg some h147) rfl rfl (X.moveB rfl) ?_
                                    refine WL.split (j := 36) rfl (fun h149 => ?_) (fun h149 => ?_)
                                    · have gh149 := (of_decide_eq_true h149)
                                      exact absurd gh149 (hat.old heq2).1
                                    · have gh149 := (of_decide_eq_false h149)
                                      refine WL.vg rfl (congrArg some h149) rfl rfl (X.moveI e11_Cs22) ?_
                                      refine WL.vg rfl (congrArg some h149) rfl rfl (X.fieldAddrO (off := 2) ((hACs22.eq 9).trans ((congrFun hF91 9).trans ((hAL1.eq 9).trans (congrFun hF84 9)))) Try.underlying24 rfl rfl Try.sizeOf3) ?_
                                      refine WL.vg rfl (congrArg some h149) rfl rfl (X.loadO hO9 (Ext.trans hx127 hx131) rfl rfl Try.isAgg3) ?_
                                      refine WL.vg rfl (congrArg some h149) rfl rfl (X.eql rfl rfl) ?_
                                      refine WL.vg rfl (congrArg some h147) rfl rfl (X.pickF rfl h149 rfl) ?_
                                      refine WL.vg rfl rfl rfl rfl (X.pickT rfl h147 rfl) ?_
                                      refine WL.va rfl rfl rfl (X.pickF rfl rfl rfl) ?_
                                      refine WL.nil ?_
                                      refine thn_n ?_
                                      refine WF.cond rfl (fun h10_150 => ?_) (fun h10_150 => ?_)
                                      · have gh10_150 := (of_decide_eq_true h10_150)
                                        exact absurd gh10_150 (hat.old heq2).2
                                      · have gh10_150 := (of_decide_eq_false h10_150)
                                        refine WF.skip ?_
                                        refine blk_n ?_
                                        refine thn_n ?_
                                        refine WF.region ?_
                                        refine WL.va rfl rfl rfl (X.moveI ((hACs22.eq 10).trans ((congrFun hF91 10).trans e10_L1))) ?_
                                        refine WL.va rfl rfl rfl (X.add rfl rfl (w64 (by omega))) ?_
                                        refine WL.va rfl rfl rfl (X.assignI rfl) ?_
                                        refine WL.nil ?_
                                        exact thn_n ⟨_, (by omega), n + 1, rfl, rfl, (by repeat (first | exact hAL1 | refine Agree.put ?_ rfl | refine Agree.sub hACs22 rfl ?_ | refine Agree.sub hAL0 rfl ?_ | refine Agree.named hF91 ?_ | refine Agree.named hF84 ?_ | refine Agree.named hF16 ?_)), (Ext.trans (Ext.trans (Ext.trans (Ext.trans (Ext.trans (Ext.trans (Ext.trans hwL1 hx89) hx101) (Ext.store hx105 hx109 (by omega))) hx113) (Ext.store hx117 hx121 (by omega))) hx127) hx131), (by omega)⟩
                                  · have gh147 := h147
                                    refine WL.p rfl rfl rfl (congrArg some h147) ?_
                                    refine WL.p rfl rfl rfl (congrArg some h147) ?_
                                    refine WL.p rfl rfl rfl (congrArg some h147) ?_
                                    refine WL.p rfl rfl rfl (congrArg some h147) ?_
                                    refine WL.p rfl rfl rfl (congrArg some h147) ?_
                                    refine WL.pn rfl rfl rfl rfl ?_
                                    refine WL.pn rfl rfl rfl rfl ?_
                                    refine WL.pn rfl rfl rfl rfl ?_
                                    refine WL.pn rfl rfl rfl rfl ?_
                                    refine WL.p rfl rfl rfl (congrArg some h147) ?_
                                    refine WL.vg rfl rfl rfl rfl (X.pickF rfl h147 rfl) ?_
                                    refine WL.va rfl rfl rfl (X.pickF rfl rfl rfl) ?_
                                    refine WL.nil ?_
                                    refine thn_n ?_
                                    refine WF.cond_f rfl ?_
                                    refine WF.skip ?_
                                    refine blk_n ?_
                                    refine thn_n ?_
                                    refine WF.region ?_
                                    refine WL.va rfl rfl rfl (X.moveI ((hACs22.eq 10).trans ((congrFun hF91 10).trans e10_L1))) ?_
                                    refine WL.va rfl rfl rfl (X.add rfl rfl (w64 (by omega))) ?_
                                    refine WL.va rfl rfl rfl (X.assignI rfl) ?_
                                    refine WL.nil ?_
                                    exact thn_n ⟨_, (by omega), n + 1, rfl, rfl, (by repeat (first | exact hAL1 | refine Agree.put ?_ rfl | refine Agree.sub hACs22 rfl ?_ | refine Agree.sub hAL0 rfl ?_ | refine Agree.named hF91 ?_ | refine Agree.named hF84 ?_ | refine Agree.named hF16 ?_)), (Ext.trans (Ext.trans (Ext.trans (Ext.trans (Ext.trans (Ext.trans (Ext.trans hwL1 hx89) hx101) (Ext.store hx105 hx109 (by omega))) hx113) (Ext.store hx117 hx121 (by omega))) hx127) hx131), (by omega)⟩
                        · have gh7_85 := (of_decide_eq_false h7_85)
                          refine WF.exit ?_
                          refine thn_x ?_
                          refine thn_x ?_
                          refine blk_eq ?_
                          refine thn_n ?_
                          refine WF.region ?_
                          refine WL.va rfl rfl rfl (X.loadOA hO6 hwL1 ((hAL1.eq 6).trans (congrFun hF84 6)) rfl Try.isAgg26 Try.sizeOf26) ?_
                          refine WL.op rfl (OW.storeOA (hO2.ext hwL1) ((hAL1.eq 2).trans ((congrFun hF84 2).trans ((hAL0.eq 2).trans (congrFun hF16 2)))) rfl rfl (Mp.c_one (ouT.ext hwL1).rd _) Try.sizeOf26 ?_)
                          intro w153 hO2 hx155
                          have := World.grownBy.size hx155
                          replace on := (on.ext hwL1).keptO hx155 (by omega)
                          replace oxT := (oxT.ext hwL1).keptO hx155 (by omega)
                          replace hO6 := (hO6.ext hwL1).keptO hx155 (by omega)
                          replace ouT := (ouT.ext hwL1).keptO hx155 (by omega)
                          replace hO9 := (hO9.ext hwL1).keptO hx155 (by omega)
                          replace hO2 : Blk _ _ _ (md.c vu) := hO2
                          refine WL.nil ?_
                          refine blk_n ?_
                          refine thn_n ?_
                          refine WF.region ?_
                          refine WL.va rfl rfl rfl (X.moveI ((hAL1.eq 5).trans ((congrFun hF84 5).trans e5_L0))) ?_
                          refine WL.va rfl rfl rfl (X.add rfl rfl (w64 (by omega))) ?_
                          refine WL.va rfl rfl rfl (X.assignI rfl) ?_
                          refine WL.nil ?_
                          first | exact thn_n ⟨_, (by omega), k + 1, md, vu, rfl, rfl, (by repeat (first | exact hAL0 | refine Agree.put ?_ rfl | refine Agree.sub hAL1 rfl ?_ | refine Agree.named hF84 ?_ | refine Agree.named hF16 ?_)), (Ext.store (Ext.trans (Ext.trans (Ext.trans (Ext.trans (Ext.trans hwL0 (Ext.drew _)) hx24) (Ext.store (Ext.trans (Ext.store hx27 hx31 (by omega)) hx57) hx60 (by omega))) (Ext.store hx69 hx72 (by omega))) hwL1) hx155 (by omega)), ⟨by omega, hB1, hB2 ▸ hnE, hO2, RowN.own ouT (by omega) (by omega)⟩⟩ | exact thn_n ⟨_, (by omega), k + 1, (planM now (l[k]'hk)).1, vx, rfl, rfl, (by repeat (first | exact hAL0 | refine Agree.put ?_ rfl | refine Agree.sub hAL1 rfl ?_ | refine Agree.named hF84 ?_ | refine Agree.named hF16 ?_)), (Ext.store (Ext.trans (Ext.trans (Ext.trans (Ext.trans (Ext.trans hwL0 (Ext.drew _)) hx24) (Ext.store (Ext.trans (Ext.store hx27 hx31 (by omega)) hx57) hx60 (by omega))) (Ext.store hx69 hx72 (by omega))) hwL1) hx155 (by omega)), ⟨by omega, hA1, hA2, hO2, RowN.own oxT (by omega) (by omega)⟩⟩ | exact thn_n ⟨_, (by omega), k + 1, now, vn, rfl, rfl, (by repeat (first | exact hAL0 | refine Agree.put ?_ rfl | refine Agree.sub hAL1 rfl ?_ | refine Agree.named hF84 ?_ | refine Agree.named hF16 ?_)), (Ext.store (Ext.trans (Ext.trans (Ext.trans (Ext.trans (Ext.trans hwL0 (Ext.drew _)) hx24) (Ext.store (Ext.trans (Ext.store hx27 hx31 (by omega)) hx57) hx60 (by omega))) (Ext.store hx69 hx72 (by omega))) hwL1) hx155 (by omega)), ⟨by omega, hnc, hnE, hO2, on.up (by omega)⟩⟩
          · refine LO.go rfl rfl (OW.allocO (cs := [.slice none 0 0, i64 0, i64 0, i64 0, i64 0, i64 0, i64 0]) Try.zeroValue26 rfl ?_ (by decide))
            intro g6 w157 heg6 hlg6 hO6 hx159
            have := World.grownBy.size hx159
            refine ⟨(Ext.trans (Ext.drew _) hx159), ?_⟩
            refine WO.l ?_
            refine LO.go rfl rfl (OW.enter rfl (by decide) (X.call Try.call15 (evl_cons rfl (evl_cons rfl evl_nil))) (plan_ok now vn (l[k]'hk) _ (on.ext (Ext.trans (Ext.drew _) hx159)).rd (Nat.le_trans (val_len hnc) (by decide)) hnE.1) ?_)
            rintro v162 w161 ⟨⟨vx, rfl, ox⟩, hx163⟩
            have := World.grownBy.size hx163
            refine ⟨(Ext.trans (Ext.trans (Ext.drew _) hx159) hx163), ?_⟩
            have oxT := OwnT.of ox
            refine WO.q rfl rfl rfl rfl (fun w' hE21 => (X.move rfl)) ?_
            refine WO.q rfl rfl rfl rfl (fun w' hE21 => (X.extract rfl rfl)) ?_
            refine WO.q rfl rfl rfl rfl (fun w' hE21 => (X.extract rfl rfl)) ?_
            refine WO.l ?_
            refine LO.go rfl rfl (OW.storeOA (hO6.ext hx163) rfl rfl rfl (Mp.c_one (Row.of_own ox) _) Try.sizeOf26 ?_)
            intro w164 hO6 hx166
            have := World.grownBy.size hx166
            replace hO2 := (hO2.ext (Ext.trans (Ext.trans (Ext.drew _) hx159) hx163)).keptO hx166 (by omega)
            replace on := (on.ext (Ext.trans (Ext.trans (Ext.drew _) hx159) hx163)).keptO hx166 (by omega)
            replace oxT := oxT.keptO hx166 (by omega)
            replace hO6 : Blk _ _ _ ((planM now (l[k]'hk)).1.c vx) := hO6
            refine ⟨(Ext.trans (Ext.drew _) (Ext.store (Ext.trans hx159 hx163) hx166 (by omega))), ?_⟩
            refine WO.q rfl rfl rfl rfl (fun w' hE21 => (X.assignI rfl)) ?_
            refine WO.nil ?_
            refine WL.nil ?_
            refine thn_n ?_
            refine WF.seq ?_
            refine WF.seq ?_
            refine WF.region ?_
            refine WL.va rfl rfl rfl (X.moveI rfl) ?_
            refine WL.va rfl rfl rfl (X.eql rfl rfl) ?_
            refine WL.nil ?_
            refine thn_n ?_
            refine WF.cond rfl (fun h2_168 => ?_) (fun h2_168 => ?_)
            · have gh2_168 := (of_decide_eq_true h2_168)
              obtain ⟨hA1, hA2, hA3, hA4, hA5, hA6⟩ := plan_next2 hnE hnc gh2_168
              refine WF.seq ?_
              refine WF.seq ?_
              refine WF.region ?_
              refine WL.va rfl rfl rfl (X.fieldAddrO (off := 2) ((hAL0.eq 2).trans (congrFun hF16 2)) Try.underlying26 rfl rfl Try.sizeOf24) ?_
              refine WL.va rfl rfl rfl (X.loadOP hO2 (Ext.refl _) rfl rfl rfl Try.isAgg24 Try.sizeOf24) ?_
              refine WL.va rfl rfl rfl (X.buildL (P := Try.prog) (t := 24) (cs := (Mv.c Mv.zero)) evp_nil Try.type24 Try.underlying24 rfl rfl trivial rfl) ?_
              refine WL.va rfl rfl rfl (X.neqA (na := now.M.ints) (nb := Mv.zero.ints) flatM fieldsM offsM rfl rfl rfl rfl (Mv.eqB _ _)) ?_
              refine WL.va rfl rfl rfl (X.moveB rfl) ?_
              refine WL.split (j := 4) rfl (fun h171 => ?_) (fun h171 => ?_)
              · have gh171 := h171
                rw [decide_eq_true hA3] at gh171; exact absurd gh171 (by decide)
              · have gh171 := h171
                refine WL.vg rfl (congrArg some h171) rfl rfl (X.loadOA hO6 (Ext.refl _) rfl rfl Try.isAgg26 Try.sizeOf26) ?_
                refine WL.cg rfl (congrArg some h171) rfl rfl (X.call Try.call11 (evl_cons rfl evl_nil)) (checkC_ok _ vx _ oxT.rd hA2) ?_
                rintro v173 w172 ⟨rfl, hx174⟩
                have := World.grownBy.size hx174
                refine WL.vg rfl (congrArg some h171) rfl rfl (X.neq rfl rfl) ?_
                refine WL.va rfl rfl rfl (X.pickF rfl h171 rfl) ?_
                refine WL.va rfl rfl rfl (X.moveB rfl) ?_
                refine WL.split (j := 9) rfl (fun h176 => ?_) (fun h176 => ?_)
                · have gh176 := (of_decide_eq_true h176)
                  exact absurd (by rw [hA1]; rfl) gh176
                · have gh176 := (Decidable.of_not_not (of_decide_eq_false h176))
                  refine WL.vg rfl (congrArg some h176) rfl rfl (X.fieldAddrO (off := 1) rfl Try.underlying26 rfl rfl Try.sizeOf3) ?_
                  refine WL.vg rfl (congrArg some h176) rfl rfl (X.loadO hO6 hx174 rfl rfl Try.isAgg3) ?_
                  refine WL.vg rfl (congrArg some h176) rfl rfl (X.fieldAddrO (off := 1) ((hAL0.eq 2).trans (congrFun hF16 2)) Try.underlying26 rfl rfl Try.sizeOf3) ?_
                  refine WL.vg rfl (congrArg some h176) rfl rfl (X.loadO hO2 hx174 rfl rfl Try.isAgg3) ?_
                  refine WL.vg rfl (congrArg some h176) rfl rfl (X.add rfl rfl (w64 (by omega))) ?_
                  refine WL.vg rfl (congrArg some h176) rfl rfl (X.neq rfl rfl) ?_
                  refine WL.va rfl rfl rfl (X.pickF rfl h176 rfl) ?_
                  refine WL.va rfl rfl rfl (X.moveB rfl) ?_
                  refine WL.split (j := 17) rfl (fun h178 => ?_) (fun h178 => ?_)
                  · have gh178 := (of_decide_eq_true h178)
                    exact absurd hA4 gh178
                  · have gh178 := (Decidable.of_not_not (of_decide_eq_false h178))
                    refine WL.vg rfl (congrArg some h178) rfl rfl (X.fieldAddrO (off := 2) rfl Try.underlying26 rfl rfl Try.sizeOf24) ?_
                    refine WL.vg rfl (congrArg some h178) rfl rfl (X.fieldAddrP (off := 0) rfl Try.underlying24 rfl rfl Try.sizeOf3) ?_
                    refine WL.vg rfl (congrArg some h178) rfl rfl (X.loadO hO6 hx174 rfl rfl Try.isAgg3) ?_
                    refine WL.vg rfl (congrArg some h178) rfl rfl (X.fieldAddrO (off := 1) rfl Try.underlying26 rfl rfl Try.sizeOf3) ?_
                    refine WL.vg rfl (congrArg some h178) rfl rfl (X.loadO hO6 hx174 rfl rfl Try.isAgg3) ?_
                    refine WL.vg rfl (congrArg some h178) rfl rfl (X.neq rfl rfl) ?_
                    refine WL.va rfl rfl rfl (X.pickF rfl h178 rfl) ?_
                    refine WL.va rfl rfl rfl (X.moveB rfl) ?_
                    refine WL.split (j := 25) rfl (fun h180 => ?_) (fun h180 => ?_)
                    · have gh180 := (of_decide_eq_true h180)
                      exact absurd hA5 gh180
                    · have gh180 := (Decidable.of_not_not (of_decide_eq_false h180))
                      refine WL.vg rfl (congrArg some h180) rfl rfl (X.fieldAddrO (off := 0) rfl Try.underlying26 rfl rfl Try.sizeOf22) ?_
                      refine WL.vg rfl (congrArg some h180) rfl rfl (X.loadO hO6 hx174 rfl rfl Try.isAgg22) ?_
                      refine WL.vg rfl (congrArg some h180) rfl rfl (X.fieldAddrO (off := 0) ((hAL0.eq 2).trans (congrFun hF16 2)) Try.underlying26 rfl rfl Try.sizeOf22) ?_
                      refine WL.vg rfl (congrArg some h180) rfl rfl (X.loadO hO2 hx174 rfl rfl Try.isAgg22) ?_
                      refine WL.cg rfl (congrArg some h180) rfl rfl (X.call Try.call21 (evl_cons rfl (evl_cons rfl evl_nil))) (sameRanges_self (oxT.ext hx174).rd (on.ext hx174).rd hA6) ?_
                      rintro v182 w181 ⟨rfl, hx183⟩
                      have := World.grownBy.size hx183
                      refine WL.vg rfl (congrArg some h180) rfl rfl (X.not rfl) ?_
                      refine WL.va rfl rfl rfl (X.pickF rfl h180 rfl) ?_
                      refine WL.nil ?_
                      refine thn_n ?_
                      refine WF.cond_f rfl ?_
                      refine WF.skip ?_
                      refine thn_n ?_
                      refine WF.seq ?_
                      refine WF.region ?_
                      refine WL.va rfl rfl rfl (X.loadOA hO6 (Ext.trans hx174 hx183) rfl rfl Try.isAgg26 Try.sizeOf26) ?_
                      refine WL.op rfl (OW.storeOA (hO2.ext (Ext.trans hx174 hx183)) ((hAL0.eq 2).trans (congrFun hF16 2)) rfl rfl (Mp.c_one (oxT.ext (Ext.trans hx174 hx183)).rd _) Try.sizeOf26 ?_)
                      intro w186 hO2 hx188
                      have := World.grownBy.size hx188
                      replace on := (on.ext (Ext.trans hx174 hx183)).keptO hx188 (by omega)
                      replace hO6 := (hO6.ext (Ext.trans hx174 hx183)).keptO hx188 (by omega)
                      replace oxT := (oxT.ext (Ext.trans hx174 hx183)).keptO hx188 (by omega)
                      replace hO2 : Blk _ _ _ ((planM now (l[k]'hk)).1.c vx) := hO2
                      refine WL.nil ?_
                      refine thn_n ?_
                      refine WF.exit ?_
                      refine thn_x ?_
                      refine blk_eq ?_
                      refine thn_n ?_
                      refine WF.region ?_
                      refine WL.va rfl rfl rfl (X.moveI e5_L0) ?_
                      refine WL.va rfl rfl rfl (X.add rfl rfl (w64 (by omega))) ?_
                      refine WL.va rfl rfl rfl (X.assignI rfl) ?_
                      refine WL.nil ?_
                      first | exact thn_n ⟨_, (by omega), k + 1, (planM now (l[k]'hk)).1, vx, rfl, rfl, (by repeat (first | exact hAL0 | refine Agree.put ?_ rfl | refine Agree.named hF16 ?_)), (Ext.store (Ext.trans (Ext.trans (Ext.trans (Ext.trans hwL0 (Ext.drew _)) (Ext.store (Ext.trans hx159 hx163) hx166 (by omega))) hx174) hx183) hx188 (by omega)), ⟨by omega, hA1, hA2, hO2, RowN.own oxT (by omega) (by omega)⟩⟩ | exact thn_n ⟨_, (by omega), k + 1, now, vn, rfl, rfl, (by repeat (first | exact hAL0 | refine Agree.put ?_ rfl | refine Agree.named hF16 ?_)), (Ext.store (Ext.trans (Ext.trans (Ext.trans (Ext.trans hwL0 (Ext.drew _)) (Ext.store (Ext.trans hx159 hx163) hx166 (by omega))) hx174) hx183) hx188 (by omega)), ⟨by omega, hnc, hnE, hO2, on.up (by omega)⟩⟩
            · have gh2_168 := (of_decide_eq_false h2_168)
              refine WF.skip ?_
              refine thn_n ?_
              refine WF.seq ?_
              refine WF.region ?_
              refine WL.va rfl rfl rfl (X.loadOA hO2 (Ext.refl _) ((hAL0.eq 2).trans (congrFun hF16 2)) rfl Try.isAgg26 Try.sizeOf26) ?_
              refine WL.va rfl rfl rfl (X.fieldAddrO (off := 2) ((hAL0.eq 2).trans (congrFun hF16 2)) Try.underlying26 rfl rfl Try.sizeOf24) ?_
              refine WL.va rfl rfl rfl (X.fieldAddrP (off := 0) rfl Try.underlying24 rfl rfl Try.sizeOf3) ?_
              refine WL.va rfl rfl rfl (X.loadO hO2 (Ext.refl _) rfl rfl Try.isAgg3) ?_
              refine WL.c rfl rfl rfl (X.call Try.call17 (evl_cons rfl (evl_cons rfl evl_nil))) (doneC_ok now vn now.M.Epoch _ on.rd (Nat.le_trans (val_len hnc) (by decide))) ?_
              rintro v191 w190 ⟨⟨vu, md, cd, rfl, ou, hdp⟩, hx192⟩
              have := World.grownBy.size hx192
              have ouT := OwnT.of ou
              obtain ⟨hd0, hd1⟩ := done_next2 hnE hnc hdp
              refine WL.va rfl rfl rfl (X.move rfl) ?_
              refine WL.va rfl rfl rfl (X.extract rfl rfl) ?_
              refine WL.va rfl rfl rfl (X.extract rfl rfl) ?_
              refine WL.op rfl (OW.storeOA (hO6.ext hx192) rfl rfl rfl (Mp.c_one (Row.of_own ou) _) Try.sizeOf26 ?_)
              intro w193 hO6 hx195
              have := World.grownBy.size hx195
              replace hO2 := (hO2.ext hx192).keptO hx195 (by omega)
              replace on := (on.ext hx192).keptO hx195 (by omega)
              replace oxT := (oxT.ext hx192).keptO hx195 (by omega)
              replace ouT := ouT.keptO hx195 (by omega)
              replace hO6 : Blk _ _ _ (md.c vu) := hO6
              refine WL.va rfl rfl rfl (X.assignI rfl) ?_
              refine WL.nil ?_
              refine thn_n ?_
              refine WF.seq ?_
              refine WF.seq ?_
              refine WF.region ?_
              refine WL.va rfl rfl rfl (X.moveI rfl) ?_
              refine WL.va rfl rfl rfl (X.neq rfl rfl) ?_
              refine WL.nil ?_
              refine thn_n ?_
              refine WF.cond rfl (fun h4_197 => ?_) (fun h4_197 => ?_)
              · have gh4_197 := (of_decide_eq_true h4_197)
                have hcd : ¬ cd = 0 := gh4_197
                refine WF.seq ?_
                refine WF.seq ?_
                refine WF.region ?_
                refine WL.va rfl rfl rfl (X.fieldAddrO (off := 2) ((hAL0.eq 2).trans (congrFun hF16 2)) Try.underlying26 rfl rfl Try.sizeOf24) ?_
                refine WL.va rfl rfl rfl (X.loadOP hO2 (Ext.refl _) rfl rfl rfl Try.isAgg24 Try.sizeOf24) ?_
                refine WL.va rfl rfl rfl (X.buildL (P := Try.prog) (t := 24) (cs := (Mv.c Mv.zero)) evp_nil Try.type24 Try.underlying24 rfl rfl trivial rfl) ?_
                refine WL.va rfl rfl rfl (X.neqA (na := now.M.ints) (nb := Mv.zero.ints) flatM fieldsM offsM rfl rfl rfl rfl (Mv.eqB _ _)) ?_
                refine WL.nil ?_
                refine thn_n ?_
                refine WF.cond rfl (fun h5_199 => ?_) (fun h5_199 => ?_)
                · have gh5_199 := h5_199
                  rw [decide_eq_true (hd0 hcd)] at gh5_199; exact absurd gh5_199 (by decide)
                · have gh5_199 := h5_199
                  refine WF.skip ?_
                  refine thn_n ?_
                  refine WF.exit ?_
                  refine thn_x ?_
                  refine blk_eq ?_
                  refine thn_n ?_
                  refine WF.region ?_
                  refine WL.va rfl rfl rfl (X.moveI e5_L0) ?_
                  refine WL.va rfl rfl rfl (X.add rfl rfl (w64 (by omega))) ?_
                  refine WL.va rfl rfl rfl (X.assignI rfl) ?_
                  refine WL.nil ?_
                  first | exact thn_n ⟨_, (by omega), k + 1, md, vu, rfl, rfl, (by repeat (first | exact hAL0 | refine Agree.put ?_ rfl | refine Agree.named hF16 ?_)), (Ext.trans (Ext.trans hwL0 (Ext.drew _)) (Ext.store (Ext.trans (Ext.store (Ext.trans hx159 hx163) hx166 (by omega)) hx192) hx195 (by omega))), ⟨by omega, hB1, hB2 ▸ hnE, hO2, RowN.own ouT (by omega) (by omega)⟩⟩ | exact thn_n ⟨_, (by omega), k + 1, (planM now (l[k]'hk)).1, vx, rfl, rfl, (by repeat (first | exact hAL0 | refine Agree.put ?_ rfl | refine Agree.named hF16 ?_)), (Ext.trans (Ext.trans hwL0 (Ext.drew _)) (Ext.store (Ext.trans (Ext.store (Ext.trans hx159 hx163) hx166 (by omega)) hx192) hx195 (by omega))), ⟨by omega, hA1, hA2, hO2, RowN.own oxT (by omega) (by omega)⟩⟩ | exact thn_n ⟨_, (by omega), k + 1, now, vn, rfl, rfl, (by repeat (first | exact hAL0 | refine Agree.put ?_ rfl | refine Agree.named hF16 ?_)), (Ext.trans (Ext.trans hwL0 (Ext.drew _)) (Ext.store (Ext.trans (Ext.store (Ext.trans hx159 hx163) hx166 (by omega)) hx192) hx195 (by omega))), ⟨by omega, hnc, hnE, hO2, on.up (by omega)⟩⟩
              · have gh4_197 := (Decidable.of_not_not (of_decide_eq_false h4_197))
                have hcd : cd = 0 := gh4_197
                obtain ⟨hM, hB1, hB2, hB3, hL⟩ := hd1 hcd
                refine WF.skip ?_
                refine thn_n ?_
                refine WF.seq ?_
                refine WF.region ?_
                refine WL.va rfl rfl rfl (X.fieldAddrO (off := 2) ((hAL0.eq 2).trans (congrFun hF16 2)) Try.underlying26 rfl rfl Try.sizeOf24) ?_
                refine WL.va rfl rfl rfl (X.loadOP hO2 (Ext.refl _) rfl rfl rfl Try.isAgg24 Try.sizeOf24) ?_
                refine WL.op rfl (OW.allocO (cs := [i64 0, i64 0, i64 0, i64 0, i64 0]) Try.zeroValue24 rfl ?_ (by decide))
                intro g9 w201 heg9 hlg9 hO9 hx203
                have := World.grownBy.size hx203
                refine WL.op rfl (OW.storeOA hO9 rfl rfl rfl (Mv.c_one _) Try.sizeOf24 ?_)
                intro wX hO9 hx206
                have := World.grownBy.size hx206
                replace hO2 := (hO2.ext hx203).keptO hx206 (by omega)
                replace on := (on.ext hx203).keptO hx206 (by omega)
                replace hO6 := (hO6.ext hx203).keptO hx206 (by omega)
                replace oxT := (oxT.ext hx203).keptO hx206 (by omega)
                replace ouT := (ouT.ext hx203).keptO hx206 (by omega)
                refine WL.nil ?_
                refine thn_n ?_
                refine WF.seq ?_
                refine WF.seq ?_
                refine WF.region ?_
                refine WL.va rfl rfl rfl (X.loadOA hO6 (Ext.refl _) rfl rfl Try.isAgg26 Try.sizeOf26) ?_
                refine WL.c rfl rfl rfl (X.call Try.call11 (evl_cons rfl evl_nil)) (checkC_ok md vu _ ouT.rd (hB2 ▸ hnE)) ?_
                rintro v209 w208 ⟨rfl, hx210⟩
                have := World.grownBy.size hx210
                refine WL.va rfl rfl rfl (X.neq rfl rfl) ?_
                refine WL.va rfl rfl rfl (X.moveB rfl) ?_
                refine WL.split (j := 3) rfl (fun h212 => ?_) (fun h212 => ?_)
                · have gh212 := (of_decide_eq_true h212)
                  exact absurd (by rw [hB1]; rfl) gh212
                · have gh212 := (Decidable.of_not_not (of_decide_eq_false h212))
                  refine WL.vg rfl (congrArg some h212) rfl rfl (X.fieldAddrO (off := 1) rfl Try.underlying26 rfl rfl Try.sizeOf3) ?_
                  refine WL.vg rfl (congrArg some h212) rfl rfl (X.loadO hO6 hx210 rfl rfl Try.isAgg3) ?_
                  refine WL.vg rfl (congrArg some h212) rfl rfl (X.fieldAddrO (off := 1) ((hAL0.eq 2).trans (congrFun hF16 2)) Try.underlying26 rfl rfl Try.sizeOf3) ?_
                  refine WL.vg rfl (congrArg some h212) rfl rfl (X.loadO hO2 hx210 rfl rfl Try.isAgg3) ?_
                  refine WL.vg rfl (congrArg some h212) rfl rfl (X.neq rfl rfl) ?_
                  refine WL.va rfl rfl rfl (X.pickF rfl h212 rfl) ?_
                  refine WL.va rfl rfl rfl (X.moveB rfl) ?_
                  refine WL.split (j := 10) rfl (fun h214 => ?_) (fun h214 => ?_)
                  · have gh214 := (of_decide_eq_true h214)
                    exact absurd hB2 gh214
                  · have gh214 := (Decidable.of_not_not (of_decide_eq_false h214))
                    refine WL.vg rfl (congrArg some h214) rfl rfl (X.fieldAddrO (off := 2) rfl Try.underlying26 rfl rfl Try.sizeOf24) ?_
                    refine WL.vg rfl (congrArg some h214) rfl rfl (X.loadOP hO6 hx210 rfl rfl rfl Try.isAgg24 Try.sizeOf24) ?_
                    refine WL.vg rfl (congrArg some h214) rfl rfl (X.buildL (P := Try.prog) (t := 24) (cs := (Mv.c Mv.zero)) evp_nil Try.type24 Try.underlying24 rfl rfl trivial rfl) ?_
                    refine WL.vg rfl (congrArg some h214) rfl rfl (X.neqA (na := md.M.ints) (nb := Mv.zero.ints) flatM fieldsM offsM rfl rfl rfl rfl (Mv.eqB _ _)) ?_
                    refine WL.va rfl rfl rfl (X.pickF rfl h214 rfl) ?_
                    refine WL.nil ?_
                    refine thn_n ?_
                    refine WF.cond rfl (fun h6_215 => ?_) (fun h6_215 => ?_)
                    · have gh6_215 := h6_215
                      rw [decide_eq_true hB3] at gh6_215; exact absurd gh6_215 (by decide)
                    · have gh6_215 := h6_215
                      refine WF.skip ?_
                      refine thn_n ?_
                      refine WF.seq ?_
                      refine WF.seq ?_
                      refine WF.region ?_
                      refine WL.va rfl rfl rfl (X.assignI rfl) ?_
                      refine WL.nil ?_
                      refine thn_n ?_
                      refine WF.block ?_
                      refine WF.named (fun F217 hF218 => ?_)
                      refine WF.loopN (fun mL1 f' w' => ∃ (n : Nat), mL1 = 64 - n ∧ f' 10 = .int .i64 (n : Int) ∧ Agree [0, 1, 2, 5, 6, 7, 8, 9, 16, 17, 18, 20, 21, 22, 23, 24, 25, 26, 27, 30, 31, 32, 33, 34, 35, 36, 37, 38, 39, 40, 75, 76, 77, 78, 79, 80, 81, 82, 83, 84, 89, 90, 91, 92, 93, 94, 95, 96, 97, 98, 99, 100, 101, 102, 103, 104, 105, 106] f' F217 ∧ Ext wX w' ∧ n ≤ 64) ?_ ?_
                      · exact ⟨_, 0, rfl, (congrFun hF218 10), (Agree.refl _ _), hx210, (by omega)⟩
                      · rintro mL1 fL1 wL1 ⟨n, hmL1, e10_L1, hAL1, hwL1, hn0⟩
                        have := World.grownBy.size hwL1
                        refine WF.seq ?_
                        refine WF.seq ?_
                        refine WF.region ?_
                        refine WL.va rfl rfl rfl (X.moveI e10_L1) ?_
                        refine WL.va rfl rfl rfl (X.lss rfl rfl) ?_
                        refine WL.nil ?_
                        refine thn_n ?_
                        refine WF.cond rfl (fun h7_219 => ?_) (fun h7_219 => ?_)
                        · have gh7_219 := (of_decide_eq_true h7_219)
                          obtain ⟨was, rn, hat⟩ := moved_at hM hL (n := (n : Int)) (by omega) (by omega)
                          refine WF.skip ?_
                          refine thn_n ?_
                          refine WF.seq ?_
                          refine WF.block ?_
                          refine WF.seq ?_
                          refine WF.region ?_
                          refine WL.va rfl rfl rfl (X.loadOA hO2 hwL1 ((hAL1.eq 2).trans ((congrFun hF218 2).trans ((hAL0.eq 2).trans (congrFun hF16 2)))) rfl Try.isAgg26 Try.sizeOf26) ?_
                          refine WL.va rfl rfl rfl (X.moveI e10_L1) ?_
                          refine WL.c rfl rfl rfl (X.call Try.call22 (evl_cons rfl (evl_cons rfl evl_nil))) (whose_ok now vn _ was _ (on.ext hwL1).rd hat.hwas) ?_
                          rintro v222 w221 ⟨rfl, hx223⟩
                          have := World.grownBy.size hx223
                          refine WL.va rfl rfl rfl (X.assignI rfl) ?_
                          refine WL.nil ?_
                          refine thn_n ?_
                          refine WF.named (fun F224 hF225 => ?_)
                          refine WF.cut (fun f' w' => f' 11 = i64 rn.Group ∧ Agree [0, 1, 2, 5, 6, 7, 8, 9, 10, 16, 17, 18, 20, 21, 22, 23, 24, 25, 26, 27, 30, 31, 32, 33, 34, 35, 36, 37, 38, 39, 40, 75, 76, 77, 78, 79, 80, 81, 82, 83, 84, 89, 90, 91, 92, 93, 94, 95, 96, 97, 98, 99, 100, 101, 102, 103, 104, 105, 106, 107, 108, 111, 112, 113] f' F224 ∧ w221 = w') ?_ ?_
                          · refine WF.seq ?_
                            refine WF.region ?_
                            refine WL.va rfl rfl rfl (X.moveI ((congrFun hF225 10).trans e10_L1)) ?_
                            refine WL.va rfl rfl rfl (X.fieldAddrO (off := 3) ((congrFun hF225 9).trans ((hAL1.eq 9).trans (congrFun hF218 9))) Try.underlying24 rfl rfl Try.sizeOf3) ?_
                            refine WL.va rfl rfl rfl (X.loadO hO9 (Ext.trans hwL1 hx223) rfl rfl Try.isAgg3) ?_
                            refine WL.va rfl rfl rfl (X.geq rfl rfl) ?_
                            refine WL.va rfl rfl rfl (X.moveB rfl) ?_
                            refine WL.split (j := 4) rfl (fun h227 => ?_) (fun h227 => ?_)
                            · have gh227 := (of_decide_eq_true h227)
                              have q1 : now.M.Lo ≤ (n : Int) := gh227
                              refine WL.vg rfl (congrArg some h227) rfl rfl (X.moveI ((congrFun hF225 10).trans e10_L1)) ?_
                              refine WL.vg rfl (congrArg some h227) rfl rfl (X.fieldAddrO (off := 4) ((congrFun hF225 9).trans ((hAL1.eq 9).trans (congrFun hF218 9))) Try.underlying24 rfl rfl Try.sizeOf3) ?_
                              refine WL.vg rfl (congrArg some h227) rfl rfl (X.loadO hO9 (Ext.trans hwL1 hx223) rfl rfl Try.isAgg3) ?_
                              refine WL.vg rfl (congrArg some h227) rfl rfl (X.lss rfl rfl) ?_
                              refine WL.va rfl rfl rfl (X.pickT rfl h227 rfl) ?_
                              refine WL.nil ?_
                              refine thn_n ?_
                              refine WF.cond rfl (fun h8_228 => ?_) (fun h8_228 => ?_)
                              · have gh8_228 := (of_decide_eq_true h8_228)
                                have q2 : (n : Int) < now.M.Hi := gh8_228
                                have hgr : now.M.To = rn.Group := (hat.to q1 q2).symm
                                refine WF.seq ?_
                                refine WF.seq ?_
                                refine WF.region ?_
                                refine WL.va rfl rfl rfl (X.moveI (congrFun hF225 11)) ?_
                                refine WL.va rfl rfl rfl (X.fieldAddrO (off := 1) ((congrFun hF225 9).trans ((hAL1.eq 9).trans (congrFun hF218 9))) Try.underlying24 rfl rfl Try.sizeOf3) ?_
                                refine WL.va rfl rfl rfl (X.loadO hO9 (Ext.trans hwL1 hx223) rfl rfl Try.isAgg3) ?_
                                refine WL.va rfl rfl rfl (X.neq rfl rfl) ?_
                                refine WL.nil ?_
                                refine thn_n ?_
                                refine WF.cond rfl (fun h9_230 => ?_) (fun h9_230 => ?_)
                                · have gh9_230 := (of_decide_eq_true h9_230)
                                  exact absurd (hat.from_ q1 q2) gh9_230
                                · have gh9_230 := (Decidable.of_not_not (of_decide_eq_false h9_230))
                                  refine WF.skip ?_
                                  refine thn_n ?_
                                  refine WF.region ?_
                                  refine WL.va rfl rfl rfl (X.fieldAddrO (off := 2) ((congrFun hF225 9).trans ((hAL1.eq 9).trans (congrFun hF218 9))) Try.underlying24 rfl rfl Try.sizeOf3) ?_
                                  refine WL.va rfl rfl rfl (X.loadO hO9 (Ext.trans hwL1 hx223) rfl rfl Try.isAgg3) ?_
                                  refine WL.va rfl rfl rfl (X.assignI rfl) ?_
                                  refine WL.nil ?_
                                  refine thn_n ?_
                                  exact ⟨(Eq.trans rfl (congrArg i64 hgr)), (by repeat (first | exact (Agree.refl _ F224) | refine Agree.put ?_ rfl | refine Agree.sub hAL1 rfl ?_ | refine Agree.sub hAL0 rfl ?_ | refine Agree.named hF225 ?_ | refine Agree.named hF218 ?_ | refine Agree.named hF16 ?_)), rfl⟩
                              · have gh8_228 := (of_decide_eq_false h8_228)
                                have hgr : was.Group = rn.Group := (hat.stay (fun e => gh8_228 e.2)).symm
                                refine WF.skip ?_
                                refine thn_n ?_
                                exact ⟨(Eq.trans (congrFun hF225 11) (congrArg i64 hgr)), (by repeat (first | exact (Agree.refl _ F224) | refine Agree.put ?_ rfl | refine Agree.sub hAL1 rfl ?_ | refine Agree.sub hAL0 rfl ?_ | refine Agree.named hF225 ?_ | refine Agree.named hF218 ?_ | refine Agree.named hF16 ?_)), rfl⟩
                            · have gh227 := (of_decide_eq_false h227)
                              have q1 : ¬ now.M.Lo ≤ (n : Int) := gh227
                              have hgr : was.Group = rn.Group := (hat.stay (fun e => q1 e.1)).symm
                              refine WL.p rfl rfl rfl (congrArg some h227) ?_
                              refine WL.p rfl rfl rfl (congrArg some h227) ?_
                              refine WL.p rfl rfl rfl (congrArg some h227) ?_
                              refine WL.p rfl rfl rfl (congrArg some h227) ?_
                              refine WL.va rfl rfl rfl (X.pickF rfl h227 rfl) ?_
                              refine WL.nil ?_
                              refine thn_n ?_
                              refine WF.cond_f rfl ?_
                              refine WF.skip ?_
                              refine thn_n ?_
                              exact ⟨(Eq.trans (congrFun hF225 11) (congrArg i64 hgr)), (by repeat (first | exact (Agree.refl _ F224) | refine Agree.put ?_ rfl | refine Agree.sub hAL1 rfl ?_ | refine Agree.sub hAL0 rfl ?_ | refine Agree.named hF225 ?_ | refine Agree.named hF218 ?_ | refine Agree.named hF16 ?_)), rfl⟩
                          · rintro fCs22 wCs22 ⟨e11_Cs22, hACs22, rfl⟩
                            refine WF.seq ?_
                            refine WF.region ?_
                            refine WL.va rfl rfl rfl (X.loadOA hO6 (Ext.trans hwL1 hx223) ((hACs22.eq 6).trans ((congrFun hF225 6).trans ((hAL1.eq 6).trans (congrFun hF218 6)))) rfl Try.isAgg26 Try.sizeOf26) ?_
                            refine WL.va rfl rfl rfl (X.moveI ((hACs22.eq 10).trans ((congrFun hF225 10).trans e10_L1))) ?_
                            refine WL.c rfl rfl rfl (X.call Try.call23 (evl_cons rfl (evl_cons rfl evl_nil))) (findS_ok _ (ouT.ext (Ext.trans hwL1 hx223)).rd hat.hnow) ?_
                            rintro v234 w233 ⟨rfl, hx235⟩
                            have := World.grownBy.size hx235
                            refine WL.va rfl rfl rfl (X.move rfl) ?_
                            refine WL.va rfl rfl rfl (X.extract rfl rfl) ?_
                            refine WL.va rfl rfl rfl (X.extract rfl rfl) ?_
                            refine WL.op rfl (OW.allocO (cs := [i64 0, i64 0, i64 0, i64 0]) Try.zeroValue41 rfl ?_ (by decide))
                            intro g12 w237 heg12 hlg12 hO12 hx239
                            have := World.grownBy.size hx239
                            refine WL.op rfl (OW.storeOA hO12 rfl rfl rfl (Rg.c_one _) Try.sizeOf41 ?_)
                            intro w241 hO12 hx243
                            have := World.grownBy.size hx243
                            replace hO2 := (hO2.ext (Ext.trans (Ext.trans (Ext.trans hwL1 hx223) hx235) hx239)).keptO hx243 (by omega)
                            replace on := (on.ext (Ext.trans (Ext.trans (Ext.trans hwL1 hx223) hx235) hx239)).keptO hx243 (by omega)
                            replace hO6 := (hO6.ext (Ext.trans (Ext.trans (Ext.trans hwL1 hx223) hx235) hx239)).keptO hx243 (by omega)
                            replace oxT := (oxT.ext (Ext.trans (Ext.trans (Ext.trans hwL1 hx223) hx235) hx239)).keptO hx243 (by omega)
                            replace ouT := (ouT.ext (Ext.trans (Ext.trans (Ext.trans hwL1 hx223) hx235) hx239)).keptO hx243 (by omega)
                            replace hO9 := (hO9.ext (Ext.trans (Ext.trans (Ext.trans hwL1 hx223) hx235) hx239)).keptO hx243 (by omega)
                            refine WL.va rfl rfl rfl (X.assignB rfl) ?_
                            refine WL.nil ?_
                            refine thn_n ?_
                            refine WF.seq ?_
                            refine WF.region ?_
                            refine WL.va rfl rfl rfl (X.loadOA hO2 (Ext.refl _) ((hACs22.eq 2).trans ((congrFun hF225 2).trans ((hAL1.eq 2).trans ((congrFun hF218 2).trans ((hAL0.eq 2).trans (congrFun hF16 2)))))) rfl Try.isAgg26 Try.sizeOf26) ?_
                            refine WL.va rfl rfl rfl (X.moveI ((hACs22.eq 10).trans ((congrFun hF225 10).trans e10_L1))) ?_
                            refine WL.c rfl rfl rfl (X.call Try.call23 (evl_cons rfl (evl_cons rfl evl_nil))) (findS_ok _ on.rd hat.hwas) ?_
                            rintro v246 w245 ⟨rfl, hx247⟩
                            have := World.grownBy.size hx247
                            refine WL.va rfl rfl rfl (X.move rfl) ?_
                            refine WL.va rfl rfl rfl (X.extract rfl rfl) ?_
                            refine WL.va rfl rfl rfl (X.extract rfl rfl) ?_
                            refine WL.op rfl (OW.allocO (cs := [i64 0, i64 0, i64 0, i64 0]) Try.zeroValue41 rfl ?_ (by decide))
                            intro g14 w249 heg14 hlg14 hO14 hx251
                            have := World.grownBy.size hx251
                            refine WL.op rfl (OW.storeOA hO14 rfl rfl rfl (Rg.c_one _) Try.sizeOf41 ?_)
                            intro w253 hO14 hx255
                            have := World.grownBy.size hx255
                            replace hO2 := (hO2.ext (Ext.trans hx247 hx251)).keptO hx255 (by omega)
                            replace on := (on.ext (Ext.trans hx247 hx251)).keptO hx255 (by omega)
                            replace hO6 := (hO6.ext (Ext.trans hx247 hx251)).keptO hx255 (by omega)
                            replace oxT := (oxT.ext (Ext.trans hx247 hx251)).keptO hx255 (by omega)
                            replace ouT := (ouT.ext (Ext.trans hx247 hx251)).keptO hx255 (by omega)
                            replace hO9 := (hO9.ext (Ext.trans hx247 hx251)).keptO hx255 (by omega)
                            replace hO12 := (hO12.ext (Ext.trans hx247 hx251)).keptO hx255 (by omega)
                            refine WL.va rfl rfl rfl (X.assignB rfl) ?_
                            refine WL.nil ?_
                            refine thn_n ?_
                            refine WF.seq ?_
                            refine WF.region ?_
                            refine WL.va rfl rfl rfl (X.moveB rfl) ?_
                            refine WL.va rfl rfl rfl (X.not rfl) ?_
                            refine WL.va rfl rfl rfl (X.moveB rfl) ?_
                            refine WL.split (j := 2) rfl (fun h258 => ?_) (fun h258 => ?_)
                            · have gh258 := (nt h258)
                              cases gh258
                            · have gh258 := (nf h258)
                              refine WL.vg rfl (congrArg some h258) rfl rfl (X.loadOA hO6 (Ext.refl _) ((hACs22.eq 6).trans ((congrFun hF225 6).trans ((hAL1.eq 6).trans (congrFun hF218 6)))) rfl Try.isAgg26 Try.sizeOf26) ?_
                              refine WL.vg rfl (congrArg some h258) rfl rfl (X.moveI ((hACs22.eq 10).trans ((congrFun hF225 10).trans e10_L1))) ?_
                              refine WL.cg rfl (congrArg some h258) rfl rfl (X.call Try.call24 (evl_cons rfl (evl_cons rfl evl_nil))) (onceS_ok ouT.rd hat.honce) ?_
                              rintro v260 w259 ⟨rfl, hx261⟩
                              have := World.grownBy.size hx261
                              refine WL.vg rfl (congrArg some h258) rfl rfl (X.neq rfl rfl) ?_
                              refine WL.va rfl rfl rfl (X.pickF rfl h258 rfl) ?_
                              refine WL.va rfl rfl rfl (X.moveB rfl) ?_
                              refine WL.vg rfl rfl rfl rfl (X.loadOA hO6 hx261 ((hACs22.eq 6).trans ((congrFun hF225 6).trans ((hAL1.eq 6).trans (congrFun hF218 6)))) rfl Try.isAgg26 Try.sizeOf26) ?_
                              refine WL.vg rfl rfl rfl rfl (X.moveI ((hACs22.eq 10).trans ((congrFun hF225 10).trans e10_L1))) ?_
                              refine WL.cg rfl rfl rfl rfl (X.call Try.call22 (evl_cons rfl (evl_cons rfl evl_nil))) (whose_ok md vu _ rn _ (ouT.ext hx261).rd hat.hnow) ?_
                              rintro v264 w263 ⟨rfl, hx265⟩
                              have := World.grownBy.size hx265
                              refine WL.vg rfl rfl rfl rfl (X.moveI e11_Cs22) ?_
                              refine WL.vg rfl rfl rfl rfl (X.neq rfl rfl) ?_
                              refine WL.va rfl rfl rfl (X.pickF rfl rfl rfl) ?_
                              refine WL.va rfl rfl rfl (X.moveB rfl) ?_
                              refine WL.split (j := 15) rfl (fun h267 => ?_) (fun h267 => ?_)
                              · have gh267 := (of_decide_eq_true h267)
                                exact absurd rfl gh267
                              · have gh267 := (Decidable.of_not_not (of_decide_eq_false h267))
                                refine WL.vg rfl (congrArg some h267) rfl rfl (X.loadOA hO12 (Ext.trans hx261 hx265) rfl rfl Try.isAgg41 Try.sizeOf41) ?_
                                refine WL.vg rfl (congrArg some h267) rfl rfl (X.loadOA hO14 (Ext.trans hx261 hx265) rfl rfl Try.isAgg41 Try.sizeOf41) ?_
                                refine WL.vg rfl (congrArg some h267) rfl rfl (X.neqA (na := rn.ints) (nb := was.ints) flatR fieldsR offsR rfl rfl rfl rfl (Rg.eqB _ _)) ?_
                                refine WL.vg rfl (congrArg some h267) rfl rfl (X.moveB rfl) ?_
                                refine WL.split (j := 19) rfl (fun h269 => ?_) (fun h269 => ?_)
                                · have gh269 := h269
                                  have hne : rn ≠ was := by simpa using gh269
                                  refine WL.vg rfl (congrArg some h269) rfl rfl (X.fieldAddrO (off := 3) rfl Try.underlying41 rfl rfl Try.sizeOf3) ?_
                                  refine WL.vg rfl (congrArg some h269) rfl rfl (X.loadO hO12 (Ext.trans hx261 hx265) rfl rfl Try.isAgg3) ?_
                                  refine WL.vg rfl (congrArg some h269) rfl rfl (X.fieldAddrO (off := 0) ((hACs22.eq 9).trans ((congrFun hF225 9).trans ((hAL1.eq 9).trans (congrFun hF218 9)))) Try.underlying24 rfl rfl Try.sizeOf3) ?_
                                  refine WL.vg rfl (congrArg some h269) rfl rfl (X.loadO hO9 (Ext.trans hx261 hx265) rfl rfl Try.isAgg3) ?_
                                  refine WL.vg rfl (congrArg some h269) rfl rfl (X.neq rfl rfl) ?_
                                  refine WL.vg rfl (congrArg some h267) rfl rfl (X.pickT rfl h269 rfl) ?_
                                  refine WL.va rfl rfl rfl (X.pickF rfl h267 rfl) ?_
                                  refine WL.va rfl rfl rfl (X.moveB rfl) ?_
                                  refine WL.split (j := 27) rfl (fun h271 => ?_) (fun h271 => ?_)
                                  · have gh271 := (of_decide_eq_true h271)
                                    exact absurd (hat.new hne) gh271
                                  · have gh271 := (Decidable.of_not_not (of_decide_eq_false h271))
                                    refine WL.vg rfl (congrArg some h271) rfl rfl (X.loadOA hO12 (Ext.trans hx261 hx265) rfl rfl Try.isAgg41 Try.sizeOf41) ?_
                                    refine WL.vg rfl (congrArg some h271) rfl rfl (X.loadOA hO14 (Ext.trans hx261 hx265) rfl rfl Try.isAgg41 Try.sizeOf41) ?_
                                    refine WL.vg rfl (congrArg some h271) rfl rfl (X.eqlA (na := rn.ints) (nb := was.ints) flatR fieldsR offsR rfl rfl rfl rfl (Rg.eqB _ _)) ?_
                                    refine WL.vg rfl (congrArg some h271) rfl rfl (X.moveB rfl) ?_
                                    refine WL.split (j := 31) rfl (fun h273 => ?_) (fun h273 => ?_)
                                    · have gh273 := h273
                                      have heq2 : rn = was := of_decide_eq_true gh273
                                      refine WL.vg rfl (congrArg some h273) rfl rfl (X.moveI e11_Cs22) ?_
                                      refine WL.vg rfl (congrArg some h273) rfl rfl (X.fieldAddrO (off := 1) ((hACs22.eq 9).trans ((congrFun hF225 9).trans ((hAL1.eq 9).trans (congrFun hF218 9)))) Try.underlying24 rfl rfl Try.sizeOf3) ?_
                                      refine WL.vg rfl (congrArg some h273) rfl rfl (X.loadO hO9 (Ext.trans hx261 hx265) rfl rfl Try.isAgg3) ?_
                                      refine WL.vg rfl (congrArg some h273) rfl rfl (X.eql rfl rfl) ?_
                                      refine WL.vg rfl (congrArg some h273) rfl rfl (X.moveB rfl) ?_
                                      refine WL.split (j := 36) rfl (fun h275 => ?_) (fun h275 => ?_)
                                      · have gh275 := (of_decide_eq_true h275)
                                        exact absurd gh275 (hat.old heq2).1
                                      · have gh275 := (of_decide_eq_false h275)
                                        refine WL.vg rfl (congrArg some h275) rfl rfl (X.moveI e11_Cs22) ?_
                                        refine WL.vg rfl (congrArg some h275) rfl rfl (X.fieldAddrO (off := 2) ((hACs22.eq 9).trans ((congrFun hF225 9).trans ((hAL1.eq 9).trans (congrFun hF218 9)))) Try.underlying24 rfl rfl Try.sizeOf3) ?_
                                        refine WL.vg rfl (congrArg some h275) rfl rfl (X.loadO hO9 (Ext.trans hx261 hx265) rfl rfl Try.isAgg3) ?_
                                        refine WL.vg rfl (congrArg some h275) rfl rfl (X.eql rfl rfl) ?_
                                        refine WL.vg rfl (congrArg some h273) rfl rfl (X.pickF rfl h275 rfl) ?_
                                        refine WL.vg rfl (congrArg some h271) rfl rfl (X.pickT rfl h273 rfl) ?_
                                        refine WL.va rfl rfl rfl (X.pickF rfl h271 rfl) ?_
                                        refine WL.nil ?_
                                        refine thn_n ?_
                                        refine WF.cond rfl (fun h10_276 => ?_) (fun h10_276 => ?_)
                                        · have gh10_276 := (of_decide_eq_true h10_276)
                                          exact absurd gh10_276 (hat.old heq2).2
                                        · have gh10_276 := (of_decide_eq_false h10_276)
                                          refine WF.skip ?_
                                          refine blk_n ?_
                                          refine thn_n ?_
                                          refine WF.region ?_
                                          refine WL.va rfl rfl rfl (X.moveI ((hACs22.eq 10).trans ((congrFun hF225 10).trans e10_L1))) ?_
                                          refine WL.va rfl rfl rfl (X.add rfl rfl (w64 (by omega))) ?_
                                          refine WL.va rfl rfl rfl (X.assignI rfl) ?_
                                          refine WL.nil ?_
                                          exact thn_n ⟨_, (by omega), n + 1, rfl, rfl, (by repeat (first | exact hAL1 | refine Agree.put ?_ rfl | refine Agree.sub hACs22 rfl ?_ | refine Agree.sub hAL0 rfl ?_ | refine Agree.named hF225 ?_ | refine Agree.named hF218 ?_ | refine Agree.named hF16 ?_)), (Ext.trans (Ext.trans (Ext.trans (Ext.trans (Ext.trans (Ext.trans (Ext.trans hwL1 hx223) hx235) (Ext.store hx239 hx243 (by omega))) hx247) (Ext.store hx251 hx255 (by omega))) hx261) hx265), (by omega)⟩
                                    · have gh273 := h273
                                      refine WL.p rfl rfl rfl (congrArg some h273) ?_
                                      refine WL.p rfl rfl rfl (congrArg some h273) ?_
                                      refine WL.p rfl rfl rfl (congrArg some h273) ?_
                                      refine WL.p rfl rfl rfl (congrArg some h273) ?_
                                      refine WL.p rfl rfl rfl (congrArg some h273) ?_
                                      refine WL.pn rfl rfl rfl rfl ?_
                                      refine WL.pn rfl rfl rfl rfl ?_
                                      refine WL.pn rfl rfl rfl rfl ?_
                                      refine WL.pn rfl rfl rfl rfl ?_
                                      refine WL.p rfl rfl rfl (congrArg some h273) ?_
                                      refine WL.vg rfl (congrArg some h271) rfl rfl (X.pickF rfl h273 rfl) ?_
                                      refine WL.va rfl rfl rfl (X.pickF rfl h271 rfl) ?_
                                      refine WL.nil ?_
                                      refine thn_n ?_
                                      refine WF.cond_f rfl ?_
                                      refine WF.skip ?_
                                      refine blk_n ?_
                                      refine thn_n ?_
                                      refine WF.region ?_
                                      refine WL.va rfl rfl rfl (X.moveI ((hACs22.eq 10).trans ((congrFun hF225 10).trans e10_L1))) ?_
                                      refine WL.va rfl rfl rfl (X.add rfl rfl (w64 (by omega))) ?_
                                      refine WL.va rfl rfl rfl (X.assignI rfl) ?_
                                      refine WL.nil ?_
                                      exact thn_n ⟨_, (by omega), n + 1, rfl, rfl, (by repeat (first | exact hAL1 | refine Agree.put ?_ rfl | refine Agree.sub hACs22 rfl ?_ | refine Agree.sub hAL0 rfl ?_ | refine Agree.named hF225 ?_ | refine Agree.named hF218 ?_ | refine Agree.named hF16 ?_)), (Ext.trans (Ext.trans (Ext.trans (Ext.trans (Ext.trans (Ext.trans (Ext.trans hwL1 hx223) hx235) (Ext.store hx239 hx243 (by omega))) hx247) (Ext.store hx251 hx255 (by omega))) hx261) hx265), (by omega)⟩
                                · have gh269 := h269
                                  refine WL.p rfl rfl rfl (congrArg some h269) ?_
                                  refine WL.p rfl rfl rfl (congrArg some h269) ?_
                                  refine WL.p rfl rfl rfl (congrArg some h269) ?_
                                  refine WL.p rfl rfl rfl (congrArg some h269) ?_
                                  refine WL.p rfl rfl rfl (congrArg some h269) ?_
                                  refine WL.vg rfl (congrArg some h267) rfl rfl (X.pickF rfl h269 rfl) ?_
                                  refine WL.va rfl rfl rfl (X.pickF rfl h267 rfl) ?_
                                  refine WL.va rfl rfl rfl (X.moveB rfl) ?_
                                  refine WL.vg rfl rfl rfl rfl (X.loadOA hO12 (Ext.trans hx261 hx265) rfl rfl Try.isAgg41 Try.sizeOf41) ?_
                                  refine WL.vg rfl rfl rfl rfl (X.loadOA hO14 (Ext.trans hx261 hx265) rfl rfl Try.isAgg41 Try.sizeOf41) ?_
                                  refine WL.vg rfl rfl rfl rfl (X.eqlA (na := rn.ints) (nb := was.ints) flatR fieldsR offsR rfl rfl rfl rfl (Rg.eqB _ _)) ?_
                                  refine WL.vg rfl rfl rfl rfl (X.moveB rfl) ?_
                                  refine WL.split (j := 31) rfl (fun h281 => ?_) (fun h281 => ?_)
                                  · have gh281 := h281
                                    have heq2 : rn = was := of_decide_eq_true gh281
                                    refine WL.vg rfl (congrArg some h281) rfl rfl (X.moveI e11_Cs22) ?_
                                    refine WL.vg rfl (congrArg some h281) rfl rfl (X.fieldAddrO (off := 1) ((hACs22.eq 9).trans ((congrFun hF225 9).trans ((hAL1.eq 9).trans (congrFun hF218 9)))) Try.underlying24 rfl rfl Try.sizeOf3) ?_
                                    refine WL.vg rfl (congrArg some h281) rfl rfl (X.loadO hO9 (Ext.trans hx261 hx265) rfl rfl Try.isAgg3) ?_
                                    refine WL.vg rfl (congrArg some h281) rfl rfl (X.eql rfl rfl) ?_
                                    refine WL.vg rfl (congrArg some h281) rfl rfl (X.moveB rfl) ?_
                                    refine WL.split (j := 36) rfl (fun h283 => ?_) (fun h283 => ?_)
                                    · have gh283 := (of_decide_eq_true h283)
                                      exact absurd gh283 (hat.old heq2).1
                                    · have gh283 := (of_decide_eq_false h283)
                                      refine WL.vg rfl (congrArg some h283) rfl rfl (X.moveI e11_Cs22) ?_
                                      refine WL.vg rfl (congrArg some h283) rfl rfl (X.fieldAddrO (off := 2) ((hACs22.eq 9).trans ((congrFun hF225 9).trans ((hAL1.eq 9).trans (congrFun hF218 9)))) Try.underlying24 rfl rfl Try.sizeOf3) ?_
                                      refine WL.vg rfl (congrArg some h283) rfl rfl (X.loadO hO9 (Ext.trans hx261 hx265) rfl rfl Try.isAgg3) ?_
                                      refine WL.vg rfl (congrArg some h283) rfl rfl (X.eql rfl rfl) ?_
                                      refine WL.vg rfl (congrArg some h281) rfl rfl (X.pickF rfl h283 rfl) ?_
                                      refine WL.vg rfl rfl rfl rfl (X.pickT rfl h281 rfl) ?_
                                      refine WL.va rfl rfl rfl (X.pickF rfl rfl rfl) ?_
                                      refine WL.nil ?_
                                      refine thn_n ?_
                                      refine WF.cond rfl (fun h10_284 => ?_) (fun h10_284 => ?_)
                                      · have gh10_284 := (of_decide_eq_true h10_284)
                                        exact absurd gh10_284 (hat.old heq2).2
                                      · have gh10_284 := (of_decide_eq_false h10_284)
                                        refine WF.skip ?_
                                        refine blk_n ?_
                                        refine thn_n ?_
                                        refine WF.region ?_
                                        refine WL.va rfl rfl rfl (X.moveI ((hACs22.eq 10).trans ((congrFun hF225 10).trans e10_L1))) ?_
                                        refine WL.va rfl rfl rfl (X.add rfl rfl (w64 (by omega))) ?_
                                        refine WL.va rfl rfl rfl (X.assignI rfl) ?_
                                        refine WL.nil ?_
                                        exact thn_n ⟨_, (by omega), n + 1, rfl, rfl, (by repeat (first | exact hAL1 | refine Agree.put ?_ rfl | refine Agree.sub hACs22 rfl ?_ | refine Agree.sub hAL0 rfl ?_ | refine Agree.named hF225 ?_ | refine Agree.named hF218 ?_ | refine Agree.named hF16 ?_)), (Ext.trans (Ext.trans (Ext.trans (Ext.trans (Ext.trans (Ext.trans (Ext.trans hwL1 hx223) hx235) (Ext.store hx239 hx243 (by omega))) hx247) (Ext.store hx251 hx255 (by omega))) hx261) hx265), (by omega)⟩
                                  · have gh281 := h281
                                    refine WL.p rfl rfl rfl (congrArg some h281) ?_
                                    refine WL.p rfl rfl rfl (congrArg some h281) ?_
                                    refine WL.p rfl rfl rfl (congrArg some h281) ?_
                                    refine WL.p rfl rfl rfl (congrArg some h281) ?_
                                    refine WL.p rfl rfl rfl (congrArg some h281) ?_
                                    refine WL.pn rfl rfl rfl rfl ?_
                                    refine WL.pn rfl rfl rfl rfl ?_
                                    refine WL.pn rfl rfl rfl rfl ?_
                                    refine WL.pn rfl rfl rfl rfl ?_
                                    refine WL.p rfl rfl rfl (congrArg some h281) ?_
                                    refine WL.vg rfl rfl rfl rfl (X.pickF rfl h281 rfl) ?_
                                    refine WL.va rfl rfl rfl (X.pickF rfl rfl rfl) ?_
                                    refine WL.nil ?_
                                    refine thn_n ?_
                                    refine WF.cond_f rfl ?_
                                    refine WF.skip ?_
                                    refine blk_n ?_
                                    refine thn_n ?_
                                    refine WF.region ?_
                                    refine WL.va rfl rfl rfl (X.moveI ((hACs22.eq 10).trans ((congrFun hF225 10).trans e10_L1))) ?_
                                    refine WL.va rfl rfl rfl (X.add rfl rfl (w64 (by omega))) ?_
                                    refine WL.va rfl rfl rfl (X.assignI rfl) ?_
                                    refine WL.nil ?_
                                    exact thn_n ⟨_, (by omega), n + 1, rfl, rfl, (by repeat (first | exact hAL1 | refine Agree.put ?_ rfl | refine Agree.sub hACs22 rfl ?_ | refine Agree.sub hAL0 rfl ?_ | refine Agree.named hF225 ?_ | refine Agree.named hF218 ?_ | refine Agree.named hF16 ?_)), (Ext.trans (Ext.trans (Ext.trans (Ext.trans (Ext.trans (Ext.trans (Ext.trans hwL1 hx223) hx235) (Ext.store hx239 hx243 (by omega))) hx247) (Ext.store hx251 hx255 (by omega))) hx261) hx265), (by omega)⟩
                        · have gh7_219 := (of_decide_eq_false h7_219)
                          refine WF.exit ?_
                          refine thn_x ?_
                          refine thn_x ?_
                          refine blk_eq ?_
                          refine thn_n ?_
                          refine WF.region ?_
                          refine WL.va rfl rfl rfl (X.loadOA hO6 hwL1 ((hAL1.eq 6).trans (congrFun hF218 6)) rfl Try.isAgg26 Try.sizeOf26) ?_
                          refine WL.op rfl (OW.storeOA (hO2.ext hwL1) ((hAL1.eq 2).trans ((congrFun hF218 2).trans ((hAL0.eq 2).trans (congrFun hF16 2)))) rfl rfl (Mp.c_one (ouT.ext hwL1).rd _) Try.sizeOf26 ?_)
                          intro w287 hO2 hx289
                          have := World.grownBy.size hx289
                          replace on := (on.ext hwL1).keptO hx289 (by omega)
                          replace hO6 := (hO6.ext hwL1).keptO hx289 (by omega)
                          replace oxT := (oxT.ext hwL1).keptO hx289 (by omega)
                          replace ouT := (ouT.ext hwL1).keptO hx289 (by omega)
                          replace hO9 := (hO9.ext hwL1).keptO hx289 (by omega)
                          replace hO2 : Blk _ _ _ (md.c vu) := hO2
                          refine WL.nil ?_
                          refine blk_n ?_
                          refine thn_n ?_
                          refine WF.region ?_
                          refine WL.va rfl rfl rfl (X.moveI ((hAL1.eq 5).trans ((congrFun hF218 5).trans e5_L0))) ?_
                          refine WL.va rfl rfl rfl (X.add rfl rfl (w64 (by omega))) ?_
                          refine WL.va rfl rfl rfl (X.assignI rfl) ?_
                          refine WL.nil ?_
                          first | exact thn_n ⟨_, (by omega), k + 1, md, vu, rfl, rfl, (by repeat (first | exact hAL0 | refine Agree.put ?_ rfl | refine Agree.sub hAL1 rfl ?_ | refine Agree.named hF218 ?_ | refine Agree.named hF16 ?_)), (Ext.store (Ext.trans (Ext.trans (Ext.trans (Ext.trans hwL0 (Ext.drew _)) (Ext.store (Ext.trans (Ext.store (Ext.trans hx159 hx163) hx166 (by omega)) hx192) hx195 (by omega))) (Ext.store hx203 hx206 (by omega))) hwL1) hx289 (by omega)), ⟨by omega, hB1, hB2 ▸ hnE, hO2, RowN.own ouT (by omega) (by omega)⟩⟩ | exact thn_n ⟨_, (by omega), k + 1, (planM now (l[k]'hk)).1, vx, rfl, rfl, (by repeat (first | exact hAL0 | refine Agree.put ?_ rfl | refine Agree.sub hAL1 rfl ?_ | refine Agree.named hF218 ?_ | refine Agree.named hF16 ?_)), (Ext.store (Ext.trans (Ext.trans (Ext.trans (Ext.trans hwL0 (Ext.drew _)) (Ext.store (Ext.trans (Ext.store (Ext.trans hx159 hx163) hx166 (by omega)) hx192) hx195 (by omega))) (Ext.store hx203 hx206 (by omega))) hwL1) hx289 (by omega)), ⟨by omega, hA1, hA2, hO2, RowN.own oxT (by omega) (by omega)⟩⟩ | exact thn_n ⟨_, (by omega), k + 1, now, vn, rfl, rfl, (by repeat (first | exact hAL0 | refine Agree.put ?_ rfl | refine Agree.sub hAL1 rfl ?_ | refine Agree.named hF218 ?_ | refine Agree.named hF16 ?_)), (Ext.store (Ext.trans (Ext.trans (Ext.trans (Ext.trans hwL0 (Ext.drew _)) (Ext.store (Ext.trans (Ext.store (Ext.trans hx159 hx163) hx166 (by omega)) hx192) hx195 (by omega))) (Ext.store hx203 hx206 (by omega))) hwL1) hx289 (by omega)), ⟨by omega, hnc, hnE, hO2, on.up (by omega)⟩⟩
        · have gh1_19 := (of_decide_eq_false h1_19)
          refine WF.exit ?_
          refine thn_x ?_
          refine thn_x ?_
          refine blk_eq ?_
          refine thn_n ?_
          refine WF.seq ?_
          refine WF.region ?_
          refine WL.c rfl rfl rfl (X.call Try.call13 evl_nil) (known_ok _) ?_
          rintro v292 w291 ⟨rfl, hx293⟩
          have := World.grownBy.size hx293
          refine WL.va rfl rfl rfl (X.assignB rfl) ?_
          refine WL.nil ?_
          refine thn_n ?_
          refine WF.ret ?_
          refine fin_r ?_
          exact ⟨rfl, (Ext.trans hwL0 hx293)⟩
      · have gh18 := (of_decide_eq_false h18)
        refine WL.p rfl rfl rfl (congrArg some h18) ?_
        refine WL.p rfl rfl rfl (congrArg some h18) ?_
        refine WL.va rfl rfl rfl (X.pickF rfl h18 rfl) ?_
        refine WL.nil ?_
        refine thn_n ?_
        refine WF.cond_f rfl ?_
        refine WF.exit ?_
        refine thn_x ?_
        refine thn_x ?_
        refine blk_eq ?_
        refine thn_n ?_
        refine WF.seq ?_
        refine WF.region ?_
        refine WL.c rfl rfl rfl (X.call Try.call13 evl_nil) (known_ok _) ?_
        rintro v297 w296 ⟨rfl, hx298⟩
        have := World.grownBy.size hx298
        refine WL.va rfl rfl rfl (X.assignB rfl) ?_
        refine WL.nil ?_
        refine thn_n ?_
        refine WF.ret ?_
        refine fin_r ?_
        exact ⟨rfl, (Ext.trans hwL0 hx298)⟩

end Go.Proofs.Ytpimnlgfhpnjnaa
