/- The walks of the kit's functions over messages. -/
import Derived.Test.YtgbkgkicgaikdaaChecked
import Derived.Test.YtgbkgkicgaikdaaMsg
namespace Go.Proofs.Ytgbkgkicgaikdaa
open Go Go.RowKit Kf

theorem sameBytes_ok (va vb : Value) (la lb : List UInt8) (w : World) (ha : Bytes w va la) (hb : Bytes w vb lb) : FnOk Try.prog 43 [va, vb] w (fun r w' => r = .bool (decide (la = lb)) ∧ Ext w w') := by
  have hla := ha.le64
  have hlb := hb.le64
  refine FnOk.enter (rs := [4]) Try.func43 rfl Try.ntmps43 Try.results43 rfl rfl ?_
  refine WF.seq ?_
  refine WF.region ?_
  refine WL.va rfl rfl rfl (X.assignB rfl) ?_
  refine WL.nil ?_
  refine thn_n ?_
  refine WF.seq ?_
  refine WF.seq ?_
  refine WF.region ?_
  refine WL.va rfl rfl rfl (X.move rfl) ?_
  refine WL.va rfl rfl rfl (X.len ha rfl Try.underlying24) ?_
  refine WL.va rfl rfl rfl (X.move rfl) ?_
  refine WL.va rfl rfl rfl (X.len hb rfl Try.underlying24) ?_
  refine WL.va rfl rfl rfl (X.neq rfl rfl) ?_
  refine WL.nil ?_
  refine thn_n ?_
  refine WF.cond rfl (fun h0_2 => ?_) (fun h0_2 => ?_)
  · have gh0_2 := (of_decide_eq_true h0_2)
    have hlen := gh0_2
    have hne : la ≠ lb := fun e => by rw [e] at gh0_2; exact gh0_2 rfl
    refine WF.seq ?_
    refine WF.region ?_
    refine WL.va rfl rfl rfl (X.assignB rfl) ?_
    refine WL.nil ?_
    refine thn_n ?_
    refine WF.ret ?_
    refine thn_r ?_
    refine fin_r ?_
    exact ⟨congrArg Value.bool (decide_eq_false hne).symm, (Ext.refl _)⟩
  · have gh0_2 := (Decidable.of_not_not (of_decide_eq_false h0_2))
    have hlen := gh0_2
    refine WF.skip ?_
    refine thn_n ?_
    refine WF.seq ?_
    refine WF.seq ?_
    refine WF.region ?_
    refine WL.va rfl rfl rfl (X.assignI rfl) ?_
    refine WL.nil ?_
    refine thn_n ?_
    refine WF.block ?_
    refine WF.named (fun F5 hF6 => ?_)
    refine WF.loopN (fun mL0 f' w' => ∃ (k : Nat), mL0 = la.length - k ∧ f' 5 = .int .i64 (k : Int) ∧ Agree [0, 1, 6, 7, 8, 9, 10] f' F5 ∧ Ext w w' ∧ k ≤ la.length ∧ la.take k = lb.take k) ?_ ?_
    · exact ⟨_, 0, rfl, (congrFun hF6 5), (Agree.refl _ _), (Ext.refl _), ⟨Nat.zero_le _, rfl⟩⟩
    · rintro mL0 fL0 wL0 ⟨k, hmL0, e5_L0, hAL0, hwL0, ⟨hk, hkk⟩⟩
      refine WF.seq ?_
      refine WF.seq ?_
      refine WF.region ?_
      refine WL.va rfl rfl rfl (X.moveI e5_L0) ?_
      refine WL.va rfl rfl rfl (X.move ((hAL0.eq 0).trans (congrFun hF6 0))) ?_
      refine WL.va rfl rfl rfl (X.len ha rfl Try.underlying24) ?_
      refine WL.va rfl rfl rfl (X.lss rfl rfl) ?_
      refine WL.nil ?_
      refine thn_n ?_
      refine WF.cond rfl (fun h1_7 => ?_) (fun h1_7 => ?_)
      · have gh1_7 := (of_decide_eq_true h1_7)
        have hlt := gh1_7
        refine WF.skip ?_
        refine thn_n ?_
        refine WF.seq ?_
        refine WF.block ?_
        refine WF.seq ?_
        refine WF.drawn (.q 0 (.q 1 (.q 2 (.q 3 (.q 4 (.q 5 (.q 6 (.q 7 (.q 8 .nil))))))))) (fun w' => Ext wL0 w') 9 (by kernel_rfl) (by kernel_rfl) (Ext.drew _) ?_
        refine WO.q rfl rfl rfl rfl (fun w' hE9 => (X.move ((hAL0.eq 0).trans (congrFun hF6 0)))) ?_
        refine WO.q rfl rfl rfl rfl (fun w' hE9 => (X.moveI e5_L0)) ?_
        refine WO.q rfl rfl rfl rfl (fun w' hE9 => (X.idx ha rfl rfl (by omega) Try.underlying24 Try.sizeOf5)) ?_
        refine WO.q rfl rfl rfl rfl (fun w' hE9 => (X.loadB ha (Ext.trans hwL0 hE9) rfl (by omega) Try.isAgg5)) ?_
        refine WO.q rfl rfl rfl rfl (fun w' hE9 => (X.move ((hAL0.eq 1).trans (congrFun hF6 1)))) ?_
        refine WO.q rfl rfl rfl rfl (fun w' hE9 => (X.moveI e5_L0)) ?_
        refine WO.q rfl rfl rfl rfl (fun w' hE9 => (X.idx hb rfl rfl (by omega) Try.underlying24 Try.sizeOf5)) ?_
        refine WO.q rfl rfl rfl rfl (fun w' hE9 => (X.loadB hb (Ext.trans hwL0 hE9) rfl (by omega) Try.isAgg5)) ?_
        refine WO.q rfl rfl rfl rfl (fun w' hE9 => (X.neq rfl rfl)) ?_
        refine WO.nil ?_
        refine WL.nil ?_
        refine thn_n ?_
        refine WF.cond rfl (fun h2_10 => ?_) (fun h2_10 => ?_)
        · have gh2_10 := (of_decide_eq_true h2_10)
          have hne : la ≠ lb := fun e => gh2_10 (by subst e; rfl)
          refine WF.seq ?_
          refine WF.region ?_
          refine WL.va rfl rfl rfl (X.assignB rfl) ?_
          refine WL.nil ?_
          refine thn_n ?_
          refine WF.ret ?_
          refine blk_r ?_
          refine thn_r ?_
          refine thn_r ?_
          refine blk_r ?_
          refine thn_r ?_
          refine fin_r ?_
          exact ⟨congrArg Value.bool (decide_eq_false hne).symm, (Ext.trans hwL0 (Ext.drew _))⟩
        · have gh2_10 := (Decidable.of_not_not (of_decide_eq_false h2_10))
          have heq := gh2_10
          refine WF.skip ?_
          refine blk_n ?_
          refine thn_n ?_
          refine WF.region ?_
          refine WL.va rfl rfl rfl (X.moveI e5_L0) ?_
          refine WL.va rfl rfl rfl (X.add rfl rfl (w64 (by omega))) ?_
          refine WL.va rfl rfl rfl (X.assignI rfl) ?_
          refine WL.nil ?_
          exact thn_n ⟨_, (by omega), k + 1, rfl, rfl, (by repeat (first | exact hAL0 | refine Agree.put ?_ rfl | refine Agree.named hF6 ?_)), (Ext.trans hwL0 (Ext.drew _)), ⟨by omega, by rw [take_getD _ _ (by omega), take_getD _ _ (by omega), hkk, byte_eq heq]⟩⟩
      · have gh1_7 := (of_decide_eq_false h1_7)
        have hlt := gh1_7
        refine WF.exit ?_
        refine thn_x ?_
        refine thn_x ?_
        refine blk_eq ?_
        refine thn_n ?_
        refine WF.seq ?_
        refine WF.region ?_
        refine WL.va rfl rfl rfl (X.assignB rfl) ?_
        refine WL.nil ?_
        refine thn_n ?_
        refine WF.ret ?_
        refine fin_r ?_
        exact ⟨congrArg Value.bool (decide_eq_true (by rw [List.take_of_length_le (by omega), List.take_of_length_le (by omega)] at hkk; exact hkk)).symm, hwL0⟩

theorem sameEntry_ok (a b : Ent) (da db : Value) (w : World) (ha : Bytes w da a.Data) (hb : Bytes w db b.Data) : FnOk Try.prog 45 [agg (a.c da), agg (b.c db)] w (fun r w' => r = .bool (decide (a = b)) ∧ Ext w w') := by
  refine FnOk.enter (rs := [4]) Try.func45 rfl Try.ntmps45 Try.results45 rfl rfl ?_
  refine WF.seq ?_
  refine WF.region ?_
  refine WL.op rfl (OW.boxA (cs := _) rfl ?_ (by decide))
  intro g2 w1 heg2 hlg2 hO2 hx3
  have := World.grownBy.size hx3
  refine WL.op rfl (OW.boxA (cs := _) rfl ?_ (by decide))
  intro g3 w5 heg3 hlg3 hO3 hx7
  have := World.grownBy.size hx7
  refine WL.va rfl rfl rfl (X.assignB rfl) ?_
  refine WL.nil ?_
  refine thn_n ?_
  refine WF.seq ?_
  refine WF.region ?_
  refine WL.va rfl rfl rfl (X.fieldAddrO (off := 0) rfl Try.underlying66 rfl rfl Try.sizeOf3) ?_
  refine WL.va rfl rfl rfl (X.loadO hO2 hx7 rfl rfl Try.isAgg3) ?_
  refine WL.va rfl rfl rfl (X.fieldAddrO (off := 0) rfl Try.underlying66 rfl rfl Try.sizeOf3) ?_
  refine WL.va rfl rfl rfl (X.loadO hO3 (Ext.refl _) rfl rfl Try.isAgg3) ?_
  refine WL.va rfl rfl rfl (X.eql rfl rfl) ?_
  refine WL.va rfl rfl rfl (X.moveB rfl) ?_
  refine WL.split (j := 5) rfl (fun h11 => ?_) (fun h11 => ?_)
  · have gh11 := (of_decide_eq_true h11)
    refine WL.vg rfl (congrArg some h11) rfl rfl (X.fieldAddrO (off := 1) rfl Try.underlying66 rfl rfl Try.sizeOf3) ?_
    refine WL.vg rfl (congrArg some h11) rfl rfl (X.loadO hO2 hx7 rfl rfl Try.isAgg3) ?_
    refine WL.vg rfl (congrArg some h11) rfl rfl (X.fieldAddrO (off := 1) rfl Try.underlying66 rfl rfl Try.sizeOf3) ?_
    refine WL.vg rfl (congrArg some h11) rfl rfl (X.loadO hO3 (Ext.refl _) rfl rfl Try.isAgg3) ?_
    refine WL.vg rfl (congrArg some h11) rfl rfl (X.eql rfl rfl) ?_
    refine WL.va rfl rfl rfl (X.pickT rfl h11 rfl) ?_
    refine WL.va rfl rfl rfl (X.moveB rfl) ?_
    refine WL.split (j := 12) rfl (fun h13 => ?_) (fun h13 => ?_)
    · have gh13 := (of_decide_eq_true h13)
      refine WL.vg rfl (congrArg some h13) rfl rfl (X.fieldAddrO (off := 2) rfl Try.underlying66 rfl rfl Try.sizeOf24) ?_
      refine WL.vg rfl (congrArg some h13) rfl rfl (X.loadO hO2 hx7 rfl rfl Try.isAgg24) ?_
      refine WL.vg rfl (congrArg some h13) rfl rfl (X.fieldAddrO (off := 2) rfl Try.underlying66 rfl rfl Try.sizeOf24) ?_
      refine WL.vg rfl (congrArg some h13) rfl rfl (X.loadO hO3 (Ext.refl _) rfl rfl Try.isAgg24) ?_
      refine WL.cg rfl (congrArg some h13) rfl rfl (X.call Try.call43 (evl_cons rfl (evl_cons rfl evl_nil))) (sameBytes_ok _ _ _ _ _ (Row.ext ha (Ext.trans hx3 hx7)) (Row.ext hb (Ext.trans hx3 hx7))) ?_
      rintro v15 w14 ⟨rfl, hx16⟩
      have := World.grownBy.size hx16
      refine WL.va rfl rfl rfl (X.pickT rfl h13 rfl) ?_
      refine WL.va rfl rfl rfl (X.assignB rfl) ?_
      refine WL.nil ?_
      refine thn_n ?_
      refine WF.ret ?_
      refine fin_r ?_
      first | exact ⟨congrArg Value.bool (decide_eq_false hne).symm, (Ext.trans (Ext.trans hx3 hx7) hx16)⟩ | exact ⟨congrArg Value.bool (decide_eq_decide.2 (by rw [Ent.eq_iff]; constructor <;> intro e <;> first | exact ⟨⟨by assumption, by assumption⟩, e⟩ | exact e.2)), (Ext.trans (Ext.trans hx3 hx7) hx16)⟩
    · have gh13 := (of_decide_eq_false h13)
      have hne : a ≠ b := fun e => gh13 (by rw [e])
      refine WL.p rfl rfl rfl (congrArg some h13) ?_
      refine WL.p rfl rfl rfl (congrArg some h13) ?_
      refine WL.p rfl rfl rfl (congrArg some h13) ?_
      refine WL.p rfl rfl rfl (congrArg some h13) ?_
      refine WL.p rfl rfl rfl (congrArg some h13) ?_
      refine WL.va rfl rfl rfl (X.pickF rfl h13 rfl) ?_
      refine WL.va rfl rfl rfl (X.assignB rfl) ?_
      refine WL.nil ?_
      refine thn_n ?_
      refine WF.ret ?_
      refine fin_r ?_
      first | exact ⟨congrArg Value.bool (decide_eq_false hne).symm, (Ext.trans hx3 hx7)⟩ | exact ⟨congrArg Value.bool (decide_eq_decide.2 (by rw [Ent.eq_iff]; constructor <;> intro e <;> first | exact ⟨⟨by assumption, by assumption⟩, e⟩ | exact e.2)), (Ext.trans hx3 hx7)⟩
  · have gh11 := (of_decide_eq_false h11)
    have hne : a ≠ b := fun e => gh11 (by rw [e])
    refine WL.p rfl rfl rfl (congrArg some h11) ?_
    refine WL.p rfl rfl rfl (congrArg some h11) ?_
    refine WL.p rfl rfl rfl (congrArg some h11) ?_
    refine WL.p rfl rfl rfl (congrArg some h11) ?_
    refine WL.p rfl rfl rfl (congrArg some h11) ?_
    refine WL.va rfl rfl rfl (X.pickF rfl h11 rfl) ?_
    refine WL.va rfl rfl rfl (X.moveB rfl) ?_
    refine WL.p rfl rfl rfl rfl ?_
    refine WL.p rfl rfl rfl rfl ?_
    refine WL.p rfl rfl rfl rfl ?_
    refine WL.p rfl rfl rfl rfl ?_
    refine WL.p rfl rfl rfl rfl ?_
    refine WL.va rfl rfl rfl (X.pickF rfl rfl rfl) ?_
    refine WL.va rfl rfl rfl (X.assignB rfl) ?_
    refine WL.nil ?_
    refine thn_n ?_
    refine WF.ret ?_
    refine fin_r ?_
    first | exact ⟨congrArg Value.bool (decide_eq_false hne).symm, (Ext.trans hx3 hx7)⟩ | exact ⟨congrArg Value.bool (decide_eq_decide.2 (by rw [Ent.eq_iff]; constructor <;> intro e <;> first | exact ⟨⟨by assumption, by assumption⟩, e⟩ | exact e.2)), (Ext.trans hx3 hx7)⟩

theorem sameEntries_ok (va vb : Value) (la lb : List Ent) (w : World) (ha0 : Ents w va la) (hb0 : Ents w vb lb) : FnOk Try.prog 42 [va, vb] w (fun r w' => r = .bool (decide (la = lb)) ∧ Ext w w') := by
  have hla := ha0.le
  have hlb := hb0.le
  obtain ⟨ca, ha, hA⟩ := ha0
  obtain ⟨cb, hb, hB⟩ := hb0
  refine FnOk.enter (rs := [4]) Try.func42 rfl Try.ntmps42 Try.results42 rfl rfl ?_
  refine WF.seq ?_
  refine WF.region ?_
  refine WL.va rfl rfl rfl (X.assignB rfl) ?_
  refine WL.nil ?_
  refine thn_n ?_
  refine WF.seq ?_
  refine WF.seq ?_
  refine WF.region ?_
  refine WL.va rfl rfl rfl (X.move rfl) ?_
  refine WL.va rfl rfl rfl (X.len ha rfl Try.underlying23) ?_
  refine WL.va rfl rfl rfl (X.move rfl) ?_
  refine WL.va rfl rfl rfl (X.len hb rfl Try.underlying23) ?_
  refine WL.va rfl rfl rfl (X.neq rfl rfl) ?_
  refine WL.nil ?_
  refine thn_n ?_
  refine WF.cond rfl (fun h0_2 => ?_) (fun h0_2 => ?_)
  · have gh0_2 := (of_decide_eq_true h0_2)
    have hne : la ≠ lb := fun e => by rw [e] at gh0_2; exact gh0_2 rfl
    refine WF.seq ?_
    refine WF.region ?_
    refine WL.va rfl rfl rfl (X.assignB rfl) ?_
    refine WL.nil ?_
    refine thn_n ?_
    refine WF.ret ?_
    refine thn_r ?_
    refine fin_r ?_
    exact ⟨congrArg Value.bool (decide_eq_false hne).symm, (Ext.refl _)⟩
  · have gh0_2 := (Decidable.of_not_not (of_decide_eq_false h0_2))
    refine WF.skip ?_
    refine thn_n ?_
    refine WF.seq ?_
    refine WF.seq ?_
    refine WF.region ?_
    refine WL.va rfl rfl rfl (X.assignI rfl) ?_
    refine WL.nil ?_
    refine thn_n ?_
    refine WF.block ?_
    refine WF.named (fun F5 hF6 => ?_)
    refine WF.loopN (fun mL0 f' w' => ∃ (k : Nat), mL0 = la.length - k ∧ f' 5 = .int .i64 (k : Int) ∧ Agree [0, 1, 6, 7, 8, 9, 10] f' F5 ∧ Ext w w' ∧ k ≤ la.length ∧ la.take k = lb.take k) ?_ ?_
    · exact ⟨_, 0, rfl, (congrFun hF6 5), (Agree.refl _ _), (Ext.refl _), ⟨Nat.zero_le _, rfl⟩⟩
    · rintro mL0 fL0 wL0 ⟨k, hmL0, e5_L0, hAL0, hwL0, ⟨hk, hkk⟩⟩
      refine WF.seq ?_
      refine WF.seq ?_
      refine WF.region ?_
      refine WL.va rfl rfl rfl (X.moveI e5_L0) ?_
      refine WL.va rfl rfl rfl (X.move ((hAL0.eq 0).trans (congrFun hF6 0))) ?_
      refine WL.va rfl rfl rfl (X.len ha rfl Try.underlying23) ?_
      refine WL.va rfl rfl rfl (X.lss rfl rfl) ?_
      refine WL.nil ?_
      refine thn_n ?_
      refine WF.cond rfl (fun h1_7 => ?_) (fun h1_7 => ?_)
      · have gh1_7 := (of_decide_eq_true h1_7)
        have hka : k < la.length := by omega
        have hkb : k < lb.length := by omega
        obtain ⟨da, xa, ya⟩ := hA k hka
        obtain ⟨db, xb, yb⟩ := hB k hkb
        refine WF.skip ?_
        refine thn_n ?_
        refine WF.seq ?_
        refine WF.block ?_
        refine WF.seq ?_
        refine WF.drawn (.q 0 (.q 1 (.q 2 (.q 3 (.q 4 (.q 5 (.q 6 (.q 7 (.l 8 (.q 9 .nil)))))))))) (fun w' => Ext w w') 10 (by kernel_rfl) (by kernel_rfl) (Ext.trans hwL0 (Ext.drew _)) ?_
        refine WO.q rfl rfl rfl rfl (fun w' hE9 => (X.move ((hAL0.eq 0).trans (congrFun hF6 0)))) ?_
        refine WO.q rfl rfl rfl rfl (fun w' hE9 => (X.moveI e5_L0)) ?_
        refine WO.q rfl rfl rfl rfl (fun w' hE9 => (X.idx ha rfl rfl (by omega) Try.underlying23 Try.sizeOf66)) ?_
        refine WO.q rfl rfl rfl rfl (fun w' hE9 => (X.loadEl ha hE9 rfl (by omega) xa Try.isAgg66 Try.sizeOf66)) ?_
        refine WO.q rfl rfl rfl rfl (fun w' hE9 => (X.move ((hAL0.eq 1).trans (congrFun hF6 1)))) ?_
        refine WO.q rfl rfl rfl rfl (fun w' hE9 => (X.moveI e5_L0)) ?_
        refine WO.q rfl rfl rfl rfl (fun w' hE9 => (X.idx hb rfl rfl (by omega) Try.underlying23 Try.sizeOf66)) ?_
        refine WO.q rfl rfl rfl rfl (fun w' hE9 => (X.loadEl hb hE9 rfl (by omega) xb Try.isAgg66 Try.sizeOf66)) ?_
        refine WO.l ?_
        refine LO.go rfl rfl (OW.enter rfl (by decide) (X.call Try.call45 (evl_cons rfl (evl_cons rfl evl_nil))) (sameEntry_ok _ _ _ _ _ (Row.ext ya (Ext.trans hwL0 (Ext.drew _))) (Row.ext yb (Ext.trans hwL0 (Ext.drew _)))) ?_)
        rintro v11 w10 ⟨rfl, hx12⟩
        refine ⟨(Ext.trans (Ext.trans hwL0 (Ext.drew _)) hx12), ?_⟩
        refine WO.q rfl rfl rfl rfl (fun w' hE9 => (X.not rfl)) ?_
        refine WO.nil ?_
        refine WL.nil ?_
        refine thn_n ?_
        refine WF.cond rfl (fun h2_14 => ?_) (fun h2_14 => ?_)
        · have gh2_14 := (of_decide_eq_false (nt h2_14))
          have hne : la ≠ lb := fun e => gh2_14 (by subst e; rfl)
          refine WF.seq ?_
          refine WF.region ?_
          refine WL.va rfl rfl rfl (X.assignB rfl) ?_
          refine WL.nil ?_
          refine thn_n ?_
          refine WF.ret ?_
          refine blk_r ?_
          refine thn_r ?_
          refine thn_r ?_
          refine blk_r ?_
          refine thn_r ?_
          refine fin_r ?_
          exact ⟨congrArg Value.bool (decide_eq_false hne).symm, (Ext.trans (Ext.trans hwL0 (Ext.drew _)) hx12)⟩
        · have gh2_14 := (of_decide_eq_true (nf h2_14))
          have heq := gh2_14
          refine WF.skip ?_
          refine blk_n ?_
          refine thn_n ?_
          refine WF.region ?_
          refine WL.va rfl rfl rfl (X.moveI e5_L0) ?_
          refine WL.va rfl rfl rfl (X.add rfl rfl (w64 (by omega))) ?_
          refine WL.va rfl rfl rfl (X.assignI rfl) ?_
          refine WL.nil ?_
          exact thn_n ⟨_, (by omega), k + 1, rfl, rfl, (by repeat (first | exact hAL0 | refine Agree.put ?_ rfl | refine Agree.named hF6 ?_)), (Ext.trans (Ext.trans hwL0 (Ext.drew _)) hx12), ⟨by omega, by rw [List.take_succ_eq_append_getElem hka, List.take_succ_eq_append_getElem hkb, hkk, heq]⟩⟩
      · have gh1_7 := (of_decide_eq_false h1_7)
        refine WF.exit ?_
        refine thn_x ?_
        refine thn_x ?_
        refine blk_eq ?_
        refine thn_n ?_
        refine WF.seq ?_
        refine WF.region ?_
        refine WL.va rfl rfl rfl (X.assignB rfl) ?_
        refine WL.nil ?_
        refine thn_n ?_
        refine WF.ret ?_
        refine fin_r ?_
        exact ⟨congrArg Value.bool (decide_eq_true (by rw [List.take_of_length_le (by omega), List.take_of_length_le (by omega)] at hkk; exact hkk)).symm, hwL0⟩

set_option maxHeartbeats 4000000 in
theorem sameMsg_ok (a b : Msg) (ea da eb db : Value) (w : World) (hea : Ents w ea a.Entries) (hda : Bytes w da a.Data) (heb : Ents w eb b.Entries) (hdb : Bytes w db b.Data) : FnOk Try.prog 35 [agg (a.c ea da), agg (b.c eb db)] w (fun r w' => r = .bool (decide (a = b)) ∧ Ext w w') := by
  refine FnOk.enter (rs := [4]) Try.func35 rfl Try.ntmps35 Try.results35 rfl rfl ?_
  refine WF.seq ?_
  refine WF.region ?_
  refine WL.op rfl (OW.boxA (cs := _) rfl ?_ (by decide))
  intro g2 w1 heg2 hlg2 hO2 hx3
  have := World.grownBy.size hx3
  refine WL.op rfl (OW.boxA (cs := _) rfl ?_ (by decide))
  intro g3 w5 heg3 hlg3 hO3 hx7
  have := World.grownBy.size hx7
  refine WL.va rfl rfl rfl (X.assignB rfl) ?_
  refine WL.nil ?_
  refine thn_n ?_
  refine WF.seq ?_
  refine WF.region ?_
  refine WL.va rfl rfl rfl (X.fieldAddrO (off := 0) rfl Try.underlying26 rfl rfl Try.sizeOf3) ?_
  refine WL.va rfl rfl rfl (X.loadO hO2 hx7 rfl rfl Try.isAgg3) ?_
  refine WL.va rfl rfl rfl (X.fieldAddrO (off := 0) rfl Try.underlying26 rfl rfl Try.sizeOf3) ?_
  refine WL.va rfl rfl rfl (X.loadO hO3 (Ext.refl _) rfl rfl Try.isAgg3) ?_
  refine WL.va rfl rfl rfl (X.eql rfl rfl) ?_
  refine WL.va rfl rfl rfl (X.moveB rfl) ?_
  refine WL.split (j := 5) rfl (fun h11 => ?_) (fun h11 => ?_)
  · have gh11 := (of_decide_eq_true h11)
    refine WL.vg rfl (congrArg some h11) rfl rfl (X.fieldAddrO (off := 1) rfl Try.underlying26 rfl rfl Try.sizeOf3) ?_
    refine WL.vg rfl (congrArg some h11) rfl rfl (X.loadO hO2 hx7 rfl rfl Try.isAgg3) ?_
    refine WL.vg rfl (congrArg some h11) rfl rfl (X.fieldAddrO (off := 1) rfl Try.underlying26 rfl rfl Try.sizeOf3) ?_
    refine WL.vg rfl (congrArg some h11) rfl rfl (X.loadO hO3 (Ext.refl _) rfl rfl Try.isAgg3) ?_
    refine WL.vg rfl (congrArg some h11) rfl rfl (X.eql rfl rfl) ?_
    refine WL.va rfl rfl rfl (X.pickT rfl h11 rfl) ?_
    refine WL.va rfl rfl rfl (X.moveB rfl) ?_
    refine WL.split (j := 12) rfl (fun h13 => ?_) (fun h13 => ?_)
    · have gh13 := (of_decide_eq_true h13)
      refine WL.vg rfl (congrArg some h13) rfl rfl (X.fieldAddrO (off := 2) rfl Try.underlying26 rfl rfl Try.sizeOf3) ?_
      refine WL.vg rfl (congrArg some h13) rfl rfl (X.loadO hO2 hx7 rfl rfl Try.isAgg3) ?_
      refine WL.vg rfl (congrArg some h13) rfl rfl (X.fieldAddrO (off := 2) rfl Try.underlying26 rfl rfl Try.sizeOf3) ?_
      refine WL.vg rfl (congrArg some h13) rfl rfl (X.loadO hO3 (Ext.refl _) rfl rfl Try.isAgg3) ?_
      refine WL.vg rfl (congrArg some h13) rfl rfl (X.eql rfl rfl) ?_
      refine WL.va rfl rfl rfl (X.pickT rfl h13 rfl) ?_
      refine WL.va rfl rfl rfl (X.moveB rfl) ?_
      refine WL.split (j := 19) rfl (fun h15 => ?_) (fun h15 => ?_)
      · have gh15 := (of_decide_eq_true h15)
        refine WL.vg rfl (congrArg some h15) rfl rfl (X.fieldAddrO (off := 3) rfl Try.underlying26 rfl rfl Try.sizeOf3) ?_
        refine WL.vg rfl (congrArg some h15) rfl rfl (X.loadO hO2 hx7 rfl rfl Try.isAgg3) ?_
        refine WL.vg rfl (congrArg some h15) rfl rfl (X.fieldAddrO (off := 3) rfl Try.underlying26 rfl rfl Try.sizeOf3) ?_
        refine WL.vg rfl (congrArg some h15) rfl rfl (X.loadO hO3 (Ext.refl _) rfl rfl Try.isAgg3) ?_
        refine WL.vg rfl (congrArg some h15) rfl rfl (X.eql rfl rfl) ?_
        refine WL.va rfl rfl rfl (X.pickT rfl h15 rfl) ?_
        refine WL.va rfl rfl rfl (X.moveB rfl) ?_
        refine WL.split (j := 26) rfl (fun h17 => ?_) (fun h17 => ?_)
        · have gh17 := (of_decide_eq_true h17)
          refine WL.vg rfl (congrArg some h17) rfl rfl (X.fieldAddrO (off := 4) rfl Try.underlying26 rfl rfl Try.sizeOf3) ?_
          refine WL.vg rfl (congrArg some h17) rfl rfl (X.loadO hO2 hx7 rfl rfl Try.isAgg3) ?_
          refine WL.vg rfl (congrArg some h17) rfl rfl (X.fieldAddrO (off := 4) rfl Try.underlying26 rfl rfl Try.sizeOf3) ?_
          refine WL.vg rfl (congrArg some h17) rfl rfl (X.loadO hO3 (Ext.refl _) rfl rfl Try.isAgg3) ?_
          refine WL.vg rfl (congrArg some h17) rfl rfl (X.eql rfl rfl) ?_
          refine WL.va rfl rfl rfl (X.pickT rfl h17 rfl) ?_
          refine WL.va rfl rfl rfl (X.moveB rfl) ?_
          refine WL.split (j := 33) rfl (fun h19 => ?_) (fun h19 => ?_)
          · have gh19 := (of_decide_eq_true h19)
            refine WL.vg rfl (congrArg some h19) rfl rfl (X.fieldAddrO (off := 5) rfl Try.underlying26 rfl rfl Try.sizeOf3) ?_
            refine WL.vg rfl (congrArg some h19) rfl rfl (X.loadO hO2 hx7 rfl rfl Try.isAgg3) ?_
            refine WL.vg rfl (congrArg some h19) rfl rfl (X.fieldAddrO (off := 5) rfl Try.underlying26 rfl rfl Try.sizeOf3) ?_
            refine WL.vg rfl (congrArg some h19) rfl rfl (X.loadO hO3 (Ext.refl _) rfl rfl Try.isAgg3) ?_
            refine WL.vg rfl (congrArg some h19) rfl rfl (X.eql rfl rfl) ?_
            refine WL.va rfl rfl rfl (X.pickT rfl h19 rfl) ?_
            refine WL.va rfl rfl rfl (X.moveB rfl) ?_
            refine WL.split (j := 40) rfl (fun h21 => ?_) (fun h21 => ?_)
            · have gh21 := (of_decide_eq_true h21)
              refine WL.vg rfl (congrArg some h21) rfl rfl (X.fieldAddrO (off := 6) rfl Try.underlying26 rfl rfl Try.sizeOf3) ?_
              refine WL.vg rfl (congrArg some h21) rfl rfl (X.loadO hO2 hx7 rfl rfl Try.isAgg3) ?_
              refine WL.vg rfl (congrArg some h21) rfl rfl (X.fieldAddrO (off := 6) rfl Try.underlying26 rfl rfl Try.sizeOf3) ?_
              refine WL.vg rfl (congrArg some h21) rfl rfl (X.loadO hO3 (Ext.refl _) rfl rfl Try.isAgg3) ?_
              refine WL.vg rfl (congrArg some h21) rfl rfl (X.eql rfl rfl) ?_
              refine WL.va rfl rfl rfl (X.pickT rfl h21 rfl) ?_
              refine WL.va rfl rfl rfl (X.moveB rfl) ?_
              refine WL.split (j := 47) rfl (fun h23 => ?_) (fun h23 => ?_)
              · have gh23 := (of_decide_eq_true h23)
                refine WL.vg rfl (congrArg some h23) rfl rfl (X.fieldAddrO (off := 7) rfl Try.underlying26 rfl rfl Try.sizeOf3) ?_
                refine WL.vg rfl (congrArg some h23) rfl rfl (X.loadO hO2 hx7 rfl rfl Try.isAgg3) ?_
                refine WL.vg rfl (congrArg some h23) rfl rfl (X.fieldAddrO (off := 7) rfl Try.underlying26 rfl rfl Try.sizeOf3) ?_
                refine WL.vg rfl (congrArg some h23) rfl rfl (X.loadO hO3 (Ext.refl _) rfl rfl Try.isAgg3) ?_
                refine WL.vg rfl (congrArg some h23) rfl rfl (X.eql rfl rfl) ?_
                refine WL.va rfl rfl rfl (X.pickT rfl h23 rfl) ?_
                refine WL.va rfl rfl rfl (X.moveB rfl) ?_
                refine WL.split (j := 54) rfl (fun h25 => ?_) (fun h25 => ?_)
                · have gh25 := (of_decide_eq_true h25)
                  refine WL.vg rfl (congrArg some h25) rfl rfl (X.fieldAddrO (off := 8) rfl Try.underlying26 rfl rfl Try.sizeOf3) ?_
                  refine WL.vg rfl (congrArg some h25) rfl rfl (X.loadO hO2 hx7 rfl rfl Try.isAgg3) ?_
                  refine WL.vg rfl (congrArg some h25) rfl rfl (X.fieldAddrO (off := 8) rfl Try.underlying26 rfl rfl Try.sizeOf3) ?_
                  refine WL.vg rfl (congrArg some h25) rfl rfl (X.loadO hO3 (Ext.refl _) rfl rfl Try.isAgg3) ?_
                  refine WL.vg rfl (congrArg some h25) rfl rfl (X.eql rfl rfl) ?_
                  refine WL.va rfl rfl rfl (X.pickT rfl h25 rfl) ?_
                  refine WL.va rfl rfl rfl (X.assignB rfl) ?_
                  refine WL.nil ?_
                  refine thn_n ?_
                  refine WF.seq ?_
                  refine WF.region ?_
                  refine WL.va rfl rfl rfl (X.moveB rfl) ?_
                  refine WL.va rfl rfl rfl (X.moveB rfl) ?_
                  refine WL.split (j := 1) rfl (fun h27 => ?_) (fun h27 => ?_)
                  · have gh27 := (of_decide_eq_true h27)
                    refine WL.vg rfl (congrArg some h27) rfl rfl (X.fieldAddrO (off := 9) rfl Try.underlying26 rfl rfl Try.sizeOf3) ?_
                    refine WL.vg rfl (congrArg some h27) rfl rfl (X.loadO hO2 hx7 rfl rfl Try.isAgg3) ?_
                    refine WL.vg rfl (congrArg some h27) rfl rfl (X.fieldAddrO (off := 9) rfl Try.underlying26 rfl rfl Try.sizeOf3) ?_
                    refine WL.vg rfl (congrArg some h27) rfl rfl (X.loadO hO3 (Ext.refl _) rfl rfl Try.isAgg3) ?_
                    refine WL.vg rfl (congrArg some h27) rfl rfl (X.eql rfl rfl) ?_
                    refine WL.va rfl rfl rfl (X.pickT rfl h27 rfl) ?_
                    refine WL.va rfl rfl rfl (X.moveB rfl) ?_
                    refine WL.split (j := 8) rfl (fun h29 => ?_) (fun h29 => ?_)
                    · have gh29 := (of_decide_eq_true h29)
                      refine WL.vg rfl (congrArg some h29) rfl rfl (X.fieldAddrO (off := 10) rfl Try.underlying26 rfl rfl Try.sizeOf3) ?_
                      refine WL.vg rfl (congrArg some h29) rfl rfl (X.loadO hO2 hx7 rfl rfl Try.isAgg3) ?_
                      refine WL.vg rfl (congrArg some h29) rfl rfl (X.fieldAddrO (off := 10) rfl Try.underlying26 rfl rfl Try.sizeOf3) ?_
                      refine WL.vg rfl (congrArg some h29) rfl rfl (X.loadO hO3 (Ext.refl _) rfl rfl Try.isAgg3) ?_
                      refine WL.vg rfl (congrArg some h29) rfl rfl (X.eql rfl rfl) ?_
                      refine WL.va rfl rfl rfl (X.pickT rfl h29 rfl) ?_
                      refine WL.va rfl rfl rfl (X.moveB rfl) ?_
                      refine WL.split (j := 15) rfl (fun h31 => ?_) (fun h31 => ?_)
                      · have gh31 := (of_decide_eq_true h31)
                        refine WL.vg rfl (congrArg some h31) rfl rfl (X.fieldAddrO (off := 11) rfl Try.underlying26 rfl rfl Try.sizeOf3) ?_
                        refine WL.vg rfl (congrArg some h31) rfl rfl (X.loadO hO2 hx7 rfl rfl Try.isAgg3) ?_
                        refine WL.vg rfl (congrArg some h31) rfl rfl (X.fieldAddrO (off := 11) rfl Try.underlying26 rfl rfl Try.sizeOf3) ?_
                        refine WL.vg rfl (congrArg some h31) rfl rfl (X.loadO hO3 (Ext.refl _) rfl rfl Try.isAgg3) ?_
                        refine WL.vg rfl (congrArg some h31) rfl rfl (X.eql rfl rfl) ?_
                        refine WL.va rfl rfl rfl (X.pickT rfl h31 rfl) ?_
                        refine WL.va rfl rfl rfl (X.moveB rfl) ?_
                        refine WL.split (j := 22) rfl (fun h33 => ?_) (fun h33 => ?_)
                        · have gh33 := (of_decide_eq_true h33)
                          refine WL.vg rfl (congrArg some h33) rfl rfl (X.fieldAddrO (off := 12) rfl Try.underlying26 rfl rfl Try.sizeOf3) ?_
                          refine WL.vg rfl (congrArg some h33) rfl rfl (X.loadO hO2 hx7 rfl rfl Try.isAgg3) ?_
                          refine WL.vg rfl (congrArg some h33) rfl rfl (X.fieldAddrO (off := 12) rfl Try.underlying26 rfl rfl Try.sizeOf3) ?_
                          refine WL.vg rfl (congrArg some h33) rfl rfl (X.loadO hO3 (Ext.refl _) rfl rfl Try.isAgg3) ?_
                          refine WL.vg rfl (congrArg some h33) rfl rfl (X.eql rfl rfl) ?_
                          refine WL.va rfl rfl rfl (X.pickT rfl h33 rfl) ?_
                          refine WL.va rfl rfl rfl (X.moveB rfl) ?_
                          refine WL.split (j := 29) rfl (fun h35 => ?_) (fun h35 => ?_)
                          · have gh35 := (of_decide_eq_true h35)
                            refine WL.vg rfl (congrArg some h35) rfl rfl (X.fieldAddrO (off := 13) rfl Try.underlying26 rfl rfl Try.sizeOf3) ?_
                            refine WL.vg rfl (congrArg some h35) rfl rfl (X.loadO hO2 hx7 rfl rfl Try.isAgg3) ?_
                            refine WL.vg rfl (congrArg some h35) rfl rfl (X.fieldAddrO (off := 13) rfl Try.underlying26 rfl rfl Try.sizeOf3) ?_
                            refine WL.vg rfl (congrArg some h35) rfl rfl (X.loadO hO3 (Ext.refl _) rfl rfl Try.isAgg3) ?_
                            refine WL.vg rfl (congrArg some h35) rfl rfl (X.eql rfl rfl) ?_
                            refine WL.va rfl rfl rfl (X.pickT rfl h35 rfl) ?_
                            refine WL.va rfl rfl rfl (X.moveB rfl) ?_
                            refine WL.split (j := 36) rfl (fun h37 => ?_) (fun h37 => ?_)
                            · have gh37 := (of_decide_eq_true h37)
                              refine WL.vg rfl (congrArg some h37) rfl rfl (X.fieldAddrO (off := 14) rfl Try.underlying26 rfl rfl Try.sizeOf4) ?_
                              refine WL.vg rfl (congrArg some h37) rfl rfl (X.loadO hO2 hx7 rfl rfl Try.isAgg4) ?_
                              refine WL.vg rfl (congrArg some h37) rfl rfl (X.fieldAddrO (off := 14) rfl Try.underlying26 rfl rfl Try.sizeOf4) ?_
                              refine WL.vg rfl (congrArg some h37) rfl rfl (X.loadO hO3 (Ext.refl _) rfl rfl Try.isAgg4) ?_
                              refine WL.vg rfl (congrArg some h37) rfl rfl (X.eqlB rfl rfl Try.underlying4) ?_
                              refine WL.va rfl rfl rfl (X.pickT rfl h37 rfl) ?_
                              refine WL.va rfl rfl rfl (X.moveB rfl) ?_
                              refine WL.split (j := 43) rfl (fun h41 => ?_) (fun h41 => ?_)
                              · have gh41 := h41
                                refine WL.vg rfl (congrArg some h41) rfl rfl (X.fieldAddrO (off := 15) rfl Try.underlying26 rfl rfl Try.sizeOf23) ?_
                                refine WL.vg rfl (congrArg some h41) rfl rfl (X.loadO hO2 hx7 rfl rfl Try.isAgg23) ?_
                                refine WL.vg rfl (congrArg some h41) rfl rfl (X.fieldAddrO (off := 15) rfl Try.underlying26 rfl rfl Try.sizeOf23) ?_
                                refine WL.vg rfl (congrArg some h41) rfl rfl (X.loadO hO3 (Ext.refl _) rfl rfl Try.isAgg23) ?_
                                refine WL.cg rfl (congrArg some h41) rfl rfl (X.call Try.call42 (evl_cons rfl (evl_cons rfl evl_nil))) (sameEntries_ok _ _ _ _ _ (hea.ext (Ext.trans hx3 hx7)) (heb.ext (Ext.trans hx3 hx7))) ?_
                                rintro v43 w42 ⟨rfl, hx44⟩
                                have := World.grownBy.size hx44
                                refine WL.va rfl rfl rfl (X.pickT rfl h41 rfl) ?_
                                refine WL.va rfl rfl rfl (X.moveB rfl) ?_
                                refine WL.split (j := 50) rfl (fun h46 => ?_) (fun h46 => ?_)
                                · have gh46 := (of_decide_eq_true h46)
                                  refine WL.vg rfl (congrArg some h46) rfl rfl (X.fieldAddrO (off := 16) rfl Try.underlying26 rfl rfl Try.sizeOf24) ?_
                                  refine WL.vg rfl (congrArg some h46) rfl rfl (X.loadO hO2 (Ext.trans hx7 hx44) rfl rfl Try.isAgg24) ?_
                                  refine WL.vg rfl (congrArg some h46) rfl rfl (X.fieldAddrO (off := 16) rfl Try.underlying26 rfl rfl Try.sizeOf24) ?_
                                  refine WL.vg rfl (congrArg some h46) rfl rfl (X.loadO hO3 hx44 rfl rfl Try.isAgg24) ?_
                                  refine WL.cg rfl (congrArg some h46) rfl rfl (X.call Try.call43 (evl_cons rfl (evl_cons rfl evl_nil))) (sameBytes_ok _ _ _ _ _ (Row.ext hda (Ext.trans (Ext.trans hx3 hx7) hx44)) (Row.ext hdb (Ext.trans (Ext.trans hx3 hx7) hx44))) ?_
                                  rintro v48 w47 ⟨rfl, hx49⟩
                                  have := World.grownBy.size hx49
                                  refine WL.va rfl rfl rfl (X.pickT rfl h46 rfl) ?_
                                  refine WL.va rfl rfl rfl (X.assignB rfl) ?_
                                  refine WL.nil ?_
                                  refine thn_n ?_
                                  refine WF.ret ?_
                                  refine fin_r ?_
                                  first | exact ⟨congrArg Value.bool (decide_eq_false hne).symm, (Ext.trans (Ext.trans (Ext.trans hx3 hx7) hx44) hx49)⟩ | (refine ⟨congrArg Value.bool (decide_eq_decide.2 ?_), (Ext.trans (Ext.trans (Ext.trans hx3 hx7) hx44) hx49)⟩; rw [Msg.eq_iff]; constructor <;> intro e <;> first | exact e.2.2.2 | exact ⟨by simp only [Msg.ints, *], by simp_all, by assumption, e⟩)
                                · have gh46 := (of_decide_eq_false h46)
                                  have hne : a ≠ b := fun e => by first | exact gh46 (by rw [e]) | (rw [e] at gh46; simp at gh46)
                                  refine WL.p rfl rfl rfl (congrArg some h46) ?_
                                  refine WL.p rfl rfl rfl (congrArg some h46) ?_
                                  refine WL.p rfl rfl rfl (congrArg some h46) ?_
                                  refine WL.p rfl rfl rfl (congrArg some h46) ?_
                                  refine WL.p rfl rfl rfl (congrArg some h46) ?_
                                  refine WL.va rfl rfl rfl (X.pickF rfl h46 rfl) ?_
                                  refine WL.va rfl rfl rfl (X.assignB rfl) ?_
                                  refine WL.nil ?_
                                  refine thn_n ?_
                                  refine WF.ret ?_
                                  refine fin_r ?_
                                  first | exact ⟨congrArg Value.bool (decide_eq_false hne).symm, (Ext.trans (Ext.trans hx3 hx7) hx44)⟩ | (refine ⟨congrArg Value.bool (decide_eq_decide.2 ?_), (Ext.trans (Ext.trans hx3 hx7) hx44)⟩; rw [Msg.eq_iff]; constructor <;> intro e <;> first | exact e.2.2.2 | exact ⟨by simp only [Msg.ints, *], by simp_all, by assumption, e⟩)
                              · have gh41 := h41
                                have hne : a ≠ b := fun e => by first | exact gh41 (by rw [e]) | (rw [e] at gh41; simp at gh41)
                                refine WL.p rfl rfl rfl (congrArg some h41) ?_
                                refine WL.p rfl rfl rfl (congrArg some h41) ?_
                                refine WL.p rfl rfl rfl (congrArg some h41) ?_
                                refine WL.p rfl rfl rfl (congrArg some h41) ?_
                                refine WL.p rfl rfl rfl (congrArg some h41) ?_
                                refine WL.va rfl rfl rfl (X.pickF rfl h41 rfl) ?_
                                refine WL.va rfl rfl rfl (X.moveB rfl) ?_
                                refine WL.p rfl rfl rfl rfl ?_
                                refine WL.p rfl rfl rfl rfl ?_
                                refine WL.p rfl rfl rfl rfl ?_
                                refine WL.p rfl rfl rfl rfl ?_
                                refine WL.p rfl rfl rfl rfl ?_
                                refine WL.va rfl rfl rfl (X.pickF rfl rfl rfl) ?_
                                refine WL.va rfl rfl rfl (X.assignB rfl) ?_
                                refine WL.nil ?_
                                refine thn_n ?_
                                refine WF.ret ?_
                                refine fin_r ?_
                                first | exact ⟨congrArg Value.bool (decide_eq_false hne).symm, (Ext.trans hx3 hx7)⟩ | (refine ⟨congrArg Value.bool (decide_eq_decide.2 ?_), (Ext.trans hx3 hx7)⟩; rw [Msg.eq_iff]; constructor <;> intro e <;> first | exact e.2.2.2 | exact ⟨by simp only [Msg.ints, *], by simp_all, by assumption, e⟩)
                            · have gh37 := (of_decide_eq_false h37)
                              have hne : a ≠ b := fun e => by first | exact gh37 (by rw [e]) | (rw [e] at gh37; simp at gh37)
                              refine WL.p rfl rfl rfl (congrArg some h37) ?_
                              refine WL.p rfl rfl rfl (congrArg some h37) ?_
                              refine WL.p rfl rfl rfl (congrArg some h37) ?_
                              refine WL.p rfl rfl rfl (congrArg some h37) ?_
                              refine WL.p rfl rfl rfl (congrArg some h37) ?_
                              refine WL.va rfl rfl rfl (X.pickF rfl h37 rfl) ?_
                              refine WL.va rfl rfl rfl (X.moveB rfl) ?_
                              refine WL.p rfl rfl rfl rfl ?_
                              refine WL.p rfl rfl rfl rfl ?_
                              refine WL.p rfl rfl rfl rfl ?_
                              refine WL.p rfl rfl rfl rfl ?_
                              refine WL.p rfl rfl rfl rfl ?_
                              refine WL.va rfl rfl rfl (X.pickF rfl rfl rfl) ?_
                              refine WL.va rfl rfl rfl (X.moveB rfl) ?_
                              refine WL.p rfl rfl rfl rfl ?_
                              refine WL.p rfl rfl rfl rfl ?_
                              refine WL.p rfl rfl rfl rfl ?_
                              refine WL.p rfl rfl rfl rfl ?_
                              refine WL.p rfl rfl rfl rfl ?_
                              refine WL.va rfl rfl rfl (X.pickF rfl rfl rfl) ?_
                              refine WL.va rfl rfl rfl (X.assignB rfl) ?_
                              refine WL.nil ?_
                              refine thn_n ?_
                              refine WF.ret ?_
                              refine fin_r ?_
                              first | exact ⟨congrArg Value.bool (decide_eq_false hne).symm, (Ext.trans hx3 hx7)⟩ | (refine ⟨congrArg Value.bool (decide_eq_decide.2 ?_), (Ext.trans hx3 hx7)⟩; rw [Msg.eq_iff]; constructor <;> intro e <;> first | exact e.2.2.2 | exact ⟨by simp only [Msg.ints, *], by simp_all, by assumption, e⟩)
                          · have gh35 := (of_decide_eq_false h35)
                            have hne : a ≠ b := fun e => by first | exact gh35 (by rw [e]) | (rw [e] at gh35; simp at gh35)
                            refine WL.p rfl rfl rfl (congrArg some h35) ?_
                            refine WL.p rfl rfl rfl (congrArg some h35) ?_
                            refine WL.p rfl rfl rfl (congrArg some h35) ?_
                            refine WL.p rfl rfl rfl (congrArg some h35) ?_
                            refine WL.p rfl rfl rfl (congrArg some h35) ?_
                            refine WL.va rfl rfl rfl (X.pickF rfl h35 rfl) ?_
                            refine WL.va rfl rfl rfl (X.moveB rfl) ?_
                            refine WL.p rfl rfl rfl rfl ?_
                            refine WL.p rfl rfl rfl rfl ?_
                            refine WL.p rfl rfl rfl rfl ?_
                            refine WL.p rfl rfl rfl rfl ?_
                            refine WL.p rfl rfl rfl rfl ?_
                            refine WL.va rfl rfl rfl (X.pickF rfl rfl rfl) ?_
                            refine WL.va rfl rfl rfl (X.moveB rfl) ?_
                            refine WL.p rfl rfl rfl rfl ?_
                            refine WL.p rfl rfl rfl rfl ?_
                            refine WL.p rfl rfl rfl rfl ?_
                            refine WL.p rfl rfl rfl rfl ?_
                            refine WL.p rfl rfl rfl rfl ?_
                            refine WL.va rfl rfl rfl (X.pickF rfl rfl rfl) ?_
                            refine WL.va rfl rfl rfl (X.moveB rfl) ?_
                            refine WL.p rfl rfl rfl rfl ?_
                            refine WL.p rfl rfl rfl rfl ?_
                            refine WL.p rfl rfl rfl rfl ?_
                            refine WL.p rfl rfl rfl rfl ?_
                            refine WL.p rfl rfl rfl rfl ?_
                            refine WL.va rfl rfl rfl (X.pickF rfl rfl rfl) ?_
                            refine WL.va rfl rfl rfl (X.assignB rfl) ?_
                            refine WL.nil ?_
                            refine thn_n ?_
                            refine WF.ret ?_
                            refine fin_r ?_
                            first | exact ⟨congrArg Value.bool (decide_eq_false hne).symm, (Ext.trans hx3 hx7)⟩ | (refine ⟨congrArg Value.bool (decide_eq_decide.2 ?_), (Ext.trans hx3 hx7)⟩; rw [Msg.eq_iff]; constructor <;> intro e <;> first | exact e.2.2.2 | exact ⟨by simp only [Msg.ints, *], by simp_all, by assumption, e⟩)
                        · have gh33 := (of_decide_eq_false h33)
                          have hne : a ≠ b := fun e => by first | exact gh33 (by rw [e]) | (rw [e] at gh33; simp at gh33)
                          refine WL.p rfl rfl rfl (congrArg some h33) ?_
                          refine WL.p rfl rfl rfl (congrArg some h33) ?_
                          refine WL.p rfl rfl rfl (congrArg some h33) ?_
                          refine WL.p rfl rfl rfl (congrArg some h33) ?_
                          refine WL.p rfl rfl rfl (congrArg some h33) ?_
                          refine WL.va rfl rfl rfl (X.pickF rfl h33 rfl) ?_
                          refine WL.va rfl rfl rfl (X.moveB rfl) ?_
                          refine WL.p rfl rfl rfl rfl ?_
                          refine WL.p rfl rfl rfl rfl ?_
                          refine WL.p rfl rfl rfl rfl ?_
                          refine WL.p rfl rfl rfl rfl ?_
                          refine WL.p rfl rfl rfl rfl ?_
                          refine WL.va rfl rfl rfl (X.pickF rfl rfl rfl) ?_
                          refine WL.va rfl rfl rfl (X.moveB rfl) ?_
                          refine WL.p rfl rfl rfl rfl ?_
                          refine WL.p rfl rfl rfl rfl ?_
                          refine WL.p rfl rfl rfl rfl ?_
                          refine WL.p rfl rfl rfl rfl ?_
                          refine WL.p rfl rfl rfl rfl ?_
                          refine WL.va rfl rfl rfl (X.pickF rfl rfl rfl) ?_
                          refine WL.va rfl rfl rfl (X.moveB rfl) ?_
                          refine WL.p rfl rfl rfl rfl ?_
                          refine WL.p rfl rfl rfl rfl ?_
                          refine WL.p rfl rfl rfl rfl ?_
                          refine WL.p rfl rfl rfl rfl ?_
                          refine WL.p rfl rfl rfl rfl ?_
                          refine WL.va rfl rfl rfl (X.pickF rfl rfl rfl) ?_
                          refine WL.va rfl rfl rfl (X.moveB rfl) ?_
                          refine WL.p rfl rfl rfl rfl ?_
                          refine WL.p rfl rfl rfl rfl ?_
                          refine WL.p rfl rfl rfl rfl ?_
                          refine WL.p rfl rfl rfl rfl ?_
                          refine WL.p rfl rfl rfl rfl ?_
                          refine WL.va rfl rfl rfl (X.pickF rfl rfl rfl) ?_
                          refine WL.va rfl rfl rfl (X.assignB rfl) ?_
                          refine WL.nil ?_
                          refine thn_n ?_
                          refine WF.ret ?_
                          refine fin_r ?_
                          first | exact ⟨congrArg Value.bool (decide_eq_false hne).symm, (Ext.trans hx3 hx7)⟩ | (refine ⟨congrArg Value.bool (decide_eq_decide.2 ?_), (Ext.trans hx3 hx7)⟩; rw [Msg.eq_iff]; constructor <;> intro e <;> first | exact e.2.2.2 | exact ⟨by simp only [Msg.ints, *], by simp_all, by assumption, e⟩)
                      · have gh31 := (of_decide_eq_false h31)
                        have hne : a ≠ b := fun e => by first | exact gh31 (by rw [e]) | (rw [e] at gh31; simp at gh31)
                        refine WL.p rfl rfl rfl (congrArg some h31) ?_
                        refine WL.p rfl rfl rfl (congrArg some h31) ?_
                        refine WL.p rfl rfl rfl (congrArg some h31) ?_
                        refine WL.p rfl rfl rfl (congrArg some h31) ?_
                        refine WL.p rfl rfl rfl (congrArg some h31) ?_
                        refine WL.va rfl rfl rfl (X.pickF rfl h31 rfl) ?_
                        refine WL.va rfl rfl rfl (X.moveB rfl) ?_
                        refine WL.p rfl rfl rfl rfl ?_
                        refine WL.p rfl rfl rfl rfl ?_
                        refine WL.p rfl rfl rfl rfl ?_
                        refine WL.p rfl rfl rfl rfl ?_
                        refine WL.p rfl rfl rfl rfl ?_
                        refine WL.va rfl rfl rfl (X.pickF rfl rfl rfl) ?_
                        refine WL.va rfl rfl rfl (X.moveB rfl) ?_
                        refine WL.p rfl rfl rfl rfl ?_
                        refine WL.p rfl rfl rfl rfl ?_
                        refine WL.p rfl rfl rfl rfl ?_
                        refine WL.p rfl rfl rfl rfl ?_
                        refine WL.p rfl rfl rfl rfl ?_
                        refine WL.va rfl rfl rfl (X.pickF rfl rfl rfl) ?_
                        refine WL.va rfl rfl rfl (X.moveB rfl) ?_
                        refine WL.p rfl rfl rfl rfl ?_
                        refine WL.p rfl rfl rfl rfl ?_
                        refine WL.p rfl rfl rfl rfl ?_
                        refine WL.p rfl rfl rfl rfl ?_
                        refine WL.p rfl rfl rfl rfl ?_
                        refine WL.va rfl rfl rfl (X.pickF rfl rfl rfl) ?_
                        refine WL.va rfl rfl rfl (X.moveB rfl) ?_
                        refine WL.p rfl rfl rfl rfl ?_
                        refine WL.p rfl rfl rfl rfl ?_
                        refine WL.p rfl rfl rfl rfl ?_
                        refine WL.p rfl rfl rfl rfl ?_
                        refine WL.p rfl rfl rfl rfl ?_
                        refine WL.va rfl rfl rfl (X.pickF rfl rfl rfl) ?_
                        refine WL.va rfl rfl rfl (X.moveB rfl) ?_
                        refine WL.p rfl rfl rfl rfl ?_
                        refine WL.p rfl rfl rfl rfl ?_
                        refine WL.p rfl rfl rfl rfl ?_
                        refine WL.p rfl rfl rfl rfl ?_
                        refine WL.p rfl rfl rfl rfl ?_
                        refine WL.va rfl rfl rfl (X.pickF rfl rfl rfl) ?_
                        refine WL.va rfl rfl rfl (X.assignB rfl) ?_
                        refine WL.nil ?_
                        refine thn_n ?_
                        refine WF.ret ?_
                        refine fin_r ?_
                        first | exact ⟨congrArg Value.bool (decide_eq_false hne).symm, (Ext.trans hx3 hx7)⟩ | (refine ⟨congrArg Value.bool (decide_eq_decide.2 ?_), (Ext.trans hx3 hx7)⟩; rw [Msg.eq_iff]; constructor <;> intro e <;> first | exact e.2.2.2 | exact ⟨by simp only [Msg.ints, *], by simp_all, by assumption, e⟩)
                    · have gh29 := (of_decide_eq_false h29)
                      have hne : a ≠ b := fun e => by first | exact gh29 (by rw [e]) | (rw [e] at gh29; simp at gh29)
                      refine WL.p rfl rfl rfl (congrArg some h29) ?_
                      refine WL.p rfl rfl rfl (congrArg some h29) ?_
                      refine WL.p rfl rfl rfl (congrArg some h29) ?_
                      refine WL.p rfl rfl rfl (congrArg some h29) ?_
                      refine WL.p rfl rfl rfl (congrArg some h29) ?_
                      refine WL.va rfl rfl rfl (X.pickF rfl h29 rfl) ?_
                      refine WL.va rfl rfl rfl (X.moveB rfl) ?_
                      refine WL.p rfl rfl rfl rfl ?_
                      refine WL.p rfl rfl rfl rfl ?_
                      refine WL.p rfl rfl rfl rfl ?_
                      refine WL.p rfl rfl rfl rfl ?_
                      refine WL.p rfl rfl rfl rfl ?_
                      refine WL.va rfl rfl rfl (X.pickF rfl rfl rfl) ?_
                      refine WL.va rfl rfl rfl (X.moveB rfl) ?_
                      refine WL.p rfl rfl rfl rfl ?_
                      refine WL.p rfl rfl rfl rfl ?_
                      refine WL.p rfl rfl rfl rfl ?_
                      refine WL.p rfl rfl rfl rfl ?_
                      refine WL.p rfl rfl rfl rfl ?_
                      refine WL.va rfl rfl rfl (X.pickF rfl rfl rfl) ?_
                      refine WL.va rfl rfl rfl (X.moveB rfl) ?_
                      refine WL.p rfl rfl rfl rfl ?_
                      refine WL.p rfl rfl rfl rfl ?_
                      refine WL.p rfl rfl rfl rfl ?_
                      refine WL.p rfl rfl rfl rfl ?_
                      refine WL.p rfl rfl rfl rfl ?_
                      refine WL.va rfl rfl rfl (X.pickF rfl rfl rfl) ?_
                      refine WL.va rfl rfl rfl (X.moveB rfl) ?_
                      refine WL.p rfl rfl rfl rfl ?_
                      refine WL.p rfl rfl rfl rfl ?_
                      refine WL.p rfl rfl rfl rfl ?_
                      refine WL.p rfl rfl rfl rfl ?_
                      refine WL.p rfl rfl rfl rfl ?_
                      refine WL.va rfl rfl rfl (X.pickF rfl rfl rfl) ?_
                      refine WL.va rfl rfl rfl (X.moveB rfl) ?_
                      refine WL.p rfl rfl rfl rfl ?_
                      refine WL.p rfl rfl rfl rfl ?_
                      refine WL.p rfl rfl rfl rfl ?_
                      refine WL.p rfl rfl rfl rfl ?_
                      refine WL.p rfl rfl rfl rfl ?_
                      refine WL.va rfl rfl rfl (X.pickF rfl rfl rfl) ?_
                      refine WL.va rfl rfl rfl (X.moveB rfl) ?_
                      refine WL.p rfl rfl rfl rfl ?_
                      refine WL.p rfl rfl rfl rfl ?_
                      refine WL.p rfl rfl rfl rfl ?_
                      refine WL.p rfl rfl rfl rfl ?_
                      refine WL.p rfl rfl rfl rfl ?_
                      refine WL.va rfl rfl rfl (X.pickF rfl rfl rfl) ?_
                      refine WL.va rfl rfl rfl (X.assignB rfl) ?_
                      refine WL.nil ?_
                      refine thn_n ?_
                      refine WF.ret ?_
                      refine fin_r ?_
                      first | exact ⟨congrArg Value.bool (decide_eq_false hne).symm, (Ext.trans hx3 hx7)⟩ | (refine ⟨congrArg Value.bool (decide_eq_decide.2 ?_), (Ext.trans hx3 hx7)⟩; rw [Msg.eq_iff]; constructor <;> intro e <;> first | exact e.2.2.2 | exact ⟨by simp only [Msg.ints, *], by simp_all, by assumption, e⟩)
                  · have gh27 := (of_decide_eq_false h27)
                    have hne : a ≠ b := fun e => by first | exact gh27 (by rw [e]) | (rw [e] at gh27; simp at gh27)
                    refine WL.p rfl rfl rfl (congrArg some h27) ?_
                    refine WL.p rfl rfl rfl (congrArg some h27) ?_
                    refine WL.p rfl rfl rfl (congrArg some h27) ?_
                    refine WL.p rfl rfl rfl (congrArg some h27) ?_
                    refine WL.p rfl rfl rfl (congrArg some h27) ?_
                    refine WL.va rfl rfl rfl (X.pickF rfl h27 rfl) ?_
                    refine WL.va rfl rfl rfl (X.moveB rfl) ?_
                    refine WL.p rfl rfl rfl rfl ?_
                    refine WL.p rfl rfl rfl rfl ?_
                    refine WL.p rfl rfl rfl rfl ?_
                    refine WL.p rfl rfl rfl rfl ?_
                    refine WL.p rfl rfl rfl rfl ?_
                    refine WL.va rfl rfl rfl (X.pickF rfl rfl rfl) ?_
                    refine WL.va rfl rfl rfl (X.moveB rfl) ?_
                    refine WL.p rfl rfl rfl rfl ?_
                    refine WL.p rfl rfl rfl rfl ?_
                    refine WL.p rfl rfl rfl rfl ?_
                    refine WL.p rfl rfl rfl rfl ?_
                    refine WL.p rfl rfl rfl rfl ?_
                    refine WL.va rfl rfl rfl (X.pickF rfl rfl rfl) ?_
                    refine WL.va rfl rfl rfl (X.moveB rfl) ?_
                    refine WL.p rfl rfl rfl rfl ?_
                    refine WL.p rfl rfl rfl rfl ?_
                    refine WL.p rfl rfl rfl rfl ?_
                    refine WL.p rfl rfl rfl rfl ?_
                    refine WL.p rfl rfl rfl rfl ?_
                    refine WL.va rfl rfl rfl (X.pickF rfl rfl rfl) ?_
                    refine WL.va rfl rfl rfl (X.moveB rfl) ?_
                    refine WL.p rfl rfl rfl rfl ?_
                    refine WL.p rfl rfl rfl rfl ?_
                    refine WL.p rfl rfl rfl rfl ?_
                    refine WL.p rfl rfl rfl rfl ?_
                    refine WL.p rfl rfl rfl rfl ?_
                    refine WL.va rfl rfl rfl (X.pickF rfl rfl rfl) ?_
                    refine WL.va rfl rfl rfl (X.moveB rfl) ?_
                    refine WL.p rfl rfl rfl rfl ?_
                    refine WL.p rfl rfl rfl rfl ?_
                    refine WL.p rfl rfl rfl rfl ?_
                    refine WL.p rfl rfl rfl rfl ?_
                    refine WL.p rfl rfl rfl rfl ?_
                    refine WL.va rfl rfl rfl (X.pickF rfl rfl rfl) ?_
                    refine WL.va rfl rfl rfl (X.moveB rfl) ?_
                    refine WL.p rfl rfl rfl rfl ?_
                    refine WL.p rfl rfl rfl rfl ?_
                    refine WL.p rfl rfl rfl rfl ?_
                    refine WL.p rfl rfl rfl rfl ?_
                    refine WL.p rfl rfl rfl rfl ?_
                    refine WL.va rfl rfl rfl (X.pickF rfl rfl rfl) ?_
                    refine WL.va rfl rfl rfl (X.moveB rfl) ?_
                    refine WL.p rfl rfl rfl rfl ?_
                    refine WL.p rfl rfl rfl rfl ?_
                    refine WL.p rfl rfl rfl rfl ?_
                    refine WL.p rfl rfl rfl rfl ?_
                    refine WL.p rfl rfl rfl rfl ?_
                    refine WL.va rfl rfl rfl (X.pickF rfl rfl rfl) ?_
                    refine WL.va rfl rfl rfl (X.assignB rfl) ?_
                    refine WL.nil ?_
                    refine thn_n ?_
                    refine WF.ret ?_
                    refine fin_r ?_
                    first | exact ⟨congrArg Value.bool (decide_eq_false hne).symm, (Ext.trans hx3 hx7)⟩ | (refine ⟨congrArg Value.bool (decide_eq_decide.2 ?_), (Ext.trans hx3 hx7)⟩; rw [Msg.eq_iff]; constructor <;> intro e <;> first | exact e.2.2.2 | exact ⟨by simp only [Msg.ints, *], by simp_all, by assumption, e⟩)
                · have gh25 := (of_decide_eq_false h25)
                  have hne : a ≠ b := fun e => gh25 (by rw [e])
                  refine WL.p rfl rfl rfl (congrArg some h25) ?_
                  refine WL.p rfl rfl rfl (congrArg some h25) ?_
                  refine WL.p rfl rfl rfl (congrArg some h25) ?_
                  refine WL.p rfl rfl rfl (congrArg some h25) ?_
                  refine WL.p rfl rfl rfl (congrArg some h25) ?_
                  refine WL.va rfl rfl rfl (X.pickF rfl h25 rfl) ?_
                  refine WL.va rfl rfl rfl (X.assignB rfl) ?_
                  refine WL.nil ?_
                  refine thn_n ?_
                  refine WF.seq ?_
                  refine WF.region ?_
                  refine WL.va rfl rfl rfl (X.moveB rfl) ?_
                  refine WL.va rfl rfl rfl (X.moveB rfl) ?_
                  refine WL.p rfl rfl rfl rfl ?_
                  refine WL.p rfl rfl rfl rfl ?_
                  refine WL.p rfl rfl rfl rfl ?_
                  refine WL.p rfl rfl rfl rfl ?_
                  refine WL.p rfl rfl rfl rfl ?_
                  refine WL.va rfl rfl rfl (X.pickF rfl rfl rfl) ?_
                  refine WL.va rfl rfl rfl (X.moveB rfl) ?_
                  refine WL.p rfl rfl rfl rfl ?_
                  refine WL.p rfl rfl rfl rfl ?_
                  refine WL.p rfl rfl rfl rfl ?_
                  refine WL.p rfl rfl rfl rfl ?_
                  refine WL.p rfl rfl rfl rfl ?_
                  refine WL.va rfl rfl rfl (X.pickF rfl rfl rfl) ?_
                  refine WL.va rfl rfl rfl (X.moveB rfl) ?_
                  refine WL.p rfl rfl rfl rfl ?_
                  refine WL.p rfl rfl rfl rfl ?_
                  refine WL.p rfl rfl rfl rfl ?_
                  refine WL.p rfl rfl rfl rfl ?_
                  refine WL.p rfl rfl rfl rfl ?_
                  refine WL.va rfl rfl rfl (X.pickF rfl rfl rfl) ?_
                  refine WL.va rfl rfl rfl (X.moveB rfl) ?_
                  refine WL.p rfl rfl rfl rfl ?_
                  refine WL.p rfl rfl rfl rfl ?_
                  refine WL.p rfl rfl rfl rfl ?_
                  refine WL.p rfl rfl rfl rfl ?_
                  refine WL.p rfl rfl rfl rfl ?_
                  refine WL.va rfl rfl rfl (X.pickF rfl rfl rfl) ?_
                  refine WL.va rfl rfl rfl (X.moveB rfl) ?_
                  refine WL.p rfl rfl rfl rfl ?_
                  refine WL.p rfl rfl rfl rfl ?_
                  refine WL.p rfl rfl rfl rfl ?_
                  refine WL.p rfl rfl rfl rfl ?_
                  refine WL.p rfl rfl rfl rfl ?_
                  refine WL.va rfl rfl rfl (X.pickF rfl rfl rfl) ?_
                  refine WL.va rfl rfl rfl (X.moveB rfl) ?_
                  refine WL.p rfl rfl rfl rfl ?_
                  refine WL.p rfl rfl rfl rfl ?_
                  refine WL.p rfl rfl rfl rfl ?_
                  refine WL.p rfl rfl rfl rfl ?_
                  refine WL.p rfl rfl rfl rfl ?_
                  refine WL.va rfl rfl rfl (X.pickF rfl rfl rfl) ?_
                  refine WL.va rfl rfl rfl (X.moveB rfl) ?_
                  refine WL.p rfl rfl rfl rfl ?_
                  refine WL.p rfl rfl rfl rfl ?_
                  refine WL.p rfl rfl rfl rfl ?_
                  refine WL.p rfl rfl rfl rfl ?_
                  refine WL.p rfl rfl rfl rfl ?_
                  refine WL.va rfl rfl rfl (X.pickF rfl rfl rfl) ?_
                  refine WL.va rfl rfl rfl (X.moveB rfl) ?_
                  refine WL.p rfl rfl rfl rfl ?_
                  refine WL.p rfl rfl rfl rfl ?_
                  refine WL.p rfl rfl rfl rfl ?_
                  refine WL.p rfl rfl rfl rfl ?_
                  refine WL.p rfl rfl rfl rfl ?_
                  refine WL.va rfl rfl rfl (X.pickF rfl rfl rfl) ?_
                  refine WL.va rfl rfl rfl (X.assignB rfl) ?_
                  refine WL.nil ?_
                  refine thn_n ?_
                  refine WF.ret ?_
                  refine fin_r ?_
                  first | exact ⟨congrArg Value.bool (decide_eq_false hne).symm, (Ext.trans hx3 hx7)⟩ | (refine ⟨congrArg Value.bool (decide_eq_decide.2 ?_), (Ext.trans hx3 hx7)⟩; rw [Msg.eq_iff]; constructor <;> intro e <;> first | exact e.2.2.2 | exact ⟨by simp only [Msg.ints, *], by simp_all, by assumption, e⟩)
              · have gh23 := (of_decide_eq_false h23)
                have hne : a ≠ b := fun e => gh23 (by rw [e])
                refine WL.p rfl rfl rfl (congrArg some h23) ?_
                refine WL.p rfl rfl rfl (congrArg some h23) ?_
                refine WL.p rfl rfl rfl (congrArg some h23) ?_
                refine WL.p rfl rfl rfl (congrArg some h23) ?_
                refine WL.p rfl rfl rfl (congrArg some h23) ?_
                refine WL.va rfl rfl rfl (X.pickF rfl h23 rfl) ?_
                refine WL.va rfl rfl rfl (X.moveB rfl) ?_
                refine WL.p rfl rfl rfl rfl ?_
                refine WL.p rfl rfl rfl rfl ?_
                refine WL.p rfl rfl rfl rfl ?_
                refine WL.p rfl rfl rfl rfl ?_
                refine WL.p rfl rfl rfl rfl ?_
                refine WL.va rfl rfl rfl (X.pickF rfl rfl rfl) ?_
                refine WL.va rfl rfl rfl (X.assignB rfl) ?_
                refine WL.nil ?_
                refine thn_n ?_
                refine WF.seq ?_
                refine WF.region ?_
                refine WL.va rfl rfl rfl (X.moveB rfl) ?_
                refine WL.va rfl rfl rfl (X.moveB rfl) ?_
                refine WL.p rfl rfl rfl rfl ?_
                refine WL.p rfl rfl rfl rfl ?_
                refine WL.p rfl rfl rfl rfl ?_
                refine WL.p rfl rfl rfl rfl ?_
                refine WL.p rfl rfl rfl rfl ?_
                refine WL.va rfl rfl rfl (X.pickF rfl rfl rfl) ?_
                refine WL.va rfl rfl rfl (X.moveB rfl) ?_
                refine WL.p rfl rfl rfl rfl ?_
                refine WL.p rfl rfl rfl rfl ?_
                refine WL.p rfl rfl rfl rfl ?_
                refine WL.p rfl rfl rfl rfl ?_
                refine WL.p rfl rfl rfl rfl ?_
                refine WL.va rfl rfl rfl (X.pickF rfl rfl rfl) ?_
                refine WL.va rfl rfl rfl (X.moveB rfl) ?_
                refine WL.p rfl rfl rfl rfl ?_
                refine WL.p rfl rfl rfl rfl ?_
                refine WL.p rfl rfl rfl rfl ?_
                refine WL.p rfl rfl rfl rfl ?_
                refine WL.p rfl rfl rfl rfl ?_
                refine WL.va rfl rfl rfl (X.pickF rfl rfl rfl) ?_
                refine WL.va rfl rfl rfl (X.moveB rfl) ?_
                refine WL.p rfl rfl rfl rfl ?_
                refine WL.p rfl rfl rfl rfl ?_
                refine WL.p rfl rfl rfl rfl ?_
                refine WL.p rfl rfl rfl rfl ?_
                refine WL.p rfl rfl rfl rfl ?_
                refine WL.va rfl rfl rfl (X.pickF rfl rfl rfl) ?_
                refine WL.va rfl rfl rfl (X.moveB rfl) ?_
                refine WL.p rfl rfl rfl rfl ?_
                refine WL.p rfl rfl rfl rfl ?_
                refine WL.p rfl rfl rfl rfl ?_
                refine WL.p rfl rfl rfl rfl ?_
                refine WL.p rfl rfl rfl rfl ?_
                refine WL.va rfl rfl rfl (X.pickF rfl rfl rfl) ?_
                refine WL.va rfl rfl rfl (X.moveB rfl) ?_
                refine WL.p rfl rfl rfl rfl ?_
                refine WL.p rfl rfl rfl rfl ?_
                refine WL.p rfl rfl rfl rfl ?_
                refine WL.p rfl rfl rfl rfl ?_
                refine WL.p rfl rfl rfl rfl ?_
                refine WL.va rfl rfl rfl (X.pickF rfl rfl rfl) ?_
                refine WL.va rfl rfl rfl (X.moveB rfl) ?_
                refine WL.p rfl rfl rfl rfl ?_
                refine WL.p rfl rfl rfl rfl ?_
                refine WL.p rfl rfl rfl rfl ?_
                refine WL.p rfl rfl rfl rfl ?_
                refine WL.p rfl rfl rfl rfl ?_
                refine WL.va rfl rfl rfl (X.pickF rfl rfl rfl) ?_
                refine WL.va rfl rfl rfl (X.moveB rfl) ?_
                refine WL.p rfl rfl rfl rfl ?_
                refine WL.p rfl rfl rfl rfl ?_
                refine WL.p rfl rfl rfl rfl ?_
                refine WL.p rfl rfl rfl rfl ?_
                refine WL.p rfl rfl rfl rfl ?_
                refine WL.va rfl rfl rfl (X.pickF rfl rfl rfl) ?_
                refine WL.va rfl rfl rfl (X.assignB rfl) ?_
                refine WL.nil ?_
                refine thn_n ?_
                refine WF.ret ?_
                refine fin_r ?_
                first | exact ⟨congrArg Value.bool (decide_eq_false hne).symm, (Ext.trans hx3 hx7)⟩ | (refine ⟨congrArg Value.bool (decide_eq_decide.2 ?_), (Ext.trans hx3 hx7)⟩; rw [Msg.eq_iff]; constructor <;> intro e <;> first | exact e.2.2.2 | exact ⟨by simp only [Msg.ints, *], by simp_all, by assumption, e⟩)
            · have gh21 := (of_decide_eq_false h21)
              have hne : a ≠ b := fun e => gh21 (by rw [e])
              refine WL.p rfl rfl rfl (congrArg some h21) ?_
              refine WL.p rfl rfl rfl (congrArg some h21) ?_
              refine WL.p rfl rfl rfl (congrArg some h21) ?_
              refine WL.p rfl rfl rfl (congrArg some h21) ?_
              refine WL.p rfl rfl rfl (congrArg some h21) ?_
              refine WL.va rfl rfl rfl (X.pickF rfl h21 rfl) ?_
              refine WL.va rfl rfl rfl (X.moveB rfl) ?_
              refine WL.p rfl rfl rfl rfl ?_
              refine WL.p rfl rfl rfl rfl ?_
              refine WL.p rfl rfl rfl rfl ?_
              refine WL.p rfl rfl rfl rfl ?_
              refine WL.p rfl rfl rfl rfl ?_
              refine WL.va rfl rfl rfl (X.pickF rfl rfl rfl) ?_
              refine WL.va rfl rfl rfl (X.moveB rfl) ?_
              refine WL.p rfl rfl rfl rfl ?_
              refine WL.p rfl rfl rfl rfl ?_
              refine WL.p rfl rfl rfl rfl ?_
              refine WL.p rfl rfl rfl rfl ?_
              refine WL.p rfl rfl rfl rfl ?_
              refine WL.va rfl rfl rfl (X.pickF rfl rfl rfl) ?_
              refine WL.va rfl rfl rfl (X.assignB rfl) ?_
              refine WL.nil ?_
              refine thn_n ?_
              refine WF.seq ?_
              refine WF.region ?_
              refine WL.va rfl rfl rfl (X.moveB rfl) ?_
              refine WL.va rfl rfl rfl (X.moveB rfl) ?_
              refine WL.p rfl rfl rfl rfl ?_
              refine WL.p rfl rfl rfl rfl ?_
              refine WL.p rfl rfl rfl rfl ?_
              refine WL.p rfl rfl rfl rfl ?_
              refine WL.p rfl rfl rfl rfl ?_
              refine WL.va rfl rfl rfl (X.pickF rfl rfl rfl) ?_
              refine WL.va rfl rfl rfl (X.moveB rfl) ?_
              refine WL.p rfl rfl rfl rfl ?_
              refine WL.p rfl rfl rfl rfl ?_
              refine WL.p rfl rfl rfl rfl ?_
              refine WL.p rfl rfl rfl rfl ?_
              refine WL.p rfl rfl rfl rfl ?_
              refine WL.va rfl rfl rfl (X.pickF rfl rfl rfl) ?_
              refine WL.va rfl rfl rfl (X.moveB rfl) ?_
              refine WL.p rfl rfl rfl rfl ?_
              refine WL.p rfl rfl rfl rfl ?_
              refine WL.p rfl rfl rfl rfl ?_
              refine WL.p rfl rfl rfl rfl ?_
              refine WL.p rfl rfl rfl rfl ?_
              refine WL.va rfl rfl rfl (X.pickF rfl rfl rfl) ?_
              refine WL.va rfl rfl rfl (X.moveB rfl) ?_
              refine WL.p rfl rfl rfl rfl ?_
              refine WL.p rfl rfl rfl rfl ?_
              refine WL.p rfl rfl rfl rfl ?_
              refine WL.p rfl rfl rfl rfl ?_
              refine WL.p rfl rfl rfl rfl ?_
              refine WL.va rfl rfl rfl (X.pickF rfl rfl rfl) ?_
              refine WL.va rfl rfl rfl (X.moveB rfl) ?_
              refine WL.p rfl rfl rfl rfl ?_
              refine WL.p rfl rfl rfl rfl ?_
              refine WL.p rfl rfl rfl rfl ?_
              refine WL.p rfl rfl rfl rfl ?_
              refine WL.p rfl rfl rfl rfl ?_
              refine WL.va rfl rfl rfl (X.pickF rfl rfl rfl) ?_
              refine WL.va rfl rfl rfl (X.moveB rfl) ?_
              refine WL.p rfl rfl rfl rfl ?_
              refine WL.p rfl rfl rfl rfl ?_
              refine WL.p rfl rfl rfl rfl ?_
              refine WL.p rfl rfl rfl rfl ?_
              refine WL.p rfl rfl rfl rfl ?_
              refine WL.va rfl rfl rfl (X.pickF rfl rfl rfl) ?_
              refine WL.va rfl rfl rfl (X.moveB rfl) ?_
              refine WL.p rfl rfl rfl rfl ?_
              refine WL.p rfl rfl rfl rfl ?_
              refine WL.p rfl rfl rfl rfl ?_
              refine WL.p rfl rfl rfl rfl ?_
              refine WL.p rfl rfl rfl rfl ?_
              refine WL.va rfl rfl rfl (X.pickF rfl rfl rfl) ?_
              refine WL.va rfl rfl rfl (X.moveB rfl) ?_
              refine WL.p rfl rfl rfl rfl ?_
              refine WL.p rfl rfl rfl rfl ?_
              refine WL.p rfl rfl rfl rfl ?_
              refine WL.p rfl rfl rfl rfl ?_
              refine WL.p rfl rfl rfl rfl ?_
              refine WL.va rfl rfl rfl (X.pickF rfl rfl rfl) ?_
              refine WL.va rfl rfl rfl (X.assignB rfl) ?_
              refine WL.nil ?_
              refine thn_n ?_
              refine WF.ret ?_
              refine fin_r ?_
              first | exact ⟨congrArg Value.bool (decide_eq_false hne).symm, (Ext.trans hx3 hx7)⟩ | (refine ⟨congrArg Value.bool (decide_eq_decide.2 ?_), (Ext.trans hx3 hx7)⟩; rw [Msg.eq_iff]; constructor <;> intro e <;> first | exact e.2.2.2 | exact ⟨by simp only [Msg.ints, *], by simp_all, by assumption, e⟩)
          · have gh19 := (of_decide_eq_false h19)
            have hne : a ≠ b := fun e => gh19 (by rw [e])
            refine WL.p rfl rfl rfl (congrArg some h19) ?_
            refine WL.p rfl rfl rfl (congrArg some h19) ?_
            refine WL.p rfl rfl rfl (congrArg some h19) ?_
            refine WL.p rfl rfl rfl (congrArg some h19) ?_
            refine WL.p rfl rfl rfl (congrArg some h19) ?_
            refine WL.va rfl rfl rfl (X.pickF rfl h19 rfl) ?_
            refine WL.va rfl rfl rfl (X.moveB rfl) ?_
            refine WL.p rfl rfl rfl rfl ?_
            refine WL.p rfl rfl rfl rfl ?_
            refine WL.p rfl rfl rfl rfl ?_
            refine WL.p rfl rfl rfl rfl ?_
            refine WL.p rfl rfl rfl rfl ?_
            refine WL.va rfl rfl rfl (X.pickF rfl rfl rfl) ?_
            refine WL.va rfl rfl rfl (X.moveB rfl) ?_
            refine WL.p rfl rfl rfl rfl ?_
            refine WL.p rfl rfl rfl rfl ?_
            refine WL.p rfl rfl rfl rfl ?_
            refine WL.p rfl rfl rfl rfl ?_
            refine WL.p rfl rfl rfl rfl ?_
            refine WL.va rfl rfl rfl (X.pickF rfl rfl rfl) ?_
            refine WL.va rfl rfl rfl (X.moveB rfl) ?_
            refine WL.p rfl rfl rfl rfl ?_
            refine WL.p rfl rfl rfl rfl ?_
            refine WL.p rfl rfl rfl rfl ?_
            refine WL.p rfl rfl rfl rfl ?_
            refine WL.p rfl rfl rfl rfl ?_
            refine WL.va rfl rfl rfl (X.pickF rfl rfl rfl) ?_
            refine WL.va rfl rfl rfl (X.assignB rfl) ?_
            refine WL.nil ?_
            refine thn_n ?_
            refine WF.seq ?_
            refine WF.region ?_
            refine WL.va rfl rfl rfl (X.moveB rfl) ?_
            refine WL.va rfl rfl rfl (X.moveB rfl) ?_
            refine WL.p rfl rfl rfl rfl ?_
            refine WL.p rfl rfl rfl rfl ?_
            refine WL.p rfl rfl rfl rfl ?_
            refine WL.p rfl rfl rfl rfl ?_
            refine WL.p rfl rfl rfl rfl ?_
            refine WL.va rfl rfl rfl (X.pickF rfl rfl rfl) ?_
            refine WL.va rfl rfl rfl (X.moveB rfl) ?_
            refine WL.p rfl rfl rfl rfl ?_
            refine WL.p rfl rfl rfl rfl ?_
            refine WL.p rfl rfl rfl rfl ?_
            refine WL.p rfl rfl rfl rfl ?_
            refine WL.p rfl rfl rfl rfl ?_
            refine WL.va rfl rfl rfl (X.pickF rfl rfl rfl) ?_
            refine WL.va rfl rfl rfl (X.moveB rfl) ?_
            refine WL.p rfl rfl rfl rfl ?_
            refine WL.p rfl rfl rfl rfl ?_
            refine WL.p rfl rfl rfl rfl ?_
            refine WL.p rfl rfl rfl rfl ?_
            refine WL.p rfl rfl rfl rfl ?_
            refine WL.va rfl rfl rfl (X.pickF rfl rfl rfl) ?_
            refine WL.va rfl rfl rfl (X.moveB rfl) ?_
            refine WL.p rfl rfl rfl rfl ?_
            refine WL.p rfl rfl rfl rfl ?_
            refine WL.p rfl rfl rfl rfl ?_
            refine WL.p rfl rfl rfl rfl ?_
            refine WL.p rfl rfl rfl rfl ?_
            refine WL.va rfl rfl rfl (X.pickF rfl rfl rfl) ?_
            refine WL.va rfl rfl rfl (X.moveB rfl) ?_
            refine WL.p rfl rfl rfl rfl ?_
            refine WL.p rfl rfl rfl rfl ?_
            refine WL.p rfl rfl rfl rfl ?_
            refine WL.p rfl rfl rfl rfl ?_
            refine WL.p rfl rfl rfl rfl ?_
            refine WL.va rfl rfl rfl (X.pickF rfl rfl rfl) ?_
            refine WL.va rfl rfl rfl (X.moveB rfl) ?_
            refine WL.p rfl rfl rfl rfl ?_
            refine WL.p rfl rfl rfl rfl ?_
            refine WL.p rfl rfl rfl rfl ?_
            refine WL.p rfl rfl rfl rfl ?_
            refine WL.p rfl rfl rfl rfl ?_
            refine WL.va rfl rfl rfl (X.pickF rfl rfl rfl) ?_
            refine WL.va rfl rfl rfl (X.moveB rfl) ?_
            refine WL.p rfl rfl rfl rfl ?_
            refine WL.p rfl rfl rfl rfl ?_
            refine WL.p rfl rfl rfl rfl ?_
            refine WL.p rfl rfl rfl rfl ?_
            refine WL.p rfl rfl rfl rfl ?_
            refine WL.va rfl rfl rfl (X.pickF rfl rfl rfl) ?_
            refine WL.va rfl rfl rfl (X.moveB rfl) ?_
            refine WL.p rfl rfl rfl rfl ?_
            refine WL.p rfl rfl rfl rfl ?_
            refine WL.p rfl rfl rfl rfl ?_
            refine WL.p rfl rfl rfl rfl ?_
            refine WL.p rfl rfl rfl rfl ?_
            refine WL.va rfl rfl rfl (X.pickF rfl rfl rfl) ?_
            refine WL.va rfl rfl rfl (X.assignB rfl) ?_
            refine WL.nil ?_
            refine thn_n ?_
            refine WF.ret ?_
            refine fin_r ?_
            first | exact ⟨congrArg Value.bool (decide_eq_false hne).symm, (Ext.trans hx3 hx7)⟩ | (refine ⟨congrArg Value.bool (decide_eq_decide.2 ?_), (Ext.trans hx3 hx7)⟩; rw [Msg.eq_iff]; constructor <;> intro e <;> first | exact e.2.2.2 | exact ⟨by simp only [Msg.ints, *], by simp_all, by assumption, e⟩)
        · have gh17 := (of_decide_eq_false h17)
          have hne : a ≠ b := fun e => gh17 (by rw [e])
          refine WL.p rfl rfl rfl (congrArg some h17) ?_
          refine WL.p rfl rfl rfl (congrArg some h17) ?_
          refine WL.p rfl rfl rfl (congrArg some h17) ?_
          refine WL.p rfl rfl rfl (congrArg some h17) ?_
          refine WL.p rfl rfl rfl (congrArg some h17) ?_
          refine WL.va rfl rfl rfl (X.pickF rfl h17 rfl) ?_
          refine WL.va rfl rfl rfl (X.moveB rfl) ?_
          refine WL.p rfl rfl rfl rfl ?_
          refine WL.p rfl rfl rfl rfl ?_
          refine WL.p rfl rfl rfl rfl ?_
          refine WL.p rfl rfl rfl rfl ?_
          refine WL.p rfl rfl rfl rfl ?_
          refine WL.va rfl rfl rfl (X.pickF rfl rfl rfl) ?_
          refine WL.va rfl rfl rfl (X.moveB rfl) ?_
          refine WL.p rfl rfl rfl rfl ?_
          refine WL.p rfl rfl rfl rfl ?_
          refine WL.p rfl rfl rfl rfl ?_
          refine WL.p rfl rfl rfl rfl ?_
          refine WL.p rfl rfl rfl rfl ?_
          refine WL.va rfl rfl rfl (X.pickF rfl rfl rfl) ?_
          refine WL.va rfl rfl rfl (X.moveB rfl) ?_
          refine WL.p rfl rfl rfl rfl ?_
          refine WL.p rfl rfl rfl rfl ?_
          refine WL.p rfl rfl rfl rfl ?_
          refine WL.p rfl rfl rfl rfl ?_
          refine WL.p rfl rfl rfl rfl ?_
          refine WL.va rfl rfl rfl (X.pickF rfl rfl rfl) ?_
          refine WL.va rfl rfl rfl (X.moveB rfl) ?_
          refine WL.p rfl rfl rfl rfl ?_
          refine WL.p rfl rfl rfl rfl ?_
          refine WL.p rfl rfl rfl rfl ?_
          refine WL.p rfl rfl rfl rfl ?_
          refine WL.p rfl rfl rfl rfl ?_
          refine WL.va rfl rfl rfl (X.pickF rfl rfl rfl) ?_
          refine WL.va rfl rfl rfl (X.assignB rfl) ?_
          refine WL.nil ?_
          refine thn_n ?_
          refine WF.seq ?_
          refine WF.region ?_
          refine WL.va rfl rfl rfl (X.moveB rfl) ?_
          refine WL.va rfl rfl rfl (X.moveB rfl) ?_
          refine WL.p rfl rfl rfl rfl ?_
          refine WL.p rfl rfl rfl rfl ?_
          refine WL.p rfl rfl rfl rfl ?_
          refine WL.p rfl rfl rfl rfl ?_
          refine WL.p rfl rfl rfl rfl ?_
          refine WL.va rfl rfl rfl (X.pickF rfl rfl rfl) ?_
          refine WL.va rfl rfl rfl (X.moveB rfl) ?_
          refine WL.p rfl rfl rfl rfl ?_
          refine WL.p rfl rfl rfl rfl ?_
          refine WL.p rfl rfl rfl rfl ?_
          refine WL.p rfl rfl rfl rfl ?_
          refine WL.p rfl rfl rfl rfl ?_
          refine WL.va rfl rfl rfl (X.pickF rfl rfl rfl) ?_
          refine WL.va rfl rfl rfl (X.moveB rfl) ?_
          refine WL.p rfl rfl rfl rfl ?_
          refine WL.p rfl rfl rfl rfl ?_
          refine WL.p rfl rfl rfl rfl ?_
          refine WL.p rfl rfl rfl rfl ?_
          refine WL.p rfl rfl rfl rfl ?_
          refine WL.va rfl rfl rfl (X.pickF rfl rfl rfl) ?_
          refine WL.va rfl rfl rfl (X.moveB rfl) ?_
          refine WL.p rfl rfl rfl rfl ?_
          refine WL.p rfl rfl rfl rfl ?_
          refine WL.p rfl rfl rfl rfl ?_
          refine WL.p rfl rfl rfl rfl ?_
          refine WL.p rfl rfl rfl rfl ?_
          refine WL.va rfl rfl rfl (X.pickF rfl rfl rfl) ?_
          refine WL.va rfl rfl rfl (X.moveB rfl) ?_
          refine WL.p rfl rfl rfl rfl ?_
          refine WL.p rfl rfl rfl rfl ?_
          refine WL.p rfl rfl rfl rfl ?_
          refine WL.p rfl rfl rfl rfl ?_
          refine WL.p rfl rfl rfl rfl ?_
          refine WL.va rfl rfl rfl (X.pickF rfl rfl rfl) ?_
          refine WL.va rfl rfl rfl (X.moveB rfl) ?_
          refine WL.p rfl rfl rfl rfl ?_
          refine WL.p rfl rfl rfl rfl ?_
          refine WL.p rfl rfl rfl rfl ?_
          refine WL.p rfl rfl rfl rfl ?_
          refine WL.p rfl rfl rfl rfl ?_
          refine WL.va rfl rfl rfl (X.pickF rfl rfl rfl) ?_
          refine WL.va rfl rfl rfl (X.moveB rfl) ?_
          refine WL.p rfl rfl rfl rfl ?_
          refine WL.p rfl rfl rfl rfl ?_
          refine WL.p rfl rfl rfl rfl ?_
          refine WL.p rfl rfl rfl rfl ?_
          refine WL.p rfl rfl rfl rfl ?_
          refine WL.va rfl rfl rfl (X.pickF rfl rfl rfl) ?_
          refine WL.va rfl rfl rfl (X.moveB rfl) ?_
          refine WL.p rfl rfl rfl rfl ?_
          refine WL.p rfl rfl rfl rfl ?_
          refine WL.p rfl rfl rfl rfl ?_
          refine WL.p rfl rfl rfl rfl ?_
          refine WL.p rfl rfl rfl rfl ?_
          refine WL.va rfl rfl rfl (X.pickF rfl rfl rfl) ?_
          refine WL.va rfl rfl rfl (X.assignB rfl) ?_
          refine WL.nil ?_
          refine thn_n ?_
          refine WF.ret ?_
          refine fin_r ?_
          first | exact ⟨congrArg Value.bool (decide_eq_false hne).symm, (Ext.trans hx3 hx7)⟩ | (refine ⟨congrArg Value.bool (decide_eq_decide.2 ?_), (Ext.trans hx3 hx7)⟩; rw [Msg.eq_iff]; constructor <;> intro e <;> first | exact e.2.2.2 | exact ⟨by simp only [Msg.ints, *], by simp_all, by assumption, e⟩)
      · have gh15 := (of_decide_eq_false h15)
        have hne : a ≠ b := fun e => gh15 (by rw [e])
        refine WL.p rfl rfl rfl (congrArg some h15) ?_
        refine WL.p rfl rfl rfl (congrArg some h15) ?_
        refine WL.p rfl rfl rfl (congrArg some h15) ?_
        refine WL.p rfl rfl rfl (congrArg some h15) ?_
        refine WL.p rfl rfl rfl (congrArg some h15) ?_
        refine WL.va rfl rfl rfl (X.pickF rfl h15 rfl) ?_
        refine WL.va rfl rfl rfl (X.moveB rfl) ?_
        refine WL.p rfl rfl rfl rfl ?_
        refine WL.p rfl rfl rfl rfl ?_
        refine WL.p rfl rfl rfl rfl ?_
        refine WL.p rfl rfl rfl rfl ?_
        refine WL.p rfl rfl rfl rfl ?_
        refine WL.va rfl rfl rfl (X.pickF rfl rfl rfl) ?_
        refine WL.va rfl rfl rfl (X.moveB rfl) ?_
        refine WL.p rfl rfl rfl rfl ?_
        refine WL.p rfl rfl rfl rfl ?_
        refine WL.p rfl rfl rfl rfl ?_
        refine WL.p rfl rfl rfl rfl ?_
        refine WL.p rfl rfl rfl rfl ?_
        refine WL.va rfl rfl rfl (X.pickF rfl rfl rfl) ?_
        refine WL.va rfl rfl rfl (X.moveB rfl) ?_
        refine WL.p rfl rfl rfl rfl ?_
        refine WL.p rfl rfl rfl rfl ?_
        refine WL.p rfl rfl rfl rfl ?_
        refine WL.p rfl rfl rfl rfl ?_
        refine WL.p rfl rfl rfl rfl ?_
        refine WL.va rfl rfl rfl (X.pickF rfl rfl rfl) ?_
        refine WL.va rfl rfl rfl (X.moveB rfl) ?_
        refine WL.p rfl rfl rfl rfl ?_
        refine WL.p rfl rfl rfl rfl ?_
        refine WL.p rfl rfl rfl rfl ?_
        refine WL.p rfl rfl rfl rfl ?_
        refine WL.p rfl rfl rfl rfl ?_
        refine WL.va rfl rfl rfl (X.pickF rfl rfl rfl) ?_
        refine WL.va rfl rfl rfl (X.moveB rfl) ?_
        refine WL.p rfl rfl rfl rfl ?_
        refine WL.p rfl rfl rfl rfl ?_
        refine WL.p rfl rfl rfl rfl ?_
        refine WL.p rfl rfl rfl rfl ?_
        refine WL.p rfl rfl rfl rfl ?_
        refine WL.va rfl rfl rfl (X.pickF rfl rfl rfl) ?_
        refine WL.va rfl rfl rfl (X.assignB rfl) ?_
        refine WL.nil ?_
        refine thn_n ?_
        refine WF.seq ?_
        refine WF.region ?_
        refine WL.va rfl rfl rfl (X.moveB rfl) ?_
        refine WL.va rfl rfl rfl (X.moveB rfl) ?_
        refine WL.p rfl rfl rfl rfl ?_
        refine WL.p rfl rfl rfl rfl ?_
        refine WL.p rfl rfl rfl rfl ?_
        refine WL.p rfl rfl rfl rfl ?_
        refine WL.p rfl rfl rfl rfl ?_
        refine WL.va rfl rfl rfl (X.pickF rfl rfl rfl) ?_
        refine WL.va rfl rfl rfl (X.moveB rfl) ?_
        refine WL.p rfl rfl rfl rfl ?_
        refine WL.p rfl rfl rfl rfl ?_
        refine WL.p rfl rfl rfl rfl ?_
        refine WL.p rfl rfl rfl rfl ?_
        refine WL.p rfl rfl rfl rfl ?_
        refine WL.va rfl rfl rfl (X.pickF rfl rfl rfl) ?_
        refine WL.va rfl rfl rfl (X.moveB rfl) ?_
        refine WL.p rfl rfl rfl rfl ?_
        refine WL.p rfl rfl rfl rfl ?_
        refine WL.p rfl rfl rfl rfl ?_
        refine WL.p rfl rfl rfl rfl ?_
        refine WL.p rfl rfl rfl rfl ?_
        refine WL.va rfl rfl rfl (X.pickF rfl rfl rfl) ?_
        refine WL.va rfl rfl rfl (X.moveB rfl) ?_
        refine WL.p rfl rfl rfl rfl ?_
        refine WL.p rfl rfl rfl rfl ?_
        refine WL.p rfl rfl rfl rfl ?_
        refine WL.p rfl rfl rfl rfl ?_
        refine WL.p rfl rfl rfl rfl ?_
        refine WL.va rfl rfl rfl (X.pickF rfl rfl rfl) ?_
        refine WL.va rfl rfl rfl (X.moveB rfl) ?_
        refine WL.p rfl rfl rfl rfl ?_
        refine WL.p rfl rfl rfl rfl ?_
        refine WL.p rfl rfl rfl rfl ?_
        refine WL.p rfl rfl rfl rfl ?_
        refine WL.p rfl rfl rfl rfl ?_
        refine WL.va rfl rfl rfl (X.pickF rfl rfl rfl) ?_
        refine WL.va rfl rfl rfl (X.moveB rfl) ?_
        refine WL.p rfl rfl rfl rfl ?_
        refine WL.p rfl rfl rfl rfl ?_
        refine WL.p rfl rfl rfl rfl ?_
        refine WL.p rfl rfl rfl rfl ?_
        refine WL.p rfl rfl rfl rfl ?_
        refine WL.va rfl rfl rfl (X.pickF rfl rfl rfl) ?_
        refine WL.va rfl rfl rfl (X.moveB rfl) ?_
        refine WL.p rfl rfl rfl rfl ?_
        refine WL.p rfl rfl rfl rfl ?_
        refine WL.p rfl rfl rfl rfl ?_
        refine WL.p rfl rfl rfl rfl ?_
        refine WL.p rfl rfl rfl rfl ?_
        refine WL.va rfl rfl rfl (X.pickF rfl rfl rfl) ?_
        refine WL.va rfl rfl rfl (X.moveB rfl) ?_
        refine WL.p rfl rfl rfl rfl ?_
        refine WL.p rfl rfl rfl rfl ?_
        refine WL.p rfl rfl rfl rfl ?_
        refine WL.p rfl rfl rfl rfl ?_
        refine WL.p rfl rfl rfl rfl ?_
        refine WL.va rfl rfl rfl (X.pickF rfl rfl rfl) ?_
        refine WL.va rfl rfl rfl (X.assignB rfl) ?_
        refine WL.nil ?_
        refine thn_n ?_
        refine WF.ret ?_
        refine fin_r ?_
        first | exact ⟨congrArg Value.bool (decide_eq_false hne).symm, (Ext.trans hx3 hx7)⟩ | (refine ⟨congrArg Value.bool (decide_eq_decide.2 ?_), (Ext.trans hx3 hx7)⟩; rw [Msg.eq_iff]; constructor <;> intro e <;> first | exact e.2.2.2 | exact ⟨by simp only [Msg.ints, *], by simp_all, by assumption, e⟩)
    · have gh13 := (of_decide_eq_false h13)
      have hne : a ≠ b := fun e => gh13 (by rw [e])
      refine WL.p rfl rfl rfl (congrArg some h13) ?_
      refine WL.p rfl rfl rfl (congrArg some h13) ?_
      refine WL.p rfl rfl rfl (congrArg some h13) ?_
      refine WL.p rfl rfl rfl (congrArg some h13) ?_
      refine WL.p rfl rfl rfl (congrArg some h13) ?_
      refine WL.va rfl rfl rfl (X.pickF rfl h13 rfl) ?_
      refine WL.va rfl rfl rfl (X.moveB rfl) ?_
      refine WL.p rfl rfl rfl rfl ?_
      refine WL.p rfl rfl rfl rfl ?_
      refine WL.p rfl rfl rfl rfl ?_
      refine WL.p rfl rfl rfl rfl ?_
      refine WL.p rfl rfl rfl rfl ?_
      refine WL.va rfl rfl rfl (X.pickF rfl rfl rfl) ?_
      refine WL.va rfl rfl rfl (X.moveB rfl) ?_
      refine WL.p rfl rfl rfl rfl ?_
      refine WL.p rfl rfl rfl rfl ?_
      refine WL.p rfl rfl rfl rfl ?_
      refine WL.p rfl rfl rfl rfl ?_
      refine WL.p rfl rfl rfl rfl ?_
      refine WL.va rfl rfl rfl (X.pickF rfl rfl rfl) ?_
      refine WL.va rfl rfl rfl (X.moveB rfl) ?_
      refine WL.p rfl rfl rfl rfl ?_
      refine WL.p rfl rfl rfl rfl ?_
      refine WL.p rfl rfl rfl rfl ?_
      refine WL.p rfl rfl rfl rfl ?_
      refine WL.p rfl rfl rfl rfl ?_
      refine WL.va rfl rfl rfl (X.pickF rfl rfl rfl) ?_
      refine WL.va rfl rfl rfl (X.moveB rfl) ?_
      refine WL.p rfl rfl rfl rfl ?_
      refine WL.p rfl rfl rfl rfl ?_
      refine WL.p rfl rfl rfl rfl ?_
      refine WL.p rfl rfl rfl rfl ?_
      refine WL.p rfl rfl rfl rfl ?_
      refine WL.va rfl rfl rfl (X.pickF rfl rfl rfl) ?_
      refine WL.va rfl rfl rfl (X.moveB rfl) ?_
      refine WL.p rfl rfl rfl rfl ?_
      refine WL.p rfl rfl rfl rfl ?_
      refine WL.p rfl rfl rfl rfl ?_
      refine WL.p rfl rfl rfl rfl ?_
      refine WL.p rfl rfl rfl rfl ?_
      refine WL.va rfl rfl rfl (X.pickF rfl rfl rfl) ?_
      refine WL.va rfl rfl rfl (X.moveB rfl) ?_
      refine WL.p rfl rfl rfl rfl ?_
      refine WL.p rfl rfl rfl rfl ?_
      refine WL.p rfl rfl rfl rfl ?_
      refine WL.p rfl rfl rfl rfl ?_
      refine WL.p rfl rfl rfl rfl ?_
      refine WL.va rfl rfl rfl (X.pickF rfl rfl rfl) ?_
      refine WL.va rfl rfl rfl (X.assignB rfl) ?_
      refine WL.nil ?_
      refine thn_n ?_
      refine WF.seq ?_
      refine WF.region ?_
      refine WL.va rfl rfl rfl (X.moveB rfl) ?_
      refine WL.va rfl rfl rfl (X.moveB rfl) ?_
      refine WL.p rfl rfl rfl rfl ?_
      refine WL.p rfl rfl rfl rfl ?_
      refine WL.p rfl rfl rfl rfl ?_
      refine WL.p rfl rfl rfl rfl ?_
      refine WL.p rfl rfl rfl rfl ?_
      refine WL.va rfl rfl rfl (X.pickF rfl rfl rfl) ?_
      refine WL.va rfl rfl rfl (X.moveB rfl) ?_
      refine WL.p rfl rfl rfl rfl ?_
      refine WL.p rfl rfl rfl rfl ?_
      refine WL.p rfl rfl rfl rfl ?_
      refine WL.p rfl rfl rfl rfl ?_
      refine WL.p rfl rfl rfl rfl ?_
      refine WL.va rfl rfl rfl (X.pickF rfl rfl rfl) ?_
      refine WL.va rfl rfl rfl (X.moveB rfl) ?_
      refine WL.p rfl rfl rfl rfl ?_
      refine WL.p rfl rfl rfl rfl ?_
      refine WL.p rfl rfl rfl rfl ?_
      refine WL.p rfl rfl rfl rfl ?_
      refine WL.p rfl rfl rfl rfl ?_
      refine WL.va rfl rfl rfl (X.pickF rfl rfl rfl) ?_
      refine WL.va rfl rfl rfl (X.moveB rfl) ?_
      refine WL.p rfl rfl rfl rfl ?_
      refine WL.p rfl rfl rfl rfl ?_
      refine WL.p rfl rfl rfl rfl ?_
      refine WL.p rfl rfl rfl rfl ?_
      refine WL.p rfl rfl rfl rfl ?_
      refine WL.va rfl rfl rfl (X.pickF rfl rfl rfl) ?_
      refine WL.va rfl rfl rfl (X.moveB rfl) ?_
      refine WL.p rfl rfl rfl rfl ?_
      refine WL.p rfl rfl rfl rfl ?_
      refine WL.p rfl rfl rfl rfl ?_
      refine WL.p rfl rfl rfl rfl ?_
      refine WL.p rfl rfl rfl rfl ?_
      refine WL.va rfl rfl rfl (X.pickF rfl rfl rfl) ?_
      refine WL.va rfl rfl rfl (X.moveB rfl) ?_
      refine WL.p rfl rfl rfl rfl ?_
      refine WL.p rfl rfl rfl rfl ?_
      refine WL.p rfl rfl rfl rfl ?_
      refine WL.p rfl rfl rfl rfl ?_
      refine WL.p rfl rfl rfl rfl ?_
      refine WL.va rfl rfl rfl (X.pickF rfl rfl rfl) ?_
      refine WL.va rfl rfl rfl (X.moveB rfl) ?_
      refine WL.p rfl rfl rfl rfl ?_
      refine WL.p rfl rfl rfl rfl ?_
      refine WL.p rfl rfl rfl rfl ?_
      refine WL.p rfl rfl rfl rfl ?_
      refine WL.p rfl rfl rfl rfl ?_
      refine WL.va rfl rfl rfl (X.pickF rfl rfl rfl) ?_
      refine WL.va rfl rfl rfl (X.moveB rfl) ?_
      refine WL.p rfl rfl rfl rfl ?_
      refine WL.p rfl rfl rfl rfl ?_
      refine WL.p rfl rfl rfl rfl ?_
      refine WL.p rfl rfl rfl rfl ?_
      refine WL.p rfl rfl rfl rfl ?_
      refine WL.va rfl rfl rfl (X.pickF rfl rfl rfl) ?_
      refine WL.va rfl rfl rfl (X.assignB rfl) ?_
      refine WL.nil ?_
      refine thn_n ?_
      refine WF.ret ?_
      refine fin_r ?_
      first | exact ⟨congrArg Value.bool (decide_eq_false hne).symm, (Ext.trans hx3 hx7)⟩ | (refine ⟨congrArg Value.bool (decide_eq_decide.2 ?_), (Ext.trans hx3 hx7)⟩; rw [Msg.eq_iff]; constructor <;> intro e <;> first | exact e.2.2.2 | exact ⟨by simp only [Msg.ints, *], by simp_all, by assumption, e⟩)
  · have gh11 := (of_decide_eq_false h11)
    have hne : a ≠ b := fun e => gh11 (by rw [e])
    refine WL.p rfl rfl rfl (congrArg some h11) ?_
    refine WL.p rfl rfl rfl (congrArg some h11) ?_
    refine WL.p rfl rfl rfl (congrArg some h11) ?_
    refine WL.p rfl rfl rfl (congrArg some h11) ?_
    refine WL.p rfl rfl rfl (congrArg some h11) ?_
    refine WL.va rfl rfl rfl (X.pickF rfl h11 rfl) ?_
    refine WL.va rfl rfl rfl (X.moveB rfl) ?_
    refine WL.p rfl rfl rfl rfl ?_
    refine WL.p rfl rfl rfl rfl ?_
    refine WL.p rfl rfl rfl rfl ?_
    refine WL.p rfl rfl rfl rfl ?_
    refine WL.p rfl rfl rfl rfl ?_
    refine WL.va rfl rfl rfl (X.pickF rfl rfl rfl) ?_
    refine WL.va rfl rfl rfl (X.moveB rfl) ?_
    refine WL.p rfl rfl rfl rfl ?_
    refine WL.p rfl rfl rfl rfl ?_
    refine WL.p rfl rfl rfl rfl ?_
    refine WL.p rfl rfl rfl rfl ?_
    refine WL.p rfl rfl rfl rfl ?_
    refine WL.va rfl rfl rfl (X.pickF rfl rfl rfl) ?_
    refine WL.va rfl rfl rfl (X.moveB rfl) ?_
    refine WL.p rfl rfl rfl rfl ?_
    refine WL.p rfl rfl rfl rfl ?_
    refine WL.p rfl rfl rfl rfl ?_
    refine WL.p rfl rfl rfl rfl ?_
    refine WL.p rfl rfl rfl rfl ?_
    refine WL.va rfl rfl rfl (X.pickF rfl rfl rfl) ?_
    refine WL.va rfl rfl rfl (X.moveB rfl) ?_
    refine WL.p rfl rfl rfl rfl ?_
    refine WL.p rfl rfl rfl rfl ?_
    refine WL.p rfl rfl rfl rfl ?_
    refine WL.p rfl rfl rfl rfl ?_
    refine WL.p rfl rfl rfl rfl ?_
    refine WL.va rfl rfl rfl (X.pickF rfl rfl rfl) ?_
    refine WL.va rfl rfl rfl (X.moveB rfl) ?_
    refine WL.p rfl rfl rfl rfl ?_
    refine WL.p rfl rfl rfl rfl ?_
    refine WL.p rfl rfl rfl rfl ?_
    refine WL.p rfl rfl rfl rfl ?_
    refine WL.p rfl rfl rfl rfl ?_
    refine WL.va rfl rfl rfl (X.pickF rfl rfl rfl) ?_
    refine WL.va rfl rfl rfl (X.moveB rfl) ?_
    refine WL.p rfl rfl rfl rfl ?_
    refine WL.p rfl rfl rfl rfl ?_
    refine WL.p rfl rfl rfl rfl ?_
    refine WL.p rfl rfl rfl rfl ?_
    refine WL.p rfl rfl rfl rfl ?_
    refine WL.va rfl rfl rfl (X.pickF rfl rfl rfl) ?_
    refine WL.va rfl rfl rfl (X.moveB rfl) ?_
    refine WL.p rfl rfl rfl rfl ?_
    refine WL.p rfl rfl rfl rfl ?_
    refine WL.p rfl rfl rfl rfl ?_
    refine WL.p rfl rfl rfl rfl ?_
    refine WL.p rfl rfl rfl rfl ?_
    refine WL.va rfl rfl rfl (X.pickF rfl rfl rfl) ?_
    refine WL.va rfl rfl rfl (X.assignB rfl) ?_
    refine WL.nil ?_
    refine thn_n ?_
    refine WF.seq ?_
    refine WF.region ?_
    refine WL.va rfl rfl rfl (X.moveB rfl) ?_
    refine WL.va rfl rfl rfl (X.moveB rfl) ?_
    refine WL.p rfl rfl rfl rfl ?_
    refine WL.p rfl rfl rfl rfl ?_
    refine WL.p rfl rfl rfl rfl ?_
    refine WL.p rfl rfl rfl rfl ?_
    refine WL.p rfl rfl rfl rfl ?_
    refine WL.va rfl rfl rfl (X.pickF rfl rfl rfl) ?_
    refine WL.va rfl rfl rfl (X.moveB rfl) ?_
    refine WL.p rfl rfl rfl rfl ?_
    refine WL.p rfl rfl rfl rfl ?_
    refine WL.p rfl rfl rfl rfl ?_
    refine WL.p rfl rfl rfl rfl ?_
    refine WL.p rfl rfl rfl rfl ?_
    refine WL.va rfl rfl rfl (X.pickF rfl rfl rfl) ?_
    refine WL.va rfl rfl rfl (X.moveB rfl) ?_
    refine WL.p rfl rfl rfl rfl ?_
    refine WL.p rfl rfl rfl rfl ?_
    refine WL.p rfl rfl rfl rfl ?_
    refine WL.p rfl rfl rfl rfl ?_
    refine WL.p rfl rfl rfl rfl ?_
    refine WL.va rfl rfl rfl (X.pickF rfl rfl rfl) ?_
    refine WL.va rfl rfl rfl (X.moveB rfl) ?_
    refine WL.p rfl rfl rfl rfl ?_
    refine WL.p rfl rfl rfl rfl ?_
    refine WL.p rfl rfl rfl rfl ?_
    refine WL.p rfl rfl rfl rfl ?_
    refine WL.p rfl rfl rfl rfl ?_
    refine WL.va rfl rfl rfl (X.pickF rfl rfl rfl) ?_
    refine WL.va rfl rfl rfl (X.moveB rfl) ?_
    refine WL.p rfl rfl rfl rfl ?_
    refine WL.p rfl rfl rfl rfl ?_
    refine WL.p rfl rfl rfl rfl ?_
    refine WL.p rfl rfl rfl rfl ?_
    refine WL.p rfl rfl rfl rfl ?_
    refine WL.va rfl rfl rfl (X.pickF rfl rfl rfl) ?_
    refine WL.va rfl rfl rfl (X.moveB rfl) ?_
    refine WL.p rfl rfl rfl rfl ?_
    refine WL.p rfl rfl rfl rfl ?_
    refine WL.p rfl rfl rfl rfl ?_
    refine WL.p rfl rfl rfl rfl ?_
    refine WL.p rfl rfl rfl rfl ?_
    refine WL.va rfl rfl rfl (X.pickF rfl rfl rfl) ?_
    refine WL.va rfl rfl rfl (X.moveB rfl) ?_
    refine WL.p rfl rfl rfl rfl ?_
    refine WL.p rfl rfl rfl rfl ?_
    refine WL.p rfl rfl rfl rfl ?_
    refine WL.p rfl rfl rfl rfl ?_
    refine WL.p rfl rfl rfl rfl ?_
    refine WL.va rfl rfl rfl (X.pickF rfl rfl rfl) ?_
    refine WL.va rfl rfl rfl (X.moveB rfl) ?_
    refine WL.p rfl rfl rfl rfl ?_
    refine WL.p rfl rfl rfl rfl ?_
    refine WL.p rfl rfl rfl rfl ?_
    refine WL.p rfl rfl rfl rfl ?_
    refine WL.p rfl rfl rfl rfl ?_
    refine WL.va rfl rfl rfl (X.pickF rfl rfl rfl) ?_
    refine WL.va rfl rfl rfl (X.assignB rfl) ?_
    refine WL.nil ?_
    refine thn_n ?_
    refine WF.ret ?_
    refine fin_r ?_
    first | exact ⟨congrArg Value.bool (decide_eq_false hne).symm, (Ext.trans hx3 hx7)⟩ | (refine ⟨congrArg Value.bool (decide_eq_decide.2 ?_), (Ext.trans hx3 hx7)⟩; rw [Msg.eq_iff]; constructor <;> intro e <;> first | exact e.2.2.2 | exact ⟨by simp only [Msg.ints, *], by simp_all, by assumption, e⟩)

theorem sameMsgs_ok (va vb : Value) (la lb : List Msg) (w : World) (ha0 : Msgs w va la) (hb0 : Msgs w vb lb) : FnOk Try.prog 14 [va, vb] w (fun r w' => r = .bool (decide (la = lb)) ∧ Ext w w') := by
  have hla := ha0.le
  have hlb := hb0.le
  obtain ⟨ca, ha, hA⟩ := ha0
  obtain ⟨cb, hb, hB⟩ := hb0
  refine FnOk.enter (rs := [4]) Try.func14 rfl Try.ntmps14 Try.results14 rfl rfl ?_
  refine WF.seq ?_
  refine WF.region ?_
  refine WL.va rfl rfl rfl (X.assignB rfl) ?_
  refine WL.nil ?_
  refine thn_n ?_
  refine WF.seq ?_
  refine WF.seq ?_
  refine WF.region ?_
  refine WL.va rfl rfl rfl (X.move rfl) ?_
  refine WL.va rfl rfl rfl (X.len ha rfl Try.underlying30) ?_
  refine WL.va rfl rfl rfl (X.move rfl) ?_
  refine WL.va rfl rfl rfl (X.len hb rfl Try.underlying30) ?_
  refine WL.va rfl rfl rfl (X.neq rfl rfl) ?_
  refine WL.nil ?_
  refine thn_n ?_
  refine WF.cond rfl (fun h0_2 => ?_) (fun h0_2 => ?_)
  · have gh0_2 := (of_decide_eq_true h0_2)
    have hne : la ≠ lb := fun e => by rw [e] at gh0_2; exact gh0_2 rfl
    refine WF.seq ?_
    refine WF.region ?_
    refine WL.va rfl rfl rfl (X.assignB rfl) ?_
    refine WL.nil ?_
    refine thn_n ?_
    refine WF.ret ?_
    refine thn_r ?_
    refine fin_r ?_
    exact ⟨congrArg Value.bool (decide_eq_false hne).symm, (Ext.refl _)⟩
  · have gh0_2 := (Decidable.of_not_not (of_decide_eq_false h0_2))
    refine WF.skip ?_
    refine thn_n ?_
    refine WF.seq ?_
    refine WF.seq ?_
    refine WF.region ?_
    refine WL.va rfl rfl rfl (X.assignI rfl) ?_
    refine WL.nil ?_
    refine thn_n ?_
    refine WF.block ?_
    refine WF.named (fun F5 hF6 => ?_)
    refine WF.loopN (fun mL0 f' w' => ∃ (k : Nat), mL0 = la.length - k ∧ f' 5 = .int .i64 (k : Int) ∧ Agree [0, 1, 6, 7, 8, 9, 10] f' F5 ∧ Ext w w' ∧ k ≤ la.length ∧ la.take k = lb.take k) ?_ ?_
    · exact ⟨_, 0, rfl, (congrFun hF6 5), (Agree.refl _ _), (Ext.refl _), ⟨Nat.zero_le _, rfl⟩⟩
    · rintro mL0 fL0 wL0 ⟨k, hmL0, e5_L0, hAL0, hwL0, ⟨hk, hkk⟩⟩
      refine WF.seq ?_
      refine WF.seq ?_
      refine WF.region ?_
      refine WL.va rfl rfl rfl (X.moveI e5_L0) ?_
      refine WL.va rfl rfl rfl (X.move ((hAL0.eq 0).trans (congrFun hF6 0))) ?_
      refine WL.va rfl rfl rfl (X.len ha rfl Try.underlying30) ?_
      refine WL.va rfl rfl rfl (X.lss rfl rfl) ?_
      refine WL.nil ?_
      refine thn_n ?_
      refine WF.cond rfl (fun h1_7 => ?_) (fun h1_7 => ?_)
      · have gh1_7 := (of_decide_eq_true h1_7)
        have hka : k < la.length := by omega
        have hkb : k < lb.length := by omega
        obtain ⟨ea, da, xa, ya, za⟩ := hA k hka
        obtain ⟨eb, db, xb, yb, zb⟩ := hB k hkb
        refine WF.skip ?_
        refine thn_n ?_
        refine WF.seq ?_
        refine WF.block ?_
        refine WF.seq ?_
        refine WF.drawn (.q 0 (.q 1 (.q 2 (.q 3 (.q 4 (.q 5 (.q 6 (.q 7 (.l 8 (.q 9 .nil)))))))))) (fun w' => Ext w w') 10 (by kernel_rfl) (by kernel_rfl) (Ext.trans hwL0 (Ext.drew _)) ?_
        refine WO.q rfl rfl rfl rfl (fun w' hE9 => (X.move ((hAL0.eq 0).trans (congrFun hF6 0)))) ?_
        refine WO.q rfl rfl rfl rfl (fun w' hE9 => (X.moveI e5_L0)) ?_
        refine WO.q rfl rfl rfl rfl (fun w' hE9 => (X.idx ha rfl rfl (by omega) Try.underlying30 Try.sizeOf26)) ?_
        refine WO.q rfl rfl rfl rfl (fun w' hE9 => (X.loadEl ha hE9 rfl (by omega) xa Try.isAgg26 Try.sizeOf26)) ?_
        refine WO.q rfl rfl rfl rfl (fun w' hE9 => (X.move ((hAL0.eq 1).trans (congrFun hF6 1)))) ?_
        refine WO.q rfl rfl rfl rfl (fun w' hE9 => (X.moveI e5_L0)) ?_
        refine WO.q rfl rfl rfl rfl (fun w' hE9 => (X.idx hb rfl rfl (by omega) Try.underlying30 Try.sizeOf26)) ?_
        refine WO.q rfl rfl rfl rfl (fun w' hE9 => (X.loadEl hb hE9 rfl (by omega) xb Try.isAgg26 Try.sizeOf26)) ?_
        refine WO.l ?_
        refine LO.go rfl rfl (OW.enter rfl (by decide) (X.call Try.call35 (evl_cons rfl (evl_cons rfl evl_nil))) (sameMsg_ok _ _ _ _ _ _ _ (ya.ext (Ext.trans hwL0 (Ext.drew _))) (Row.ext za (Ext.trans hwL0 (Ext.drew _))) (yb.ext (Ext.trans hwL0 (Ext.drew _))) (Row.ext zb (Ext.trans hwL0 (Ext.drew _)))) ?_)
        rintro v11 w10 ⟨rfl, hx12⟩
        refine ⟨(Ext.trans (Ext.trans hwL0 (Ext.drew _)) hx12), ?_⟩
        refine WO.q rfl rfl rfl rfl (fun w' hE9 => (X.not rfl)) ?_
        refine WO.nil ?_
        refine WL.nil ?_
        refine thn_n ?_
        refine WF.cond rfl (fun h2_14 => ?_) (fun h2_14 => ?_)
        · have gh2_14 := (of_decide_eq_false (nt h2_14))
          have hne : la ≠ lb := fun e => gh2_14 (by subst e; rfl)
          refine WF.seq ?_
          refine WF.region ?_
          refine WL.va rfl rfl rfl (X.assignB rfl) ?_
          refine WL.nil ?_
          refine thn_n ?_
          refine WF.ret ?_
          refine blk_r ?_
          refine thn_r ?_
          refine thn_r ?_
          refine blk_r ?_
          refine thn_r ?_
          refine fin_r ?_
          exact ⟨congrArg Value.bool (decide_eq_false hne).symm, (Ext.trans (Ext.trans hwL0 (Ext.drew _)) hx12)⟩
        · have gh2_14 := (of_decide_eq_true (nf h2_14))
          have heq := gh2_14
          refine WF.skip ?_
          refine blk_n ?_
          refine thn_n ?_
          refine WF.region ?_
          refine WL.va rfl rfl rfl (X.moveI e5_L0) ?_
          refine WL.va rfl rfl rfl (X.add rfl rfl (w64 (by omega))) ?_
          refine WL.va rfl rfl rfl (X.assignI rfl) ?_
          refine WL.nil ?_
          exact thn_n ⟨_, (by omega), k + 1, rfl, rfl, (by repeat (first | exact hAL0 | refine Agree.put ?_ rfl | refine Agree.named hF6 ?_)), (Ext.trans (Ext.trans hwL0 (Ext.drew _)) hx12), ⟨by omega, by rw [List.take_succ_eq_append_getElem hka, List.take_succ_eq_append_getElem hkb, hkk, heq]⟩⟩
      · have gh1_7 := (of_decide_eq_false h1_7)
        refine WF.exit ?_
        refine thn_x ?_
        refine thn_x ?_
        refine blk_eq ?_
        refine thn_n ?_
        refine WF.seq ?_
        refine WF.region ?_
        refine WL.va rfl rfl rfl (X.assignB rfl) ?_
        refine WL.nil ?_
        refine thn_n ?_
        refine WF.ret ?_
        refine fin_r ?_
        exact ⟨congrArg Value.bool (decide_eq_true (by rw [List.take_of_length_le (by omega), List.take_of_length_le (by omega)] at hkk; exact hkk)).symm, hwL0⟩

theorem bigEntries_ok (v : Value) (l : List Ent) (items bytes : Nat) (w : World) (h0 : Ents w v l) (hi : items ≤ 1000000) (hby : bytes ≤ 1000000000) : FnOk Try.prog 23 [v, i64 (items : Int), i64 (bytes : Int)] w (fun r w' => r = .bool (bigE items bytes l) ∧ Ext w w') := by
  have hl := h0.le
  obtain ⟨cs, hr, hE⟩ := h0
  refine FnOk.enter (rs := [6]) Try.func23 rfl Try.ntmps23 Try.results23 rfl rfl ?_
  refine WF.seq ?_
  refine WF.region ?_
  refine WL.va rfl rfl rfl (X.assignB rfl) ?_
  refine WL.nil ?_
  refine thn_n ?_
  refine WF.seq ?_
  refine WF.seq ?_
  refine WF.region ?_
  refine WL.va rfl rfl rfl (X.move rfl) ?_
  refine WL.va rfl rfl rfl (X.len hr rfl Try.underlying23) ?_
  refine WL.va rfl rfl rfl (X.moveI rfl) ?_
  refine WL.va rfl rfl rfl (X.gtr rfl rfl) ?_
  refine WL.nil ?_
  refine thn_n ?_
  refine WF.cond rfl (fun h0_2 => ?_) (fun h0_2 => ?_)
  · have gh0_2 := (of_decide_eq_true h0_2)
    have hbg : bigE items bytes l = true := by unfold bigE; rw [decide_eq_true (by omega)]; rfl
    refine WF.seq ?_
    refine WF.region ?_
    refine WL.va rfl rfl rfl (X.assignB rfl) ?_
    refine WL.nil ?_
    refine thn_n ?_
    refine WF.ret ?_
    refine thn_r ?_
    refine fin_r ?_
    exact ⟨by rw [hbg]; rfl, (Ext.refl _)⟩
  · have gh0_2 := (of_decide_eq_false h0_2)
    have hb0 : bigE items bytes l = bigSum bytes 0 l := by unfold bigE; rw [decide_eq_false (by omega)]; rfl
    refine WF.skip ?_
    refine thn_n ?_
    refine WF.seq ?_
    refine WF.region ?_
    refine WL.va rfl rfl rfl (X.assignI rfl) ?_
    refine WL.nil ?_
    refine thn_n ?_
    refine WF.seq ?_
    refine WF.seq ?_
    refine WF.region ?_
    refine WL.va rfl rfl rfl (X.assignI rfl) ?_
    refine WL.nil ?_
    refine thn_n ?_
    refine WF.block ?_
    refine WF.named (fun F5 hF6 => ?_)
    refine WF.loopN (fun mL0 f' w' => ∃ (k n : Nat), mL0 = l.length - k ∧ f' 8 = .int .i64 (k : Int) ∧ f' 7 = .int .i64 (n : Int) ∧ Agree [0, 1, 2, 9, 10, 11, 12] f' F5 ∧ Ext w w' ∧ k ≤ l.length ∧ n ≤ bytes ∧ bigSum bytes 0 l = bigSum bytes n (l.drop k)) ?_ ?_
    · exact ⟨_, 0, 0, rfl, (congrFun hF6 8), (congrFun hF6 7), (Agree.refl _ _), (Ext.refl _), ⟨Nat.zero_le _, Nat.zero_le _, rfl⟩⟩
    · rintro mL0 fL0 wL0 ⟨k, n, hmL0, e8_L0, e7_L0, hAL0, hwL0, ⟨hk, hn, hs⟩⟩
      refine WF.seq ?_
      refine WF.seq ?_
      refine WF.region ?_
      refine WL.va rfl rfl rfl (X.moveI e8_L0) ?_
      refine WL.va rfl rfl rfl (X.move ((hAL0.eq 0).trans (congrFun hF6 0))) ?_
      refine WL.va rfl rfl rfl (X.len hr rfl Try.underlying23) ?_
      refine WL.va rfl rfl rfl (X.lss rfl rfl) ?_
      refine WL.nil ?_
      refine thn_n ?_
      refine WF.cond rfl (fun h1_7 => ?_) (fun h1_7 => ?_)
      · have gh1_7 := (of_decide_eq_true h1_7)
        have hka : k < l.length := by omega
        obtain ⟨da, xa, ya⟩ := hE k hka
        refine WF.skip ?_
        refine thn_n ?_
        refine WF.seq ?_
        refine WF.block ?_
        refine WF.seq ?_
        refine WF.region ?_
        refine WL.va rfl rfl rfl (X.moveI e7_L0) ?_
        refine WL.va rfl rfl rfl (X.move ((hAL0.eq 0).trans (congrFun hF6 0))) ?_
        refine WL.va rfl rfl rfl (X.moveI e8_L0) ?_
        refine WL.va rfl rfl rfl (X.idx hr rfl rfl (by omega) Try.underlying23 Try.sizeOf66) ?_
        refine WL.va rfl rfl rfl (X.fieldAddrA rfl Try.underlying66 rfl rfl Try.sizeOf24) ?_
        refine WL.va rfl rfl rfl (X.loadE hr hwL0 rfl (by omega) ((el_get xa 2 (by decide)).trans rfl) Try.isAgg24) ?_
        refine WL.va rfl rfl rfl (X.len ya rfl Try.underlying24) ?_
        refine WL.va rfl rfl rfl (X.moveI ((hAL0.eq 2).trans (congrFun hF6 2))) ?_
        refine WL.va rfl rfl rfl (X.add rfl rfl (w64 (by omega))) ?_
        refine WL.va rfl rfl rfl (X.min2N (b := bytes + 1) rfl rfl) ?_
        refine WL.va rfl rfl rfl (X.add rfl rfl (w64 (by omega))) ?_
        refine WL.va rfl rfl rfl (X.assignI rfl) ?_
        refine WL.nil ?_
        refine thn_n ?_
        refine WF.seq ?_
        refine WF.region ?_
        refine WL.va rfl rfl rfl (X.moveI rfl) ?_
        refine WL.va rfl rfl rfl (X.moveI ((hAL0.eq 2).trans (congrFun hF6 2))) ?_
        refine WL.va rfl rfl rfl (X.gtr rfl rfl) ?_
        refine WL.nil ?_
        refine thn_n ?_
        refine WF.cond rfl (fun h2_9 => ?_) (fun h2_9 => ?_)
        · have gh2_9 := (of_decide_eq_true h2_9)
          have hbg : bigE items bytes l = true := by rw [hb0, hs, bigSum_drop hka, decide_eq_true (by omega)]; rfl
          refine WF.seq ?_
          refine WF.region ?_
          refine WL.va rfl rfl rfl (X.assignB rfl) ?_
          refine WL.nil ?_
          refine thn_n ?_
          refine WF.ret ?_
          refine blk_r ?_
          refine thn_r ?_
          refine thn_r ?_
          refine blk_r ?_
          refine thn_r ?_
          refine fin_r ?_
          exact ⟨by rw [hbg]; rfl, hwL0⟩
        · have gh2_9 := (of_decide_eq_false h2_9)
          have hs2 : bigSum bytes n (l.drop k) = bigSum bytes (n + min l[k].Data.length (bytes + 1)) (l.drop (k + 1)) := by rw [bigSum_drop hka, decide_eq_false (by omega)]; rfl
          refine WF.skip ?_
          refine blk_n ?_
          refine thn_n ?_
          refine WF.region ?_
          refine WL.va rfl rfl rfl (X.moveI e8_L0) ?_
          refine WL.va rfl rfl rfl (X.add rfl rfl (w64 (by omega))) ?_
          refine WL.va rfl rfl rfl (X.assignI rfl) ?_
          refine WL.nil ?_
          exact thn_n ⟨_, (by omega), k + 1, n + min l[k].Data.length (bytes + 1), rfl, rfl, rfl, (by repeat (first | exact hAL0 | refine Agree.put ?_ rfl | refine Agree.named hF6 ?_)), hwL0, ⟨by omega, by omega, hs.trans hs2⟩⟩
      · have gh1_7 := (of_decide_eq_false h1_7)
        refine WF.exit ?_
        refine thn_x ?_
        refine thn_x ?_
        refine blk_eq ?_
        refine thn_n ?_
        refine WF.seq ?_
        refine WF.region ?_
        refine WL.va rfl rfl rfl (X.assignB rfl) ?_
        refine WL.nil ?_
        refine thn_n ?_
        refine WF.ret ?_
        refine fin_r ?_
        exact ⟨by rw [hb0, hs, List.drop_of_length_le (by omega)]; rfl, hwL0⟩

theorem bigMsg_ok (m : Msg) (ve vd : Value) (items bytes : Nat) (w : World) (he : Ents w ve m.Entries) (hd : Bytes w vd m.Data) (hi : items ≤ 1000000) (hby : bytes ≤ 1000000000) : FnOk Try.prog 8 [agg (m.c ve vd), i64 (items : Int), i64 (bytes : Int)] w (fun r w' => r = .bool (bigM items bytes m) ∧ Ext w w') := by
  refine FnOk.enter (rs := [6]) Try.func8 rfl Try.ntmps8 Try.results8 rfl rfl ?_
  refine WF.seq ?_
  refine WF.region ?_
  refine WL.op rfl (OW.boxA (cs := _) rfl ?_ (by decide))
  intro g3 w1 heg3 hlg3 hO3 hx3
  have := World.grownBy.size hx3
  refine WL.va rfl rfl rfl (X.assignB rfl) ?_
  refine WL.nil ?_
  refine thn_n ?_
  refine WF.seq ?_
  refine WF.region ?_
  refine WL.va rfl rfl rfl (X.fieldAddrO (off := 15) rfl Try.underlying26 rfl rfl Try.sizeOf23) ?_
  refine WL.va rfl rfl rfl (X.loadO hO3 (Ext.refl _) rfl rfl Try.isAgg23) ?_
  refine WL.va rfl rfl rfl (X.moveI rfl) ?_
  refine WL.va rfl rfl rfl (X.moveI rfl) ?_
  refine WL.c rfl rfl rfl (X.call Try.call23 (evl_cons rfl (evl_cons rfl (evl_cons rfl evl_nil)))) (bigEntries_ok _ _ _ _ _ (he.ext hx3) hi hby) ?_
  rintro v7 w6 ⟨rfl, hx8⟩
  have := World.grownBy.size hx8
  refine WL.va rfl rfl rfl (X.moveB rfl) ?_
  refine WL.split (j := 5) rfl (fun h10 => ?_) (fun h10 => ?_)
  · have gh10 := h10
    have hq : bigM items bytes m = true := by unfold bigM; rw [gh10]; rfl
    refine WL.p rfl rfl rfl (congrArg some h10) ?_
    refine WL.p rfl rfl rfl (congrArg some h10) ?_
    refine WL.p rfl rfl rfl (congrArg some h10) ?_
    refine WL.p rfl rfl rfl (congrArg some h10) ?_
    refine WL.p rfl rfl rfl (congrArg some h10) ?_
    refine WL.va rfl rfl rfl (X.pickT rfl h10 rfl) ?_
    refine WL.va rfl rfl rfl (X.assignB rfl) ?_
    refine WL.nil ?_
    refine thn_n ?_
    refine WF.ret ?_
    refine fin_r ?_
    exact ⟨by rw [hq]; rfl, (Ext.trans hx3 hx8)⟩
  · have gh10 := h10
    have hq : bigM items bytes m = decide ((bytes : Int) < (m.Data.length : Int)) := by unfold bigM; rw [gh10, Bool.false_or]; exact decide_eq_decide.2 (by omega)
    refine WL.vg rfl (congrArg some h10) rfl rfl (X.fieldAddrO (off := 16) rfl Try.underlying26 rfl rfl Try.sizeOf24) ?_
    refine WL.vg rfl (congrArg some h10) rfl rfl (X.loadO hO3 hx8 rfl rfl Try.isAgg24) ?_
    refine WL.vg rfl (congrArg some h10) rfl rfl (X.len (Row.ext hd (Ext.trans hx3 hx8)) rfl Try.underlying24) ?_
    refine WL.vg rfl (congrArg some h10) rfl rfl (X.moveI rfl) ?_
    refine WL.vg rfl (congrArg some h10) rfl rfl (X.gtr rfl rfl) ?_
    refine WL.va rfl rfl rfl (X.pickF rfl h10 rfl) ?_
    refine WL.va rfl rfl rfl (X.assignB rfl) ?_
    refine WL.nil ?_
    refine thn_n ?_
    refine WF.ret ?_
    refine fin_r ?_
    exact ⟨by rw [hq]; rfl, (Ext.trans hx3 hx8)⟩

end Go.Proofs.Ytgbkgkicgaikdaa
