/- The walks of the kit's functions over events and numbers, and of copied. -/
import Derived.Test.YtobjmehppmhkdaaWitP
namespace Go.Proofs.Ytobjmehppmhkdaa
open Go Go.RowKit Kf
set_option maxRecDepth 20000

theorem keptI_ne0 {la l : List Int} (h : (la.length : Int) ≠ (l.length : Int) + 5) : la ≠ l ++ List.replicate 5 (-77) := fun e => by
  apply h; rw [e]; simp
theorem keptI_ne1 {la l : List Int} (h : decide ((la.drop 0).take (l.length - 0) = l) = false) : la ≠ l ++ List.replicate 5 (-77) := fun e => by
  rw [e] at h; simp at h
theorem keptI_ne2 {la l : List Int} {k : Nat} (h1 : l.length ≤ k) (h2 : k < l.length + 5) (h : ¬ la.getD k 0 = (-77)) : la ≠ l ++ List.replicate 5 (-77) := fun e => by
  apply h
  rw [e, List.getD_eq_getElem?_getD, List.getElem?_append_right h1, List.getElem?_replicate, if_pos (by omega)]
  rfl
theorem keptI_eq {la l : List Int} (h : la.length = l.length + 5) (hp : decide ((la.drop 0).take (l.length - 0) = l) = true) (hm : ∀ i, l.length ≤ i → i < la.length → la.getD i 0 = (-77)) : la = l ++ List.replicate 5 (-77) := by
  have hp := of_decide_eq_true hp
  simp only [List.drop_zero, Nat.sub_zero] at hp
  conv => lhs; rw [← List.take_append_drop l.length la, hp]
  congr 1
  apply List.ext_getElem?
  intro i
  rw [List.getElem?_drop, List.getElem?_replicate]
  by_cases hi : i < 5
  · rw [if_pos hi]
    have := hm (l.length + i) (by omega) (by omega)
    rw [List.getD_eq_getElem?_getD, List.getElem?_eq_getElem (by omega)] at this
    rw [List.getElem?_eq_getElem (by omega)]
    simpa using this
  · rw [if_neg hi, List.getElem?_eq_none (by omega)]
theorem lentI_part {w : World} {B : Nat} {v : Value} {l : List Int} (ho : OwnI w B 3 v (l ++ List.replicate 5 (-77))) : Ints w (Kf.part v 0 l.length 1) l := by
  have := Ints.part (Ints.of_own ho) 0 l.length (Nat.zero_le _) (by simp)
  simpa using this

theorem sameInts_ok (va vb : Value) (la lb : List Int) (w : World) (ha : Ints w va la) (hb : Ints w vb lb) : FnOk Try.prog 37 [va, vb] w (fun r w' => r = .bool (decide (la = lb)) ∧ Ext w w') := by
  have hla := ha.le64
  have hlb := hb.le64
  refine FnOk.enter (rs := [4]) Try.func37 rfl Try.ntmps37 Try.results37 rfl rfl ?_
  refine WF.seq ?_
  refine WF.region ?_
  refine WL.va rfl rfl rfl (X.assignB rfl) ?_
  refine WL.nil ?_
  refine thn_n ?_
  refine WF.seq ?_
  refine WF.seq ?_
  refine WF.region ?_
  refine WL.va rfl rfl rfl (X.move rfl) ?_
  refine WL.va rfl rfl rfl (X.len ha rfl Try.underlying34) ?_
  refine WL.va rfl rfl rfl (X.move rfl) ?_
  refine WL.va rfl rfl rfl (X.len hb rfl Try.underlying34) ?_
  refine WL.va rfl rfl rfl (X.neq rfl rfl) ?_
  refine WL.nil ?_
  refine thn_n ?_
  refine WF.cond rfl (fun h0_2 => ?_) (fun h0_2 => ?_)
  · have gh0_2 := (of_decide_eq_true h0_2)
    have hlen := gh0_2
    have hne : la ≠ lb := fun e => by rw [e] at gh0_2; exact gh0_2 rfl
    refine WF.seq ?_
    refine WF.region ?_
    refine WL.va rfl rfl rfl (X.assignB rfl) ?_
    refine WL.nil ?_
    refine thn_n ?_
    refine WF.ret ?_
    refine thn_r ?_
    refine fin_r ?_
    exact ⟨congrArg Value.bool (decide_eq_false hne).symm, (Ext.refl _)⟩
  · have gh0_2 := (Decidable.of_not_not (of_decide_eq_false h0_2))
    have hlen := gh0_2
    refine WF.skip ?_
    refine thn_n ?_
    refine WF.seq ?_
    refine WF.seq ?_
    refine WF.region ?_
    refine WL.va rfl rfl rfl (X.assignI rfl) ?_
    refine WL.nil ?_
    refine thn_n ?_
    refine WF.block ?_
    refine WF.named (fun F5 hF6 => ?_)
    refine WF.loopN (fun mL0 f' w' => ∃ (k : Nat), mL0 = la.length - k ∧ f' 5 = .int .i64 (k : Int) ∧ Agree [0, 1, 6, 7, 8, 9, 10] f' F5 ∧ Ext w w' ∧ k ≤ la.length ∧ la.take k = lb.take k) ?_ ?_
    · exact ⟨_, 0, rfl, (congrFun hF6 5), (Agree.refl _ _), (Ext.refl _), ⟨Nat.zero_le _, rfl⟩⟩
    · rintro mL0 fL0 wL0 ⟨k, hmL0, e5_L0, hAL0, hwL0, ⟨hk, hkk⟩⟩
      refine WF.seq ?_
      refine WF.seq ?_
      refine WF.region ?_
      refine WL.va rfl rfl rfl (X.moveI e5_L0) ?_
      refine WL.va rfl rfl rfl (X.move ((hAL0.eq 0).trans (congrFun hF6 0))) ?_
      refine WL.va rfl rfl rfl (X.len ha rfl Try.underlying34) ?_
      refine WL.va rfl rfl rfl (X.lss rfl rfl) ?_
      refine WL.nil ?_
      refine thn_n ?_
      refine WF.cond rfl (fun h1_7 => ?_) (fun h1_7 => ?_)
      · have gh1_7 := (of_decide_eq_true h1_7)
        have hlt := gh1_7
        refine WF.skip ?_
        refine thn_n ?_
        refine WF.seq ?_
        refine WF.block ?_
        refine WF.seq ?_
        refine WF.drawn (.q 0 (.q 1 (.q 2 (.q 3 (.q 4 (.q 5 (.q 6 (.q 7 (.q 8 .nil))))))))) (fun w' => Ext wL0 w') 9 (by kernel_rfl) (by kernel_rfl) (Ext.drew _) ?_
        refine WO.q rfl rfl rfl rfl (fun w' hE9 => (X.move ((hAL0.eq 0).trans (congrFun hF6 0)))) ?_
        refine WO.q rfl rfl rfl rfl (fun w' hE9 => (X.moveI e5_L0)) ?_
        refine WO.q rfl rfl rfl rfl (fun w' hE9 => (X.idx ha rfl rfl (by omega) Try.underlying34 Try.sizeOf3)) ?_
        refine WO.q rfl rfl rfl rfl (fun w' hE9 => (X.loadI ha (Ext.trans hwL0 hE9) rfl (by omega) Try.isAgg3)) ?_
        refine WO.q rfl rfl rfl rfl (fun w' hE9 => (X.move ((hAL0.eq 1).trans (congrFun hF6 1)))) ?_
        refine WO.q rfl rfl rfl rfl (fun w' hE9 => (X.moveI e5_L0)) ?_
        refine WO.q rfl rfl rfl rfl (fun w' hE9 => (X.idx hb rfl rfl (by omega) Try.underlying34 Try.sizeOf3)) ?_
        refine WO.q rfl rfl rfl rfl (fun w' hE9 => (X.loadI hb (Ext.trans hwL0 hE9) rfl (by omega) Try.isAgg3)) ?_
        refine WO.q rfl rfl rfl rfl (fun w' hE9 => (X.neq rfl rfl)) ?_
        refine WO.nil ?_
        refine WL.nil ?_
        refine thn_n ?_
        refine WF.cond rfl (fun h2_10 => ?_) (fun h2_10 => ?_)
        · have gh2_10 := (of_decide_eq_true h2_10)
          have hne : la ≠ lb := fun e => gh2_10 (by subst e; rfl)
          refine WF.seq ?_
          refine WF.region ?_
          refine WL.va rfl rfl rfl (X.assignB rfl) ?_
          refine WL.nil ?_
          refine thn_n ?_
          refine WF.ret ?_
          refine blk_r ?_
          refine thn_r ?_
          refine thn_r ?_
          refine blk_r ?_
          refine thn_r ?_
          refine fin_r ?_
          exact ⟨congrArg Value.bool (decide_eq_false hne).symm, (Ext.trans hwL0 (Ext.drew _))⟩
        · have gh2_10 := (Decidable.of_not_not (of_decide_eq_false h2_10))
          have heq := gh2_10
          refine WF.skip ?_
          refine blk_n ?_
          refine thn_n ?_
          refine WF.region ?_
          refine WL.va rfl rfl rfl (X.moveI e5_L0) ?_
          refine WL.va rfl rfl rfl (X.add rfl rfl (w64 (by omega))) ?_
          refine WL.va rfl rfl rfl (X.assignI rfl) ?_
          refine WL.nil ?_
          exact thn_n ⟨_, (by omega), k + 1, rfl, rfl, (by repeat (first | exact hAL0 | refine Agree.put ?_ rfl | refine Agree.named hF6 ?_)), (Ext.trans hwL0 (Ext.drew _)), ⟨by omega, by rw [takeI _ _ (by omega), takeI _ _ (by omega), hkk, heq]⟩⟩
      · have gh1_7 := (of_decide_eq_false h1_7)
        have hlt := gh1_7
        refine WF.exit ?_
        refine thn_x ?_
        refine thn_x ?_
        refine blk_eq ?_
        refine thn_n ?_
        refine WF.seq ?_
        refine WF.region ?_
        refine WL.va rfl rfl rfl (X.assignB rfl) ?_
        refine WL.nil ?_
        refine thn_n ?_
        refine WF.ret ?_
        refine fin_r ?_
        exact ⟨congrArg Value.bool (decide_eq_true (by rw [List.take_of_length_le (by omega), List.take_of_length_le (by omega)] at hkk; exact hkk)).symm, hwL0⟩

theorem spoilInts_ok (v : Value) (l : List Int) (w : World) (B : Nat) (ho : OwnI w B 3 v l) : FnOk Try.prog 39 [v] w (fun _ w' => (∃ l', OwnI w' B 3 v l') ∧ w.grownBy w' v.ownBlock) := by
  have hb := Ints.of_own ho
  have hl := hb.le64
  refine FnOk.enter (rs := []) Try.func39 rfl Try.ntmps39 Try.results39 rfl rfl ?_
  refine WF.seq ?_
  refine WF.region ?_
  refine WL.va rfl rfl rfl (X.assignI rfl) ?_
  refine WL.nil ?_
  refine thn_n ?_
  refine WF.block ?_
  refine WF.named (fun F1 hF2 => ?_)
  refine WF.loopN (fun mL0 f' w' => ∃ (k : Nat) (L : List Int), mL0 = l.length - k ∧ f' 2 = .int .i64 (k : Int) ∧ Agree [0] f' F1 ∧ w.grownBy w' v.ownBlock ∧ k ≤ l.length ∧ L.length = l.length ∧ OwnI w' B 3 v L) ?_ ?_
  · exact ⟨_, 0, l, rfl, (congrFun hF2 2), (Agree.refl _ _), (World.grownBy.refl _ _), ⟨Nat.zero_le _, rfl, ho⟩⟩
  · rintro mL0 fL0 wL0 ⟨k, L, hmL0, e2_L0, hAL0, hwL0, ⟨hk, hL, ho⟩⟩
    refine WF.seq ?_
    refine WF.seq ?_
    refine WF.region ?_
    refine WL.va rfl rfl rfl (X.moveI e2_L0) ?_
    refine WL.va rfl rfl rfl (X.move ((hAL0.eq 0).trans (congrFun hF2 0))) ?_
    refine WL.va rfl rfl rfl (X.len (Ints.of_own ho) rfl Try.underlying34) ?_
    refine WL.va rfl rfl rfl (X.lss rfl rfl) ?_
    refine WL.nil ?_
    refine thn_n ?_
    refine WF.cond rfl (fun h0_3 => ?_) (fun h0_3 => ?_)
    · have gh0_3 := (of_decide_eq_true h0_3)
      refine WF.skip ?_
      refine thn_n ?_
      refine WF.seq ?_
      refine WF.block ?_
      refine WF.region ?_
      refine WL.va rfl rfl rfl (X.move ((hAL0.eq 0).trans (congrFun hF2 0))) ?_
      refine WL.va rfl rfl rfl (X.moveI e2_L0) ?_
      refine WL.va rfl rfl rfl (X.move ((hAL0.eq 0).trans (congrFun hF2 0))) ?_
      refine WL.va rfl rfl rfl (X.moveI e2_L0) ?_
      refine WL.va rfl rfl rfl (X.idx (Ints.of_own ho) rfl rfl (by omega) Try.underlying34 Try.sizeOf3) ?_
      refine WL.va rfl rfl rfl (X.loadI (Ints.of_own ho) (Ext.refl _) rfl (by omega) Try.isAgg3) ?_
      refine WL.va rfl rfl rfl (X.xor rfl rfl rfl) ?_
      refine WL.va rfl rfl rfl (X.idx (Ints.of_own ho) rfl rfl (by omega) Try.underlying34 Try.sizeOf3) ?_
      refine WL.op rfl (OW.storeI ho (by omega) rfl rfl Try.sizeOf3 ?_)
      intro w5 ho8 hx7
      have ho1 := ho8
      have hg1 := hx7
      refine WL.nil ?_
      refine blk_n ?_
      refine thn_n ?_
      refine WF.region ?_
      refine WL.va rfl rfl rfl (X.moveI e2_L0) ?_
      refine WL.va rfl rfl rfl (X.add rfl rfl (w64 (by omega))) ?_
      refine WL.va rfl rfl rfl (X.assignI rfl) ?_
      refine WL.nil ?_
      exact thn_n ⟨_, (by omega), k + 1, _, rfl, rfl, (by repeat (first | exact hAL0 | refine Agree.put ?_ rfl | refine Agree.named hF2 ?_)), (spoil_trans hwL0 hg1), ⟨by omega, by simp [hL], ho1⟩⟩
    · have gh0_3 := (of_decide_eq_false h0_3)
      refine WF.exit ?_
      refine thn_x ?_
      refine thn_x ?_
      refine blk_eq ?_
      refine fin_n ?_
      exact ⟨⟨_, ho⟩, hwL0⟩

set_option maxHeartbeats 1000000 in
theorem sameAnswer_ok (a : An) (d d' : Value) (w : World) (h : Bytes w d a.Data) (h' : Bytes w d' a.Data) : FnOk Try.prog 83 [agg (a.c d), agg (a.c d')] w (fun r w' => r = .bool true ∧ Ext w w') := by
  refine FnOk.enter (rs := [4]) Try.func83 rfl Try.ntmps83 Try.results83 rfl rfl ?_
  refine WF.seq ?_
  refine WF.region ?_
  refine WL.op rfl (OW.boxA (cs := (a.c d)) rfl ?_ (by decide))
  intro g2 w1 heg2 hlg2 hO2 hx3
  have := World.grownBy.size hx3
  refine WL.op rfl (OW.boxA (cs := (a.c d')) rfl ?_ (by decide))
  intro g3 w5 heg3 hlg3 hO3 hx7
  have := World.grownBy.size hx7
  refine WL.va rfl rfl rfl (X.assignB rfl) ?_
  refine WL.nil ?_
  refine thn_n ?_
  refine WF.seq ?_
  refine WF.region ?_
  refine WL.va rfl rfl rfl (X.fieldAddrO (off := 0) rfl Try.underlying40 rfl rfl Try.sizeOf29) ?_
  refine WL.va rfl rfl rfl (X.loadO hO2 hx7 rfl rfl Try.isAgg29) ?_
  refine WL.va rfl rfl rfl (X.fieldAddrO (off := 0) rfl Try.underlying40 rfl rfl Try.sizeOf29) ?_
  refine WL.va rfl rfl rfl (X.loadO hO3 (Ext.refl _) rfl rfl Try.isAgg29) ?_
  refine WL.va rfl rfl rfl (X.eql rfl rfl) ?_
  refine WL.va rfl rfl rfl (X.moveB rfl) ?_
  refine WL.split (j := 5) rfl (fun h11 => ?_) (fun h11 => ?_)
  · have gh11 := (of_decide_eq_true h11)
    refine WL.vg rfl (congrArg some h11) rfl rfl (X.fieldAddrO (off := 1) rfl Try.underlying40 rfl rfl Try.sizeOf3) ?_
    refine WL.vg rfl (congrArg some h11) rfl rfl (X.loadO hO2 hx7 rfl rfl Try.isAgg3) ?_
    refine WL.vg rfl (congrArg some h11) rfl rfl (X.fieldAddrO (off := 1) rfl Try.underlying40 rfl rfl Try.sizeOf3) ?_
    refine WL.vg rfl (congrArg some h11) rfl rfl (X.loadO hO3 (Ext.refl _) rfl rfl Try.isAgg3) ?_
    refine WL.vg rfl (congrArg some h11) rfl rfl (X.eql rfl rfl) ?_
    refine WL.va rfl rfl rfl (X.pickT rfl h11 rfl) ?_
    refine WL.va rfl rfl rfl (X.moveB rfl) ?_
    refine WL.split (j := 12) rfl (fun h13 => ?_) (fun h13 => ?_)
    · have gh13 := (of_decide_eq_true h13)
      refine WL.vg rfl (congrArg some h13) rfl rfl (X.fieldAddrO (off := 2) rfl Try.underlying40 rfl rfl Try.sizeOf36) ?_
      refine WL.vg rfl (congrArg some h13) rfl rfl (X.loadO hO2 hx7 rfl rfl Try.isAgg36) ?_
      refine WL.vg rfl (congrArg some h13) rfl rfl (X.fieldAddrO (off := 2) rfl Try.underlying40 rfl rfl Try.sizeOf36) ?_
      refine WL.vg rfl (congrArg some h13) rfl rfl (X.loadO hO3 (Ext.refl _) rfl rfl Try.isAgg36) ?_
      refine WL.cg rfl (congrArg some h13) rfl rfl (X.call Try.call84 (evl_cons rfl (evl_cons rfl evl_nil))) (sameBytes_ok _ _ a.Data a.Data _ (Row.ext h (Ext.trans hx3 hx7)) (Row.ext h' (Ext.trans hx3 hx7))) ?_
      rintro v15 w14 ⟨rfl, hx16⟩
      have := World.grownBy.size hx16
      refine WL.va rfl rfl rfl (X.pickT rfl h13 rfl) ?_
      refine WL.va rfl rfl rfl (X.assignB rfl) ?_
      refine WL.nil ?_
      refine thn_n ?_
      refine WF.ret ?_
      refine fin_r ?_
      exact ⟨congrArg Value.bool (decide_eq_true rfl), (Ext.trans (Ext.trans hx3 hx7) hx16)⟩
    · have gh13 := (of_decide_eq_false h13)
      exact absurd rfl gh13
  · have gh11 := (of_decide_eq_false h11)
    exact absurd rfl gh11

set_option maxHeartbeats 4000000 in
theorem sameCall_ok (a : Ca) (d d' : Value) (w : World) (h : Bytes w d a.Data) (h' : Bytes w d' a.Data) : FnOk Try.prog 82 [agg (a.c d), agg (a.c d')] w (fun r w' => r = .bool true ∧ Ext w w') := by
  refine FnOk.enter (rs := [4]) Try.func82 rfl Try.ntmps82 Try.results82 rfl rfl ?_
  refine WF.seq ?_
  refine WF.region ?_
  refine WL.op rfl (OW.boxA (cs := (a.c d)) rfl ?_ (by decide))
  intro g2 w1 heg2 hlg2 hO2 hx3
  have := World.grownBy.size hx3
  refine WL.op rfl (OW.boxA (cs := (a.c d')) rfl ?_ (by decide))
  intro g3 w5 heg3 hlg3 hO3 hx7
  have := World.grownBy.size hx7
  refine WL.va rfl rfl rfl (X.assignB rfl) ?_
  refine WL.nil ?_
  refine thn_n ?_
  refine WF.seq ?_
  refine WF.region ?_
  refine WL.va rfl rfl rfl (X.fieldAddrO (off := 0) rfl Try.underlying38 rfl rfl Try.sizeOf3) ?_
  refine WL.va rfl rfl rfl (X.loadO hO2 hx7 rfl rfl Try.isAgg3) ?_
  refine WL.va rfl rfl rfl (X.fieldAddrO (off := 0) rfl Try.underlying38 rfl rfl Try.sizeOf3) ?_
  refine WL.va rfl rfl rfl (X.loadO hO3 (Ext.refl _) rfl rfl Try.isAgg3) ?_
  refine WL.va rfl rfl rfl (X.eql rfl rfl) ?_
  refine WL.va rfl rfl rfl (X.moveB rfl) ?_
  refine WL.split (j := 5) rfl (fun h11 => ?_) (fun h11 => ?_)
  · have gh11 := (of_decide_eq_true h11)
    refine WL.vg rfl (congrArg some h11) rfl rfl (X.fieldAddrO (off := 1) rfl Try.underlying38 rfl rfl Try.sizeOf3) ?_
    refine WL.vg rfl (congrArg some h11) rfl rfl (X.loadO hO2 hx7 rfl rfl Try.isAgg3) ?_
    refine WL.vg rfl (congrArg some h11) rfl rfl (X.fieldAddrO (off := 1) rfl Try.underlying38 rfl rfl Try.sizeOf3) ?_
    refine WL.vg rfl (congrArg some h11) rfl rfl (X.loadO hO3 (Ext.refl _) rfl rfl Try.isAgg3) ?_
    refine WL.vg rfl (congrArg some h11) rfl rfl (X.eql rfl rfl) ?_
    refine WL.va rfl rfl rfl (X.pickT rfl h11 rfl) ?_
    refine WL.va rfl rfl rfl (X.moveB rfl) ?_
    refine WL.split (j := 12) rfl (fun h13 => ?_) (fun h13 => ?_)
    · have gh13 := (of_decide_eq_true h13)
      refine WL.vg rfl (congrArg some h13) rfl rfl (X.fieldAddrO (off := 2) rfl Try.underlying38 rfl rfl Try.sizeOf3) ?_
      refine WL.vg rfl (congrArg some h13) rfl rfl (X.loadO hO2 hx7 rfl rfl Try.isAgg3) ?_
      refine WL.vg rfl (congrArg some h13) rfl rfl (X.fieldAddrO (off := 2) rfl Try.underlying38 rfl rfl Try.sizeOf3) ?_
      refine WL.vg rfl (congrArg some h13) rfl rfl (X.loadO hO3 (Ext.refl _) rfl rfl Try.isAgg3) ?_
      refine WL.vg rfl (congrArg some h13) rfl rfl (X.eql rfl rfl) ?_
      refine WL.va rfl rfl rfl (X.pickT rfl h13 rfl) ?_
      refine WL.va rfl rfl rfl (X.moveB rfl) ?_
      refine WL.split (j := 19) rfl (fun h15 => ?_) (fun h15 => ?_)
      · have gh15 := (of_decide_eq_true h15)
        refine WL.vg rfl (congrArg some h15) rfl rfl (X.fieldAddrO (off := 3) rfl Try.underlying38 rfl rfl Try.sizeOf3) ?_
        refine WL.vg rfl (congrArg some h15) rfl rfl (X.loadO hO2 hx7 rfl rfl Try.isAgg3) ?_
        refine WL.vg rfl (congrArg some h15) rfl rfl (X.fieldAddrO (off := 3) rfl Try.underlying38 rfl rfl Try.sizeOf3) ?_
        refine WL.vg rfl (congrArg some h15) rfl rfl (X.loadO hO3 (Ext.refl _) rfl rfl Try.isAgg3) ?_
        refine WL.vg rfl (congrArg some h15) rfl rfl (X.eql rfl rfl) ?_
        refine WL.va rfl rfl rfl (X.pickT rfl h15 rfl) ?_
        refine WL.va rfl rfl rfl (X.moveB rfl) ?_
        refine WL.split (j := 26) rfl (fun h17 => ?_) (fun h17 => ?_)
        · have gh17 := (of_decide_eq_true h17)
          refine WL.vg rfl (congrArg some h17) rfl rfl (X.fieldAddrO (off := 4) rfl Try.underlying38 rfl rfl Try.sizeOf3) ?_
          refine WL.vg rfl (congrArg some h17) rfl rfl (X.loadO hO2 hx7 rfl rfl Try.isAgg3) ?_
          refine WL.vg rfl (congrArg some h17) rfl rfl (X.fieldAddrO (off := 4) rfl Try.underlying38 rfl rfl Try.sizeOf3) ?_
          refine WL.vg rfl (congrArg some h17) rfl rfl (X.loadO hO3 (Ext.refl _) rfl rfl Try.isAgg3) ?_
          refine WL.vg rfl (congrArg some h17) rfl rfl (X.eql rfl rfl) ?_
          refine WL.va rfl rfl rfl (X.pickT rfl h17 rfl) ?_
          refine WL.va rfl rfl rfl (X.moveB rfl) ?_
          refine WL.split (j := 33) rfl (fun h19 => ?_) (fun h19 => ?_)
          · have gh19 := (of_decide_eq_true h19)
            refine WL.vg rfl (congrArg some h19) rfl rfl (X.fieldAddrO (off := 5) rfl Try.underlying38 rfl rfl Try.sizeOf3) ?_
            refine WL.vg rfl (congrArg some h19) rfl rfl (X.loadO hO2 hx7 rfl rfl Try.isAgg3) ?_
            refine WL.vg rfl (congrArg some h19) rfl rfl (X.fieldAddrO (off := 5) rfl Try.underlying38 rfl rfl Try.sizeOf3) ?_
            refine WL.vg rfl (congrArg some h19) rfl rfl (X.loadO hO3 (Ext.refl _) rfl rfl Try.isAgg3) ?_
            refine WL.vg rfl (congrArg some h19) rfl rfl (X.eql rfl rfl) ?_
            refine WL.va rfl rfl rfl (X.pickT rfl h19 rfl) ?_
            refine WL.va rfl rfl rfl (X.assignB rfl) ?_
            refine WL.nil ?_
            refine thn_n ?_
            refine WF.seq ?_
            refine WF.region ?_
            refine WL.va rfl rfl rfl (X.moveB rfl) ?_
            refine WL.va rfl rfl rfl (X.moveB rfl) ?_
            refine WL.split (j := 1) rfl (fun h21 => ?_) (fun h21 => ?_)
            · have gh21 := (of_decide_eq_true h21)
              refine WL.vg rfl (congrArg some h21) rfl rfl (X.fieldAddrO (off := 6) rfl Try.underlying38 rfl rfl Try.sizeOf3) ?_
              refine WL.vg rfl (congrArg some h21) rfl rfl (X.loadO hO2 hx7 rfl rfl Try.isAgg3) ?_
              refine WL.vg rfl (congrArg some h21) rfl rfl (X.fieldAddrO (off := 6) rfl Try.underlying38 rfl rfl Try.sizeOf3) ?_
              refine WL.vg rfl (congrArg some h21) rfl rfl (X.loadO hO3 (Ext.refl _) rfl rfl Try.isAgg3) ?_
              refine WL.vg rfl (congrArg some h21) rfl rfl (X.eql rfl rfl) ?_
              refine WL.va rfl rfl rfl (X.pickT rfl h21 rfl) ?_
              refine WL.va rfl rfl rfl (X.moveB rfl) ?_
              refine WL.split (j := 8) rfl (fun h23 => ?_) (fun h23 => ?_)
              · have gh23 := (of_decide_eq_true h23)
                refine WL.vg rfl (congrArg some h23) rfl rfl (X.fieldAddrO (off := 7) rfl Try.underlying38 rfl rfl Try.sizeOf3) ?_
                refine WL.vg rfl (congrArg some h23) rfl rfl (X.loadO hO2 hx7 rfl rfl Try.isAgg3) ?_
                refine WL.vg rfl (congrArg some h23) rfl rfl (X.fieldAddrO (off := 7) rfl Try.underlying38 rfl rfl Try.sizeOf3) ?_
                refine WL.vg rfl (congrArg some h23) rfl rfl (X.loadO hO3 (Ext.refl _) rfl rfl Try.isAgg3) ?_
                refine WL.vg rfl (congrArg some h23) rfl rfl (X.eql rfl rfl) ?_
                refine WL.va rfl rfl rfl (X.pickT rfl h23 rfl) ?_
                refine WL.va rfl rfl rfl (X.moveB rfl) ?_
                refine WL.split (j := 15) rfl (fun h25 => ?_) (fun h25 => ?_)
                · have gh25 := (of_decide_eq_true h25)
                  refine WL.vg rfl (congrArg some h25) rfl rfl (X.fieldAddrO (off := 8) rfl Try.underlying38 rfl rfl Try.sizeOf3) ?_
                  refine WL.vg rfl (congrArg some h25) rfl rfl (X.loadO hO2 hx7 rfl rfl Try.isAgg3) ?_
                  refine WL.vg rfl (congrArg some h25) rfl rfl (X.fieldAddrO (off := 8) rfl Try.underlying38 rfl rfl Try.sizeOf3) ?_
                  refine WL.vg rfl (congrArg some h25) rfl rfl (X.loadO hO3 (Ext.refl _) rfl rfl Try.isAgg3) ?_
                  refine WL.vg rfl (congrArg some h25) rfl rfl (X.eql rfl rfl) ?_
                  refine WL.va rfl rfl rfl (X.pickT rfl h25 rfl) ?_
                  refine WL.va rfl rfl rfl (X.moveB rfl) ?_
                  refine WL.split (j := 22) rfl (fun h27 => ?_) (fun h27 => ?_)
                  · have gh27 := (of_decide_eq_true h27)
                    refine WL.vg rfl (congrArg some h27) rfl rfl (X.fieldAddrO (off := 9) rfl Try.underlying38 rfl rfl Try.sizeOf3) ?_
                    refine WL.vg rfl (congrArg some h27) rfl rfl (X.loadO hO2 hx7 rfl rfl Try.isAgg3) ?_
                    refine WL.vg rfl (congrArg some h27) rfl rfl (X.fieldAddrO (off := 9) rfl Try.underlying38 rfl rfl Try.sizeOf3) ?_
                    refine WL.vg rfl (congrArg some h27) rfl rfl (X.loadO hO3 (Ext.refl _) rfl rfl Try.isAgg3) ?_
                    refine WL.vg rfl (congrArg some h27) rfl rfl (X.eql rfl rfl) ?_
                    refine WL.va rfl rfl rfl (X.pickT rfl h27 rfl) ?_
                    refine WL.va rfl rfl rfl (X.moveB rfl) ?_
                    refine WL.split (j := 29) rfl (fun h29 => ?_) (fun h29 => ?_)
                    · have gh29 := (of_decide_eq_true h29)
                      refine WL.vg rfl (congrArg some h29) rfl rfl (X.fieldAddrO (off := 10) rfl Try.underlying38 rfl rfl Try.sizeOf3) ?_
                      refine WL.vg rfl (congrArg some h29) rfl rfl (X.loadO hO2 hx7 rfl rfl Try.isAgg3) ?_
                      refine WL.vg rfl (congrArg some h29) rfl rfl (X.fieldAddrO (off := 10) rfl Try.underlying38 rfl rfl Try.sizeOf3) ?_
                      refine WL.vg rfl (congrArg some h29) rfl rfl (X.loadO hO3 (Ext.refl _) rfl rfl Try.isAgg3) ?_
                      refine WL.vg rfl (congrArg some h29) rfl rfl (X.eql rfl rfl) ?_
                      refine WL.va rfl rfl rfl (X.pickT rfl h29 rfl) ?_
                      refine WL.va rfl rfl rfl (X.moveB rfl) ?_
                      refine WL.split (j := 36) rfl (fun h31 => ?_) (fun h31 => ?_)
                      · have gh31 := (of_decide_eq_true h31)
                        refine WL.vg rfl (congrArg some h31) rfl rfl (X.fieldAddrO (off := 11) rfl Try.underlying38 rfl rfl Try.sizeOf3) ?_
                        refine WL.vg rfl (congrArg some h31) rfl rfl (X.loadO hO2 hx7 rfl rfl Try.isAgg3) ?_
                        refine WL.vg rfl (congrArg some h31) rfl rfl (X.fieldAddrO (off := 11) rfl Try.underlying38 rfl rfl Try.sizeOf3) ?_
                        refine WL.vg rfl (congrArg some h31) rfl rfl (X.loadO hO3 (Ext.refl _) rfl rfl Try.isAgg3) ?_
                        refine WL.vg rfl (congrArg some h31) rfl rfl (X.eql rfl rfl) ?_
                        refine WL.va rfl rfl rfl (X.pickT rfl h31 rfl) ?_
                        refine WL.va rfl rfl rfl (X.moveB rfl) ?_
                        refine WL.split (j := 43) rfl (fun h33 => ?_) (fun h33 => ?_)
                        · have gh33 := (of_decide_eq_true h33)
                          refine WL.vg rfl (congrArg some h33) rfl rfl (X.fieldAddrO (off := 12) rfl Try.underlying38 rfl rfl Try.sizeOf36) ?_
                          refine WL.vg rfl (congrArg some h33) rfl rfl (X.loadO hO2 hx7 rfl rfl Try.isAgg36) ?_
                          refine WL.vg rfl (congrArg some h33) rfl rfl (X.fieldAddrO (off := 12) rfl Try.underlying38 rfl rfl Try.sizeOf36) ?_
                          refine WL.vg rfl (congrArg some h33) rfl rfl (X.loadO hO3 (Ext.refl _) rfl rfl Try.isAgg36) ?_
                          refine WL.cg rfl (congrArg some h33) rfl rfl (X.call Try.call84 (evl_cons rfl (evl_cons rfl evl_nil))) (sameBytes_ok _ _ a.Data a.Data _ (Row.ext h (Ext.trans hx3 hx7)) (Row.ext h' (Ext.trans hx3 hx7))) ?_
                          rintro v35 w34 ⟨rfl, hx36⟩
                          have := World.grownBy.size hx36
                          refine WL.va rfl rfl rfl (X.pickT rfl h33 rfl) ?_
                          refine WL.va rfl rfl rfl (X.assignB rfl) ?_
                          refine WL.nil ?_
                          refine thn_n ?_
                          refine WF.ret ?_
                          refine fin_r ?_
                          exact ⟨congrArg Value.bool (decide_eq_true rfl), (Ext.trans (Ext.trans hx3 hx7) hx36)⟩
                        · have gh33 := (of_decide_eq_false h33)
                          exact absurd rfl gh33
                      · have gh31 := (of_decide_eq_false h31)
                        exact absurd rfl gh31
                    · have gh29 := (of_decide_eq_false h29)
                      exact absurd rfl gh29
                  · have gh27 := (of_decide_eq_false h27)
                    exact absurd rfl gh27
                · have gh25 := (of_decide_eq_false h25)
                  exact absurd rfl gh25
              · have gh23 := (of_decide_eq_false h23)
                exact absurd rfl gh23
            · have gh21 := (of_decide_eq_false h21)
              exact absurd rfl gh21
          · have gh19 := (of_decide_eq_false h19)
            exact absurd rfl gh19
        · have gh17 := (of_decide_eq_false h17)
          exact absurd rfl gh17
      · have gh15 := (of_decide_eq_false h15)
        exact absurd rfl gh15
    · have gh13 := (of_decide_eq_false h13)
      exact absurd rfl gh13
  · have gh11 := (of_decide_eq_false h11)
    exact absurd rfl gh11

set_option maxHeartbeats 4000000 in
theorem sameEvent_ok (e : Ev) (d d2 d' d2' : Value) (w : World) (h : Bytes w d e.Call.Data) (h2 : Bytes w d2 e.Answer.Data) (h' : Bytes w d' e.Call.Data) (h2' : Bytes w d2' e.Answer.Data) : FnOk Try.prog 65 [agg (e.c d d2), agg (e.c d' d2')] w (fun r w' => r = .bool true ∧ Ext w w') := by
  refine FnOk.enter (rs := [4]) Try.func65 rfl Try.ntmps65 Try.results65 rfl rfl ?_
  refine WF.seq ?_
  refine WF.region ?_
  refine WL.op rfl (OW.boxA (cs := (e.c d d2)) rfl ?_ (by decide))
  intro g2 w1 heg2 hlg2 hO2 hx3
  have := World.grownBy.size hx3
  refine WL.op rfl (OW.boxA (cs := (e.c d' d2')) rfl ?_ (by decide))
  intro g3 w5 heg3 hlg3 hO3 hx7
  have := World.grownBy.size hx7
  refine WL.va rfl rfl rfl (X.assignB rfl) ?_
  refine WL.nil ?_
  refine thn_n ?_
  refine WF.seq ?_
  refine WF.region ?_
  refine WL.va rfl rfl rfl (X.fieldAddrO (off := 0) rfl Try.underlying42 rfl rfl Try.sizeOf3) ?_
  refine WL.va rfl rfl rfl (X.loadO hO2 hx7 rfl rfl Try.isAgg3) ?_
  refine WL.va rfl rfl rfl (X.fieldAddrO (off := 0) rfl Try.underlying42 rfl rfl Try.sizeOf3) ?_
  refine WL.va rfl rfl rfl (X.loadO hO3 (Ext.refl _) rfl rfl Try.isAgg3) ?_
  refine WL.va rfl rfl rfl (X.eql rfl rfl) ?_
  refine WL.va rfl rfl rfl (X.moveB rfl) ?_
  refine WL.split (j := 5) rfl (fun h11 => ?_) (fun h11 => ?_)
  · have gh11 := (of_decide_eq_true h11)
    refine WL.vg rfl (congrArg some h11) rfl rfl (X.fieldAddrO (off := 1) rfl Try.underlying42 rfl rfl Try.sizeOf3) ?_
    refine WL.vg rfl (congrArg some h11) rfl rfl (X.loadO hO2 hx7 rfl rfl Try.isAgg3) ?_
    refine WL.vg rfl (congrArg some h11) rfl rfl (X.fieldAddrO (off := 1) rfl Try.underlying42 rfl rfl Try.sizeOf3) ?_
    refine WL.vg rfl (congrArg some h11) rfl rfl (X.loadO hO3 (Ext.refl _) rfl rfl Try.isAgg3) ?_
    refine WL.vg rfl (congrArg some h11) rfl rfl (X.eql rfl rfl) ?_
    refine WL.va rfl rfl rfl (X.pickT rfl h11 rfl) ?_
    refine WL.va rfl rfl rfl (X.moveB rfl) ?_
    refine WL.split (j := 12) rfl (fun h13 => ?_) (fun h13 => ?_)
    · have gh13 := (of_decide_eq_true h13)
      refine WL.vg rfl (congrArg some h13) rfl rfl (X.fieldAddrO (off := 2) rfl Try.underlying42 rfl rfl Try.sizeOf3) ?_
      refine WL.vg rfl (congrArg some h13) rfl rfl (X.loadO hO2 hx7 rfl rfl Try.isAgg3) ?_
      refine WL.vg rfl (congrArg some h13) rfl rfl (X.fieldAddrO (off := 2) rfl Try.underlying42 rfl rfl Try.sizeOf3) ?_
      refine WL.vg rfl (congrArg some h13) rfl rfl (X.loadO hO3 (Ext.refl _) rfl rfl Try.isAgg3) ?_
      refine WL.vg rfl (congrArg some h13) rfl rfl (X.eql rfl rfl) ?_
      refine WL.va rfl rfl rfl (X.pickT rfl h13 rfl) ?_
      refine WL.va rfl rfl rfl (X.moveB rfl) ?_
      refine WL.split (j := 19) rfl (fun h15 => ?_) (fun h15 => ?_)
      · have gh15 := (of_decide_eq_true h15)
        refine WL.vg rfl (congrArg some h15) rfl rfl (X.fieldAddrO (off := 3) rfl Try.underlying42 rfl rfl Try.sizeOf38) ?_
        refine WL.vg rfl (congrArg some h15) rfl rfl (X.loadOP hO2 hx7 rfl rfl rfl Try.isAgg38 Try.sizeOf38) ?_
        refine WL.vg rfl (congrArg some h15) rfl rfl (X.fieldAddrO (off := 3) rfl Try.underlying42 rfl rfl Try.sizeOf38) ?_
        refine WL.vg rfl (congrArg some h15) rfl rfl (X.loadOP hO3 (Ext.refl _) rfl rfl rfl Try.isAgg38 Try.sizeOf38) ?_
        refine WL.cg rfl (congrArg some h15) rfl rfl (X.call Try.call82 (evl_cons (v := (agg (e.Call.c d))) rfl (evl_cons (v := (agg (e.Call.c d'))) rfl evl_nil))) (sameCall_ok e.Call d d' _ (Row.ext h (Ext.trans hx3 hx7)) (Row.ext h' (Ext.trans hx3 hx7))) ?_
        rintro v17 w16 ⟨rfl, hx18⟩
        have := World.grownBy.size hx18
        refine WL.va rfl rfl rfl (X.pickT rfl h15 rfl) ?_
        refine WL.va rfl rfl rfl (X.moveB rfl) ?_
        refine WL.vg rfl rfl rfl rfl (X.fieldAddrO (off := 16) rfl Try.underlying42 rfl rfl Try.sizeOf40) ?_
        refine WL.vg rfl rfl rfl rfl (X.loadOP hO2 (Ext.trans hx7 hx18) rfl rfl rfl Try.isAgg40 Try.sizeOf40) ?_
        refine WL.vg rfl rfl rfl rfl (X.fieldAddrO (off := 16) rfl Try.underlying42 rfl rfl Try.sizeOf40) ?_
        refine WL.vg rfl rfl rfl rfl (X.loadOP hO3 hx18 rfl rfl rfl Try.isAgg40 Try.sizeOf40) ?_
        refine WL.cg rfl rfl rfl rfl (X.call Try.call83 (evl_cons (v := (agg (e.Answer.c d2))) rfl (evl_cons (v := (agg (e.Answer.c d2'))) rfl evl_nil))) (sameAnswer_ok e.Answer d2 d2' _ (Row.ext h2 (Ext.trans (Ext.trans hx3 hx7) hx18)) (Row.ext h2' (Ext.trans (Ext.trans hx3 hx7) hx18))) ?_
        rintro v21 w20 ⟨rfl, hx22⟩
        have := World.grownBy.size hx22
        refine WL.va rfl rfl rfl (X.pickT rfl rfl rfl) ?_
        refine WL.va rfl rfl rfl (X.assignB rfl) ?_
        refine WL.nil ?_
        refine thn_n ?_
        refine WF.ret ?_
        refine fin_r ?_
        exact ⟨rfl, (Ext.trans (Ext.trans (Ext.trans hx3 hx7) hx18) hx22)⟩
      · have gh15 := (of_decide_eq_false h15)
        first | exact absurd rfl gh15 | exact Bool.noConfusion gh15
    · have gh13 := (of_decide_eq_false h13)
      first | exact absurd rfl gh13 | exact Bool.noConfusion gh13
  · have gh11 := (of_decide_eq_false h11)
    first | exact absurd rfl gh11 | exact Bool.noConfusion gh11

set_option maxHeartbeats 2000000 in
theorem sameEvents_ok (va vb : Value) (l : List Ev) (w : World) (ha : Evs w va l) (hb : Evs w vb l) : FnOk Try.prog 40 [va, vb] w (fun r w' => r = .bool true ∧ Ext w w') := by
  have hle := ha.le
  obtain ⟨cs, hr, hel⟩ := ha
  obtain ⟨cs2, hr2, hel2⟩ := hb
  refine FnOk.enter (rs := [4]) Try.func40 rfl Try.ntmps40 Try.results40 rfl rfl ?_
  refine WF.seq ?_
  refine WF.region ?_
  refine WL.va rfl rfl rfl (X.assignB rfl) ?_
  refine WL.nil ?_
  refine thn_n ?_
  refine WF.seq ?_
  refine WF.seq ?_
  refine WF.region ?_
  refine WL.va rfl rfl rfl (X.move rfl) ?_
  refine WL.va rfl rfl rfl (X.len hr rfl Try.underlying26) ?_
  refine WL.va rfl rfl rfl (X.move rfl) ?_
  refine WL.va rfl rfl rfl (X.len hr2 rfl Try.underlying26) ?_
  refine WL.va rfl rfl rfl (X.neq rfl rfl) ?_
  refine WL.nil ?_
  refine thn_n ?_
  refine WF.cond rfl (fun h0_2 => ?_) (fun h0_2 => ?_)
  · have gh0_2 := (of_decide_eq_true h0_2)
    exact absurd rfl gh0_2
  · have gh0_2 := (Decidable.of_not_not (of_decide_eq_false h0_2))
    refine WF.skip ?_
    refine thn_n ?_
    refine WF.seq ?_
    refine WF.seq ?_
    refine WF.region ?_
    refine WL.va rfl rfl rfl (X.assignI rfl) ?_
    refine WL.nil ?_
    refine thn_n ?_
    refine WF.block ?_
    refine WF.named (fun F4 hF5 => ?_)
    refine WF.loopN (fun mL0 f' w' => ∃ (k : Nat), mL0 = l.length - k ∧ f' 5 = .int .i64 (k : Int) ∧ Agree [0, 1, 6, 7, 8, 9, 10] f' F4 ∧ Ext w w' ∧ k ≤ l.length) ?_ ?_
    · exact ⟨_, 0, rfl, (congrFun hF5 5), (Agree.refl _ _), (Ext.refl _), Nat.zero_le _⟩
    · rintro mL0 fL0 wL0 ⟨k, hmL0, e5_L0, hAL0, hwL0, hk0⟩
      refine WF.seq ?_
      refine WF.seq ?_
      refine WF.region ?_
      refine WL.va rfl rfl rfl (X.moveI e5_L0) ?_
      refine WL.va rfl rfl rfl (X.move ((hAL0.eq 0).trans (congrFun hF5 0))) ?_
      refine WL.va rfl rfl rfl (X.len hr rfl Try.underlying26) ?_
      refine WL.va rfl rfl rfl (X.lss rfl rfl) ?_
      refine WL.nil ?_
      refine thn_n ?_
      refine WF.cond rfl (fun h1_6 => ?_) (fun h1_6 => ?_)
      · have gh1_6 := (of_decide_eq_true h1_6)
        have hk : k < l.length := by have := gh1_6; omega
        obtain ⟨d, d2, hcs, hd1, hd2⟩ := hel k hk
        obtain ⟨d', d2', hcs2, hd1', hd2'⟩ := hel2 k hk
        refine WF.skip ?_
        refine thn_n ?_
        refine WF.seq ?_
        refine WF.block ?_
        refine WF.seq ?_
        refine WF.drawn (.q 0 (.q 1 (.q 2 (.q 3 (.q 4 (.q 5 (.q 6 (.q 7 (.l 8 (.q 9 .nil)))))))))) (fun w' => Ext wL0 w') 10 (by kernel_rfl) (by kernel_rfl) (Ext.drew _) ?_
        refine WO.q rfl rfl rfl rfl (fun w' hE8 => (X.move ((hAL0.eq 0).trans (congrFun hF5 0)))) ?_
        refine WO.q rfl rfl rfl rfl (fun w' hE8 => (X.moveI e5_L0)) ?_
        refine WO.q rfl rfl rfl rfl (fun w' hE8 => (X.idx hr rfl rfl hk Try.underlying26 Try.sizeOf42)) ?_
        refine WO.q rfl rfl rfl rfl (fun w' hE8 => (X.loadEl hr (Ext.trans hwL0 hE8) rfl hk hcs Try.isAgg42 Try.sizeOf42)) ?_
        refine WO.q rfl rfl rfl rfl (fun w' hE8 => (X.move ((hAL0.eq 1).trans (congrFun hF5 1)))) ?_
        refine WO.q rfl rfl rfl rfl (fun w' hE8 => (X.moveI e5_L0)) ?_
        refine WO.q rfl rfl rfl rfl (fun w' hE8 => (X.idx hr2 rfl rfl hk Try.underlying26 Try.sizeOf42)) ?_
        refine WO.q rfl rfl rfl rfl (fun w' hE8 => (X.loadEl hr2 (Ext.trans hwL0 hE8) rfl hk hcs2 Try.isAgg42 Try.sizeOf42)) ?_
        refine WO.l ?_
        refine LO.go rfl rfl (OW.enter rfl (by decide) (X.call Try.call65 (evl_cons (v := (agg (Ev.c (l[k]'hk) d d2))) rfl (evl_cons (v := (agg (Ev.c (l[k]'hk) d' d2'))) rfl evl_nil))) (sameEvent_ok (l[k]'hk) d d2 d' d2' _ (Row.ext hd1 (Ext.trans hwL0 (Ext.drew _))) (Row.ext hd2 (Ext.trans hwL0 (Ext.drew _))) (Row.ext hd1' (Ext.trans hwL0 (Ext.drew _))) (Row.ext hd2' (Ext.trans hwL0 (Ext.drew _)))) ?_)
        rintro v10 w9 ⟨rfl, hx11⟩
        refine ⟨(Ext.trans (Ext.drew _) hx11), ?_⟩
        refine WO.q rfl rfl rfl rfl (fun w' hE8 => (X.not rfl)) ?_
        refine WO.nil ?_
        refine WL.nil ?_
        refine thn_n ?_
        refine WF.cond_f rfl ?_
        refine WF.skip ?_
        refine blk_n ?_
        refine thn_n ?_
        refine WF.region ?_
        refine WL.va rfl rfl rfl (X.moveI e5_L0) ?_
        refine WL.va rfl rfl rfl (X.add rfl rfl (w64 (by omega))) ?_
        refine WL.va rfl rfl rfl (X.assignI rfl) ?_
        refine WL.nil ?_
        exact thn_n ⟨_, (by omega), k + 1, rfl, rfl, (by repeat (first | exact hAL0 | refine Agree.put ?_ rfl | refine Agree.named hF5 ?_)), (Ext.trans (Ext.trans hwL0 (Ext.drew _)) hx11), (by omega)⟩
      · have gh1_6 := (of_decide_eq_false h1_6)
        have hk : l.length ≤ k := by have := gh1_6; omega
        refine WF.exit ?_
        refine thn_x ?_
        refine thn_x ?_
        refine blk_eq ?_
        refine thn_n ?_
        refine WF.seq ?_
        refine WF.region ?_
        refine WL.va rfl rfl rfl (X.assignB rfl) ?_
        refine WL.nil ?_
        refine thn_n ?_
        refine WF.ret ?_
        refine fin_r ?_
        exact ⟨rfl, hwL0⟩

set_option maxHeartbeats 4000000 in
theorem copied_ok (v : Value) (l : List Ev) (w : World) (hv : Evs w v l) (hl : l.length ≤ 1000) (hd : ∀ e ∈ l, e.Call.Data.length ≤ 1024 ∧ e.Answer.Data.length ≤ 1024) : FnOk Try.prog 35 [v] w (fun r w' => (∃ E, E.map Prod.fst = l ∧ EvO w' w.heap.size w.heap.size r E) ∧ Ext w w') := by
  obtain ⟨cs, hr, hel⟩ := hv
  refine FnOk.enter (rs := [2]) Try.func35 rfl Try.ntmps35 Try.results35 rfl rfl ?_
  refine WF.seq ?_
  refine WF.region ?_
  refine WL.va rfl rfl rfl (X.assign rfl) ?_
  refine WL.nil ?_
  refine thn_n ?_
  refine WF.seq ?_
  refine WF.region ?_
  refine WL.va rfl rfl rfl (X.assign rfl) ?_
  refine WL.nil ?_
  refine thn_n ?_
  refine WF.seq ?_
  refine WF.seq ?_
  refine WF.region ?_
  refine WL.va rfl rfl rfl (X.assignI rfl) ?_
  refine WL.nil ?_
  refine thn_n ?_
  refine WF.block ?_
  refine WF.named (fun F1 hF2 => ?_)
  refine WF.loopN (fun mL0 f' w' => ∃ (k : Nat) (vo : Value) (O : List EvV), mL0 = l.length - k ∧ f' 4 = .int .i64 (k : Int) ∧ f' 3 = vo ∧ Agree [0, 2] f' F1 ∧ Ext w w' ∧ k ≤ l.length ∧ O.length = k ∧ EvO w' w.heap.size w.heap.size vo O ∧ O.map Prod.fst = l.take k) ?_ ?_
  · exact ⟨_, 0, (.slice none 0 0), [], rfl, (congrFun hF2 4), (congrFun hF2 3), (Agree.refl _ _), (Ext.refl _), ⟨Nat.zero_le _, rfl, EvO.nil _ _ _, rfl⟩⟩
  · rintro mL0 fL0 wL0 ⟨k, vo, O, hmL0, e4_L0, e3_L0, hAL0, hwL0, ⟨hk0, hOl, oE, hO⟩⟩
    refine WF.seq ?_
    refine WF.seq ?_
    refine WF.region ?_
    refine WL.va rfl rfl rfl (X.moveI e4_L0) ?_
    refine WL.va rfl rfl rfl (X.move ((hAL0.eq 0).trans (congrFun hF2 0))) ?_
    refine WL.va rfl rfl rfl (X.len hr rfl Try.underlying26) ?_
    refine WL.va rfl rfl rfl (X.lss rfl rfl) ?_
    refine WL.nil ?_
    refine thn_n ?_
    refine WF.cond rfl (fun h0_3 => ?_) (fun h0_3 => ?_)
    · have gh0_3 := (of_decide_eq_true h0_3)
      have hk : k < l.length := by have := gh0_3; omega
      obtain ⟨d, d2, hcs, hd1, hd2⟩ := hel k hk
      have hdl := hd _ (List.getElem_mem hk)
      refine WF.skip ?_
      refine thn_n ?_
      refine WF.seq ?_
      refine WF.block ?_
      refine WF.seq ?_
      refine WF.region ?_
      refine WL.va rfl rfl rfl (X.move ((hAL0.eq 0).trans (congrFun hF2 0))) ?_
      refine WL.va rfl rfl rfl (X.moveI e4_L0) ?_
      refine WL.va rfl rfl rfl (X.idx hr rfl rfl hk Try.underlying26 Try.sizeOf42) ?_
      refine WL.va rfl rfl rfl (X.loadEl hr hwL0 rfl hk hcs Try.isAgg42 Try.sizeOf42) ?_
      refine WL.op rfl (OW.allocO (cs := [i64 0, i64 0, i64 0, i64 0, i64 0, i64 0, i64 0, i64 0, i64 0, i64 0, i64 0, i64 0, i64 0, i64 0, i64 0, .slice none 0 0, i64 0, i64 0, .slice none 0 0]) Try.zeroValue42 rfl ?_ (by decide))
      intro g5 w5 heg5 hlg5 hO5 hx7
      have := World.grownBy.size hx7
      refine WL.op rfl (OW.storeOA hO5 rfl rfl rfl (ev_ones hd1 hd2) Try.sizeOf42 ?_)
      intro w9 hO5 hx11
      have := World.grownBy.size hx11
      replace hO5 : Blk _ _ _ (Ev.c (l[k]'hk) d d2) := hO5
      refine WL.nil ?_
      refine thn_n ?_
      refine WF.seq ?_
      refine WF.region ?_
      refine WL.va rfl rfl rfl (X.fieldAddrO (off := 3) rfl Try.underlying42 rfl rfl Try.sizeOf38) ?_
      refine WL.va rfl rfl rfl (X.fieldAddrP (off := 12) rfl Try.underlying38 rfl rfl Try.sizeOf36) ?_
      refine WL.va rfl rfl rfl (X.loadO hO5 (Ext.refl _) rfl rfl Try.isAgg36) ?_
      have hz1 := World.grownBy.size (show Ext wL0 w9 from (Ext.store hx7 hx11 (by omega)))
      refine WL.c rfl rfl rfl (X.call Try.call25 (evl_cons rfl evl_nil)) (copyBytes_ok _ (l[k]'hk).Call.Data _ (Row.ext hd1 (Ext.trans hwL0 (Ext.store hx7 hx11 (by omega)))) (by omega)) ?_
      rintro dv wc1 ⟨od1, hx13⟩
      have := World.grownBy.size hx13
      refine WL.va rfl rfl rfl (X.fieldAddrO (off := 3) rfl Try.underlying42 rfl rfl Try.sizeOf38) ?_
      refine WL.va rfl rfl rfl (X.fieldAddrP (off := 12) rfl Try.underlying38 rfl rfl Try.sizeOf36) ?_
      refine WL.op rfl (OW.storeO (hO5.ext hx13) (by show 15 < 19; omega) rfl rfl (own_one od1) Try.sizeOf36 ?_)
      intro ws1 hO5 hx15
      have := World.grownBy.size hx15
      replace od1 := own_keptO od1 hx15 (by omega)
      replace hO5 : Blk _ _ _ (Ev.c (l[k]'hk) dv d2) := hO5
      refine WL.nil ?_
      refine thn_n ?_
      refine WF.seq ?_
      refine WF.region ?_
      refine WL.va rfl rfl rfl (X.fieldAddrO (off := 16) rfl Try.underlying42 rfl rfl Try.sizeOf40) ?_
      refine WL.va rfl rfl rfl (X.fieldAddrP (off := 2) rfl Try.underlying40 rfl rfl Try.sizeOf36) ?_
      refine WL.va rfl rfl rfl (X.loadO hO5 (Ext.refl _) rfl rfl Try.isAgg36) ?_
      have hz2 := World.grownBy.size (show Ext wL0 ws1 from (Ext.store (Ext.trans (Ext.store hx7 hx11 (by omega)) hx13) hx15 (by omega)))
      refine WL.c rfl rfl rfl (X.call Try.call25 (evl_cons rfl evl_nil)) (copyBytes_ok _ (l[k]'hk).Answer.Data _ (Row.ext hd2 (Ext.trans hwL0 (Ext.store (Ext.trans (Ext.store hx7 hx11 (by omega)) hx13) hx15 (by omega)))) (by omega)) ?_
      rintro dv2 wc2 ⟨od2, hx17⟩
      have := World.grownBy.size hx17
      refine WL.va rfl rfl rfl (X.fieldAddrO (off := 16) rfl Try.underlying42 rfl rfl Try.sizeOf40) ?_
      refine WL.va rfl rfl rfl (X.fieldAddrP (off := 2) rfl Try.underlying40 rfl rfl Try.sizeOf36) ?_
      refine WL.op rfl (OW.storeO (hO5.ext hx17) (by show 18 < 19; omega) rfl rfl (own_one od2) Try.sizeOf36 ?_)
      intro w18 hO5 hx20
      have := World.grownBy.size hx20
      replace od1 := own_keptO (own_ext od1 hx17) hx20 (by omega)
      replace od2 := own_keptO od2 hx20 (by omega)
      replace hO5 : Blk _ _ _ (Ev.c (l[k]'hk) dv dv2) := hO5
      refine WL.nil ?_
      refine thn_n ?_
      refine WF.region ?_
      refine WL.va rfl rfl rfl (X.move e3_L0) ?_
      refine WL.va rfl rfl rfl (X.loadOA hO5 (Ext.refl _) rfl rfl Try.isAgg42 Try.sizeOf42) ?_
      refine WL.op rfl (OW.lits (vs := [agg (EvV.c (((l[k]'hk), dv, dv2) : EvV))]) (evp_cons rfl evp_nil) Try.underlying26 Try.sizeOf42 Try.zeroValue42 ⟨rfl, trivial⟩ rfl rfl rfl ?_ (by decide))
      intro v23 w22 ho25 hx24
      have := World.grownBy.size hx24
      have o1 : World.ownsRow w22 _ 42 19 v23 1 (EvV.c (((l[k]'hk), dv, dv2) : EvV)) := ho25
      have oEx := oE.ext (show Ext wL0 w22 from (Ext.trans (Ext.store (Ext.trans (Ext.store (Ext.trans (Ext.store hx7 hx11 (by omega)) hx13) hx15 (by omega)) hx17) hx20 (by omega)) hx24))
      have hod1 := (own_ext od1 hx24)
      have hod2 := (own_ext od2 hx24)
      have hzw := World.grownBy.size hwL0
      refine WL.op rfl (OW.append (bytes := 184) oEx.row (Row.of_own o1) (ev_cells_one (D := w.heap.size) (e := (((l[k]'hk), dv, dv2) : EvV)) (own_mono hod1 (by omega)) (own_mono hod2 (by omega))) rfl rfl Try.underlying26 Try.type42 rfl rfl rfl rfl (by decide) (by unfold maxLen; omega) (by omega) (by have := World.grownBy.size (show Ext w w22 from (Ext.trans (Ext.trans hwL0 (Ext.store (Ext.trans (Ext.store (Ext.trans (Ext.store hx7 hx11 (by omega)) hx13) hx15 (by omega)) hx17) hx20 (by omega))) hx24)); omega) ?_ (by decide))
      intro v27 w26 ho29 hx28 hmvhx28
      have oE2 := (oEx.app (F := [(((l[k]'hk), dv, dv2) : EvV)]) (fun e he => by rw [List.mem_singleton] at he; subst he; exact own_mono hod1 (by omega)) (fun e he => by rw [List.mem_singleton] at he; subst he; exact own_mono hod2 (by omega)) (fun e he => by rw [List.mem_singleton] at he; subst he; exact ⟨fun b h1 h2 => by have := (hod1.lt b h1).1; have := oE.top b h2; omega, fun b h1 h2 => by have := (hod2.lt b h1).1; have := oE.top b h2; omega⟩) (show World.ownsRow _ _ 42 19 _ (O.length + 1) (O.flatMap EvV.c ++ (EvV.c (((l[k]'hk), dv, dv2) : EvV) ++ [])) from by rw [List.append_nil]; exact ho29) hx28 hmvhx28)
      refine WL.va rfl rfl rfl (X.assign rfl) ?_
      refine WL.nil ?_
      refine blk_n ?_
      refine thn_n ?_
      refine WF.region ?_
      refine WL.va rfl rfl rfl (X.moveI e4_L0) ?_
      refine WL.va rfl rfl rfl (X.add rfl rfl (w64 (by omega))) ?_
      refine WL.va rfl rfl rfl (X.assignI rfl) ?_
      refine WL.nil ?_
      exact thn_n ⟨_, (by omega), k + 1, _, O ++ [(((l[k]'hk), dv, dv2) : EvV)], rfl, rfl, rfl, (by repeat (first | exact hAL0 | refine Agree.put ?_ rfl | refine Agree.named hF2 ?_)), (Ext.own (Ext.trans (Ext.trans hwL0 (Ext.store (Ext.trans (Ext.store (Ext.trans (Ext.store hx7 hx11 (by omega)) hx13) hx15 (by omega)) hx17) hx20 (by omega))) hx24) oEx.row (Nat.le_refl _) hx28), ⟨by omega, by simp [hOl], oE2, by rw [List.map_append, hO, List.take_succ_eq_append_getElem hk]; rfl⟩⟩
    · have gh0_3 := (of_decide_eq_false h0_3)
      have hk : l.length ≤ k := by have := gh0_3; omega
      refine WF.exit ?_
      refine thn_x ?_
      refine thn_x ?_
      refine blk_eq ?_
      refine thn_n ?_
      refine WF.seq ?_
      refine WF.region ?_
      refine WL.va rfl rfl rfl (X.move e3_L0) ?_
      refine WL.va rfl rfl rfl (X.assign rfl) ?_
      refine WL.nil ?_
      refine thn_n ?_
      refine WF.ret ?_
      refine fin_r ?_
      rw [List.take_of_length_le hk] at hO
      exact ⟨⟨O, hO, oE⟩, hwL0⟩

end Go.Proofs.Ytobjmehppmhkdaa
