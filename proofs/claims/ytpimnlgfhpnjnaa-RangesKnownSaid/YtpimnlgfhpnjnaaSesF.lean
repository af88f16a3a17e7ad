/- The walks of the kit's functions over sessions. -/
import Derived.Test.YtpimnlgfhpnjnaaSesK
namespace Go.Proofs.Ytpimnlgfhpnjnaa.Se
open Go Go.RowKit Kf
set_option maxRecDepth 20000

theorem sameResult_ok (ca cb : Int) (va vb : Value) (la lb : List UInt8) (w : World) (ha : Bytes w va la) (hb : Bytes w vb lb) : FnOk Try.prog 47 [agg [i64 ca, va], agg [i64 cb, vb]] w (fun r w' => r = .bool (decide (ca = cb ∧ la = lb)) ∧ Ext w w') := by
  refine FnOk.enter (rs := [4]) Try.func47 rfl Try.ntmps47 Try.results47 rfl rfl ?_
  refine WF.seq ?_
  refine WF.region ?_
  refine WL.op rfl (OW.boxA (cs := [i64 ca, va]) rfl ?_ (by decide))
  intro g2 w1 heg2 hlg2 hO2 hx3
  have := World.grownBy.size hx3
  refine WL.op rfl (OW.boxA (cs := [i64 cb, vb]) rfl ?_ (by decide))
  intro g3 w5 heg3 hlg3 hO3 hx7
  have := World.grownBy.size hx7
  refine WL.va rfl rfl rfl (X.assignB rfl) ?_
  refine WL.nil ?_
  refine thn_n ?_
  refine WF.seq ?_
  refine WF.region ?_
  refine WL.va rfl rfl rfl (X.fieldAddrO (off := 0) rfl Try.underlying53 rfl rfl Try.sizeOf28) ?_
  refine WL.va rfl rfl rfl (X.loadO hO2 hx7 rfl rfl Try.isAgg28) ?_
  refine WL.va rfl rfl rfl (X.fieldAddrO (off := 0) rfl Try.underlying53 rfl rfl Try.sizeOf28) ?_
  refine WL.va rfl rfl rfl (X.loadO hO3 (Ext.refl _) rfl rfl Try.isAgg28) ?_
  refine WL.va rfl rfl rfl (X.eql rfl rfl) ?_
  refine WL.va rfl rfl rfl (X.moveB rfl) ?_
  refine WL.split (j := 5) rfl (fun h11 => ?_) (fun h11 => ?_)
  · have gh11 := (of_decide_eq_true h11)
    have hc := gh11
    refine WL.vg rfl (congrArg some h11) rfl rfl (X.fieldAddrO (off := 1) rfl Try.underlying53 rfl rfl Try.sizeOf46) ?_
    refine WL.vg rfl (congrArg some h11) rfl rfl (X.loadO hO2 hx7 rfl rfl Try.isAgg46) ?_
    refine WL.vg rfl (congrArg some h11) rfl rfl (X.fieldAddrO (off := 1) rfl Try.underlying53 rfl rfl Try.sizeOf46) ?_
    refine WL.vg rfl (congrArg some h11) rfl rfl (X.loadO hO3 (Ext.refl _) rfl rfl Try.isAgg46) ?_
    refine WL.cg rfl (congrArg some h11) rfl rfl (X.call Try.call27 (evl_cons rfl (evl_cons rfl evl_nil))) (sameBytes_ok _ _ la lb _ (Row.ext ha (Ext.trans hx3 hx7)) (Row.ext hb (Ext.trans hx3 hx7))) ?_
    rintro v13 w12 ⟨rfl, hx14⟩
    have := World.grownBy.size hx14
    refine WL.va rfl rfl rfl (X.pickT rfl h11 rfl) ?_
    refine WL.va rfl rfl rfl (X.assignB rfl) ?_
    refine WL.nil ?_
    refine thn_n ?_
    refine WF.ret ?_
    refine fin_r ?_
    exact ⟨congrArg Value.bool (by simp [hc]), (Ext.trans (Ext.trans hx3 hx7) hx14)⟩
  · have gh11 := (of_decide_eq_false h11)
    have hc := gh11
    refine WL.p rfl rfl rfl (congrArg some h11) ?_
    refine WL.p rfl rfl rfl (congrArg some h11) ?_
    refine WL.p rfl rfl rfl (congrArg some h11) ?_
    refine WL.p rfl rfl rfl (congrArg some h11) ?_
    refine WL.p rfl rfl rfl (congrArg some h11) ?_
    refine WL.va rfl rfl rfl (X.pickF rfl h11 rfl) ?_
    refine WL.va rfl rfl rfl (X.assignB rfl) ?_
    refine WL.nil ?_
    refine thn_n ?_
    refine WF.ret ?_
    refine fin_r ?_
    exact ⟨congrArg Value.bool (by simp [hc]), (Ext.trans hx3 hx7)⟩

theorem sameSes_ok (a b : SV) (w : World) (ha : Bytes w a.2 a.1.Data) (hb : Bytes w b.2 b.1.Data) : FnOk Try.prog 108 [agg (SV.c a), agg (SV.c b)] w (fun r w' => r = .bool (decide (a.1 = b.1)) ∧ Ext w w') := by
  refine FnOk.enter (rs := [4]) Try.func108 rfl Try.ntmps108 Try.results108 rfl rfl ?_
  refine WF.seq ?_
  refine WF.region ?_
  refine WL.op rfl (OW.boxA (cs := (SV.c a)) rfl ?_ (by decide))
  intro g2 w1 heg2 hlg2 hO2 hx3
  have := World.grownBy.size hx3
  refine WL.op rfl (OW.boxA (cs := (SV.c b)) rfl ?_ (by decide))
  intro g3 w5 heg3 hlg3 hO3 hx7
  have := World.grownBy.size hx7
  refine WL.va rfl rfl rfl (X.assignB rfl) ?_
  refine WL.nil ?_
  refine thn_n ?_
  refine WF.seq ?_
  refine WF.region ?_
  refine WL.va rfl rfl rfl (X.fieldAddrO (off := 0) rfl Try.underlying55 rfl rfl Try.sizeOf3) ?_
  refine WL.va rfl rfl rfl (X.loadO hO2 hx7 rfl rfl Try.isAgg3) ?_
  refine WL.va rfl rfl rfl (X.fieldAddrO (off := 0) rfl Try.underlying55 rfl rfl Try.sizeOf3) ?_
  refine WL.va rfl rfl rfl (X.loadO hO3 (Ext.refl _) rfl rfl Try.isAgg3) ?_
  refine WL.va rfl rfl rfl (X.eql rfl rfl) ?_
  refine WL.va rfl rfl rfl (X.moveB rfl) ?_
  refine WL.split (j := 5) rfl (fun h11 => ?_) (fun h11 => ?_)
  · have gh11 := (of_decide_eq_true h11)
    have hc := gh11
    refine WL.vg rfl (congrArg some h11) rfl rfl (X.fieldAddrO (off := 1) rfl Try.underlying55 rfl rfl Try.sizeOf3) ?_
    refine WL.vg rfl (congrArg some h11) rfl rfl (X.loadO hO2 hx7 rfl rfl Try.isAgg3) ?_
    refine WL.vg rfl (congrArg some h11) rfl rfl (X.fieldAddrO (off := 1) rfl Try.underlying55 rfl rfl Try.sizeOf3) ?_
    refine WL.vg rfl (congrArg some h11) rfl rfl (X.loadO hO3 (Ext.refl _) rfl rfl Try.isAgg3) ?_
    refine WL.vg rfl (congrArg some h11) rfl rfl (X.eql rfl rfl) ?_
    refine WL.va rfl rfl rfl (X.pickT rfl h11 rfl) ?_
    refine WL.va rfl rfl rfl (X.moveB rfl) ?_
    refine WL.split (j := 12) rfl (fun h13 => ?_) (fun h13 => ?_)
    · have gh13 := (of_decide_eq_true h13)
      have hq := gh13
      refine WL.vg rfl (congrArg some h13) rfl rfl (X.fieldAddrO (off := 2) rfl Try.underlying55 rfl rfl Try.sizeOf53) ?_
      refine WL.vg rfl (congrArg some h13) rfl rfl (X.loadOP hO2 hx7 rfl rfl rfl Try.isAgg53 Try.sizeOf53) ?_
      refine WL.vg rfl (congrArg some h13) rfl rfl (X.fieldAddrO (off := 2) rfl Try.underlying55 rfl rfl Try.sizeOf53) ?_
      refine WL.vg rfl (congrArg some h13) rfl rfl (X.loadOP hO3 (Ext.refl _) rfl rfl rfl Try.isAgg53 Try.sizeOf53) ?_
      refine WL.cg rfl (congrArg some h13) rfl rfl (X.call Try.call47 (evl_cons rfl (evl_cons rfl evl_nil))) (sameResult_ok _ _ _ _ a.1.Data b.1.Data _ (Row.ext ha (Ext.trans hx3 hx7)) (Row.ext hb (Ext.trans hx3 hx7))) ?_
      rintro v15 w14 ⟨rfl, hx16⟩
      have := World.grownBy.size hx16
      refine WL.va rfl rfl rfl (X.pickT rfl h13 rfl) ?_
      refine WL.va rfl rfl rfl (X.assignB rfl) ?_
      refine WL.nil ?_
      refine thn_n ?_
      refine WF.ret ?_
      refine fin_r ?_
      first | exact ⟨congrArg Value.bool (decide_eq_false hne).symm, (Ext.trans (Ext.trans hx3 hx7) hx16)⟩ | exact ⟨congrArg Value.bool (decide_eq_decide.2 (by rw [Ses.eq_iff]; simp [hc, hq])), (Ext.trans (Ext.trans hx3 hx7) hx16)⟩
    · have gh13 := (of_decide_eq_false h13)
      have hne : ¬ a.1 = b.1 := fun e => gh13 (by rw [e])
      refine WL.p rfl rfl rfl (congrArg some h13) ?_
      refine WL.p rfl rfl rfl (congrArg some h13) ?_
      refine WL.p rfl rfl rfl (congrArg some h13) ?_
      refine WL.p rfl rfl rfl (congrArg some h13) ?_
      refine WL.p rfl rfl rfl (congrArg some h13) ?_
      refine WL.va rfl rfl rfl (X.pickF rfl h13 rfl) ?_
      refine WL.va rfl rfl rfl (X.assignB rfl) ?_
      refine WL.nil ?_
      refine thn_n ?_
      refine WF.ret ?_
      refine fin_r ?_
      first | exact ⟨congrArg Value.bool (decide_eq_false hne).symm, (Ext.trans hx3 hx7)⟩ | exact ⟨congrArg Value.bool (decide_eq_decide.2 (by rw [Ses.eq_iff]; simp [hc, hq])), (Ext.trans hx3 hx7)⟩
  · have gh11 := (of_decide_eq_false h11)
    have hne : ¬ a.1 = b.1 := fun e => gh11 (by rw [e])
    refine WL.p rfl rfl rfl (congrArg some h11) ?_
    refine WL.p rfl rfl rfl (congrArg some h11) ?_
    refine WL.p rfl rfl rfl (congrArg some h11) ?_
    refine WL.p rfl rfl rfl (congrArg some h11) ?_
    refine WL.p rfl rfl rfl (congrArg some h11) ?_
    refine WL.va rfl rfl rfl (X.pickF rfl h11 rfl) ?_
    refine WL.va rfl rfl rfl (X.moveB rfl) ?_
    refine WL.p rfl rfl rfl rfl ?_
    refine WL.p rfl rfl rfl rfl ?_
    refine WL.p rfl rfl rfl rfl ?_
    refine WL.p rfl rfl rfl rfl ?_
    refine WL.p rfl rfl rfl rfl ?_
    refine WL.va rfl rfl rfl (X.pickF rfl rfl rfl) ?_
    refine WL.va rfl rfl rfl (X.assignB rfl) ?_
    refine WL.nil ?_
    refine thn_n ?_
    refine WF.ret ?_
    refine fin_r ?_
    first | exact ⟨congrArg Value.bool (decide_eq_false hne).symm, (Ext.trans hx3 hx7)⟩ | exact ⟨congrArg Value.bool (decide_eq_decide.2 (by rw [Ses.eq_iff]; simp [hc, hq])), (Ext.trans hx3 hx7)⟩

theorem take_map {α β : Type} {f : α → β} {l : List α} {k : Nat} (h : k < l.length) : (l.map f).take (k + 1) = (l.map f).take k ++ [f l[k]] := by
  rw [List.take_succ_eq_append_getElem (by simpa using h)]; simp
set_option maxHeartbeats 800000 in
theorem sameS_ok (va vb : Value) (la lb : List Ses) (w : World) (ha : Sess w va la) (hb : Sess w vb lb) : FnOk Try.prog 78 [va, vb] w (fun r w' => r = .bool (decide (la = lb)) ∧ Ext w w') := by
  obtain ⟨Ea, rfl, ra, da⟩ := ha
  obtain ⟨Eb, rfl, rb, db⟩ := hb
  have hla : (Ea.length : Int) ≤ 9223372036854775807 := by obtain ⟨_, c, _, h1, h2, _⟩ := ra.shape; unfold maxLen at h2; omega
  refine FnOk.enter (rs := [4]) Try.func78 rfl Try.ntmps78 Try.results78 rfl rfl ?_
  refine WF.seq ?_
  refine WF.region ?_
  refine WL.va rfl rfl rfl (X.assignB rfl) ?_
  refine WL.nil ?_
  refine thn_n ?_
  refine WF.seq ?_
  refine WF.seq ?_
  refine WF.region ?_
  refine WL.va rfl rfl rfl (X.move rfl) ?_
  refine WL.va rfl rfl rfl (X.len ra rfl Try.underlying49) ?_
  refine WL.va rfl rfl rfl (X.move rfl) ?_
  refine WL.va rfl rfl rfl (X.len rb rfl Try.underlying49) ?_
  refine WL.va rfl rfl rfl (X.neq rfl rfl) ?_
  refine WL.nil ?_
  refine thn_n ?_
  refine WF.cond rfl (fun h0_2 => ?_) (fun h0_2 => ?_)
  · have gh0_2 := (of_decide_eq_true h0_2)
    have hne : Ea.map Prod.fst ≠ Eb.map Prod.fst := fun e => by have := congrArg List.length e; simp at this; omega
    refine WF.seq ?_
    refine WF.region ?_
    refine WL.va rfl rfl rfl (X.assignB rfl) ?_
    refine WL.nil ?_
    refine thn_n ?_
    refine WF.ret ?_
    refine thn_r ?_
    refine fin_r ?_
    exact ⟨congrArg Value.bool (decide_eq_false hne).symm, (Ext.refl _)⟩
  · have gh0_2 := (Decidable.of_not_not (of_decide_eq_false h0_2))
    refine WF.skip ?_
    refine thn_n ?_
    refine WF.seq ?_
    refine WF.seq ?_
    refine WF.region ?_
    refine WL.va rfl rfl rfl (X.assignI rfl) ?_
    refine WL.nil ?_
    refine thn_n ?_
    refine WF.block ?_
    refine WF.named (fun F5 hF6 => ?_)
    refine WF.loopN (fun mL0 f' w' => ∃ (k : Nat), mL0 = Ea.length - k ∧ f' 5 = .int .i64 (k : Int) ∧ Agree [0, 1, 6, 7, 8, 9, 10] f' F5 ∧ Ext w w' ∧ k ≤ Ea.length ∧ (Ea.map Prod.fst).take k = (Eb.map Prod.fst).take k) ?_ ?_
    · exact ⟨_, 0, rfl, (congrFun hF6 5), (Agree.refl _ _), (Ext.refl _), ⟨Nat.zero_le _, rfl⟩⟩
    · rintro mL0 fL0 wL0 ⟨k, hmL0, e5_L0, hAL0, hwL0, ⟨hk, hkk⟩⟩
      refine WF.seq ?_
      refine WF.seq ?_
      refine WF.region ?_
      refine WL.va rfl rfl rfl (X.moveI e5_L0) ?_
      refine WL.va rfl rfl rfl (X.move ((hAL0.eq 0).trans (congrFun hF6 0))) ?_
      refine WL.va rfl rfl rfl (X.len ra rfl Try.underlying49) ?_
      refine WL.va rfl rfl rfl (X.lss rfl rfl) ?_
      refine WL.nil ?_
      refine thn_n ?_
      refine WF.cond rfl (fun h1_7 => ?_) (fun h1_7 => ?_)
      · have gh1_7 := (of_decide_eq_true h1_7)
        refine WF.skip ?_
        refine thn_n ?_
        refine WF.seq ?_
        refine WF.block ?_
        refine WF.seq ?_
        refine WF.drawn (.q 0 (.q 1 (.q 2 (.q 3 (.q 4 (.q 5 (.q 6 (.q 7 (.l 8 (.q 9 .nil)))))))))) (fun w' => Ext wL0 w') 10 (by kernel_rfl) (by kernel_rfl) (Ext.drew _) ?_
        refine WO.q rfl rfl rfl rfl (fun w' hE9 => (X.move ((hAL0.eq 0).trans (congrFun hF6 0)))) ?_
        refine WO.q rfl rfl rfl rfl (fun w' hE9 => (X.moveI e5_L0)) ?_
        refine WO.q rfl rfl rfl rfl (fun w' hE9 => (X.idx ra rfl rfl (by omega) Try.underlying49 Try.sizeOf55)) ?_
        refine WO.q rfl rfl rfl rfl (fun w' hE9 => (X.loadEl ra (Ext.trans hwL0 hE9) rfl (by omega) (SRow.el (E := Ea) (k := k) (by omega)) Try.isAgg55 Try.sizeOf55)) ?_
        refine WO.q rfl rfl rfl rfl (fun w' hE9 => (X.move ((hAL0.eq 1).trans (congrFun hF6 1)))) ?_
        refine WO.q rfl rfl rfl rfl (fun w' hE9 => (X.moveI e5_L0)) ?_
        refine WO.q rfl rfl rfl rfl (fun w' hE9 => (X.idx rb rfl rfl (by omega) Try.underlying49 Try.sizeOf55)) ?_
        refine WO.q rfl rfl rfl rfl (fun w' hE9 => (X.loadEl rb (Ext.trans hwL0 hE9) rfl (by omega) (SRow.el (E := Eb) (k := k) (by omega)) Try.isAgg55 Try.sizeOf55)) ?_
        refine WO.l ?_
        refine LO.go rfl rfl (OW.enter rfl (by decide) (X.call Try.call108 (evl_cons rfl (evl_cons rfl evl_nil))) (sameSes_ok (Ea[k]'(by omega)) (Eb[k]'(by omega)) _ (Row.ext (da _ (List.getElem_mem _)) (Ext.trans hwL0 (Ext.drew _))) (Row.ext (db _ (List.getElem_mem _)) (Ext.trans hwL0 (Ext.drew _)))) ?_)
        rintro v11 w10 ⟨rfl, hx12⟩
        refine ⟨(Ext.trans (Ext.drew _) hx12), ?_⟩
        refine WO.q rfl rfl rfl rfl (fun w' hE9 => (X.not rfl)) ?_
        refine WO.nil ?_
        refine WL.nil ?_
        refine thn_n ?_
        refine WF.cond rfl (fun h2_14 => ?_) (fun h2_14 => ?_)
        · have gh2_14 := (of_decide_eq_false (nt h2_14))
          have hne : Ea.map Prod.fst ≠ Eb.map Prod.fst := fun e => gh2_14 (by have := congrArg (fun z => z[k]?) e; simpa [List.getElem?_eq_getElem (show k < Ea.length by omega), List.getElem?_eq_getElem (show k < Eb.length by omega)] using this)
          refine WF.seq ?_
          refine WF.region ?_
          refine WL.va rfl rfl rfl (X.assignB rfl) ?_
          refine WL.nil ?_
          refine thn_n ?_
          refine WF.ret ?_
          refine blk_r ?_
          refine thn_r ?_
          refine thn_r ?_
          refine blk_r ?_
          refine thn_r ?_
          refine fin_r ?_
          exact ⟨congrArg Value.bool (decide_eq_false hne).symm, (Ext.trans (Ext.trans hwL0 (Ext.drew _)) hx12)⟩
        · have gh2_14 := (of_decide_eq_true (nf h2_14))
          have heq := gh2_14
          refine WF.skip ?_
          refine blk_n ?_
          refine thn_n ?_
          refine WF.region ?_
          refine WL.va rfl rfl rfl (X.moveI e5_L0) ?_
          refine WL.va rfl rfl rfl (X.add rfl rfl (w64 (by omega))) ?_
          refine WL.va rfl rfl rfl (X.assignI rfl) ?_
          refine WL.nil ?_
          exact thn_n ⟨_, (by omega), k + 1, rfl, rfl, (by repeat (first | exact hAL0 | refine Agree.put ?_ rfl | refine Agree.named hF6 ?_)), (Ext.trans (Ext.trans hwL0 (Ext.drew _)) hx12), ⟨by omega, by rw [take_map (by omega), take_map (by omega), hkk, heq]⟩⟩
      · have gh1_7 := (of_decide_eq_false h1_7)
        refine WF.exit ?_
        refine thn_x ?_
        refine thn_x ?_
        refine blk_eq ?_
        refine thn_n ?_
        refine WF.seq ?_
        refine WF.region ?_
        refine WL.va rfl rfl rfl (X.assignB rfl) ?_
        refine WL.nil ?_
        refine thn_n ?_
        refine WF.ret ?_
        refine fin_r ?_
        exact ⟨congrArg Value.bool (decide_eq_true (by rw [List.take_of_length_le (by simp; omega), List.take_of_length_le (by simp; omega)] at hkk; exact hkk)).symm, hwL0⟩

set_option maxHeartbeats 1600000 in
theorem copyS_ok (v : Value) (l : List Ses) (w : World) (h : Sess w v l) (hm : l.length ≤ 1000000) (hd : ∀ s ∈ l, s.Data.length ≤ 1000000) : FnOk Try.prog 81 [v] w (fun r w' => (∃ F, F.map Prod.fst = l ∧ SOwn w' w.heap.size r F) ∧ Ext w w') := by
  obtain ⟨E, rfl, re, de⟩ := h
  simp only [List.length_map] at hm
  refine FnOk.enter (rs := [2]) Try.func81 rfl Try.ntmps81 Try.results81 rfl rfl ?_
  refine WF.seq ?_
  refine WF.region ?_
  refine WL.va rfl rfl rfl (X.assign rfl) ?_
  refine WL.nil ?_
  refine thn_n ?_
  refine WF.seq ?_
  refine WF.region ?_
  refine WL.va rfl rfl rfl (X.assign rfl) ?_
  refine WL.nil ?_
  refine thn_n ?_
  refine WF.seq ?_
  refine WF.seq ?_
  refine WF.region ?_
  refine WL.va rfl rfl rfl (X.assignI rfl) ?_
  refine WL.nil ?_
  refine thn_n ?_
  refine WF.block ?_
  refine WF.named (fun F1 hF2 => ?_)
  refine WF.loopN (fun mL0 f' w' => ∃ (k : Nat) (vo : Value) (O : List SV), mL0 = E.length - k ∧ f' 4 = .int .i64 (k : Int) ∧ f' 3 = vo ∧ Agree [0, 2] f' F1 ∧ Ext w w' ∧ k ≤ E.length ∧ O.length = k ∧ SOwn w' w.heap.size vo O ∧ O.map Prod.fst = (E.map Prod.fst).take k) ?_ ?_
  · exact ⟨_, 0, (.slice none 0 0), [], rfl, (congrFun hF2 4), (congrFun hF2 3), (Agree.refl _ _), (Ext.refl _), ⟨Nat.zero_le _, rfl, SOwn.nil _ _, rfl⟩⟩
  · rintro mL0 fL0 wL0 ⟨k, vo, O, hmL0, e4_L0, e3_L0, hAL0, hwL0, ⟨hk0, hOl, ho, hO⟩⟩
    refine WF.seq ?_
    refine WF.seq ?_
    refine WF.region ?_
    refine WL.va rfl rfl rfl (X.moveI e4_L0) ?_
    refine WL.va rfl rfl rfl (X.move ((hAL0.eq 0).trans (congrFun hF2 0))) ?_
    refine WL.va rfl rfl rfl (X.len re rfl Try.underlying49) ?_
    refine WL.va rfl rfl rfl (X.lss rfl rfl) ?_
    refine WL.nil ?_
    refine thn_n ?_
    refine WF.cond rfl (fun h0_3 => ?_) (fun h0_3 => ?_)
    · have gh0_3 := (of_decide_eq_true h0_3)
      have hk : k < E.length := by omega
      refine WF.skip ?_
      refine thn_n ?_
      refine WF.seq ?_
      refine WF.block ?_
      refine WF.drawn (.q 0 (.q 1 (.q 2 (.q 3 (.q 4 (.q 5 (.q 6 (.q 7 (.q 8 (.q 9 (.q 10 (.q 11 (.q 12 (.q 13 (.q 14 (.q 15 (.q 16 (.q 17 (.q 18 (.q 19 (.q 20 (.q 21 (.q 22 (.l 23 (.q 24 (.q 25 (.l 26 .nil))))))))))))))))))))))))))) (fun w' => Ext wL0 w') 27 (by kernel_rfl) (by kernel_rfl) (Ext.drew _) ?_
      refine WO.q rfl rfl rfl rfl (fun w' hE5 => (X.move e3_L0)) ?_
      refine WO.q rfl rfl rfl rfl (fun w' hE5 => (X.move ((hAL0.eq 0).trans (congrFun hF2 0)))) ?_
      refine WO.q rfl rfl rfl rfl (fun w' hE5 => (X.moveI e4_L0)) ?_
      refine WO.q rfl rfl rfl rfl (fun w' hE5 => (X.idx re rfl rfl (by omega) Try.underlying49 Try.sizeOf55)) ?_
      refine WO.q rfl rfl rfl rfl (fun w' hE5 => (X.fieldAddrA rfl Try.underlying55 rfl rfl Try.sizeOf3)) ?_
      refine WO.q rfl rfl rfl rfl (fun w' hE5 => (X.loadE re (Ext.trans hwL0 hE5) rfl (by omega) ((SRow.get hk (by decide)).trans rfl) Try.isAgg3)) ?_
      refine WO.q rfl rfl rfl rfl (fun w' hE5 => (X.move ((hAL0.eq 0).trans (congrFun hF2 0)))) ?_
      refine WO.q rfl rfl rfl rfl (fun w' hE5 => (X.moveI e4_L0)) ?_
      refine WO.q rfl rfl rfl rfl (fun w' hE5 => (X.idx re rfl rfl (by omega) Try.underlying49 Try.sizeOf55)) ?_
      refine WO.q rfl rfl rfl rfl (fun w' hE5 => (X.fieldAddrA rfl Try.underlying55 rfl rfl Try.sizeOf3)) ?_
      refine WO.q rfl rfl rfl rfl (fun w' hE5 => (X.loadE re (Ext.trans hwL0 hE5) rfl (by omega) ((SRow.get hk (by decide)).trans rfl) Try.isAgg3)) ?_
      refine WO.q rfl rfl rfl rfl (fun w' hE5 => (X.move ((hAL0.eq 0).trans (congrFun hF2 0)))) ?_
      refine WO.q rfl rfl rfl rfl (fun w' hE5 => (X.moveI e4_L0)) ?_
      refine WO.q rfl rfl rfl rfl (fun w' hE5 => (X.idx re rfl rfl (by omega) Try.underlying49 Try.sizeOf55)) ?_
      refine WO.q rfl rfl rfl rfl (fun w' hE5 => (X.fieldAddrA rfl Try.underlying55 rfl rfl Try.sizeOf53)) ?_
      refine WO.q rfl rfl rfl rfl (fun w' hE5 => (X.fieldAddrAA (off := 0) rfl Try.underlying53 rfl rfl Try.sizeOf28)) ?_
      refine WO.q rfl rfl rfl rfl (fun w' hE5 => (X.loadE re (Ext.trans hwL0 hE5) rfl (by omega) ((SRow.get hk (by decide)).trans rfl) Try.isAgg28)) ?_
      refine WO.q rfl rfl rfl rfl (fun w' hE5 => (X.move ((hAL0.eq 0).trans (congrFun hF2 0)))) ?_
      refine WO.q rfl rfl rfl rfl (fun w' hE5 => (X.moveI e4_L0)) ?_
      refine WO.q rfl rfl rfl rfl (fun w' hE5 => (X.idx re rfl rfl (by omega) Try.underlying49 Try.sizeOf55)) ?_
      refine WO.q rfl rfl rfl rfl (fun w' hE5 => (X.fieldAddrA rfl Try.underlying55 rfl rfl Try.sizeOf53)) ?_
      refine WO.q rfl rfl rfl rfl (fun w' hE5 => (X.fieldAddrAA (off := 1) rfl Try.underlying53 rfl rfl Try.sizeOf46)) ?_
      refine WO.q rfl rfl rfl rfl (fun w' hE5 => (X.loadE re (Ext.trans hwL0 hE5) rfl (by omega) ((SRow.get hk (by decide)).trans rfl) Try.isAgg46)) ?_
      refine WO.l ?_
      have hoA := ho.ext (Ext.drew _)
      have hBz := World.grownBy.size (Ext.trans hwL0 (Ext.drew _))
      refine LO.go rfl rfl (OW.enter rfl (by decide) (X.call Try.call85 (evl_cons rfl evl_nil)) (copyBytes_ok _ (E[k]'hk).1.Data _ (Row.ext (de _ (List.getElem_mem hk)) (Ext.trans hwL0 (Ext.drew _))) (Nat.le_trans (hd _ (List.mem_map.2 ⟨_, List.getElem_mem hk, rfl⟩)) (by decide))) ?_)
      rintro dv w6 ⟨od, hx7⟩
      refine ⟨(Ext.trans (Ext.drew _) hx7), ?_⟩
      have gq1 := hx7
      refine WO.q rfl rfl rfl rfl (fun w' hE5 => (X.buildL (P := Try.prog) (t := 53) (cs := [i64 (E[k]'hk).1.Code, dv]) (evp_cons rfl (evp_cons rfl evp_nil)) Try.type53 Try.underlying53 rfl rfl ⟨rfl, own_one od, trivial⟩ rfl)) ?_
      refine WO.q rfl rfl rfl rfl (fun w' hE5 => (X.buildF (P := Try.prog) (t := 55) (cs := (SV.c ((E[k]'hk).1, dv))) (evp_cons rfl (evp_cons rfl (evp_cons rfl evp_nil))) Try.type55 Try.underlying55 rfl rfl rfl)) ?_
      refine WO.l ?_
      refine LO.go rfl rfl (OW.lits (vs := [agg (SV.c ((E[k]'hk).1, dv))]) (evp_cons rfl evp_nil) Try.underlying49 Try.sizeOf55 Try.zeroValue55 ⟨rfl, trivial⟩ rfl rfl rfl ?_ (by decide))
      intro v9 w8 ho11 hx10
      have o1 : World.ownsRow w8 _ 55 4 v9 1 (SV.c ((E[k]'hk).1, dv)) := ho11
      have gq2 := hx10
      refine ⟨(Ext.trans (Ext.trans (Ext.drew _) hx7) hx10), ?_⟩
      refine WO.nil ?_
      refine WL.op rfl (OW.append (bytes := 48) (own_ext (own_ext hoA.row gq1) gq2) (Row.of_own o1) (SV.c_one (e := ((E[k]'hk).1, dv)) (Bytes.of_own od)) rfl rfl Try.underlying49 Try.type55 rfl rfl rfl rfl (by decide) (by unfold maxLen; omega) (by omega) (Nat.le_trans hBz (Nat.le_trans (World.grownBy.size gq1) (World.grownBy.size gq2))) ?_ (by decide))
      intro v13 w12 ho15 hx14 hmvhx14
      have ho2 := hoA.app (s := (E[k]'hk).1) od gq1 gq2 ho15 hx14 hmvhx14 hBz
      refine WL.va rfl rfl rfl (X.assign rfl) ?_
      refine WL.nil ?_
      refine blk_n ?_
      refine thn_n ?_
      refine WF.region ?_
      refine WL.va rfl rfl rfl (X.moveI e4_L0) ?_
      refine WL.va rfl rfl rfl (X.add rfl rfl (w64 (by omega))) ?_
      refine WL.va rfl rfl rfl (X.assignI rfl) ?_
      refine WL.nil ?_
      exact thn_n ⟨_, (by omega), k + 1, _, _, rfl, rfl, rfl, (by repeat (first | exact hAL0 | refine Agree.put ?_ rfl | refine Agree.named hF2 ?_)), (Ext.own (Ext.trans (Ext.trans (Ext.trans hwL0 (Ext.drew _)) hx7) hx10) (own_ext (own_ext hoA.row gq1) gq2) (Nat.le_refl _) hx14), ⟨by omega, by simp [hOl], ho2, by rw [take_map hk, List.map_append, hO]; rfl⟩⟩
    · have gh0_3 := (of_decide_eq_false h0_3)
      refine WF.exit ?_
      refine thn_x ?_
      refine thn_x ?_
      refine blk_eq ?_
      refine thn_n ?_
      refine WF.seq ?_
      refine WF.region ?_
      refine WL.va rfl rfl rfl (X.move e3_L0) ?_
      refine WL.va rfl rfl rfl (X.assign rfl) ?_
      refine WL.nil ?_
      refine thn_n ?_
      refine WF.ret ?_
      refine fin_r ?_
      exact ⟨⟨_, by rw [hO, List.take_of_length_le (by simp; omega)], ho⟩, hwL0⟩

set_option maxHeartbeats 1600000 in
theorem spoilS_ok (v : Value) (E : List SV) (w : World) (B T : Nat) (h : SOwn w B v E) (hT : SOwn.below T v E) : FnOk Try.prog 79 [v] w (fun _ w' => Chg B T w w') := by
  have hle : (E.length : Int) ≤ 9223372036854775807 := by obtain ⟨_, c, _, h1, h2, _⟩ := h.srow.shape; unfold maxLen at h2; omega
  refine FnOk.enter (rs := []) Try.func79 rfl Try.ntmps79 Try.results79 rfl rfl ?_
  refine WF.seq ?_
  refine WF.region ?_
  refine WL.va rfl rfl rfl (X.assignI rfl) ?_
  refine WL.nil ?_
  refine thn_n ?_
  refine WF.block ?_
  refine WF.named (fun F1 hF2 => ?_)
  refine WF.loopN (fun mL0 f' w' => ∃ (k : Nat) (E1 : List SV), mL0 = E.length - k ∧ f' 2 = .int .i64 (k : Int) ∧ Agree [0] f' F1 ∧ Chg B T w w' ∧ k ≤ E.length ∧ E1.length = E.length ∧ SOwn w' B v E1 ∧ SOwn.below T v E1) ?_ ?_
  · exact ⟨_, 0, E, rfl, (congrFun hF2 2), (Agree.refl _ _), (Chg.refl _ _ _), ⟨Nat.zero_le _, rfl, h, hT⟩⟩
  · rintro mL0 fL0 wL0 ⟨k, E1, hmL0, e2_L0, hAL0, hwL0, ⟨hk0, hE1, ho, hbe⟩⟩
    refine WF.seq ?_
    refine WF.seq ?_
    refine WF.region ?_
    refine WL.va rfl rfl rfl (X.moveI e2_L0) ?_
    refine WL.va rfl rfl rfl (X.move ((hAL0.eq 0).trans (congrFun hF2 0))) ?_
    refine WL.va rfl rfl rfl (X.len ho.srow rfl Try.underlying49) ?_
    refine WL.va rfl rfl rfl (X.lss rfl rfl) ?_
    refine WL.nil ?_
    refine thn_n ?_
    refine WF.cond rfl (fun h0_3 => ?_) (fun h0_3 => ?_)
    · have gh0_3 := (of_decide_eq_true h0_3)
      have hke : k < E1.length := by omega
      refine WF.skip ?_
      refine thn_n ?_
      refine WF.seq ?_
      refine WF.block ?_
      refine WF.seq ?_
      refine WF.region ?_
      refine WL.va rfl rfl rfl (X.move ((hAL0.eq 0).trans (congrFun hF2 0))) ?_
      refine WL.va rfl rfl rfl (X.moveI e2_L0) ?_
      refine WL.va rfl rfl rfl (X.idx ho.srow rfl rfl (by omega) Try.underlying49 Try.sizeOf55) ?_
      refine WL.va rfl rfl rfl (X.fieldAddrA rfl Try.underlying55 rfl rfl Try.sizeOf53) ?_
      refine WL.va rfl rfl rfl (X.fieldAddrAA (off := 1) rfl Try.underlying53 rfl rfl Try.sizeOf46) ?_
      refine WL.va rfl rfl rfl (X.loadE ho.srow (Ext.refl _) rfl (by omega) ((SRow.get hke (by decide)).trans rfl) Try.isAgg46) ?_
      refine WL.c rfl rfl rfl (X.call Try.call49 (evl_cons rfl evl_nil)) (spoilBytes_ok _ _ _ B (ho.data _ (List.getElem_mem hke))) ?_
      rintro v6 w5 ⟨⟨l2, od⟩, hx7⟩
      have ho1 := ho.spoil hke od hx7
      have hb1 := SOwn.below_set (k := k) (e := ({ (E1[k]'hke).1 with Data := l2 }, (E1[k]'hke).2)) hbe (show ∀ b, (E1[k]'hke).2.ownBlock = some b → b < T from hbe.2 _ (List.getElem_mem hke))
      have hg1 := Chg.of hx7 (B := B) (T := T) (fun g hg => ⟨((ho.data _ (List.getElem_mem hke)).lt g hg).1, hbe.2 _ (List.getElem_mem hke) g hg⟩)
      refine WL.nil ?_
      refine thn_n ?_
      refine WF.region ?_
      refine WL.va rfl rfl rfl (X.move ((hAL0.eq 0).trans (congrFun hF2 0))) ?_
      refine WL.va rfl rfl rfl (X.moveI e2_L0) ?_
      refine WL.va rfl rfl rfl (X.buildL (P := Try.prog) (t := 55) (cs := [i64 (-77), i64 0, i64 0, .slice none 0 0]) (evp_cons rfl evp_nil) Try.type55 Try.underlying55 rfl rfl ⟨rfl, trivial⟩ rfl) ?_
      refine WL.va rfl rfl rfl (X.idx ho1.srow rfl rfl (by rw [List.length_set]; exact hke) Try.underlying49 Try.sizeOf55) ?_
      refine WL.op rfl (OW.storeEl (ds := [i64 (-77), i64 0, i64 0, .slice none 0 0]) ho1.row (by rw [List.length_set]; exact hke) rfl rfl rfl (by simp [Value.oneCell']) Try.sizeOf55 ?_)
      intro w8 ho11 hx10
      have ho2 := ho1.blank (by rw [List.length_set]; exact hke) ho11 hx10
      have hb2 := SOwn.below_set (k := k) (e := (⟨-77, 0, 0, []⟩, .slice none 0 0)) hb1 (fun b hb => by cases hb)
      have hg2 := Chg.of hx10 (B := B) (T := T) (fun g hg => ⟨(ho1.row.lt g hg).1, hb1.1 g hg⟩)
      refine WL.nil ?_
      refine blk_n ?_
      refine thn_n ?_
      refine WF.region ?_
      refine WL.va rfl rfl rfl (X.moveI e2_L0) ?_
      refine WL.va rfl rfl rfl (X.add rfl rfl (w64 (by omega))) ?_
      refine WL.va rfl rfl rfl (X.assignI rfl) ?_
      refine WL.nil ?_
      exact thn_n ⟨_, (by omega), k + 1, _, rfl, rfl, (by repeat (first | exact hAL0 | refine Agree.put ?_ rfl | refine Agree.named hF2 ?_)), ((hwL0.trans hg1).trans hg2), ⟨by omega, by simp [hE1], ho2, hb2⟩⟩
    · have gh0_3 := (of_decide_eq_false h0_3)
      refine WF.exit ?_
      refine thn_x ?_
      refine thn_x ?_
      refine blk_eq ?_
      refine fin_n ?_
      exact hwL0

end Go.Proofs.Ytpimnlgfhpnjnaa.Se
