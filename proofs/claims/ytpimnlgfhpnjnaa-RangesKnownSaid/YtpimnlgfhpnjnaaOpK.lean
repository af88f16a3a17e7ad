/- The walks of the kit's functions over operations. -/
import Derived.Test.YtpimnlgfhpnjnaaPackK
import Derived.Test.YtpimnlgfhpnjnaaOpp
import Derived.Test.YtpimnlgfhpnjnaaIn
namespace Go.Proofs.Ytpimnlgfhpnjnaa.Op
open Go Go.RowKit Kf
set_option maxRecDepth 20000

theorem dec_iff {p q : Prop} {i : Decidable p} {j : Decidable q} (h : p ↔ q) : decide p = decide q := decide_eq_decide.2 h
theorem dec_f {q : Prop} {j : Decidable q} (h : ¬ q) : false = decide q := (decide_eq_false h).symm
theorem dec_t {q : Prop} {j : Decidable q} (h : q) : true = decide q := (decide_eq_true h).symm
theorem sameW_ok (a b : WV) (w : World) (ha : Bytes w a.2 a.1.Data) (hb : Bytes w b.2 b.1.Data) : FnOk Try.prog 114 [agg (WV.c a), agg (WV.c b)] w (fun r w' => r = .bool (decide (a.1 = b.1)) ∧ Ext w w') := by
  refine FnOk.enter (rs := [4]) Try.func114 rfl Try.ntmps114 Try.results114 rfl rfl ?_
  refine WF.seq ?_
  refine WF.region ?_
  refine WL.op rfl (OW.boxA (cs := (WV.c a)) rfl ?_ (by decide))
  intro g2 w1 heg2 hlg2 hO2 hx3
  have := World.grownBy.size hx3
  refine WL.op rfl (OW.boxA (cs := (WV.c b)) rfl ?_ (by decide))
  intro g3 w5 heg3 hlg3 hO3 hx7
  have := World.grownBy.size hx7
  refine WL.va rfl rfl rfl (X.assignB rfl) ?_
  refine WL.nil ?_
  refine thn_n ?_
  refine WF.seq ?_
  refine WF.region ?_
  refine WL.va rfl rfl rfl (X.fieldAddrO (off := 0) rfl Try.underlying113 rfl rfl Try.sizeOf3) ?_
  refine WL.va rfl rfl rfl (X.loadO hO2 hx7 rfl rfl Try.isAgg3) ?_
  refine WL.va rfl rfl rfl (X.fieldAddrO (off := 0) rfl Try.underlying113 rfl rfl Try.sizeOf3) ?_
  refine WL.va rfl rfl rfl (X.loadO hO3 (Ext.refl _) rfl rfl Try.isAgg3) ?_
  refine WL.va rfl rfl rfl (X.eql rfl rfl) ?_
  refine WL.va rfl rfl rfl (X.moveB rfl) ?_
  refine WL.split (j := 5) rfl (fun h11 => ?_) (fun h11 => ?_)
  · have gh11 := (of_decide_eq_true h11)
    have hc0 := gh11
    refine WL.vg rfl (congrArg some h11) rfl rfl (X.fieldAddrO (off := 1) rfl Try.underlying113 rfl rfl Try.sizeOf46) ?_
    refine WL.vg rfl (congrArg some h11) rfl rfl (X.loadO hO2 hx7 rfl rfl Try.isAgg46) ?_
    refine WL.vg rfl (congrArg some h11) rfl rfl (X.fieldAddrO (off := 1) rfl Try.underlying113 rfl rfl Try.sizeOf46) ?_
    refine WL.vg rfl (congrArg some h11) rfl rfl (X.loadO hO3 (Ext.refl _) rfl rfl Try.isAgg46) ?_
    refine WL.cg rfl (congrArg some h11) rfl rfl (X.call Try.call27 (evl_cons rfl (evl_cons rfl evl_nil))) (sameBytes_ok _ _ a.1.Data b.1.Data _ (Row.ext ha (Ext.trans hx3 hx7)) (Row.ext hb (Ext.trans hx3 hx7))) ?_
    rintro v13 w12 ⟨rfl, hx14⟩
    have := World.grownBy.size hx14
    refine WL.va rfl rfl rfl (X.pickT rfl h11 rfl) ?_
    refine WL.va rfl rfl rfl (X.assignB rfl) ?_
    refine WL.nil ?_
    refine thn_n ?_
    refine WF.ret ?_
    refine fin_r ?_
    first | exact ⟨congrArg Value.bool (decide_eq_false hne).symm, (Ext.trans (Ext.trans hx3 hx7) hx14)⟩ | exact ⟨congrArg Value.bool (decide_eq_decide.2 (by rw [Wr.eq_iff]; simp [hc0])), (Ext.trans (Ext.trans hx3 hx7) hx14)⟩
  · have gh11 := (of_decide_eq_false h11)
    have hne : ¬ a.1 = b.1 := fun e => gh11 (by rw [e])
    refine WL.p rfl rfl rfl (congrArg some h11) ?_
    refine WL.p rfl rfl rfl (congrArg some h11) ?_
    refine WL.p rfl rfl rfl (congrArg some h11) ?_
    refine WL.p rfl rfl rfl (congrArg some h11) ?_
    refine WL.p rfl rfl rfl (congrArg some h11) ?_
    refine WL.va rfl rfl rfl (X.pickF rfl h11 rfl) ?_
    refine WL.va rfl rfl rfl (X.assignB rfl) ?_
    refine WL.nil ?_
    refine thn_n ?_
    refine WF.ret ?_
    refine fin_r ?_
    first | exact ⟨congrArg Value.bool (decide_eq_false hne).symm, (Ext.trans hx3 hx7)⟩ | exact ⟨congrArg Value.bool (decide_eq_decide.2 (by rw [Wr.eq_iff]; simp [hc0])), (Ext.trans hx3 hx7)⟩

set_option maxHeartbeats 800000 in
theorem sameWs_ok (va vb : Value) (la lb : List Wr) (w : World) (ha : Wrs w va la) (hb : Wrs w vb lb) : FnOk Try.prog 94 [va, vb] w (fun r w' => r = .bool (decide (la = lb)) ∧ Ext w w') := by
  obtain ⟨Ea, rfl, ra, da⟩ := ha
  obtain ⟨Eb, rfl, rb, db⟩ := hb
  have hla : (Ea.length : Int) ≤ 9223372036854775807 := by obtain ⟨_, c, _, h1, h2, _⟩ := ra.shape; unfold maxLen at h2; omega
  refine FnOk.enter (rs := [4]) Try.func94 rfl Try.ntmps94 Try.results94 rfl rfl ?_
  refine WF.seq ?_
  refine WF.region ?_
  refine WL.va rfl rfl rfl (X.assignB rfl) ?_
  refine WL.nil ?_
  refine thn_n ?_
  refine WF.seq ?_
  refine WF.seq ?_
  refine WF.region ?_
  refine WL.va rfl rfl rfl (X.move rfl) ?_
  refine WL.va rfl rfl rfl (X.len ra rfl Try.underlying70) ?_
  refine WL.va rfl rfl rfl (X.move rfl) ?_
  refine WL.va rfl rfl rfl (X.len rb rfl Try.underlying70) ?_
  refine WL.va rfl rfl rfl (X.neq rfl rfl) ?_
  refine WL.nil ?_
  refine thn_n ?_
  refine WF.cond rfl (fun h0_2 => ?_) (fun h0_2 => ?_)
  · have gh0_2 := (of_decide_eq_true h0_2)
    have hne : Ea.map Prod.fst ≠ Eb.map Prod.fst := fun e => by have := congrArg List.length e; simp at this; omega
    refine WF.seq ?_
    refine WF.region ?_
    refine WL.va rfl rfl rfl (X.assignB rfl) ?_
    refine WL.nil ?_
    refine thn_n ?_
    refine WF.ret ?_
    refine thn_r ?_
    refine fin_r ?_
    exact ⟨congrArg Value.bool (decide_eq_false hne).symm, (Ext.refl _)⟩
  · have gh0_2 := (Decidable.of_not_not (of_decide_eq_false h0_2))
    refine WF.skip ?_
    refine thn_n ?_
    refine WF.seq ?_
    refine WF.seq ?_
    refine WF.region ?_
    refine WL.va rfl rfl rfl (X.assignI rfl) ?_
    refine WL.nil ?_
    refine thn_n ?_
    refine WF.block ?_
    refine WF.named (fun F5 hF6 => ?_)
    refine WF.loopN (fun mL0 f' w' => ∃ (k : Nat), mL0 = Ea.length - k ∧ f' 5 = .int .i64 (k : Int) ∧ Agree [0, 1, 6, 7, 8, 9, 10] f' F5 ∧ Ext w w' ∧ k ≤ Ea.length ∧ (Ea.map Prod.fst).take k = (Eb.map Prod.fst).take k) ?_ ?_
    · exact ⟨_, 0, rfl, (congrFun hF6 5), (Agree.refl _ _), (Ext.refl _), ⟨Nat.zero_le _, rfl⟩⟩
    · rintro mL0 fL0 wL0 ⟨k, hmL0, e5_L0, hAL0, hwL0, ⟨hk, hkk⟩⟩
      refine WF.seq ?_
      refine WF.seq ?_
      refine WF.region ?_
      refine WL.va rfl rfl rfl (X.moveI e5_L0) ?_
      refine WL.va rfl rfl rfl (X.move ((hAL0.eq 0).trans (congrFun hF6 0))) ?_
      refine WL.va rfl rfl rfl (X.len ra rfl Try.underlying70) ?_
      refine WL.va rfl rfl rfl (X.lss rfl rfl) ?_
      refine WL.nil ?_
      refine thn_n ?_
      refine WF.cond rfl (fun h1_7 => ?_) (fun h1_7 => ?_)
      · have gh1_7 := (of_decide_eq_true h1_7)
        refine WF.skip ?_
        refine thn_n ?_
        refine WF.seq ?_
        refine WF.block ?_
        refine WF.seq ?_
        refine WF.drawn (.q 0 (.q 1 (.q 2 (.q 3 (.q 4 (.q 5 (.q 6 (.q 7 (.l 8 (.q 9 .nil)))))))))) (fun w' => Ext wL0 w') 10 (by kernel_rfl) (by kernel_rfl) (Ext.drew _) ?_
        refine WO.q rfl rfl rfl rfl (fun w' hE9 => (X.move ((hAL0.eq 0).trans (congrFun hF6 0)))) ?_
        refine WO.q rfl rfl rfl rfl (fun w' hE9 => (X.moveI e5_L0)) ?_
        refine WO.q rfl rfl rfl rfl (fun w' hE9 => (X.idx ra rfl rfl (by omega) Try.underlying70 Try.sizeOf113)) ?_
        refine WO.q rfl rfl rfl rfl (fun w' hE9 => (X.loadEl ra (Ext.trans hwL0 hE9) rfl (by omega) (WRow.el (E := Ea) (k := k) (by omega)) Try.isAgg113 Try.sizeOf113)) ?_
        refine WO.q rfl rfl rfl rfl (fun w' hE9 => (X.move ((hAL0.eq 1).trans (congrFun hF6 1)))) ?_
        refine WO.q rfl rfl rfl rfl (fun w' hE9 => (X.moveI e5_L0)) ?_
        refine WO.q rfl rfl rfl rfl (fun w' hE9 => (X.idx rb rfl rfl (by omega) Try.underlying70 Try.sizeOf113)) ?_
        refine WO.q rfl rfl rfl rfl (fun w' hE9 => (X.loadEl rb (Ext.trans hwL0 hE9) rfl (by omega) (WRow.el (E := Eb) (k := k) (by omega)) Try.isAgg113 Try.sizeOf113)) ?_
        refine WO.l ?_
        refine LO.go rfl rfl (OW.enter rfl (by decide) (X.call Try.call114 (evl_cons rfl (evl_cons rfl evl_nil))) (sameW_ok (Ea[k]'(by omega)) (Eb[k]'(by omega)) _ (Row.ext (da _ (List.getElem_mem _)) (Ext.trans hwL0 (Ext.drew _))) (Row.ext (db _ (List.getElem_mem _)) (Ext.trans hwL0 (Ext.drew _)))) ?_)
        rintro v11 w10 ⟨rfl, hx12⟩
        refine ⟨(Ext.trans (Ext.drew _) hx12), ?_⟩
        refine WO.q rfl rfl rfl rfl (fun w' hE9 => (X.not rfl)) ?_
        refine WO.nil ?_
        refine WL.nil ?_
        refine thn_n ?_
        refine WF.cond rfl (fun h2_14 => ?_) (fun h2_14 => ?_)
        · have gh2_14 := (of_decide_eq_false (nt h2_14))
          have hne : Ea.map Prod.fst ≠ Eb.map Prod.fst := fun e => gh2_14 (by have := congrArg (fun z => z[k]?) e; simpa [List.getElem?_eq_getElem (show k < Ea.length by omega), List.getElem?_eq_getElem (show k < Eb.length by omega)] using this)
          refine WF.seq ?_
          refine WF.region ?_
          refine WL.va rfl rfl rfl (X.assignB rfl) ?_
          refine WL.nil ?_
          refine thn_n ?_
          refine WF.ret ?_
          refine blk_r ?_
          refine thn_r ?_
          refine thn_r ?_
          refine blk_r ?_
          refine thn_r ?_
          refine fin_r ?_
          exact ⟨congrArg Value.bool (decide_eq_false hne).symm, (Ext.trans (Ext.trans hwL0 (Ext.drew _)) hx12)⟩
        · have gh2_14 := (of_decide_eq_true (nf h2_14))
          have heq := gh2_14
          refine WF.skip ?_
          refine blk_n ?_
          refine thn_n ?_
          refine WF.region ?_
          refine WL.va rfl rfl rfl (X.moveI e5_L0) ?_
          refine WL.va rfl rfl rfl (X.add rfl rfl (w64 (by omega))) ?_
          refine WL.va rfl rfl rfl (X.assignI rfl) ?_
          refine WL.nil ?_
          exact thn_n ⟨_, (by omega), k + 1, rfl, rfl, (by repeat (first | exact hAL0 | refine Agree.put ?_ rfl | refine Agree.named hF6 ?_)), (Ext.trans (Ext.trans hwL0 (Ext.drew _)) hx12), ⟨by omega, by rw [take_map (by omega), take_map (by omega), hkk, heq]⟩⟩
      · have gh1_7 := (of_decide_eq_false h1_7)
        refine WF.exit ?_
        refine thn_x ?_
        refine thn_x ?_
        refine blk_eq ?_
        refine thn_n ?_
        refine WF.seq ?_
        refine WF.region ?_
        refine WL.va rfl rfl rfl (X.assignB rfl) ?_
        refine WL.nil ?_
        refine thn_n ?_
        refine WF.ret ?_
        refine fin_r ?_
        exact ⟨congrArg Value.bool (decide_eq_true (by rw [List.take_of_length_le (by simp; omega), List.take_of_length_le (by simp; omega)] at hkk; exact hkk)).symm, hwL0⟩

set_option maxHeartbeats 1600000 in
theorem copyWs_ok (v : Value) (l : List Wr) (w : World) (h : Wrs w v l) (hm : l.length ≤ 1000000) (hd : ∀ s ∈ l, s.Data.length ≤ 1000000) : FnOk Try.prog 84 [v] w (fun r w' => (∃ F, F.map Prod.fst = l ∧ WOwn w' w.heap.size r F) ∧ Ext w w') := by
  obtain ⟨E, rfl, re, de⟩ := h
  simp only [List.length_map] at hm
  refine FnOk.enter (rs := [2]) Try.func84 rfl Try.ntmps84 Try.results84 rfl rfl ?_
  refine WF.seq ?_
  refine WF.region ?_
  refine WL.va rfl rfl rfl (X.assign rfl) ?_
  refine WL.nil ?_
  refine thn_n ?_
  refine WF.seq ?_
  refine WF.region ?_
  refine WL.va rfl rfl rfl (X.assign rfl) ?_
  refine WL.nil ?_
  refine thn_n ?_
  refine WF.seq ?_
  refine WF.seq ?_
  refine WF.region ?_
  refine WL.va rfl rfl rfl (X.assignI rfl) ?_
  refine WL.nil ?_
  refine thn_n ?_
  refine WF.block ?_
  refine WF.named (fun F1 hF2 => ?_)
  refine WF.loopN (fun mL0 f' w' => ∃ (k : Nat) (vo : Value) (O : List WV), mL0 = E.length - k ∧ f' 4 = .int .i64 (k : Int) ∧ f' 3 = vo ∧ Agree [0, 2] f' F1 ∧ Ext w w' ∧ k ≤ E.length ∧ O.length = k ∧ WOwn w' w.heap.size vo O ∧ O.map Prod.fst = (E.map Prod.fst).take k) ?_ ?_
  · exact ⟨_, 0, (.slice none 0 0), [], rfl, (congrFun hF2 4), (congrFun hF2 3), (Agree.refl _ _), (Ext.refl _), ⟨Nat.zero_le _, rfl, WOwn.nil _ _, rfl⟩⟩
  · rintro mL0 fL0 wL0 ⟨k, vo, O, hmL0, e4_L0, e3_L0, hAL0, hwL0, ⟨hk0, hOl, ho, hO⟩⟩
    refine WF.seq ?_
    refine WF.seq ?_
    refine WF.region ?_
    refine WL.va rfl rfl rfl (X.moveI e4_L0) ?_
    refine WL.va rfl rfl rfl (X.move ((hAL0.eq 0).trans (congrFun hF2 0))) ?_
    refine WL.va rfl rfl rfl (X.len re rfl Try.underlying70) ?_
    refine WL.va rfl rfl rfl (X.lss rfl rfl) ?_
    refine WL.nil ?_
    refine thn_n ?_
    refine WF.cond rfl (fun h0_3 => ?_) (fun h0_3 => ?_)
    · have gh0_3 := (of_decide_eq_true h0_3)
      have hk : k < E.length := by omega
      refine WF.skip ?_
      refine thn_n ?_
      refine WF.seq ?_
      refine WF.block ?_
      refine WF.drawn (.q 0 (.q 1 (.q 2 (.q 3 (.q 4 (.q 5 (.q 6 (.q 7 (.q 8 (.q 9 (.q 10 (.l 11 (.q 12 (.l 13 .nil)))))))))))))) (fun w' => Ext wL0 w') 14 (by kernel_rfl) (by kernel_rfl) (Ext.drew _) ?_
      refine WO.q rfl rfl rfl rfl (fun w' hE5 => (X.move e3_L0)) ?_
      refine WO.q rfl rfl rfl rfl (fun w' hE5 => (X.move ((hAL0.eq 0).trans (congrFun hF2 0)))) ?_
      refine WO.q rfl rfl rfl rfl (fun w' hE5 => (X.moveI e4_L0)) ?_
      refine WO.q rfl rfl rfl rfl (fun w' hE5 => (X.idx re rfl rfl (by omega) Try.underlying70 Try.sizeOf113)) ?_
      refine WO.q rfl rfl rfl rfl (fun w' hE5 => (X.fieldAddrA rfl Try.underlying113 rfl rfl Try.sizeOf3)) ?_
      refine WO.q rfl rfl rfl rfl (fun w' hE5 => (X.loadE re (Ext.trans hwL0 hE5) rfl (by omega) ((WRow.get hk (by decide)).trans rfl) Try.isAgg3)) ?_
      refine WO.q rfl rfl rfl rfl (fun w' hE5 => (X.move ((hAL0.eq 0).trans (congrFun hF2 0)))) ?_
      refine WO.q rfl rfl rfl rfl (fun w' hE5 => (X.moveI e4_L0)) ?_
      refine WO.q rfl rfl rfl rfl (fun w' hE5 => (X.idx re rfl rfl (by omega) Try.underlying70 Try.sizeOf113)) ?_
      refine WO.q rfl rfl rfl rfl (fun w' hE5 => (X.fieldAddrA rfl Try.underlying113 rfl rfl Try.sizeOf46)) ?_
      refine WO.q rfl rfl rfl rfl (fun w' hE5 => (X.loadE re (Ext.trans hwL0 hE5) rfl (by omega) ((WRow.get hk (by decide)).trans rfl) Try.isAgg46)) ?_
      refine WO.l ?_
      have hoA := ho.ext (Ext.drew _)
      have hBz := World.grownBy.size (show Ext w wL0.drew from (Ext.trans hwL0 (Ext.drew _)))
      refine LO.go rfl rfl (OW.enter rfl (by decide) (X.call Try.call85 (evl_cons rfl evl_nil)) (copyBytes_ok _ (E[k]'hk).1.Data _ (Row.ext (de _ (List.getElem_mem hk)) (Ext.trans hwL0 (Ext.drew _))) (Nat.le_trans (hd _ (List.mem_map.2 ⟨_, List.getElem_mem hk, rfl⟩)) (by decide))) ?_)
      rintro dv w6 ⟨od, hx7⟩
      refine ⟨(Ext.trans (Ext.drew _) hx7), ?_⟩
      have gq1 := hx7
      refine WO.q rfl rfl rfl rfl (fun w' hE5 => (X.buildL (P := Try.prog) (t := 113) (cs := (WV.c ((E[k]'hk).1, dv))) (evp_cons rfl (evp_cons rfl evp_nil)) Try.type113 Try.underlying113 rfl rfl ⟨rfl, own_one od, trivial⟩ rfl)) ?_
      refine WO.l ?_
      refine LO.go rfl rfl (OW.lits (vs := [agg (WV.c ((E[k]'hk).1, dv))]) (evp_cons rfl evp_nil) Try.underlying70 Try.sizeOf113 Try.zeroValue113 ⟨rfl, trivial⟩ rfl rfl rfl ?_ (by decide))
      intro v9 w8 ho11 hx10
      have o1 : World.ownsRow w8 _ 113 2 v9 1 (WV.c ((E[k]'hk).1, dv)) := ho11
      have gq2 := hx10
      refine ⟨(Ext.trans (Ext.trans (Ext.drew _) hx7) hx10), ?_⟩
      refine WO.nil ?_
      refine WL.op rfl (OW.append (bytes := 32) (own_ext (own_ext hoA.row gq1) gq2) (Row.of_own o1) (WV.c_one (e := ((E[k]'hk).1, dv)) (Bytes.of_own od)) rfl rfl Try.underlying70 Try.type113 rfl rfl rfl rfl (by decide) (by unfold maxLen; omega) (by omega) (Nat.le_trans hBz (Nat.le_trans (World.grownBy.size gq1) (World.grownBy.size gq2))) ?_ (by decide))
      intro v13 w12 ho15 hx14 hmvhx14
      have ho2 := hoA.app (s := (E[k]'hk).1) od gq1 gq2 ho15 hx14 hmvhx14 hBz
      refine WL.va rfl rfl rfl (X.assign rfl) ?_
      refine WL.nil ?_
      refine blk_n ?_
      refine thn_n ?_
      refine WF.region ?_
      refine WL.va rfl rfl rfl (X.moveI e4_L0) ?_
      refine WL.va rfl rfl rfl (X.add rfl rfl (w64 (by omega))) ?_
      refine WL.va rfl rfl rfl (X.assignI rfl) ?_
      refine WL.nil ?_
      exact thn_n ⟨_, (by omega), k + 1, _, _, rfl, rfl, rfl, (by repeat (first | exact hAL0 | refine Agree.put ?_ rfl | refine Agree.named hF2 ?_)), (Ext.own (Ext.trans (Ext.trans (Ext.trans hwL0 (Ext.drew _)) hx7) hx10) (own_ext (own_ext hoA.row gq1) gq2) (Nat.le_refl _) hx14), ⟨by omega, by simp [hOl], ho2, by rw [take_map hk, List.map_append, hO]; rfl⟩⟩
    · have gh0_3 := (of_decide_eq_false h0_3)
      refine WF.exit ?_
      refine thn_x ?_
      refine thn_x ?_
      refine blk_eq ?_
      refine thn_n ?_
      refine WF.seq ?_
      refine WF.region ?_
      refine WL.va rfl rfl rfl (X.move e3_L0) ?_
      refine WL.va rfl rfl rfl (X.assign rfl) ?_
      refine WL.nil ?_
      refine thn_n ?_
      refine WF.ret ?_
      refine fin_r ?_
      exact ⟨⟨_, by rw [hO, List.take_of_length_le (by simp; omega)], ho⟩, hwL0⟩

theorem n_eq {a b : List Int} (ha : a.length = 13) (hb : b.length = 13) : a = b ↔ (a.getD 0 0 = b.getD 0 0 ∧ a.getD 1 0 = b.getD 1 0 ∧ a.getD 2 0 = b.getD 2 0 ∧ a.getD 3 0 = b.getD 3 0 ∧ a.getD 4 0 = b.getD 4 0 ∧ a.getD 5 0 = b.getD 5 0 ∧ a.getD 6 0 = b.getD 6 0 ∧ a.getD 7 0 = b.getD 7 0) ∧ (a.getD 8 0 = b.getD 8 0 ∧ a.getD 9 0 = b.getD 9 0 ∧ a.getD 10 0 = b.getD 10 0 ∧ a.getD 11 0 = b.getD 11 0 ∧ a.getD 12 0 = b.getD 12 0) := by
  constructor
  · rintro rfl; simp
  · match a, ha with
    | [a0, a1, a2, a3, a4, a5, a6, a7, a8, a9, a10, a11, a12], _ =>
      match b, hb with
      | [b0, b1, b2, b3, b4, b5, b6, b7, b8, b9, b10, b11, b12], _ =>
        rintro ⟨⟨h0, h1, h2, h3, h4, h5, h6, h7⟩, h8, h9, h10, h11, h12⟩
        obtain rfl : a0 = b0 := h0
        obtain rfl : a1 = b1 := h1
        obtain rfl : a2 = b2 := h2
        obtain rfl : a3 = b3 := h3
        obtain rfl : a4 = b4 := h4
        obtain rfl : a5 = b5 := h5
        obtain rfl : a6 = b6 := h6
        obtain rfl : a7 = b7 := h7
        obtain rfl : a8 = b8 := h8
        obtain rfl : a9 = b9 := h9
        obtain rfl : a10 = b10 := h10
        obtain rfl : a11 = b11 := h11
        obtain rfl : a12 = b12 := h12
        rfl
theorem Od.eq_iff0 {a b : Od} : a = b ↔ a.n = b.n ∧ a.P = b.P ∧ a.R = b.R ∧ a.W = b.W ∧ a.D = b.D := by cases a; cases b; simp
instance : DecidableEq Od := fun _ _ => decidable_of_iff _ Od.eq_iff0.symm
theorem Od.eq_iff {a b : Od} (ha : a.n.length = 13) (hb : b.n.length = 13) : a = b ↔ (a.n.getD 0 0 = b.n.getD 0 0 ∧ a.n.getD 1 0 = b.n.getD 1 0 ∧ a.n.getD 2 0 = b.n.getD 2 0 ∧ a.n.getD 3 0 = b.n.getD 3 0 ∧ a.n.getD 4 0 = b.n.getD 4 0 ∧ a.n.getD 5 0 = b.n.getD 5 0 ∧ a.n.getD 6 0 = b.n.getD 6 0 ∧ a.n.getD 7 0 = b.n.getD 7 0) ∧ (a.n.getD 8 0 = b.n.getD 8 0 ∧ a.n.getD 9 0 = b.n.getD 9 0 ∧ a.n.getD 10 0 = b.n.getD 10 0 ∧ a.n.getD 11 0 = b.n.getD 11 0 ∧ a.n.getD 12 0 = b.n.getD 12 0) ∧ a.P = b.P ∧ a.R = b.R ∧ a.W = b.W ∧ a.D = b.D := by
  rw [Od.eq_iff0, n_eq ha hb, and_assoc]
theorem copyInts_ok (v : Value) (l : List Int) (w : World) (hb : Ints w v l) (hm : l.length ≤ 1000000) : FnOk Try.prog 83 [v] w (fun r w' => OwnI w' w.heap.size 3 r l ∧ Ext w w') := by
  refine FnOk.enter (rs := [2]) Try.func83 rfl Try.ntmps83 Try.results83 rfl rfl ?_
  refine WF.seq ?_
  refine WF.region ?_
  refine WL.va rfl rfl rfl (X.assign rfl) ?_
  refine WL.nil ?_
  refine thn_n ?_
  refine WF.seq ?_
  refine WF.region ?_
  refine WL.va rfl rfl rfl (X.assign rfl) ?_
  refine WL.nil ?_
  refine thn_n ?_
  refine WF.seq ?_
  refine WF.seq ?_
  refine WF.region ?_
  refine WL.va rfl rfl rfl (X.assignI rfl) ?_
  refine WL.nil ?_
  refine thn_n ?_
  refine WF.block ?_
  refine WF.named (fun F1 hF2 => ?_)
  refine WF.loopN (fun mL0 f' w' => ∃ (k : Nat) (vo : Value), mL0 = l.length - k ∧ f' 4 = .int .i64 (k : Int) ∧ f' 3 = vo ∧ Agree [0, 2] f' F1 ∧ Ext w w' ∧ k ≤ l.length ∧ OwnI w' w.heap.size 3 vo (l.take k)) ?_ ?_
  · exact ⟨_, 0, (.slice none 0 0), rfl, (congrFun hF2 4), (congrFun hF2 3), (Agree.refl _ _), (Ext.refl _), ⟨Nat.zero_le _, World.ownsRow_nil _ _ _ _⟩⟩
  · rintro mL0 fL0 wL0 ⟨k, vo, hmL0, e4_L0, e3_L0, hAL0, hwL0, ⟨hk, ho⟩⟩
    refine WF.seq ?_
    refine WF.seq ?_
    refine WF.region ?_
    refine WL.va rfl rfl rfl (X.moveI e4_L0) ?_
    refine WL.va rfl rfl rfl (X.move ((hAL0.eq 0).trans (congrFun hF2 0))) ?_
    refine WL.va rfl rfl rfl (X.len hb rfl Try.underlying69) ?_
    refine WL.va rfl rfl rfl (X.lss rfl rfl) ?_
    refine WL.nil ?_
    refine thn_n ?_
    refine WF.cond rfl (fun h0_3 => ?_) (fun h0_3 => ?_)
    · have gh0_3 := (of_decide_eq_true h0_3)
      refine WF.skip ?_
      refine thn_n ?_
      refine WF.seq ?_
      refine WF.block ?_
      refine WF.region ?_
      refine WL.va rfl rfl rfl (X.move e3_L0) ?_
      refine WL.va rfl rfl rfl (X.move ((hAL0.eq 0).trans (congrFun hF2 0))) ?_
      refine WL.va rfl rfl rfl (X.moveI e4_L0) ?_
      refine WL.va rfl rfl rfl (X.idx hb rfl rfl (by omega) Try.underlying69 Try.sizeOf3) ?_
      refine WL.va rfl rfl rfl (X.loadI hb hwL0 rfl (by omega) Try.isAgg3) ?_
      refine WL.op rfl (OW.lits (vs := [i64 (l.getD k 0)]) (evp_cons rfl evp_nil) Try.underlying69 Try.sizeOf3 Try.zeroValue3 ⟨rfl, trivial⟩ rfl rfl rfl ?_ (by decide))
      intro v6 w5 ho8 hx7
      have ho1 := own_ext ho hx7
      refine WL.op rfl (OW.appendI ho1 (show Ints _ _ [(l.getD k 0)] from Row.of_own ho8) rfl rfl Try.underlying69 Try.type3 rfl rfl rfl rfl (by simp; omega) ((Ext.trans hwL0 hx7)).size ?_ (by decide))
      intro v10 w9 ho12 hx11 hmvhx11
      have ho2 := ho12
      refine WL.va rfl rfl rfl (X.assign rfl) ?_
      refine WL.nil ?_
      refine blk_n ?_
      refine thn_n ?_
      refine WF.region ?_
      refine WL.va rfl rfl rfl (X.moveI e4_L0) ?_
      refine WL.va rfl rfl rfl (X.add rfl rfl (w64 (by omega))) ?_
      refine WL.va rfl rfl rfl (X.assignI rfl) ?_
      refine WL.nil ?_
      exact thn_n ⟨_, (by omega), k + 1, _, rfl, rfl, rfl, (by repeat (first | exact hAL0 | refine Agree.put ?_ rfl | refine Agree.named hF2 ?_)), (Ext.own (Ext.trans hwL0 hx7) ho1 (Nat.le_refl _) hx11), ⟨by omega, by rw [takeI _ _ (by omega)]; exact ho2⟩⟩
    · have gh0_3 := (of_decide_eq_false h0_3)
      refine WF.exit ?_
      refine thn_x ?_
      refine thn_x ?_
      refine blk_eq ?_
      refine thn_n ?_
      refine WF.seq ?_
      refine WF.region ?_
      refine WL.va rfl rfl rfl (X.move e3_L0) ?_
      refine WL.va rfl rfl rfl (X.assign rfl) ?_
      refine WL.nil ?_
      refine thn_n ?_
      refine WF.ret ?_
      refine fin_r ?_
      exact ⟨by rw [List.take_of_length_le (by omega)] at ho; exact ho, hwL0⟩

set_option maxHeartbeats 4000000 in
theorem sameOp_ok (va1 va2 va3 va4 vb1 vb2 vb3 vb4 : Value) (a b : Od) (w : World) (ha : OpAt w va1 va2 va3 va4 a) (hb : OpAt w vb1 vb2 vb3 vb4 b) : FnOk Try.prog 48 [agg (oc a.n va1 va2 va3 va4), agg (oc b.n vb1 vb2 vb3 vb4)] w (fun r w' => r = .bool (decide (a = b)) ∧ Ext w w') := by
  refine FnOk.enter (rs := [4]) Try.func48 rfl Try.ntmps48 Try.results48 rfl rfl ?_
  refine WF.seq ?_
  refine WF.region ?_
  refine WL.op rfl (OW.boxA (cs := (oc a.n va1 va2 va3 va4)) rfl ?_ (by decide))
  intro g2 w1 heg2 hlg2 hO2 hx3
  have := World.grownBy.size hx3
  refine WL.op rfl (OW.boxA (cs := (oc b.n vb1 vb2 vb3 vb4)) rfl ?_ (by decide))
  intro g3 w5 heg3 hlg3 hO3 hx7
  have := World.grownBy.size hx7
  refine WL.va rfl rfl rfl (X.assignB rfl) ?_
  refine WL.nil ?_
  refine thn_n ?_
  refine WF.named (fun F10 hF11 => ?_)
  refine WF.cut (fun f' w' => f' 5 = .bool (decide (a.n.getD 0 0 = b.n.getD 0 0 ∧ a.n.getD 1 0 = b.n.getD 1 0 ∧ a.n.getD 2 0 = b.n.getD 2 0 ∧ a.n.getD 3 0 = b.n.getD 3 0 ∧ a.n.getD 4 0 = b.n.getD 4 0 ∧ a.n.getD 5 0 = b.n.getD 5 0 ∧ a.n.getD 6 0 = b.n.getD 6 0 ∧ a.n.getD 7 0 = b.n.getD 7 0)) ∧ Agree [0, 1, 2, 3, 4] f' F10 ∧ w5 = w') ?_ ?_
  · refine WF.region ?_
    refine WL.va rfl rfl rfl (X.fieldAddrO (off := 0) (congrFun hF11 2) Try.underlying72 rfl rfl Try.sizeOf3) ?_
    refine WL.va rfl rfl rfl (X.loadO hO2 hx7 rfl rfl Try.isAgg3) ?_
    refine WL.va rfl rfl rfl (X.fieldAddrO (off := 0) (congrFun hF11 3) Try.underlying72 rfl rfl Try.sizeOf3) ?_
    refine WL.va rfl rfl rfl (X.loadO hO3 (Ext.refl _) rfl rfl Try.isAgg3) ?_
    refine WL.va rfl rfl rfl (X.eql rfl rfl) ?_
    refine WL.va rfl rfl rfl (X.moveB rfl) ?_
    refine WL.split (j := 5) rfl (fun h13 => ?_) (fun h13 => ?_)
    · have gh13 := (of_decide_eq_true h13)
      refine WL.vg rfl (congrArg some h13) rfl rfl (X.fieldAddrO (off := 1) (congrFun hF11 2) Try.underlying72 rfl rfl Try.sizeOf3) ?_
      refine WL.vg rfl (congrArg some h13) rfl rfl (X.loadO hO2 hx7 rfl rfl Try.isAgg3) ?_
      refine WL.vg rfl (congrArg some h13) rfl rfl (X.fieldAddrO (off := 1) (congrFun hF11 3) Try.underlying72 rfl rfl Try.sizeOf3) ?_
      refine WL.vg rfl (congrArg some h13) rfl rfl (X.loadO hO3 (Ext.refl _) rfl rfl Try.isAgg3) ?_
      refine WL.vg rfl (congrArg some h13) rfl rfl (X.eql rfl rfl) ?_
      refine WL.va rfl rfl rfl (X.pickT rfl h13 rfl) ?_
      refine WL.va rfl rfl rfl (X.moveB rfl) ?_
      refine WL.split (j := 12) rfl (fun h15 => ?_) (fun h15 => ?_)
      · have gh15 := (of_decide_eq_true h15)
        refine WL.vg rfl (congrArg some h15) rfl rfl (X.fieldAddrO (off := 2) (congrFun hF11 2) Try.underlying72 rfl rfl Try.sizeOf3) ?_
        refine WL.vg rfl (congrArg some h15) rfl rfl (X.loadO hO2 hx7 rfl rfl Try.isAgg3) ?_
        refine WL.vg rfl (congrArg some h15) rfl rfl (X.fieldAddrO (off := 2) (congrFun hF11 3) Try.underlying72 rfl rfl Try.sizeOf3) ?_
        refine WL.vg rfl (congrArg some h15) rfl rfl (X.loadO hO3 (Ext.refl _) rfl rfl Try.isAgg3) ?_
        refine WL.vg rfl (congrArg some h15) rfl rfl (X.eql rfl rfl) ?_
        refine WL.va rfl rfl rfl (X.pickT rfl h15 rfl) ?_
        refine WL.va rfl rfl rfl (X.moveB rfl) ?_
        refine WL.split (j := 19) rfl (fun h17 => ?_) (fun h17 => ?_)
        · have gh17 := (of_decide_eq_true h17)
          refine WL.vg rfl (congrArg some h17) rfl rfl (X.fieldAddrO (off := 3) (congrFun hF11 2) Try.underlying72 rfl rfl Try.sizeOf3) ?_
          refine WL.vg rfl (congrArg some h17) rfl rfl (X.loadO hO2 hx7 rfl rfl Try.isAgg3) ?_
          refine WL.vg rfl (congrArg some h17) rfl rfl (X.fieldAddrO (off := 3) (congrFun hF11 3) Try.underlying72 rfl rfl Try.sizeOf3) ?_
          refine WL.vg rfl (congrArg some h17) rfl rfl (X.loadO hO3 (Ext.refl _) rfl rfl Try.isAgg3) ?_
          refine WL.vg rfl (congrArg some h17) rfl rfl (X.eql rfl rfl) ?_
          refine WL.va rfl rfl rfl (X.pickT rfl h17 rfl) ?_
          refine WL.va rfl rfl rfl (X.moveB rfl) ?_
          refine WL.split (j := 26) rfl (fun h19 => ?_) (fun h19 => ?_)
          · have gh19 := (of_decide_eq_true h19)
            refine WL.vg rfl (congrArg some h19) rfl rfl (X.fieldAddrO (off := 4) (congrFun hF11 2) Try.underlying72 rfl rfl Try.sizeOf3) ?_
            refine WL.vg rfl (congrArg some h19) rfl rfl (X.loadO hO2 hx7 rfl rfl Try.isAgg3) ?_
            refine WL.vg rfl (congrArg some h19) rfl rfl (X.fieldAddrO (off := 4) (congrFun hF11 3) Try.underlying72 rfl rfl Try.sizeOf3) ?_
            refine WL.vg rfl (congrArg some h19) rfl rfl (X.loadO hO3 (Ext.refl _) rfl rfl Try.isAgg3) ?_
            refine WL.vg rfl (congrArg some h19) rfl rfl (X.eql rfl rfl) ?_
            refine WL.va rfl rfl rfl (X.pickT rfl h19 rfl) ?_
            refine WL.va rfl rfl rfl (X.moveB rfl) ?_
            refine WL.split (j := 33) rfl (fun h21 => ?_) (fun h21 => ?_)
            · have gh21 := (of_decide_eq_true h21)
              refine WL.vg rfl (congrArg some h21) rfl rfl (X.fieldAddrO (off := 5) (congrFun hF11 2) Try.underlying72 rfl rfl Try.sizeOf3) ?_
              refine WL.vg rfl (congrArg some h21) rfl rfl (X.loadO hO2 hx7 rfl rfl Try.isAgg3) ?_
              refine WL.vg rfl (congrArg some h21) rfl rfl (X.fieldAddrO (off := 5) (congrFun hF11 3) Try.underlying72 rfl rfl Try.sizeOf3) ?_
              refine WL.vg rfl (congrArg some h21) rfl rfl (X.loadO hO3 (Ext.refl _) rfl rfl Try.isAgg3) ?_
              refine WL.vg rfl (congrArg some h21) rfl rfl (X.eql rfl rfl) ?_
              refine WL.va rfl rfl rfl (X.pickT rfl h21 rfl) ?_
              refine WL.va rfl rfl rfl (X.moveB rfl) ?_
              refine WL.split (j := 40) rfl (fun h23 => ?_) (fun h23 => ?_)
              · have gh23 := (of_decide_eq_true h23)
                refine WL.vg rfl (congrArg some h23) rfl rfl (X.fieldAddrO (off := 6) (congrFun hF11 2) Try.underlying72 rfl rfl Try.sizeOf3) ?_
                refine WL.vg rfl (congrArg some h23) rfl rfl (X.loadO hO2 hx7 rfl rfl Try.isAgg3) ?_
                refine WL.vg rfl (congrArg some h23) rfl rfl (X.fieldAddrO (off := 6) (congrFun hF11 3) Try.underlying72 rfl rfl Try.sizeOf3) ?_
                refine WL.vg rfl (congrArg some h23) rfl rfl (X.loadO hO3 (Ext.refl _) rfl rfl Try.isAgg3) ?_
                refine WL.vg rfl (congrArg some h23) rfl rfl (X.eql rfl rfl) ?_
                refine WL.va rfl rfl rfl (X.pickT rfl h23 rfl) ?_
                refine WL.va rfl rfl rfl (X.moveB rfl) ?_
                refine WL.split (j := 47) rfl (fun h25 => ?_) (fun h25 => ?_)
                · have gh25 := (of_decide_eq_true h25)
                  refine WL.vg rfl (congrArg some h25) rfl rfl (X.fieldAddrO (off := 7) (congrFun hF11 2) Try.underlying72 rfl rfl Try.sizeOf3) ?_
                  refine WL.vg rfl (congrArg some h25) rfl rfl (X.loadO hO2 hx7 rfl rfl Try.isAgg3) ?_
                  refine WL.vg rfl (congrArg some h25) rfl rfl (X.fieldAddrO (off := 7) (congrFun hF11 3) Try.underlying72 rfl rfl Try.sizeOf3) ?_
                  refine WL.vg rfl (congrArg some h25) rfl rfl (X.loadO hO3 (Ext.refl _) rfl rfl Try.isAgg3) ?_
                  refine WL.vg rfl (congrArg some h25) rfl rfl (X.eql rfl rfl) ?_
                  refine WL.va rfl rfl rfl (X.pickT rfl h25 rfl) ?_
                  refine WL.va rfl rfl rfl (X.assignB rfl) ?_
                  refine WL.nil ?_
                  refine thn_n ?_
                  exact ⟨(Eq.trans rfl (by first | (refine congrArg Value.bool (dec_iff ?_); omega) | (refine congrArg Value.bool (dec_f ?_); omega) | (refine congrArg Value.bool (dec_t ?_); omega))), (by repeat (first | exact (Agree.refl _ F10) | refine Agree.put ?_ rfl | refine Agree.named hF11 ?_)), rfl⟩
                · have gh25 := (of_decide_eq_false h25)
                  refine WL.p rfl rfl rfl (congrArg some h25) ?_
                  refine WL.p rfl rfl rfl (congrArg some h25) ?_
                  refine WL.p rfl rfl rfl (congrArg some h25) ?_
                  refine WL.p rfl rfl rfl (congrArg some h25) ?_
                  refine WL.p rfl rfl rfl (congrArg some h25) ?_
                  refine WL.va rfl rfl rfl (X.pickF rfl h25 rfl) ?_
                  refine WL.va rfl rfl rfl (X.assignB rfl) ?_
                  refine WL.nil ?_
                  refine thn_n ?_
                  exact ⟨(Eq.trans rfl (by first | (refine congrArg Value.bool (dec_iff ?_); omega) | (refine congrArg Value.bool (dec_f ?_); omega) | (refine congrArg Value.bool (dec_t ?_); omega))), (by repeat (first | exact (Agree.refl _ F10) | refine Agree.put ?_ rfl | refine Agree.named hF11 ?_)), rfl⟩
              · have gh23 := (of_decide_eq_false h23)
                refine WL.p rfl rfl rfl (congrArg some h23) ?_
                refine WL.p rfl rfl rfl (congrArg some h23) ?_
                refine WL.p rfl rfl rfl (congrArg some h23) ?_
                refine WL.p rfl rfl rfl (congrArg some h23) ?_
                refine WL.p rfl rfl rfl (congrArg some h23) ?_
                refine WL.va rfl rfl rfl (X.pickF rfl h23 rfl) ?_
                refine WL.va rfl rfl rfl (X.moveB rfl) ?_
                refine WL.p rfl rfl rfl rfl ?_
                refine WL.p rfl rfl rfl rfl ?_
                refine WL.p rfl rfl rfl rfl ?_
                refine WL.p rfl rfl rfl rfl ?_
                refine WL.p rfl rfl rfl rfl ?_
                refine WL.va rfl rfl rfl (X.pickF rfl rfl rfl) ?_
                refine WL.va rfl rfl rfl (X.assignB rfl) ?_
                refine WL.nil ?_
                refine thn_n ?_
                exact ⟨(Eq.trans rfl (by first | (refine congrArg Value.bool (dec_iff ?_); omega) | (refine congrArg Value.bool (dec_f ?_); omega) | (refine congrArg Value.bool (dec_t ?_); omega))), (by repeat (first | exact (Agree.refl _ F10) | refine Agree.put ?_ rfl | refine Agree.named hF11 ?_)), rfl⟩
            · have gh21 := (of_decide_eq_false h21)
              refine WL.p rfl rfl rfl (congrArg some h21) ?_
              refine WL.p rfl rfl rfl (congrArg some h21) ?_
              refine WL.p rfl rfl rfl (congrArg some h21) ?_
              refine WL.p rfl rfl rfl (congrArg some h21) ?_
              refine WL.p rfl rfl rfl (congrArg some h21) ?_
              refine WL.va rfl rfl rfl (X.pickF rfl h21 rfl) ?_
              refine WL.va rfl rfl rfl (X.moveB rfl) ?_
              refine WL.p rfl rfl rfl rfl ?_
              refine WL.p rfl rfl rfl rfl ?_
              refine WL.p rfl rfl rfl rfl ?_
              refine WL.p rfl rfl rfl rfl ?_
              refine WL.p rfl rfl rfl rfl ?_
              refine WL.va rfl rfl rfl (X.pickF rfl rfl rfl) ?_
              refine WL.va rfl rfl rfl (X.moveB rfl) ?_
              refine WL.p rfl rfl rfl rfl ?_
              refine WL.p rfl rfl rfl rfl ?_
              refine WL.p rfl rfl rfl rfl ?_
              refine WL.p rfl rfl rfl rfl ?_
              refine WL.p rfl rfl rfl rfl ?_
              refine WL.va rfl rfl rfl (X.pickF rfl rfl rfl) ?_
              refine WL.va rfl rfl rfl (X.assignB rfl) ?_
              refine WL.nil ?_
              refine thn_n ?_
              exact ⟨(Eq.trans rfl (by first | (refine congrArg Value.bool (dec_iff ?_); omega) | (refine congrArg Value.bool (dec_f ?_); omega) | (refine congrArg Value.bool (dec_t ?_); omega))), (by repeat (first | exact (Agree.refl _ F10) | refine Agree.put ?_ rfl | refine Agree.named hF11 ?_)), rfl⟩
          · have gh19 := (of_decide_eq_false h19)
            refine WL.p rfl rfl rfl (congrArg some h19) ?_
            refine WL.p rfl rfl rfl (congrArg some h19) ?_
            refine WL.p rfl rfl rfl (congrArg some h19) ?_
            refine WL.p rfl rfl rfl (congrArg some h19) ?_
            refine WL.p rfl rfl rfl (congrArg some h19) ?_
            refine WL.va rfl rfl rfl (X.pickF rfl h19 rfl) ?_
            refine WL.va rfl rfl rfl (X.moveB rfl) ?_
            refine WL.p rfl rfl rfl rfl ?_
            refine WL.p rfl rfl rfl rfl ?_
            refine WL.p rfl rfl rfl rfl ?_
            refine WL.p rfl rfl rfl rfl ?_
            refine WL.p rfl rfl rfl rfl ?_
            refine WL.va rfl rfl rfl (X.pickF rfl rfl rfl) ?_
            refine WL.va rfl rfl rfl (X.moveB rfl) ?_
            refine WL.p rfl rfl rfl rfl ?_
            refine WL.p rfl rfl rfl rfl ?_
            refine WL.p rfl rfl rfl rfl ?_
            refine WL.p rfl rfl rfl rfl ?_
            refine WL.p rfl rfl rfl rfl ?_
            refine WL.va rfl rfl rfl (X.pickF rfl rfl rfl) ?_
            refine WL.va rfl rfl rfl (X.moveB rfl) ?_
            refine WL.p rfl rfl rfl rfl ?_
            refine WL.p rfl rfl rfl rfl ?_
            refine WL.p rfl rfl rfl rfl ?_
            refine WL.p rfl rfl rfl rfl ?_
            refine WL.p rfl rfl rfl rfl ?_
            refine WL.va rfl rfl rfl (X.pickF rfl rfl rfl) ?_
            refine WL.va rfl rfl rfl (X.assignB rfl) ?_
            refine WL.nil ?_
            refine thn_n ?_
            exact ⟨(Eq.trans rfl (by first | (refine congrArg Value.bool (dec_iff ?_); omega) | (refine congrArg Value.bool (dec_f ?_); omega) | (refine congrArg Value.bool (dec_t ?_); omega))), (by repeat (first | exact (Agree.refl _ F10) | refine Agree.put ?_ rfl | refine Agree.named hF11 ?_)), rfl⟩
        · have gh17 := (of_decide_eq_false h17)
          refine WL.p rfl rfl rfl (congrArg some h17) ?_
          refine WL.p rfl rfl rfl (congrArg some h17) ?_
          refine WL.p rfl rfl rfl (congrArg some h17) ?_
          refine WL.p rfl rfl rfl (congrArg some h17) ?_
          refine WL.p rfl rfl rfl (congrArg some h17) ?_
          refine WL.va rfl rfl rfl (X.pickF rfl h17 rfl) ?_
          refine WL.va rfl rfl rfl (X.moveB rfl) ?_
          refine WL.p rfl rfl rfl rfl ?_
          refine WL.p rfl rfl rfl rfl ?_
          refine WL.p rfl rfl rfl rfl ?_
          refine WL.p rfl rfl rfl rfl ?_
          refine WL.p rfl rfl rfl rfl ?_
          refine WL.va rfl rfl rfl (X.pickF rfl rfl rfl) ?_
          refine WL.va rfl rfl rfl (X.moveB rfl) ?_
          refine WL.p rfl rfl rfl rfl ?_
          refine WL.p rfl rfl rfl rfl ?_
          refine WL.p rfl rfl rfl rfl ?_
          refine WL.p rfl rfl rfl rfl ?_
          refine WL.p rfl rfl rfl rfl ?_
          refine WL.va rfl rfl rfl (X.pickF rfl rfl rfl) ?_
          refine WL.va rfl rfl rfl (X.moveB rfl) ?_
          refine WL.p rfl rfl rfl rfl ?_
          refine WL.p rfl rfl rfl rfl ?_
          refine WL.p rfl rfl rfl rfl ?_
          refine WL.p rfl rfl rfl rfl ?_
          refine WL.p rfl rfl rfl rfl ?_
          refine WL.va rfl rfl rfl (X.pickF rfl rfl rfl) ?_
          refine WL.va rfl rfl rfl (X.moveB rfl) ?_
          refine WL.p rfl rfl rfl rfl ?_
          refine WL.p rfl rfl rfl rfl ?_
          refine WL.p rfl rfl rfl rfl ?_
          refine WL.p rfl rfl rfl rfl ?_
          refine WL.p rfl rfl rfl rfl ?_
          refine WL.va rfl rfl rfl (X.pickF rfl rfl rfl) ?_
          refine WL.va rfl rfl rfl (X.assignB rfl) ?_
          refine WL.nil ?_
          refine thn_n ?_
          exact ⟨(Eq.trans rfl (by first | (refine congrArg Value.bool (dec_iff ?_); omega) | (refine congrArg Value.bool (dec_f ?_); omega) | (refine congrArg Value.bool (dec_t ?_); omega))), (by repeat (first | exact (Agree.refl _ F10) | refine Agree.put ?_ rfl | refine Agree.named hF11 ?_)), rfl⟩
      · have gh15 := (of_decide_eq_false h15)
        refine WL.p rfl rfl rfl (congrArg some h15) ?_
        refine WL.p rfl rfl rfl (congrArg some h15) ?_
        refine WL.p rfl rfl rfl (congrArg some h15) ?_
        refine WL.p rfl rfl rfl (congrArg some h15) ?_
        refine WL.p rfl rfl rfl (congrArg some h15) ?_
        refine WL.va rfl rfl rfl (X.pickF rfl h15 rfl) ?_
        refine WL.va rfl rfl rfl (X.moveB rfl) ?_
        refine WL.p rfl rfl rfl rfl ?_
        refine WL.p rfl rfl rfl rfl ?_
        refine WL.p rfl rfl rfl rfl ?_
        refine WL.p rfl rfl rfl rfl ?_
        refine WL.p rfl rfl rfl rfl ?_
        refine WL.va rfl rfl rfl (X.pickF rfl rfl rfl) ?_
        refine WL.va rfl rfl rfl (X.moveB rfl) ?_
        refine WL.p rfl rfl rfl rfl ?_
        refine WL.p rfl rfl rfl rfl ?_
        refine WL.p rfl rfl rfl rfl ?_
        refine WL.p rfl rfl rfl rfl ?_
        refine WL.p rfl rfl rfl rfl ?_
        refine WL.va rfl rfl rfl (X.pickF rfl rfl rfl) ?_
        refine WL.va rfl rfl rfl (X.moveB rfl) ?_
        refine WL.p rfl rfl rfl rfl ?_
        refine WL.p rfl rfl rfl rfl ?_
        refine WL.p rfl rfl rfl rfl ?_
        refine WL.p rfl rfl rfl rfl ?_
        refine WL.p rfl rfl rfl rfl ?_
        refine WL.va rfl rfl rfl (X.pickF rfl rfl rfl) ?_
        refine WL.va rfl rfl rfl (X.moveB rfl) ?_
        refine WL.p rfl rfl rfl rfl ?_
        refine WL.p rfl rfl rfl rfl ?_
        refine WL.p rfl rfl rfl rfl ?_
        refine WL.p rfl rfl rfl rfl ?_
        refine WL.p rfl rfl rfl rfl ?_
        refine WL.va rfl rfl rfl (X.pickF rfl rfl rfl) ?_
        refine WL.va rfl rfl rfl (X.moveB rfl) ?_
        refine WL.p rfl rfl rfl rfl ?_
        refine WL.p rfl rfl rfl rfl ?_
        refine WL.p rfl rfl rfl rfl ?_
        refine WL.p rfl rfl rfl rfl ?_
        refine WL.p rfl rfl rfl rfl ?_
        refine WL.va rfl rfl rfl (X.pickF rfl rfl rfl) ?_
        refine WL.va rfl rfl rfl (X.assignB rfl) ?_
        refine WL.nil ?_
        refine thn_n ?_
        exact ⟨(Eq.trans rfl (by first | (refine congrArg Value.bool (dec_iff ?_); omega) | (refine congrArg Value.bool (dec_f ?_); omega) | (refine congrArg Value.bool (dec_t ?_); omega))), (by repeat (first | exact (Agree.refl _ F10) | refine Agree.put ?_ rfl | refine Agree.named hF11 ?_)), rfl⟩
    · have gh13 := (of_decide_eq_false h13)
      refine WL.p rfl rfl rfl (congrArg some h13) ?_
      refine WL.p rfl rfl rfl (congrArg some h13) ?_
      refine WL.p rfl rfl rfl (congrArg some h13) ?_
      refine WL.p rfl rfl rfl (congrArg some h13) ?_
      refine WL.p rfl rfl rfl (congrArg some h13) ?_
      refine WL.va rfl rfl rfl (X.pickF rfl h13 rfl) ?_
      refine WL.va rfl rfl rfl (X.moveB rfl) ?_
      refine WL.p rfl rfl rfl rfl ?_
      refine WL.p rfl rfl rfl rfl ?_
      refine WL.p rfl rfl rfl rfl ?_
      refine WL.p rfl rfl rfl rfl ?_
      refine WL.p rfl rfl rfl rfl ?_
      refine WL.va rfl rfl rfl (X.pickF rfl rfl rfl) ?_
      refine WL.va rfl rfl rfl (X.moveB rfl) ?_
      refine WL.p rfl rfl rfl rfl ?_
      refine WL.p rfl rfl rfl rfl ?_
      refine WL.p rfl rfl rfl rfl ?_
      refine WL.p rfl rfl rfl rfl ?_
      refine WL.p rfl rfl rfl rfl ?_
      refine WL.va rfl rfl rfl (X.pickF rfl rfl rfl) ?_
      refine WL.va rfl rfl rfl (X.moveB rfl) ?_
      refine WL.p rfl rfl rfl rfl ?_
      refine WL.p rfl rfl rfl rfl ?_
      refine WL.p rfl rfl rfl rfl ?_
      refine WL.p rfl rfl rfl rfl ?_
      refine WL.p rfl rfl rfl rfl ?_
      refine WL.va rfl rfl rfl (X.pickF rfl rfl rfl) ?_
      refine WL.va rfl rfl rfl (X.moveB rfl) ?_
      refine WL.p rfl rfl rfl rfl ?_
      refine WL.p rfl rfl rfl rfl ?_
      refine WL.p rfl rfl rfl rfl ?_
      refine WL.p rfl rfl rfl rfl ?_
      refine WL.p rfl rfl rfl rfl ?_
      refine WL.va rfl rfl rfl (X.pickF rfl rfl rfl) ?_
      refine WL.va rfl rfl rfl (X.moveB rfl) ?_
      refine WL.p rfl rfl rfl rfl ?_
      refine WL.p rfl rfl rfl rfl ?_
      refine WL.p rfl rfl rfl rfl ?_
      refine WL.p rfl rfl rfl rfl ?_
      refine WL.p rfl rfl rfl rfl ?_
      refine WL.va rfl rfl rfl (X.pickF rfl rfl rfl) ?_
      refine WL.va rfl rfl rfl (X.moveB rfl) ?_
      refine WL.p rfl rfl rfl rfl ?_
      refine WL.p rfl rfl rfl rfl ?_
      refine WL.p rfl rfl rfl rfl ?_
      refine WL.p rfl rfl rfl rfl ?_
      refine WL.p rfl rfl rfl rfl ?_
      refine WL.va rfl rfl rfl (X.pickF rfl rfl rfl) ?_
      refine WL.va rfl rfl rfl (X.assignB rfl) ?_
      refine WL.nil ?_
      refine thn_n ?_
      exact ⟨(Eq.trans rfl (by first | (refine congrArg Value.bool (dec_iff ?_); omega) | (refine congrArg Value.bool (dec_f ?_); omega) | (refine congrArg Value.bool (dec_t ?_); omega))), (by repeat (first | exact (Agree.refl _ F10) | refine Agree.put ?_ rfl | refine Agree.named hF11 ?_)), rfl⟩
  · rintro fCr1 wCr1 ⟨e5_Cr1, hACr1, rfl⟩
    refine WF.named (fun F56 hF57 => ?_)
    refine WF.cut (fun f' w' => f' 6 = .bool (decide (a.n.getD 8 0 = b.n.getD 8 0 ∧ a.n.getD 9 0 = b.n.getD 9 0 ∧ a.n.getD 10 0 = b.n.getD 10 0 ∧ a.n.getD 11 0 = b.n.getD 11 0 ∧ a.n.getD 12 0 = b.n.getD 12 0)) ∧ Agree [0, 1, 2, 3, 4, 5] f' F56 ∧ w5 = w') ?_ ?_
    · refine WF.region ?_
      refine WL.va rfl rfl rfl (X.fieldAddrO (off := 8) ((congrFun hF57 2).trans ((hACr1.eq 2).trans (congrFun hF11 2))) Try.underlying72 rfl rfl Try.sizeOf3) ?_
      refine WL.va rfl rfl rfl (X.loadO hO2 hx7 rfl rfl Try.isAgg3) ?_
      refine WL.va rfl rfl rfl (X.fieldAddrO (off := 8) ((congrFun hF57 3).trans ((hACr1.eq 3).trans (congrFun hF11 3))) Try.underlying72 rfl rfl Try.sizeOf3) ?_
      refine WL.va rfl rfl rfl (X.loadO hO3 (Ext.refl _) rfl rfl Try.isAgg3) ?_
      refine WL.va rfl rfl rfl (X.eql rfl rfl) ?_
      refine WL.va rfl rfl rfl (X.moveB rfl) ?_
      refine WL.split (j := 5) rfl (fun h59 => ?_) (fun h59 => ?_)
      · have gh59 := (of_decide_eq_true h59)
        refine WL.vg rfl (congrArg some h59) rfl rfl (X.fieldAddrO (off := 9) ((congrFun hF57 2).trans ((hACr1.eq 2).trans (congrFun hF11 2))) Try.underlying72 rfl rfl Try.sizeOf3) ?_
        refine WL.vg rfl (congrArg some h59) rfl rfl (X.loadO hO2 hx7 rfl rfl Try.isAgg3) ?_
        refine WL.vg rfl (congrArg some h59) rfl rfl (X.fieldAddrO (off := 9) ((congrFun hF57 3).trans ((hACr1.eq 3).trans (congrFun hF11 3))) Try.underlying72 rfl rfl Try.sizeOf3) ?_
        refine WL.vg rfl (congrArg some h59) rfl rfl (X.loadO hO3 (Ext.refl _) rfl rfl Try.isAgg3) ?_
        refine WL.vg rfl (congrArg some h59) rfl rfl (X.eql rfl rfl) ?_
        refine WL.va rfl rfl rfl (X.pickT rfl h59 rfl) ?_
        refine WL.va rfl rfl rfl (X.moveB rfl) ?_
        refine WL.split (j := 12) rfl (fun h61 => ?_) (fun h61 => ?_)
        · have gh61 := (of_decide_eq_true h61)
          refine WL.vg rfl (congrArg some h61) rfl rfl (X.fieldAddrO (off := 10) ((congrFun hF57 2).trans ((hACr1.eq 2).trans (congrFun hF11 2))) Try.underlying72 rfl rfl Try.sizeOf3) ?_
          refine WL.vg rfl (congrArg some h61) rfl rfl (X.loadO hO2 hx7 rfl rfl Try.isAgg3) ?_
          refine WL.vg rfl (congrArg some h61) rfl rfl (X.fieldAddrO (off := 10) ((congrFun hF57 3).trans ((hACr1.eq 3).trans (congrFun hF11 3))) Try.underlying72 rfl rfl Try.sizeOf3) ?_
          refine WL.vg rfl (congrArg some h61) rfl rfl (X.loadO hO3 (Ext.refl _) rfl rfl Try.isAgg3) ?_
          refine WL.vg rfl (congrArg some h61) rfl rfl (X.eql rfl rfl) ?_
          refine WL.va rfl rfl rfl (X.pickT rfl h61 rfl) ?_
          refine WL.va rfl rfl rfl (X.moveB rfl) ?_
          refine WL.split (j := 19) rfl (fun h63 => ?_) (fun h63 => ?_)
          · have gh63 := (of_decide_eq_true h63)
            refine WL.vg rfl (congrArg some h63) rfl rfl (X.fieldAddrO (off := 11) ((congrFun hF57 2).trans ((hACr1.eq 2).trans (congrFun hF11 2))) Try.underlying72 rfl rfl Try.sizeOf3) ?_
            refine WL.vg rfl (congrArg some h63) rfl rfl (X.loadO hO2 hx7 rfl rfl Try.isAgg3) ?_
            refine WL.vg rfl (congrArg some h63) rfl rfl (X.fieldAddrO (off := 11) ((congrFun hF57 3).trans ((hACr1.eq 3).trans (congrFun hF11 3))) Try.underlying72 rfl rfl Try.sizeOf3) ?_
            refine WL.vg rfl (congrArg some h63) rfl rfl (X.loadO hO3 (Ext.refl _) rfl rfl Try.isAgg3) ?_
            refine WL.vg rfl (congrArg some h63) rfl rfl (X.eql rfl rfl) ?_
            refine WL.va rfl rfl rfl (X.pickT rfl h63 rfl) ?_
            refine WL.va rfl rfl rfl (X.moveB rfl) ?_
            refine WL.split (j := 26) rfl (fun h66 => ?_) (fun h66 => ?_)
            · have gh66 := (of_decide_eq_true h66)
              refine WL.vg rfl (congrArg some h66) rfl rfl (X.fieldAddrO (off := 12) ((congrFun hF57 2).trans ((hACr1.eq 2).trans (congrFun hF11 2))) Try.underlying72 rfl rfl Try.sizeOf3) ?_
              refine WL.vg rfl (congrArg some h66) rfl rfl (X.loadO hO2 hx7 rfl rfl Try.isAgg3) ?_
              refine WL.vg rfl (congrArg some h66) rfl rfl (X.fieldAddrO (off := 12) ((congrFun hF57 3).trans ((hACr1.eq 3).trans (congrFun hF11 3))) Try.underlying72 rfl rfl Try.sizeOf3) ?_
              refine WL.vg rfl (congrArg some h66) rfl rfl (X.loadO hO3 (Ext.refl _) rfl rfl Try.isAgg3) ?_
              refine WL.vg rfl (congrArg some h66) rfl rfl (X.eql rfl rfl) ?_
              refine WL.va rfl rfl rfl (X.pickT rfl h66 rfl) ?_
              refine WL.va rfl rfl rfl (X.assignB rfl) ?_
              refine WL.nil ?_
              refine thn_n ?_
              exact ⟨(Eq.trans rfl (by first | (refine congrArg Value.bool (dec_iff ?_); omega) | (refine congrArg Value.bool (dec_f ?_); omega) | (refine congrArg Value.bool (dec_t ?_); omega))), (by repeat (first | exact (Agree.refl _ F56) | refine Agree.put ?_ rfl | refine Agree.sub hACr1 rfl ?_ | refine Agree.named hF57 ?_ | refine Agree.named hF11 ?_)), rfl⟩
            · have gh66 := (of_decide_eq_false h66)
              refine WL.p rfl rfl rfl (congrArg some h66) ?_
              refine WL.p rfl rfl rfl (congrArg some h66) ?_
              refine WL.p rfl rfl rfl (congrArg some h66) ?_
              refine WL.p rfl rfl rfl (congrArg some h66) ?_
              refine WL.p rfl rfl rfl (congrArg some h66) ?_
              refine WL.va rfl rfl rfl (X.pickF rfl h66 rfl) ?_
              refine WL.va rfl rfl rfl (X.assignB rfl) ?_
              refine WL.nil ?_
              refine thn_n ?_
              exact ⟨(Eq.trans rfl (by first | (refine congrArg Value.bool (dec_iff ?_); omega) | (refine congrArg Value.bool (dec_f ?_); omega) | (refine congrArg Value.bool (dec_t ?_); omega))), (by repeat (first | exact (Agree.refl _ F56) | refine Agree.put ?_ rfl | refine Agree.sub hACr1 rfl ?_ | refine Agree.named hF57 ?_ | refine Agree.named hF11 ?_)), rfl⟩
          · have gh63 := (of_decide_eq_false h63)
            refine WL.p rfl rfl rfl (congrArg some h63) ?_
            refine WL.p rfl rfl rfl (congrArg some h63) ?_
            refine WL.p rfl rfl rfl (congrArg some h63) ?_
            refine WL.p rfl rfl rfl (congrArg some h63) ?_
            refine WL.p rfl rfl rfl (congrArg some h63) ?_
            refine WL.va rfl rfl rfl (X.pickF rfl h63 rfl) ?_
            refine WL.va rfl rfl rfl (X.moveB rfl) ?_
            refine WL.p rfl rfl rfl rfl ?_
            refine WL.p rfl rfl rfl rfl ?_
            refine WL.p rfl rfl rfl rfl ?_
            refine WL.p rfl rfl rfl rfl ?_
            refine WL.p rfl rfl rfl rfl ?_
            refine WL.va rfl rfl rfl (X.pickF rfl rfl rfl) ?_
            refine WL.va rfl rfl rfl (X.assignB rfl) ?_
            refine WL.nil ?_
            refine thn_n ?_
            exact ⟨(Eq.trans rfl (by first | (refine congrArg Value.bool (dec_iff ?_); omega) | (refine congrArg Value.bool (dec_f ?_); omega) | (refine congrArg Value.bool (dec_t ?_); omega))), (by repeat (first | exact (Agree.refl _ F56) | refine Agree.put ?_ rfl | refine Agree.sub hACr1 rfl ?_ | refine Agree.named hF57 ?_ | refine Agree.named hF11 ?_)), rfl⟩
        · have gh61 := (of_decide_eq_false h61)
          refine WL.p rfl rfl rfl (congrArg some h61) ?_
          refine WL.p rfl rfl rfl (congrArg some h61) ?_
          refine WL.p rfl rfl rfl (congrArg some h61) ?_
          refine WL.p rfl rfl rfl (congrArg some h61) ?_
          refine WL.p rfl rfl rfl (congrArg some h61) ?_
          refine WL.va rfl rfl rfl (X.pickF rfl h61 rfl) ?_
          refine WL.va rfl rfl rfl (X.moveB rfl) ?_
          refine WL.p rfl rfl rfl rfl ?_
          refine WL.p rfl rfl rfl rfl ?_
          refine WL.p rfl rfl rfl rfl ?_
          refine WL.p rfl rfl rfl rfl ?_
          refine WL.p rfl rfl rfl rfl ?_
          refine WL.va rfl rfl rfl (X.pickF rfl rfl rfl) ?_
          refine WL.va rfl rfl rfl (X.moveB rfl) ?_
          refine WL.p rfl rfl rfl rfl ?_
          refine WL.p rfl rfl rfl rfl ?_
          refine WL.p rfl rfl rfl rfl ?_
          refine WL.p rfl rfl rfl rfl ?_
          refine WL.p rfl rfl rfl rfl ?_
          refine WL.va rfl rfl rfl (X.pickF rfl rfl rfl) ?_
          refine WL.va rfl rfl rfl (X.assignB rfl) ?_
          refine WL.nil ?_
          refine thn_n ?_
          exact ⟨(Eq.trans rfl (by first | (refine congrArg Value.bool (dec_iff ?_); omega) | (refine congrArg Value.bool (dec_f ?_); omega) | (refine congrArg Value.bool (dec_t ?_); omega))), (by repeat (first | exact (Agree.refl _ F56) | refine Agree.put ?_ rfl | refine Agree.sub hACr1 rfl ?_ | refine Agree.named hF57 ?_ | refine Agree.named hF11 ?_)), rfl⟩
      · have gh59 := (of_decide_eq_false h59)
        refine WL.p rfl rfl rfl (congrArg some h59) ?_
        refine WL.p rfl rfl rfl (congrArg some h59) ?_
        refine WL.p rfl rfl rfl (congrArg some h59) ?_
        refine WL.p rfl rfl rfl (congrArg some h59) ?_
        refine WL.p rfl rfl rfl (congrArg some h59) ?_
        refine WL.va rfl rfl rfl (X.pickF rfl h59 rfl) ?_
        refine WL.va rfl rfl rfl (X.moveB rfl) ?_
        refine WL.p rfl rfl rfl rfl ?_
        refine WL.p rfl rfl rfl rfl ?_
        refine WL.p rfl rfl rfl rfl ?_
        refine WL.p rfl rfl rfl rfl ?_
        refine WL.p rfl rfl rfl rfl ?_
        refine WL.va rfl rfl rfl (X.pickF rfl rfl rfl) ?_
        refine WL.va rfl rfl rfl (X.moveB rfl) ?_
        refine WL.p rfl rfl rfl rfl ?_
        refine WL.p rfl rfl rfl rfl ?_
        refine WL.p rfl rfl rfl rfl ?_
        refine WL.p rfl rfl rfl rfl ?_
        refine WL.p rfl rfl rfl rfl ?_
        refine WL.va rfl rfl rfl (X.pickF rfl rfl rfl) ?_
        refine WL.va rfl rfl rfl (X.moveB rfl) ?_
        refine WL.p rfl rfl rfl rfl ?_
        refine WL.p rfl rfl rfl rfl ?_
        refine WL.p rfl rfl rfl rfl ?_
        refine WL.p rfl rfl rfl rfl ?_
        refine WL.p rfl rfl rfl rfl ?_
        refine WL.va rfl rfl rfl (X.pickF rfl rfl rfl) ?_
        refine WL.va rfl rfl rfl (X.assignB rfl) ?_
        refine WL.nil ?_
        refine thn_n ?_
        exact ⟨(Eq.trans rfl (by first | (refine congrArg Value.bool (dec_iff ?_); omega) | (refine congrArg Value.bool (dec_f ?_); omega) | (refine congrArg Value.bool (dec_t ?_); omega))), (by repeat (first | exact (Agree.refl _ F56) | refine Agree.put ?_ rfl | refine Agree.sub hACr1 rfl ?_ | refine Agree.named hF57 ?_ | refine Agree.named hF11 ?_)), rfl⟩
    · rintro fCr2 wCr2 ⟨e6_Cr2, hACr2, rfl⟩
      refine WF.seq ?_
      refine WF.region ?_
      refine WL.va rfl rfl rfl (X.moveB ((hACr2.eq 5).trans ((congrFun hF57 5).trans e5_Cr1))) ?_
      refine WL.va rfl rfl rfl (X.moveB rfl) ?_
      refine WL.split (j := 1) rfl (fun h79 => ?_) (fun h79 => ?_)
      · have gh79 := (of_decide_eq_true h79)
        refine WL.vg rfl (congrArg some h79) rfl rfl (X.moveB e6_Cr2) ?_
        refine WL.va rfl rfl rfl (X.pickT rfl h79 rfl) ?_
        refine WL.va rfl rfl rfl (X.moveB rfl) ?_
        refine WL.split (j := 4) rfl (fun h80 => ?_) (fun h80 => ?_)
        · have gh80 := (of_decide_eq_true h80)
          refine WL.vg rfl (congrArg some h80) rfl rfl (X.fieldAddrO (off := 13) ((hACr2.eq 2).trans ((congrFun hF57 2).trans ((hACr1.eq 2).trans (congrFun hF11 2)))) Try.underlying72 rfl rfl Try.sizeOf69) ?_
          refine WL.vg rfl (congrArg some h80) rfl rfl (X.loadO hO2 hx7 rfl rfl Try.isAgg69) ?_
          refine WL.vg rfl (congrArg some h80) rfl rfl (X.fieldAddrO (off := 13) ((hACr2.eq 3).trans ((congrFun hF57 3).trans ((hACr1.eq 3).trans (congrFun hF11 3)))) Try.underlying72 rfl rfl Try.sizeOf69) ?_
          refine WL.vg rfl (congrArg some h80) rfl rfl (X.loadO hO3 (Ext.refl _) rfl rfl Try.isAgg69) ?_
          refine WL.cg rfl (congrArg some h80) rfl rfl (X.call Try.call93 (evl_cons rfl (evl_cons rfl evl_nil))) (sameInts_ok _ _ a.P b.P _ (Row.ext ha.P (Ext.trans hx3 hx7)) (Row.ext hb.P (Ext.trans hx3 hx7))) ?_
          rintro v82 w81 ⟨rfl, hx83⟩
          have := World.grownBy.size hx83
          refine WL.va rfl rfl rfl (X.pickT rfl h80 rfl) ?_
          refine WL.va rfl rfl rfl (X.moveB rfl) ?_
          refine WL.split (j := 11) rfl (fun h85 => ?_) (fun h85 => ?_)
          · have gh85 := (of_decide_eq_true h85)
            refine WL.vg rfl (congrArg some h85) rfl rfl (X.fieldAddrO (off := 14) ((hACr2.eq 2).trans ((congrFun hF57 2).trans ((hACr1.eq 2).trans (congrFun hF11 2)))) Try.underlying72 rfl rfl Try.sizeOf69) ?_
            refine WL.vg rfl (congrArg some h85) rfl rfl (X.loadO hO2 (Ext.trans hx7 hx83) rfl rfl Try.isAgg69) ?_
            refine WL.vg rfl (congrArg some h85) rfl rfl (X.fieldAddrO (off := 14) ((hACr2.eq 3).trans ((congrFun hF57 3).trans ((hACr1.eq 3).trans (congrFun hF11 3)))) Try.underlying72 rfl rfl Try.sizeOf69) ?_
            refine WL.vg rfl (congrArg some h85) rfl rfl (X.loadO hO3 hx83 rfl rfl Try.isAgg69) ?_
            refine WL.cg rfl (congrArg some h85) rfl rfl (X.call Try.call93 (evl_cons rfl (evl_cons rfl evl_nil))) (sameInts_ok _ _ a.R b.R _ (Row.ext ha.R (Ext.trans (Ext.trans hx3 hx7) hx83)) (Row.ext hb.R (Ext.trans (Ext.trans hx3 hx7) hx83))) ?_
            rintro v87 w86 ⟨rfl, hx88⟩
            have := World.grownBy.size hx88
            refine WL.va rfl rfl rfl (X.pickT rfl h85 rfl) ?_
            refine WL.va rfl rfl rfl (X.moveB rfl) ?_
            refine WL.split (j := 18) rfl (fun h90 => ?_) (fun h90 => ?_)
            · have gh90 := (of_decide_eq_true h90)
              refine WL.vg rfl (congrArg some h90) rfl rfl (X.fieldAddrO (off := 15) ((hACr2.eq 2).trans ((congrFun hF57 2).trans ((hACr1.eq 2).trans (congrFun hF11 2)))) Try.underlying72 rfl rfl Try.sizeOf70) ?_
              refine WL.vg rfl (congrArg some h90) rfl rfl (X.loadO hO2 (Ext.trans (Ext.trans hx7 hx83) hx88) rfl rfl Try.isAgg70) ?_
              refine WL.vg rfl (congrArg some h90) rfl rfl (X.fieldAddrO (off := 15) ((hACr2.eq 3).trans ((congrFun hF57 3).trans ((hACr1.eq 3).trans (congrFun hF11 3)))) Try.underlying72 rfl rfl Try.sizeOf70) ?_
              refine WL.vg rfl (congrArg some h90) rfl rfl (X.loadO hO3 (Ext.trans hx83 hx88) rfl rfl Try.isAgg70) ?_
              refine WL.cg rfl (congrArg some h90) rfl rfl (X.call Try.call94 (evl_cons rfl (evl_cons rfl evl_nil))) (sameWs_ok _ _ a.W b.W _ (ha.W.ext (Ext.trans (Ext.trans (Ext.trans hx3 hx7) hx83) hx88)) (hb.W.ext (Ext.trans (Ext.trans (Ext.trans hx3 hx7) hx83) hx88))) ?_
              rintro v92 w91 ⟨rfl, hx93⟩
              have := World.grownBy.size hx93
              refine WL.va rfl rfl rfl (X.pickT rfl h90 rfl) ?_
              refine WL.va rfl rfl rfl (X.moveB rfl) ?_
              refine WL.split (j := 25) rfl (fun h95 => ?_) (fun h95 => ?_)
              · have gh95 := (of_decide_eq_true h95)
                refine WL.vg rfl (congrArg some h95) rfl rfl (X.fieldAddrO (off := 16) ((hACr2.eq 2).trans ((congrFun hF57 2).trans ((hACr1.eq 2).trans (congrFun hF11 2)))) Try.underlying72 rfl rfl Try.sizeOf46) ?_
                refine WL.vg rfl (congrArg some h95) rfl rfl (X.loadO hO2 (Ext.trans (Ext.trans (Ext.trans hx7 hx83) hx88) hx93) rfl rfl Try.isAgg46) ?_
                refine WL.vg rfl (congrArg some h95) rfl rfl (X.fieldAddrO (off := 16) ((hACr2.eq 3).trans ((congrFun hF57 3).trans ((hACr1.eq 3).trans (congrFun hF11 3)))) Try.underlying72 rfl rfl Try.sizeOf46) ?_
                refine WL.vg rfl (congrArg some h95) rfl rfl (X.loadO hO3 (Ext.trans (Ext.trans hx83 hx88) hx93) rfl rfl Try.isAgg46) ?_
                refine WL.cg rfl (congrArg some h95) rfl rfl (X.call Try.call27 (evl_cons rfl (evl_cons rfl evl_nil))) (sameBytes_ok _ _ a.D b.D _ (Row.ext ha.D (Ext.trans (Ext.trans (Ext.trans (Ext.trans hx3 hx7) hx83) hx88) hx93)) (Row.ext hb.D (Ext.trans (Ext.trans (Ext.trans (Ext.trans hx3 hx7) hx83) hx88) hx93))) ?_
                rintro v97 w96 ⟨rfl, hx98⟩
                have := World.grownBy.size hx98
                refine WL.va rfl rfl rfl (X.pickT rfl h95 rfl) ?_
                refine WL.va rfl rfl rfl (X.assignB rfl) ?_
                refine WL.nil ?_
                refine thn_n ?_
                refine WF.ret ?_
                refine fin_r ?_
                refine ⟨congrArg Value.bool ?_, (Ext.trans (Ext.trans (Ext.trans (Ext.trans (Ext.trans hx3 hx7) hx83) hx88) hx93) hx98)⟩
                first | exact dec_iff ⟨fun q => (Od.eq_iff ha.len hb.len).2 ⟨by assumption, by assumption, by assumption, by assumption, by assumption, q⟩, fun e => ((Od.eq_iff ha.len hb.len).1 e).2.2.2.2.2⟩ | exact dec_f (fun e => absurd ((Od.eq_iff ha.len hb.len).1 e).1 (by assumption)) | exact dec_f (fun e => absurd ((Od.eq_iff ha.len hb.len).1 e).2.1 (by assumption)) | exact dec_f (fun e => absurd ((Od.eq_iff ha.len hb.len).1 e).2.2.1 (by assumption)) | exact dec_f (fun e => absurd ((Od.eq_iff ha.len hb.len).1 e).2.2.2.1 (by assumption)) | exact dec_f (fun e => absurd ((Od.eq_iff ha.len hb.len).1 e).2.2.2.2.1 (by assumption))
              · have gh95 := (of_decide_eq_false h95)
                refine WL.p rfl rfl rfl (congrArg some h95) ?_
                refine WL.p rfl rfl rfl (congrArg some h95) ?_
                refine WL.p rfl rfl rfl (congrArg some h95) ?_
                refine WL.p rfl rfl rfl (congrArg some h95) ?_
                refine WL.p rfl rfl rfl (congrArg some h95) ?_
                refine WL.va rfl rfl rfl (X.pickF rfl h95 rfl) ?_
                refine WL.va rfl rfl rfl (X.assignB rfl) ?_
                refine WL.nil ?_
                refine thn_n ?_
                refine WF.ret ?_
                refine fin_r ?_
                refine ⟨congrArg Value.bool ?_, (Ext.trans (Ext.trans (Ext.trans (Ext.trans hx3 hx7) hx83) hx88) hx93)⟩
                first | exact dec_iff ⟨fun q => (Od.eq_iff ha.len hb.len).2 ⟨by assumption, by assumption, by assumption, by assumption, by assumption, q⟩, fun e => ((Od.eq_iff ha.len hb.len).1 e).2.2.2.2.2⟩ | exact dec_f (fun e => absurd ((Od.eq_iff ha.len hb.len).1 e).1 (by assumption)) | exact dec_f (fun e => absurd ((Od.eq_iff ha.len hb.len).1 e).2.1 (by assumption)) | exact dec_f (fun e => absurd ((Od.eq_iff ha.len hb.len).1 e).2.2.1 (by assumption)) | exact dec_f (fun e => absurd ((Od.eq_iff ha.len hb.len).1 e).2.2.2.1 (by assumption)) | exact dec_f (fun e => absurd ((Od.eq_iff ha.len hb.len).1 e).2.2.2.2.1 (by assumption))
            · have gh90 := (of_decide_eq_false h90)
              refine WL.p rfl rfl rfl (congrArg some h90) ?_
              refine WL.p rfl rfl rfl (congrArg some h90) ?_
              refine WL.p rfl rfl rfl (congrArg some h90) ?_
              refine WL.p rfl rfl rfl (congrArg some h90) ?_
              refine WL.p rfl rfl rfl (congrArg some h90) ?_
              refine WL.va rfl rfl rfl (X.pickF rfl h90 rfl) ?_
              refine WL.va rfl rfl rfl (X.moveB rfl) ?_
              refine WL.p rfl rfl rfl rfl ?_
              refine WL.p rfl rfl rfl rfl ?_
              refine WL.p rfl rfl rfl rfl ?_
              refine WL.p rfl rfl rfl rfl ?_
              refine WL.p rfl rfl rfl rfl ?_
              refine WL.va rfl rfl rfl (X.pickF rfl rfl rfl) ?_
              refine WL.va rfl rfl rfl (X.assignB rfl) ?_
              refine WL.nil ?_
              refine thn_n ?_
              refine WF.ret ?_
              refine fin_r ?_
              refine ⟨congrArg Value.bool ?_, (Ext.trans (Ext.trans (Ext.trans hx3 hx7) hx83) hx88)⟩
              first | exact dec_iff ⟨fun q => (Od.eq_iff ha.len hb.len).2 ⟨by assumption, by assumption, by assumption, by assumption, by assumption, q⟩, fun e => ((Od.eq_iff ha.len hb.len).1 e).2.2.2.2.2⟩ | exact dec_f (fun e => absurd ((Od.eq_iff ha.len hb.len).1 e).1 (by assumption)) | exact dec_f (fun e => absurd ((Od.eq_iff ha.len hb.len).1 e).2.1 (by assumption)) | exact dec_f (fun e => absurd ((Od.eq_iff ha.len hb.len).1 e).2.2.1 (by assumption)) | exact dec_f (fun e => absurd ((Od.eq_iff ha.len hb.len).1 e).2.2.2.1 (by assumption)) | exact dec_f (fun e => absurd ((Od.eq_iff ha.len hb.len).1 e).2.2.2.2.1 (by assumption))
          · have gh85 := (of_decide_eq_false h85)
            refine WL.p rfl rfl rfl (congrArg some h85) ?_
            refine WL.p rfl rfl rfl (congrArg some h85) ?_
            refine WL.p rfl rfl rfl (congrArg some h85) ?_
            refine WL.p rfl rfl rfl (congrArg some h85) ?_
            refine WL.p rfl rfl rfl (congrArg some h85) ?_
            refine WL.va rfl rfl rfl (X.pickF rfl h85 rfl) ?_
            refine WL.va rfl rfl rfl (X.moveB rfl) ?_
            refine WL.p rfl rfl rfl rfl ?_
            refine WL.p rfl rfl rfl rfl ?_
            refine WL.p rfl rfl rfl rfl ?_
            refine WL.p rfl rfl rfl rfl ?_
            refine WL.p rfl rfl rfl rfl ?_
            refine WL.va rfl rfl rfl (X.pickF rfl rfl rfl) ?_
            refine WL.va rfl rfl rfl (X.moveB rfl) ?_
            refine WL.p rfl rfl rfl rfl ?_
            refine WL.p rfl rfl rfl rfl ?_
            refine WL.p rfl rfl rfl rfl ?_
            refine WL.p rfl rfl rfl rfl ?_
            refine WL.p rfl rfl rfl rfl ?_
            refine WL.va rfl rfl rfl (X.pickF rfl rfl rfl) ?_
            refine WL.va rfl rfl rfl (X.assignB rfl) ?_
            refine WL.nil ?_
            refine thn_n ?_
            refine WF.ret ?_
            refine fin_r ?_
            refine ⟨congrArg Value.bool ?_, (Ext.trans (Ext.trans hx3 hx7) hx83)⟩
            first | exact dec_iff ⟨fun q => (Od.eq_iff ha.len hb.len).2 ⟨by assumption, by assumption, by assumption, by assumption, by assumption, q⟩, fun e => ((Od.eq_iff ha.len hb.len).1 e).2.2.2.2.2⟩ | exact dec_f (fun e => absurd ((Od.eq_iff ha.len hb.len).1 e).1 (by assumption)) | exact dec_f (fun e => absurd ((Od.eq_iff ha.len hb.len).1 e).2.1 (by assumption)) | exact dec_f (fun e => absurd ((Od.eq_iff ha.len hb.len).1 e).2.2.1 (by assumption)) | exact dec_f (fun e => absurd ((Od.eq_iff ha.len hb.len).1 e).2.2.2.1 (by assumption)) | exact dec_f (fun e => absurd ((Od.eq_iff ha.len hb.len).1 e).2.2.2.2.1 (by assumption))
        · have gh80 := (of_decide_eq_false h80)
          refine WL.p rfl rfl rfl (congrArg some h80) ?_
          refine WL.p rfl rfl rfl (congrArg some h80) ?_
          refine WL.p rfl rfl rfl (congrArg some h80) ?_
          refine WL.p rfl rfl rfl (congrArg some h80) ?_
          refine WL.p rfl rfl rfl (congrArg some h80) ?_
          refine WL.va rfl rfl rfl (X.pickF rfl h80 rfl) ?_
          refine WL.va rfl rfl rfl (X.moveB rfl) ?_
          refine WL.p rfl rfl rfl rfl ?_
          refine WL.p rfl rfl rfl rfl ?_
          refine WL.p rfl rfl rfl rfl ?_
          refine WL.p rfl rfl rfl rfl ?_
          refine WL.p rfl rfl rfl rfl ?_
          refine WL.va rfl rfl rfl (X.pickF rfl rfl rfl) ?_
          refine WL.va rfl rfl rfl (X.moveB rfl) ?_
          refine WL.p rfl rfl rfl rfl ?_
          refine WL.p rfl rfl rfl rfl ?_
          refine WL.p rfl rfl rfl rfl ?_
          refine WL.p rfl rfl rfl rfl ?_
          refine WL.p rfl rfl rfl rfl ?_
          refine WL.va rfl rfl rfl (X.pickF rfl rfl rfl) ?_
          refine WL.va rfl rfl rfl (X.moveB rfl) ?_
          refine WL.p rfl rfl rfl rfl ?_
          refine WL.p rfl rfl rfl rfl ?_
          refine WL.p rfl rfl rfl rfl ?_
          refine WL.p rfl rfl rfl rfl ?_
          refine WL.p rfl rfl rfl rfl ?_
          refine WL.va rfl rfl rfl (X.pickF rfl rfl rfl) ?_
          refine WL.va rfl rfl rfl (X.assignB rfl) ?_
          refine WL.nil ?_
          refine thn_n ?_
          refine WF.ret ?_
          refine fin_r ?_
          refine ⟨congrArg Value.bool ?_, (Ext.trans hx3 hx7)⟩
          first | exact dec_iff ⟨fun q => (Od.eq_iff ha.len hb.len).2 ⟨by assumption, by assumption, by assumption, by assumption, by assumption, q⟩, fun e => ((Od.eq_iff ha.len hb.len).1 e).2.2.2.2.2⟩ | exact dec_f (fun e => absurd ((Od.eq_iff ha.len hb.len).1 e).1 (by assumption)) | exact dec_f (fun e => absurd ((Od.eq_iff ha.len hb.len).1 e).2.1 (by assumption)) | exact dec_f (fun e => absurd ((Od.eq_iff ha.len hb.len).1 e).2.2.1 (by assumption)) | exact dec_f (fun e => absurd ((Od.eq_iff ha.len hb.len).1 e).2.2.2.1 (by assumption)) | exact dec_f (fun e => absurd ((Od.eq_iff ha.len hb.len).1 e).2.2.2.2.1 (by assumption))
      · have gh79 := (of_decide_eq_false h79)
        refine WL.p rfl rfl rfl (congrArg some h79) ?_
        refine WL.va rfl rfl rfl (X.pickF rfl h79 rfl) ?_
        refine WL.va rfl rfl rfl (X.moveB rfl) ?_
        refine WL.p rfl rfl rfl rfl ?_
        refine WL.p rfl rfl rfl rfl ?_
        refine WL.p rfl rfl rfl rfl ?_
        refine WL.p rfl rfl rfl rfl ?_
        refine WL.p rfl rfl rfl rfl ?_
        refine WL.va rfl rfl rfl (X.pickF rfl rfl rfl) ?_
        refine WL.va rfl rfl rfl (X.moveB rfl) ?_
        refine WL.p rfl rfl rfl rfl ?_
        refine WL.p rfl rfl rfl rfl ?_
        refine WL.p rfl rfl rfl rfl ?_
        refine WL.p rfl rfl rfl rfl ?_
        refine WL.p rfl rfl rfl rfl ?_
        refine WL.va rfl rfl rfl (X.pickF rfl rfl rfl) ?_
        refine WL.va rfl rfl rfl (X.moveB rfl) ?_
        refine WL.p rfl rfl rfl rfl ?_
        refine WL.p rfl rfl rfl rfl ?_
        refine WL.p rfl rfl rfl rfl ?_
        refine WL.p rfl rfl rfl rfl ?_
        refine WL.p rfl rfl rfl rfl ?_
        refine WL.va rfl rfl rfl (X.pickF rfl rfl rfl) ?_
        refine WL.va rfl rfl rfl (X.moveB rfl) ?_
        refine WL.p rfl rfl rfl rfl ?_
        refine WL.p rfl rfl rfl rfl ?_
        refine WL.p rfl rfl rfl rfl ?_
        refine WL.p rfl rfl rfl rfl ?_
        refine WL.p rfl rfl rfl rfl ?_
        refine WL.va rfl rfl rfl (X.pickF rfl rfl rfl) ?_
        refine WL.va rfl rfl rfl (X.assignB rfl) ?_
        refine WL.nil ?_
        refine thn_n ?_
        refine WF.ret ?_
        refine fin_r ?_
        refine ⟨congrArg Value.bool ?_, (Ext.trans hx3 hx7)⟩
        first | exact dec_iff ⟨fun q => (Od.eq_iff ha.len hb.len).2 ⟨by assumption, by assumption, by assumption, by assumption, by assumption, q⟩, fun e => ((Od.eq_iff ha.len hb.len).1 e).2.2.2.2.2⟩ | exact dec_f (fun e => absurd ((Od.eq_iff ha.len hb.len).1 e).1 (by assumption)) | exact dec_f (fun e => absurd ((Od.eq_iff ha.len hb.len).1 e).2.1 (by assumption)) | exact dec_f (fun e => absurd ((Od.eq_iff ha.len hb.len).1 e).2.2.1 (by assumption)) | exact dec_f (fun e => absurd ((Od.eq_iff ha.len hb.len).1 e).2.2.2.1 (by assumption)) | exact dec_f (fun e => absurd ((Od.eq_iff ha.len hb.len).1 e).2.2.2.2.1 (by assumption))

theorem WOwn.keptO {w w' : World} {B g : Nat} {v : Value} {E : List WV} (h : WOwn w B v E) (k : w.grownBy w' (some g)) (hne : g < B ∨ w.heap.size ≤ g) : WOwn w' B v E :=
  ⟨own_keptO h.row k hne, fun e he => own_keptO (h.data e he) k hne, h.off, h.pair⟩
theorem wcell {E : List WV} {cs : List Value} {k : Nat} (hk : k < E.length) (h : cs.drop (k * 2) = (E.flatMap WV.c).drop (k * 2)) : cs[k * 2 + 1]? = some E[k].2 := by
  have e : (cs.drop (k * 2))[1]? = ((E.flatMap WV.c).drop (k * 2))[1]? := by rw [h]
  rw [List.getElem?_drop, List.getElem?_drop] at e
  rw [e, WRow.get hk (by decide)]
  rfl
theorem wnext {E : List WV} {cs ds : List Value} {k : Nat} (hk : k < E.length) (hl : cs.length = E.length * 2) (hd : ds.length = 2) (h : cs.drop (k * 2) = (E.flatMap WV.c).drop (k * 2)) : (cs.take (k * 2) ++ ds ++ cs.drop (k * 2 + 2)).drop ((k + 1) * 2) = (E.flatMap WV.c).drop ((k + 1) * 2) := by
  have h2 : cs.drop (k * 2 + 2) = (E.flatMap WV.c).drop (k * 2 + 2) := by rw [← List.drop_drop, ← List.drop_drop, h]
  rw [show (k + 1) * 2 = k * 2 + 2 by omega, ← h2]
  exact List.drop_left' (by simp; omega)
set_option maxHeartbeats 2000000 in
theorem bigOp_ok (vP vR vW vD : Value) (o : Od) (w : World) (h : OpAt w vP vR vW vD o) : FnOk Try.prog 43 [agg (oc o.n vP vR vW vD), i64 1000, i64 65536] w (fun r w' => (∃ b, r = .bool b ∧ (b = false → o.P.length ≤ 1000 ∧ o.R.length ≤ 1000 ∧ o.W.length ≤ 1000 ∧ o.D.length ≤ 65536 ∧ ∀ x ∈ o.W, x.Data.length ≤ 65536)) ∧ Ext w w') := by
  obtain ⟨E, hE, rE, dE⟩ := h.W
  have hEl : E.length = o.W.length := by rw [← hE]; simp
  have lP := Ints.le64 h.P
  have lR := Ints.le64 h.R
  have lW := h.W.le
  have lD := Bytes.le64 h.D
  refine FnOk.enter (rs := [6]) Try.func43 rfl Try.ntmps43 Try.results43 rfl rfl ?_
  refine WF.seq ?_
  refine WF.region ?_
  refine WL.op rfl (OW.boxA (cs := (oc o.n vP vR vW vD)) rfl ?_ (by decide))
  intro g3 w1 heg3 hlg3 hO3 hx2
  have := World.grownBy.size hx2
  refine WL.va rfl rfl rfl (X.assignB rfl) ?_
  refine WL.nil ?_
  refine thn_n ?_
  refine WF.seq ?_
  refine WF.seq ?_
  refine WF.region ?_
  refine WL.va rfl rfl rfl (X.fieldAddrO (off := 13) rfl Try.underlying72 rfl rfl Try.sizeOf69) ?_
  refine WL.va rfl rfl rfl (X.loadO hO3 (Ext.refl _) rfl rfl Try.isAgg69) ?_
  refine WL.va rfl rfl rfl (X.len h.P rfl Try.underlying69) ?_
  refine WL.va rfl rfl rfl (X.moveI rfl) ?_
  refine WL.va rfl rfl rfl (X.gtr rfl rfl) ?_
  refine WL.va rfl rfl rfl (X.moveB rfl) ?_
  refine WL.split (j := 5) rfl (fun h6 => ?_) (fun h6 => ?_)
  · have gh6 := (of_decide_eq_true h6)
    refine WL.p rfl rfl rfl (congrArg some h6) ?_
    refine WL.p rfl rfl rfl (congrArg some h6) ?_
    refine WL.p rfl rfl rfl (congrArg some h6) ?_
    refine WL.p rfl rfl rfl (congrArg some h6) ?_
    refine WL.p rfl rfl rfl (congrArg some h6) ?_
    refine WL.va rfl rfl rfl (X.pickT rfl h6 rfl) ?_
    refine WL.va rfl rfl rfl (X.moveB rfl) ?_
    refine WL.p rfl rfl rfl rfl ?_
    refine WL.p rfl rfl rfl rfl ?_
    refine WL.p rfl rfl rfl rfl ?_
    refine WL.p rfl rfl rfl rfl ?_
    refine WL.p rfl rfl rfl rfl ?_
    refine WL.va rfl rfl rfl (X.pickT rfl rfl rfl) ?_
    refine WL.va rfl rfl rfl (X.moveB rfl) ?_
    refine WL.p rfl rfl rfl rfl ?_
    refine WL.p rfl rfl rfl rfl ?_
    refine WL.p rfl rfl rfl rfl ?_
    refine WL.p rfl rfl rfl rfl ?_
    refine WL.p rfl rfl rfl rfl ?_
    refine WL.va rfl rfl rfl (X.pickT rfl rfl rfl) ?_
    refine WL.nil ?_
    refine thn_n ?_
    refine WF.cond_t rfl ?_
    refine WF.seq ?_
    refine WF.region ?_
    refine WL.va rfl rfl rfl (X.assignB rfl) ?_
    refine WL.nil ?_
    refine thn_n ?_
    refine WF.ret ?_
    refine thn_r ?_
    refine fin_r ?_
    exact ⟨⟨_, rfl, fun q => (by cases q)⟩, hx2⟩
  · have gh6 := (of_decide_eq_false h6)
    refine WL.vg rfl (congrArg some h6) rfl rfl (X.fieldAddrO (off := 14) rfl Try.underlying72 rfl rfl Try.sizeOf69) ?_
    refine WL.vg rfl (congrArg some h6) rfl rfl (X.loadO hO3 (Ext.refl _) rfl rfl Try.isAgg69) ?_
    refine WL.vg rfl (congrArg some h6) rfl rfl (X.len h.R rfl Try.underlying69) ?_
    refine WL.vg rfl (congrArg some h6) rfl rfl (X.moveI rfl) ?_
    refine WL.vg rfl (congrArg some h6) rfl rfl (X.gtr rfl rfl) ?_
    refine WL.va rfl rfl rfl (X.pickF rfl h6 rfl) ?_
    refine WL.va rfl rfl rfl (X.moveB rfl) ?_
    refine WL.split (j := 12) rfl (fun h12 => ?_) (fun h12 => ?_)
    · have gh12 := (of_decide_eq_true h12)
      refine WL.p rfl rfl rfl (congrArg some h12) ?_
      refine WL.p rfl rfl rfl (congrArg some h12) ?_
      refine WL.p rfl rfl rfl (congrArg some h12) ?_
      refine WL.p rfl rfl rfl (congrArg some h12) ?_
      refine WL.p rfl rfl rfl (congrArg some h12) ?_
      refine WL.va rfl rfl rfl (X.pickT rfl h12 rfl) ?_
      refine WL.va rfl rfl rfl (X.moveB rfl) ?_
      refine WL.p rfl rfl rfl rfl ?_
      refine WL.p rfl rfl rfl rfl ?_
      refine WL.p rfl rfl rfl rfl ?_
      refine WL.p rfl rfl rfl rfl ?_
      refine WL.p rfl rfl rfl rfl ?_
      refine WL.va rfl rfl rfl (X.pickT rfl rfl rfl) ?_
      refine WL.nil ?_
      refine thn_n ?_
      refine WF.cond_t rfl ?_
      refine WF.seq ?_
      refine WF.region ?_
      refine WL.va rfl rfl rfl (X.assignB rfl) ?_
      refine WL.nil ?_
      refine thn_n ?_
      refine WF.ret ?_
      refine thn_r ?_
      refine fin_r ?_
      exact ⟨⟨_, rfl, fun q => (by cases q)⟩, hx2⟩
    · have gh12 := (of_decide_eq_false h12)
      refine WL.vg rfl (congrArg some h12) rfl rfl (X.fieldAddrO (off := 15) rfl Try.underlying72 rfl rfl Try.sizeOf70) ?_
      refine WL.vg rfl (congrArg some h12) rfl rfl (X.loadO hO3 (Ext.refl _) rfl rfl Try.isAgg70) ?_
      refine WL.vg rfl (congrArg some h12) rfl rfl (X.len rE rfl Try.underlying70) ?_
      refine WL.vg rfl (congrArg some h12) rfl rfl (X.moveI rfl) ?_
      refine WL.vg rfl (congrArg some h12) rfl rfl (X.gtr rfl rfl) ?_
      refine WL.va rfl rfl rfl (X.pickF rfl h12 rfl) ?_
      refine WL.va rfl rfl rfl (X.moveB rfl) ?_
      refine WL.split (j := 19) rfl (fun h17 => ?_) (fun h17 => ?_)
      · have gh17 := (of_decide_eq_true h17)
        refine WL.p rfl rfl rfl (congrArg some h17) ?_
        refine WL.p rfl rfl rfl (congrArg some h17) ?_
        refine WL.p rfl rfl rfl (congrArg some h17) ?_
        refine WL.p rfl rfl rfl (congrArg some h17) ?_
        refine WL.p rfl rfl rfl (congrArg some h17) ?_
        refine WL.va rfl rfl rfl (X.pickT rfl h17 rfl) ?_
        refine WL.nil ?_
        refine thn_n ?_
        refine WF.cond_t rfl ?_
        refine WF.seq ?_
        refine WF.region ?_
        refine WL.va rfl rfl rfl (X.assignB rfl) ?_
        refine WL.nil ?_
        refine thn_n ?_
        refine WF.ret ?_
        refine thn_r ?_
        refine fin_r ?_
        exact ⟨⟨_, rfl, fun q => (by cases q)⟩, hx2⟩
      · have gh17 := (of_decide_eq_false h17)
        refine WL.vg rfl (congrArg some h17) rfl rfl (X.fieldAddrO (off := 16) rfl Try.underlying72 rfl rfl Try.sizeOf46) ?_
        refine WL.vg rfl (congrArg some h17) rfl rfl (X.loadO hO3 (Ext.refl _) rfl rfl Try.isAgg46) ?_
        refine WL.vg rfl (congrArg some h17) rfl rfl (X.len h.D rfl Try.underlying46) ?_
        refine WL.vg rfl (congrArg some h17) rfl rfl (X.moveI rfl) ?_
        refine WL.vg rfl (congrArg some h17) rfl rfl (X.gtr rfl rfl) ?_
        refine WL.va rfl rfl rfl (X.pickF rfl h17 rfl) ?_
        refine WL.nil ?_
        refine thn_n ?_
        refine WF.cond rfl (fun h0_20 => ?_) (fun h0_20 => ?_)
        · have gh0_20 := (of_decide_eq_true h0_20)
          refine WF.seq ?_
          refine WF.region ?_
          refine WL.va rfl rfl rfl (X.assignB rfl) ?_
          refine WL.nil ?_
          refine thn_n ?_
          refine WF.ret ?_
          refine thn_r ?_
          refine fin_r ?_
          exact ⟨⟨_, rfl, fun q => (by cases q)⟩, hx2⟩
        · have gh0_20 := (of_decide_eq_false h0_20)
          refine WF.skip ?_
          refine thn_n ?_
          refine WF.seq ?_
          refine WF.region ?_
          refine WL.va rfl rfl rfl (X.assignI rfl) ?_
          refine WL.nil ?_
          refine thn_n ?_
          refine WF.seq ?_
          refine WF.seq ?_
          refine WF.region ?_
          refine WL.va rfl rfl rfl (X.assignI rfl) ?_
          refine WL.nil ?_
          refine thn_n ?_
          refine WF.block ?_
          refine WF.named (fun F23 hF24 => ?_)
          refine WF.loopN (fun mL0 f' w' => ∃ (k : Nat) (n : Int), mL0 = E.length - k ∧ f' 8 = .int .i64 (k : Int) ∧ f' 7 = .int .i64 n ∧ Agree [0, 1, 2, 3, 9, 10, 11, 12, 13, 14, 15, 16, 17, 18, 19, 20, 21, 22, 23, 24, 25, 26, 27, 28, 29, 30, 31, 32, 33, 34] f' F23 ∧ Ext w1 w' ∧ k ≤ E.length ∧ 0 ≤ n ∧ n ≤ 65536 ∧ ∀ j (hj : j < E.length), j < k → E[j].1.Data.length ≤ 65536) ?_ ?_
          · exact ⟨_, 0, 0, rfl, (congrFun hF24 8), (congrFun hF24 7), (Agree.refl _ _), (Ext.refl _), ⟨Nat.zero_le _, by omega, by omega, fun j _ hj => by omega⟩⟩
          · rintro mL0 fL0 wL0 ⟨k, n, hmL0, e8_L0, e7_L0, hAL0, hwL0, ⟨hk0, hn0, hn1, hall⟩⟩
            have := World.grownBy.size hwL0
            refine WF.seq ?_
            refine WF.seq ?_
            refine WF.region ?_
            refine WL.va rfl rfl rfl (X.moveI e8_L0) ?_
            refine WL.va rfl rfl rfl (X.fieldAddrO (off := 15) ((hAL0.eq 3).trans (congrFun hF24 3)) Try.underlying72 rfl rfl Try.sizeOf70) ?_
            refine WL.va rfl rfl rfl (X.loadO hO3 hwL0 rfl rfl Try.isAgg70) ?_
            refine WL.va rfl rfl rfl (X.len rE rfl Try.underlying70) ?_
            refine WL.va rfl rfl rfl (X.lss rfl rfl) ?_
            refine WL.nil ?_
            refine thn_n ?_
            refine WF.cond rfl (fun h1_25 => ?_) (fun h1_25 => ?_)
            · have gh1_25 := (of_decide_eq_true h1_25)
              have hk : k < E.length := by omega
              refine WF.skip ?_
              refine thn_n ?_
              refine WF.seq ?_
              refine WF.block ?_
              refine WF.seq ?_
              refine WF.region ?_
              refine WL.va rfl rfl rfl (X.moveI e7_L0) ?_
              refine WL.va rfl rfl rfl (X.fieldAddrO (off := 15) ((hAL0.eq 3).trans (congrFun hF24 3)) Try.underlying72 rfl rfl Try.sizeOf70) ?_
              refine WL.va rfl rfl rfl (X.loadO hO3 hwL0 rfl rfl Try.isAgg70) ?_
              refine WL.va rfl rfl rfl (X.moveI e8_L0) ?_
              refine WL.va rfl rfl rfl (X.idx rE rfl rfl hk Try.underlying70 Try.sizeOf113) ?_
              refine WL.va rfl rfl rfl (X.fieldAddrA rfl Try.underlying113 rfl rfl Try.sizeOf46) ?_
              refine WL.va rfl rfl rfl (X.loadE rE (Ext.trans hx2 hwL0) rfl hk ((WRow.get hk (by decide)).trans rfl) Try.isAgg46) ?_
              refine WL.va rfl rfl rfl (X.len (dE _ (List.getElem_mem hk)) rfl Try.underlying46) ?_
              refine WL.va rfl rfl rfl (X.moveI ((hAL0.eq 2).trans (congrFun hF24 2))) ?_
              refine WL.va rfl rfl rfl (X.add rfl rfl (w64 (by omega))) ?_
              refine WL.va rfl rfl rfl (X.min2 rfl rfl) ?_
              refine WL.va rfl rfl rfl (X.add rfl rfl (w64 (by omega))) ?_
              refine WL.va rfl rfl rfl (X.assignI rfl) ?_
              refine WL.nil ?_
              refine thn_n ?_
              refine WF.seq ?_
              refine WF.region ?_
              refine WL.va rfl rfl rfl (X.moveI rfl) ?_
              refine WL.va rfl rfl rfl (X.moveI ((hAL0.eq 2).trans (congrFun hF24 2))) ?_
              refine WL.va rfl rfl rfl (X.gtr rfl rfl) ?_
              refine WL.nil ?_
              refine thn_n ?_
              refine WF.cond rfl (fun h2_27 => ?_) (fun h2_27 => ?_)
              · have gh2_27 := (of_decide_eq_true h2_27)
                refine WF.seq ?_
                refine WF.region ?_
                refine WL.va rfl rfl rfl (X.assignB rfl) ?_
                refine WL.nil ?_
                refine thn_n ?_
                refine WF.ret ?_
                refine blk_r ?_
                refine thn_r ?_
                refine thn_r ?_
                refine blk_r ?_
                refine thn_r ?_
                refine fin_r ?_
                exact ⟨⟨_, rfl, fun q => (by cases q)⟩, (Ext.trans hx2 hwL0)⟩
              · have gh2_27 := (of_decide_eq_false h2_27)
                have hkl : (E[k]'hk).1.Data.length ≤ 65536 := by omega
                refine WF.skip ?_
                refine blk_n ?_
                refine thn_n ?_
                refine WF.region ?_
                refine WL.va rfl rfl rfl (X.moveI e8_L0) ?_
                refine WL.va rfl rfl rfl (X.add rfl rfl (w64 (by omega))) ?_
                refine WL.va rfl rfl rfl (X.assignI rfl) ?_
                refine WL.nil ?_
                exact thn_n ⟨_, (by omega), k + 1, _, rfl, rfl, rfl, (by repeat (first | exact hAL0 | refine Agree.put ?_ rfl | refine Agree.named hF24 ?_)), hwL0, ⟨by omega, by omega, by omega, fun j hj hj2 => by
        rcases Nat.lt_succ_iff_lt_or_eq.1 hj2 with hq | rfl
        · exact hall j hj hq
        · exact hkl⟩⟩
            · have gh1_25 := (of_decide_eq_false h1_25)
              refine WF.exit ?_
              refine thn_x ?_
              refine thn_x ?_
              refine blk_eq ?_
              refine thn_n ?_
              refine WF.seq ?_
              refine WF.region ?_
              refine WL.va rfl rfl rfl (X.assignB rfl) ?_
              refine WL.nil ?_
              refine thn_n ?_
              refine WF.ret ?_
              refine fin_r ?_
              refine ⟨⟨_, rfl, fun _ => ⟨by omega, by omega, by omega, by omega, fun x hx => ?_⟩⟩, (Ext.trans hx2 hwL0)⟩
              rw [← hE] at hx
              obtain ⟨e, he, rfl⟩ := List.mem_map.1 hx
              obtain ⟨j, hj, rfl⟩ := List.getElem_of_mem he
              exact hall j hj (by omega)

set_option maxHeartbeats 2000000 in
theorem copyOp_ok (vP vR vW vD : Value) (o : Od) (w : World) (h : OpAt w vP vR vW vD o) (hm : o.small) : FnOk Try.prog 44 [agg (oc o.n vP vR vW vD)] w (fun r w' => (∃ v1 v2 v3 v4, r = agg (oc o.n v1 v2 v3 v4) ∧ OpAt w' v1 v2 v3 v4 o) ∧ Ext w w') := by
  obtain ⟨hmP, hmR, hmW, hmD, hmWD⟩ := hm
  refine FnOk.enterC (rs := [.cell 2 72]) Try.func44 rfl Try.ntmps44 Try.results44 rfl rfl ?_
  refine WF.seq ?_
  refine WF.region ?_
  refine WL.op rfl (OW.boxA (cs := (oc o.n vP vR vW vD)) rfl ?_ (by decide))
  intro g1 w1 heg1 hlg1 hO1 hx3
  have := World.grownBy.size hx3
  refine WL.op rfl (OW.allocO (cs := [i64 0, i64 0, i64 0, i64 0, i64 0, i64 0, i64 0, i64 0, i64 0, i64 0, i64 0, i64 0, i64 0, .slice none 0 0, .slice none 0 0, .slice none 0 0, .slice none 0 0]) Try.zeroValue72 rfl ?_ (by decide))
  intro g2 w5 heg2 hlg2 hO2 hx7
  have := World.grownBy.size hx7
  refine WL.nil ?_
  refine thn_n ?_
  refine WF.seq ?_
  refine WF.region ?_
  refine WL.va rfl rfl rfl (X.fieldAddrO (off := 13) rfl Try.underlying72 rfl rfl Try.sizeOf69) ?_
  refine WL.va rfl rfl rfl (X.loadO hO1 hx7 rfl rfl Try.isAgg69) ?_
  refine WL.c rfl rfl rfl (X.call Try.call83 (evl_cons rfl evl_nil)) (copyInts_ok _ _ _ (Row.ext h.P (Ext.trans hx3 hx7)) hmP) ?_
  rintro v1 w9 ⟨oP, hx10⟩
  have := World.grownBy.size hx10
  refine WL.va rfl rfl rfl (X.fieldAddrO (off := 13) rfl Try.underlying72 rfl rfl Try.sizeOf69) ?_
  refine WL.op rfl (OW.storeO (hO1.ext (Ext.trans hx7 hx10)) (Nat.le_of_ble_eq_true rfl) rfl rfl (own_one oP) Try.sizeOf69 ?_)
  intro w11 hO1 hx13
  have := World.grownBy.size hx13
  replace hO2 := (hO2.ext hx10).keptO hx13 (by omega)
  replace oP := own_keptO oP hx13 (by omega)
  replace hO1 : Blk _ _ _ (oc o.n v1 vR vW vD) := hO1
  refine WL.nil ?_
  refine thn_n ?_
  refine WF.seq ?_
  refine WF.region ?_
  refine WL.va rfl rfl rfl (X.fieldAddrO (off := 14) rfl Try.underlying72 rfl rfl Try.sizeOf69) ?_
  refine WL.va rfl rfl rfl (X.loadO hO1 (Ext.refl _) rfl rfl Try.isAgg69) ?_
  refine WL.c rfl rfl rfl (X.call Try.call83 (evl_cons rfl evl_nil)) (copyInts_ok _ _ _ (Row.ext h.R (Ext.store (Ext.trans (Ext.trans hx3 hx7) hx10) hx13 (by omega))) hmR) ?_
  rintro v2 w15 ⟨oR, hx16⟩
  have := World.grownBy.size hx16
  refine WL.va rfl rfl rfl (X.fieldAddrO (off := 14) rfl Try.underlying72 rfl rfl Try.sizeOf69) ?_
  refine WL.op rfl (OW.storeO (hO1.ext hx16) (Nat.le_of_ble_eq_true rfl) rfl rfl (own_one oR) Try.sizeOf69 ?_)
  intro w17 hO1 hx19
  have := World.grownBy.size hx19
  replace hO2 := (hO2.ext hx16).keptO hx19 (by omega)
  replace oP := own_keptO (own_ext oP hx16) hx19 (by omega)
  replace oR := own_keptO oR hx19 (by omega)
  replace hO1 : Blk _ _ _ (oc o.n v1 v2 vW vD) := hO1
  refine WL.nil ?_
  refine thn_n ?_
  refine WF.seq ?_
  refine WF.region ?_
  refine WL.va rfl rfl rfl (X.fieldAddrO (off := 15) rfl Try.underlying72 rfl rfl Try.sizeOf70) ?_
  refine WL.va rfl rfl rfl (X.loadO hO1 (Ext.refl _) rfl rfl Try.isAgg70) ?_
  refine WL.c rfl rfl rfl (X.call Try.call84 (evl_cons rfl evl_nil)) (copyWs_ok _ _ _ (h.W.ext (Ext.store (Ext.trans (Ext.store (Ext.trans (Ext.trans hx3 hx7) hx10) hx13 (by omega)) hx16) hx19 (by omega))) hmW hmWD) ?_
  rintro v3 w21 ⟨⟨F, hF, oW⟩, hx22⟩
  have := World.grownBy.size hx22
  refine WL.va rfl rfl rfl (X.fieldAddrO (off := 15) rfl Try.underlying72 rfl rfl Try.sizeOf70) ?_
  refine WL.op rfl (OW.storeO (hO1.ext hx22) (Nat.le_of_ble_eq_true rfl) rfl rfl (own_one oW.row) Try.sizeOf70 ?_)
  intro w23 hO1 hx25
  have := World.grownBy.size hx25
  replace hO2 := (hO2.ext hx22).keptO hx25 (by omega)
  replace oP := own_keptO (own_ext oP hx22) hx25 (by omega)
  replace oR := own_keptO (own_ext oR hx22) hx25 (by omega)
  replace oW := oW.keptO hx25 (by omega)
  replace hO1 : Blk _ _ _ (oc o.n v1 v2 v3 vD) := hO1
  refine WL.nil ?_
  refine thn_n ?_
  refine WF.seq ?_
  refine WF.region ?_
  refine WL.va rfl rfl rfl (X.fieldAddrO (off := 16) rfl Try.underlying72 rfl rfl Try.sizeOf46) ?_
  refine WL.va rfl rfl rfl (X.loadO hO1 (Ext.refl _) rfl rfl Try.isAgg46) ?_
  refine WL.c rfl rfl rfl (X.call Try.call85 (evl_cons rfl evl_nil)) (copyBytes_ok _ _ _ (Row.ext h.D (Ext.store (Ext.trans (Ext.store (Ext.trans (Ext.store (Ext.trans (Ext.trans hx3 hx7) hx10) hx13 (by omega)) hx16) hx19 (by omega)) hx22) hx25 (by omega))) (by omega)) ?_
  rintro v4 w27 ⟨oD, hx28⟩
  have := World.grownBy.size hx28
  refine WL.va rfl rfl rfl (X.fieldAddrO (off := 16) rfl Try.underlying72 rfl rfl Try.sizeOf46) ?_
  refine WL.op rfl (OW.storeO (hO1.ext hx28) (Nat.le_of_ble_eq_true rfl) rfl rfl (own_one oD) Try.sizeOf46 ?_)
  intro w29 hO1 hx31
  have := World.grownBy.size hx31
  replace hO2 := (hO2.ext hx28).keptO hx31 (by omega)
  replace oP := own_keptO (own_ext oP hx28) hx31 (by omega)
  replace oR := own_keptO (own_ext oR hx28) hx31 (by omega)
  replace oW := (oW.ext hx28).keptO hx31 (by omega)
  replace oD := own_keptO oD hx31 (by omega)
  replace hO1 : Blk _ _ _ (oc o.n v1 v2 v3 v4) := hO1
  refine WL.nil ?_
  refine thn_n ?_
  refine WF.seq ?_
  refine WF.region ?_
  refine WL.va rfl rfl rfl (X.loadOA hO1 (Ext.refl _) rfl rfl Try.isAgg72 Try.sizeOf72) ?_
  have hA : OpAt w29 v1 v2 v3 v4 o := ⟨h.len, h.inn, Row.of_own oP, Row.of_own oR, oW.sessE hF, Row.of_own oD⟩
  refine WL.op rfl (OW.storeOA hO2 rfl rfl rfl (hA.ones _) Try.sizeOf72 ?_)
  intro w33 hO2 hx35
  have := World.grownBy.size hx35
  replace hO1 := hO1.keptO hx35 (by omega)
  replace oP := own_keptO oP hx35 (by omega)
  replace oR := own_keptO oR hx35 (by omega)
  replace oW := oW.keptO hx35 (by omega)
  replace oD := own_keptO oD hx35 (by omega)
  refine WL.nil ?_
  refine thn_n ?_
  refine WF.ret ?_
  refine finC_r (vs := [_]) ⟨⟨_, rfl, readO hO2 Try.isAgg72 Try.sizeOf72⟩, trivial⟩ ?_
  exact ⟨⟨v1, v2, v3, v4, rfl, ⟨h.len, h.inn, Row.of_own oP, Row.of_own oR, oW.sessE hF, Row.of_own oD⟩⟩, (Ext.store (Ext.store (Ext.trans (Ext.store (Ext.trans (Ext.store (Ext.trans (Ext.store (Ext.trans (Ext.trans hx3 hx7) hx10) hx13 (by omega)) hx16) hx19 (by omega)) hx22) hx25 (by omega)) hx28) hx31 (by omega)) hx35 (by omega))⟩

end Go.Proofs.Ytpimnlgfhpnjnaa.Op
