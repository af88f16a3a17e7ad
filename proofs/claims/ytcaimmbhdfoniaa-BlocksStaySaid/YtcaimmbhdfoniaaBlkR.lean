/- The walks of the reference over blocks. -/
import Derived.Test.YtcaimmbhdfoniaaRowsO
namespace Go.Proofs.Ytcaimmbhdfoniaa
open Go Go.RowKit Kf

set_option maxHeartbeats 800000 in
theorem refGet_ok (v : Value) (l : List Bl) (no : Int) (w : World) (h : Bls w v l) (hd : ∀ s ∈ l, s.Data.length ≤ 1000000) : FnOk Try.prog 32 [v, i64 no] w (fun r w' => OwnB w' w.heap.size 5 r (getB l no) ∧ Ext w w') := by
  obtain ⟨E, rfl, re, de⟩ := h
  have hle : (E.length : Int) ≤ 9223372036854775807 := by obtain ⟨_, c, _, h1, h2, _⟩ := re.shape; unfold maxLen at h2; omega
  refine FnOk.enter (rs := [4]) Try.func32 rfl Try.ntmps32 Try.results32 rfl rfl ?_
  refine WF.seq ?_
  refine WF.region ?_
  refine WL.va rfl rfl rfl (X.assign rfl) ?_
  refine WL.nil ?_
  refine thn_n ?_
  refine WF.seq ?_
  refine WF.seq ?_
  refine WF.region ?_
  refine WL.va rfl rfl rfl (X.assignI rfl) ?_
  refine WL.nil ?_
  refine thn_n ?_
  refine WF.block ?_
  refine WF.named (fun F1 hF2 => ?_)
  refine WF.loopN (fun mL0 f' w' => ∃ (k : Nat), mL0 = E.length - k ∧ f' 5 = .int .i64 (k : Int) ∧ Agree [0, 1] f' F1 ∧ Ext w w' ∧ k ≤ E.length ∧ getB (E.map Prod.fst) no = getB ((E.map Prod.fst).drop k) no) ?_ ?_
  · exact ⟨_, 0, rfl, (congrFun hF2 5), (Agree.refl _ _), (Ext.refl _), ⟨Nat.zero_le _, rfl⟩⟩
  · rintro mL0 fL0 wL0 ⟨k, hmL0, e5_L0, hAL0, hwL0, ⟨hk0, hno⟩⟩
    refine WF.seq ?_
    refine WF.seq ?_
    refine WF.region ?_
    refine WL.va rfl rfl rfl (X.moveI e5_L0) ?_
    refine WL.va rfl rfl rfl (X.move ((hAL0.eq 0).trans (congrFun hF2 0))) ?_
    refine WL.va rfl rfl rfl (X.len re rfl Try.underlying25) ?_
    refine WL.va rfl rfl rfl (X.lss rfl rfl) ?_
    refine WL.nil ?_
    refine thn_n ?_
    refine WF.cond rfl (fun h0_3 => ?_) (fun h0_3 => ?_)
    · have gh0_3 := (of_decide_eq_true h0_3)
      have hk : k < E.length := by omega
      have hdr := getB_drop (l := (E.map Prod.fst)) (n := no) (k := k) (by simpa using hk)
      rw [List.getElem_map] at hdr
      refine WF.skip ?_
      refine thn_n ?_
      refine WF.seq ?_
      refine WF.block ?_
      refine WF.seq ?_
      refine WF.region ?_
      refine WL.va rfl rfl rfl (X.move ((hAL0.eq 0).trans (congrFun hF2 0))) ?_
      refine WL.va rfl rfl rfl (X.moveI e5_L0) ?_
      refine WL.va rfl rfl rfl (X.idx re rfl rfl (by omega) Try.underlying25 Try.sizeOf58) ?_
      refine WL.va rfl rfl rfl (X.fieldAddrA rfl Try.underlying58 rfl rfl Try.sizeOf3) ?_
      refine WL.va rfl rfl rfl (X.loadE re hwL0 rfl (by omega) ((BRow.get hk (by decide)).trans rfl) Try.isAgg3) ?_
      refine WL.va rfl rfl rfl (X.moveI ((hAL0.eq 1).trans (congrFun hF2 1))) ?_
      refine WL.va rfl rfl rfl (X.eql rfl rfl) ?_
      refine WL.nil ?_
      refine thn_n ?_
      refine WF.cond rfl (fun h1_5 => ?_) (fun h1_5 => ?_)
      · have gh1_5 := (of_decide_eq_true h1_5)
        have hyes : getB (E.map Prod.fst) no = (E[k]'hk).1.Data := by rw [hno, hdr, if_pos gh1_5]
        refine WF.seq ?_
        refine WF.region ?_
        refine WL.va rfl rfl rfl (X.move ((hAL0.eq 0).trans (congrFun hF2 0))) ?_
        refine WL.va rfl rfl rfl (X.moveI e5_L0) ?_
        refine WL.va rfl rfl rfl (X.idx re rfl rfl (by omega) Try.underlying25 Try.sizeOf58) ?_
        refine WL.va rfl rfl rfl (X.fieldAddrA rfl Try.underlying58 rfl rfl Try.sizeOf34) ?_
        refine WL.va rfl rfl rfl (X.loadE re hwL0 rfl (by omega) ((BRow.get hk (by decide)).trans rfl) Try.isAgg34) ?_
        have szq := World.grownBy.size (show Ext w wL0 from hwL0)
        refine WL.c rfl rfl rfl (X.call Try.call37 (evl_cons rfl evl_nil)) (copyBytes_ok _ (E[k]'hk).1.Data _ (Row.ext (de _ (List.getElem_mem hk)) hwL0) (Nat.le_trans (hd _ (List.mem_map.2 ⟨_, List.getElem_mem hk, rfl⟩)) (by decide))) ?_
        rintro dv w7 ⟨od, hx8⟩
        refine WL.va rfl rfl rfl (X.assign rfl) ?_
        refine WL.nil ?_
        refine thn_n ?_
        refine WF.ret ?_
        refine blk_r ?_
        refine thn_r ?_
        refine thn_r ?_
        refine blk_r ?_
        refine thn_r ?_
        refine fin_r ?_
        exact ⟨by rw [hyes]; exact own_mono od szq, (Ext.trans hwL0 hx8)⟩
      · have gh1_5 := (of_decide_eq_false h1_5)
        have hnx : getB (E.map Prod.fst) no = getB ((E.map Prod.fst).drop (k + 1)) no := by rw [hno, hdr, if_neg gh1_5]
        refine WF.skip ?_
        refine blk_n ?_
        refine thn_n ?_
        refine WF.region ?_
        refine WL.va rfl rfl rfl (X.moveI e5_L0) ?_
        refine WL.va rfl rfl rfl (X.add rfl rfl (w64 (by omega))) ?_
        refine WL.va rfl rfl rfl (X.assignI rfl) ?_
        refine WL.nil ?_
        exact thn_n ⟨_, (by omega), k + 1, rfl, rfl, (by repeat (first | exact hAL0 | refine Agree.put ?_ rfl | refine Agree.named hF2 ?_)), hwL0, ⟨by omega, hnx⟩⟩
    · have gh0_3 := (of_decide_eq_false h0_3)
      refine WF.exit ?_
      refine thn_x ?_
      refine thn_x ?_
      refine blk_eq ?_
      refine thn_n ?_
      refine WF.seq ?_
      refine WF.region ?_
      have szm := World.grownBy.size (show Ext w wL0 from hwL0)
      refine WL.op rfl (OW.makeB (n := 4) rfl rfl Try.underlying34 Try.type5 rfl rfl rfl (by omega) ?_ (by decide))
      intro v10 w9 ho12 hx11
      have om := ho12
      refine WL.va rfl rfl rfl (X.assign rfl) ?_
      refine WL.nil ?_
      refine thn_n ?_
      refine WF.ret ?_
      refine fin_r ?_
      exact ⟨by rw [hno, List.drop_of_length_le (by simp; omega)]; exact own_mono om szm, (Ext.trans hwL0 hx11)⟩

theorem nought_ok (v : Value) (b : List UInt8) (w : World) (hb : Bytes w v b) : FnOk Try.prog 50 [v] w (fun r w' => r = .bool (decide (b = zero4)) ∧ Ext w w') := by
  refine FnOk.enter (rs := [2]) Try.func50 rfl Try.ntmps50 Try.results50 rfl rfl ?_
  refine WF.seq ?_
  refine WF.region ?_
  refine WL.va rfl rfl rfl (X.assignB rfl) ?_
  refine WL.nil ?_
  refine thn_n ?_
  refine WF.seq ?_
  refine WF.region ?_
  refine WL.va rfl rfl rfl (X.move rfl) ?_
  refine WL.op rfl (OW.makeB (n := 4) rfl rfl Try.underlying34 Try.type5 rfl rfl rfl (by omega) ?_ (by decide))
  intro v3 w2 ho5 hx4
  have om := ho5
  refine WL.c rfl rfl rfl (X.call Try.call20 (evl_cons rfl (evl_cons rfl evl_nil))) (sameBytes_ok _ _ b zero4 _ (Row.ext hb hx4) (Bytes.of_own om)) ?_
  rintro v7 w6 ⟨rfl, hx8⟩
  refine WL.va rfl rfl rfl (X.assignB rfl) ?_
  refine WL.nil ?_
  refine thn_n ?_
  refine WF.ret ?_
  refine fin_r ?_
  exact ⟨rfl, (Ext.trans hx4 hx8)⟩

theorem refIn1_ok (lo hi n : Int) (w : World) : FnOk Try.prog 41 [agg [i64 lo, i64 hi], i64 n] w (fun r w' => r = .bool (inSp lo hi n) ∧ Ext w w') := by
  refine FnOk.enter (rs := [4]) Try.func41 rfl Try.ntmps41 Try.results41 rfl rfl ?_
  refine WF.seq ?_
  refine WF.region ?_
  refine WL.op rfl (OW.boxA (cs := [i64 lo, i64 hi]) rfl ?_ (by decide))
  intro g2 w1 heg2 hlg2 hO2 hx3
  have := World.grownBy.size hx3
  refine WL.va rfl rfl rfl (X.assignB rfl) ?_
  refine WL.nil ?_
  refine thn_n ?_
  refine WF.seq ?_
  refine WF.region ?_
  refine WL.va rfl rfl rfl (X.moveI rfl) ?_
  refine WL.va rfl rfl rfl (X.fieldAddrO (off := 0) rfl Try.underlying30 rfl rfl Try.sizeOf3) ?_
  refine WL.va rfl rfl rfl (X.loadO hO2 (Ext.refl _) rfl rfl Try.isAgg3) ?_
  refine WL.va rfl rfl rfl (X.geq rfl rfl) ?_
  refine WL.va rfl rfl rfl (X.moveB rfl) ?_
  refine WL.split (j := 4) rfl (fun h7 => ?_) (fun h7 => ?_)
  · have gh7 := (of_decide_eq_true h7)
    have h1 := gh7
    refine WL.vg rfl (congrArg some h7) rfl rfl (X.moveI rfl) ?_
    refine WL.vg rfl (congrArg some h7) rfl rfl (X.fieldAddrO (off := 1) rfl Try.underlying30 rfl rfl Try.sizeOf3) ?_
    refine WL.vg rfl (congrArg some h7) rfl rfl (X.loadO hO2 (Ext.refl _) rfl rfl Try.isAgg3) ?_
    refine WL.vg rfl (congrArg some h7) rfl rfl (X.lss rfl rfl) ?_
    refine WL.va rfl rfl rfl (X.pickT rfl h7 rfl) ?_
    refine WL.va rfl rfl rfl (X.assignB rfl) ?_
    refine WL.nil ?_
    refine thn_n ?_
    refine WF.ret ?_
    refine fin_r ?_
    exact ⟨congrArg Value.bool (by unfold inSp; first | exact (decide_eq_false (fun e => h1 e.1)).symm | (rw [decide_eq_decide]; exact ⟨fun h => ⟨h1, h⟩, fun h => h.2⟩)), hx3⟩
  · have gh7 := (of_decide_eq_false h7)
    have h1 := gh7
    refine WL.p rfl rfl rfl (congrArg some h7) ?_
    refine WL.p rfl rfl rfl (congrArg some h7) ?_
    refine WL.p rfl rfl rfl (congrArg some h7) ?_
    refine WL.p rfl rfl rfl (congrArg some h7) ?_
    refine WL.va rfl rfl rfl (X.pickF rfl h7 rfl) ?_
    refine WL.va rfl rfl rfl (X.assignB rfl) ?_
    refine WL.nil ?_
    refine thn_n ?_
    refine WF.ret ?_
    refine fin_r ?_
    exact ⟨congrArg Value.bool (by unfold inSp; first | exact (decide_eq_false (fun e => h1 e.1)).symm | (rw [decide_eq_decide]; exact ⟨fun h => ⟨h1, h⟩, fun h => h.2⟩)), hx3⟩

set_option maxHeartbeats 800000 in
theorem rows_ok (v : Value) (l : List Bl) (w : World) (h : Bls w v l) (hd : ∀ s ∈ l, s.Data.length ≤ 1000000) : FnOk Try.prog 49 [v] w (fun r w' => (∃ C, C.length = 64 ∧ RowsO w' w.heap.size r C (rowsF l)) ∧ Ext w w') := by
  refine FnOk.enter (rs := [2]) Try.func49 rfl Try.ntmps49 Try.results49 rfl rfl ?_
  refine WF.seq ?_
  refine WF.region ?_
  refine WL.va rfl rfl rfl (X.assign rfl) ?_
  refine WL.nil ?_
  refine thn_n ?_
  refine WF.seq ?_
  refine WF.region ?_
  refine WL.va rfl rfl rfl (X.assign rfl) ?_
  refine WL.nil ?_
  refine thn_n ?_
  refine WF.seq ?_
  refine WF.seq ?_
  refine WF.region ?_
  refine WL.va rfl rfl rfl (X.assignI rfl) ?_
  refine WL.nil ?_
  refine thn_n ?_
  refine WF.block ?_
  refine WF.named (fun F1 hF2 => ?_)
  refine WF.loopN (fun mL0 f' w' => ∃ (k : Nat) (vo : Value) (C : List Value), mL0 = 64 - k ∧ f' 4 = .int .i64 (k : Int) ∧ f' 3 = vo ∧ Agree [0, 2] f' F1 ∧ Ext w w' ∧ k ≤ 64 ∧ C.length = k ∧ RowsO w' w.heap.size vo C (rowsF l)) ?_ ?_
  · exact ⟨_, 0, (.slice none 0 0), [], rfl, (congrFun hF2 4), (congrFun hF2 3), (Agree.refl _ _), (Ext.refl _), ⟨Nat.zero_le _, rfl, RowsO.nil _ _ _⟩⟩
  · rintro mL0 fL0 wL0 ⟨k, vo, C, hmL0, e4_L0, e3_L0, hAL0, hwL0, ⟨hk0, hC, ho⟩⟩
    refine WF.seq ?_
    refine WF.seq ?_
    refine WF.region ?_
    refine WL.va rfl rfl rfl (X.moveI e4_L0) ?_
    refine WL.va rfl rfl rfl (X.lss rfl rfl) ?_
    refine WL.nil ?_
    refine thn_n ?_
    refine WF.cond rfl (fun h0_3 => ?_) (fun h0_3 => ?_)
    · have gh0_3 := (of_decide_eq_true h0_3)
      have hk : k < 64 := by omega
      refine WF.skip ?_
      refine thn_n ?_
      refine WF.seq ?_
      refine WF.block ?_
      refine WF.region ?_
      refine WL.va rfl rfl rfl (X.move e3_L0) ?_
      refine WL.va rfl rfl rfl (X.move ((hAL0.eq 0).trans (congrFun hF2 0))) ?_
      refine WL.va rfl rfl rfl (X.moveI e4_L0) ?_
      have hoA := ho.ext (Ext.refl wL0)
      have hBz := World.grownBy.size (show Ext w wL0 from hwL0)
      refine WL.c rfl rfl rfl (X.call Try.call32 (evl_cons rfl (evl_cons rfl evl_nil))) (refGet_ok _ l (k : Int) _ (h.ext hwL0) hd) ?_
      rintro dv w5 ⟨od, hx6⟩
      have gq1 := hx6
      refine WL.op rfl (OW.lits (vs := [dv]) (evp_cons rfl evp_nil) Try.underlying74 Try.sizeOf34 Try.zeroValue34 ⟨own_sz od, trivial⟩ rfl rfl rfl ?_ (by decide))
      intro v8 w7 ho10 hx9
      have o1 := own1 ho10 (own_one od)
      have gq2 := hx9
      refine WL.op rfl (OW.append (bytes := 24) (own_ext (own_ext hoA.row gq1) gq2) (Row.of_own o1) (by intro u hu; rw [List.mem_singleton] at hu; subst hu; exact own_one od) rfl rfl Try.underlying74 Try.type34 rfl rfl rfl rfl (by decide) (by unfold maxLen; omega) (by omega) (Nat.le_trans hBz (Nat.le_trans (World.grownBy.size gq1) (World.grownBy.size gq2))) ?_ (by decide))
      intro v12 w11 ho14 hx13 hmvhx13
      have ho2 := hoA.app (hC ▸ od) gq1 gq2 ho14 hx13 hmvhx13 hBz
      refine WL.va rfl rfl rfl (X.assign rfl) ?_
      refine WL.nil ?_
      refine blk_n ?_
      refine thn_n ?_
      refine WF.region ?_
      refine WL.va rfl rfl rfl (X.moveI e4_L0) ?_
      refine WL.va rfl rfl rfl (X.add rfl rfl (w64 (by omega))) ?_
      refine WL.va rfl rfl rfl (X.assignI rfl) ?_
      refine WL.nil ?_
      exact thn_n ⟨_, (by omega), k + 1, _, _, rfl, rfl, rfl, (by repeat (first | exact hAL0 | refine Agree.put ?_ rfl | refine Agree.named hF2 ?_)), (Ext.own (Ext.trans (Ext.trans hwL0 hx6) hx9) (own_ext (own_ext hoA.row gq1) gq2) (Nat.le_refl _) hx13), ⟨by omega, by simp [hC], ho2⟩⟩
    · have gh0_3 := (of_decide_eq_false h0_3)
      refine WF.exit ?_
      refine thn_x ?_
      refine thn_x ?_
      refine blk_eq ?_
      refine thn_n ?_
      refine WF.seq ?_
      refine WF.region ?_
      refine WL.va rfl rfl rfl (X.move e3_L0) ?_
      refine WL.va rfl rfl rfl (X.assign rfl) ?_
      refine WL.nil ?_
      refine thn_n ?_
      refine WF.ret ?_
      refine fin_r ?_
      exact ⟨⟨C, by omega, ho⟩, hwL0⟩

set_option maxHeartbeats 1600000 in
theorem list_ok (v : Value) (C : List Value) (f : Nat → List UInt8) (B : Nat) (w : World) (h : RowsO w B v C f) (hl : C.length = 64) : FnOk Try.prog 51 [v] w (fun r w' => Bls w' r (lstF f) ∧ Ext w w') := by
  refine FnOk.enter (rs := [2]) Try.func51 rfl Try.ntmps51 Try.results51 rfl rfl ?_
  refine WF.seq ?_
  refine WF.region ?_
  refine WL.va rfl rfl rfl (X.assign rfl) ?_
  refine WL.nil ?_
  refine thn_n ?_
  refine WF.seq ?_
  refine WF.region ?_
  refine WL.va rfl rfl rfl (X.assign rfl) ?_
  refine WL.nil ?_
  refine thn_n ?_
  refine WF.seq ?_
  refine WF.seq ?_
  refine WF.region ?_
  refine WL.va rfl rfl rfl (X.assignI rfl) ?_
  refine WL.nil ?_
  refine thn_n ?_
  refine WF.block ?_
  refine WF.named (fun F1 hF2 => ?_)
  refine WF.loopN (fun mL0 f' w' => ∃ (k : Nat) (vo : Value) (O : List BV), mL0 = 64 - k ∧ f' 4 = .int .i64 (k : Int) ∧ f' 3 = vo ∧ Agree [0, 2] f' F1 ∧ Ext w w' ∧ k ≤ 64 ∧ O.length ≤ k ∧ BOwnR w' w.heap.size vo O ∧ BDat w O ∧ O.map Prod.fst = lstK f k) ?_ ?_
  · exact ⟨_, 0, (.slice none 0 0), [], rfl, (congrFun hF2 4), (congrFun hF2 3), (Agree.refl _ _), (Ext.refl _), ⟨Nat.zero_le _, Nat.le_refl _, BOwnR.nil _ _, (fun e he => by cases he), rfl⟩⟩
  · rintro mL0 fL0 wL0 ⟨k, vo, O, hmL0, e4_L0, e3_L0, hAL0, hwL0, ⟨hk0, hOl, ho, hD, hO⟩⟩
    refine WF.seq ?_
    refine WF.seq ?_
    refine WF.region ?_
    refine WL.va rfl rfl rfl (X.moveI e4_L0) ?_
    refine WL.va rfl rfl rfl (X.lss rfl rfl) ?_
    refine WL.nil ?_
    refine thn_n ?_
    refine WF.cond rfl (fun h0_3 => ?_) (fun h0_3 => ?_)
    · have gh0_3 := (of_decide_eq_true h0_3)
      have hk : k < 64 := by omega
      refine WF.skip ?_
      refine thn_n ?_
      refine WF.seq ?_
      refine WF.block ?_
      refine WF.seq ?_
      refine WF.region ?_
      refine WL.va rfl rfl rfl (X.move ((hAL0.eq 0).trans (congrFun hF2 0))) ?_
      refine WL.va rfl rfl rfl (X.moveI e4_L0) ?_
      refine WL.va rfl rfl rfl (X.idx (Row.of_own h.row) rfl rfl (by omega) Try.underlying74 Try.sizeOf34) ?_
      refine WL.va rfl rfl rfl (X.load1 (Row.of_own h.row) hwL0 rfl (by omega) Try.isAgg34) ?_
      refine WL.c rfl rfl rfl (X.call Try.call50 (evl_cons rfl evl_nil)) (nought_ok _ (f k) _ (Row.ext (Bytes.of_own (h.data k (by omega))) hwL0)) ?_
      rintro v6 w5 ⟨rfl, hx7⟩
      refine WL.va rfl rfl rfl (X.not rfl) ?_
      refine WL.nil ?_
      refine thn_n ?_
      refine WF.cond rfl (fun h1_9 => ?_) (fun h1_9 => ?_)
      · have gh1_9 := (of_decide_eq_false (nt h1_9))
        have hp := gh1_9
        refine WF.region ?_
        refine WL.va rfl rfl rfl (X.move e3_L0) ?_
        refine WL.va rfl rfl rfl (X.moveI e4_L0) ?_
        refine WL.va rfl rfl rfl (X.move ((hAL0.eq 0).trans (congrFun hF2 0))) ?_
        refine WL.va rfl rfl rfl (X.moveI e4_L0) ?_
        refine WL.va rfl rfl rfl (X.idx (Row.of_own h.row) rfl rfl (by omega) Try.underlying74 Try.sizeOf34) ?_
        refine WL.va rfl rfl rfl (X.load1 (Row.of_own h.row) (Ext.trans hwL0 hx7) rfl (by omega) Try.isAgg34) ?_
        refine WL.va rfl rfl rfl (X.buildL (P := Try.prog) (t := 58) (cs := (BV.c ((⟨(k : Int), f k⟩ : Bl), (C.getD k undef)))) (evp_cons rfl (evp_cons rfl evp_nil)) Try.type58 Try.underlying58 rfl rfl ⟨rfl, own_one (h.data k (by omega)), trivial⟩ rfl) ?_
        refine WL.op rfl (OW.lits (vs := [agg (BV.c ((⟨(k : Int), f k⟩ : Bl), (C.getD k undef)))]) (evp_cons rfl evp_nil) Try.underlying25 Try.sizeOf58 Try.zeroValue58 ⟨rfl, trivial⟩ rfl rfl rfl ?_ (by decide))
        intro v12 w11 ho14 hx13
        have o1 : World.ownsRow w11 _ 58 2 v12 1 (BV.c ((⟨(k : Int), f k⟩ : Bl), (C.getD k undef))) := ho14
        have hoP := own_ext ho (show Ext wL0 w11 from (Ext.trans hx7 hx13))
        have hwP := (show Ext w w11 from (Ext.trans (Ext.trans hwL0 hx7) hx13))
        refine WL.op rfl (OW.append (bytes := 32) hoP (Row.of_own o1) (BV.c_one (e := ((⟨(k : Int), f k⟩ : Bl), (C.getD k undef))) (Bytes.of_own (h.data k (by omega)))) rfl rfl Try.underlying25 Try.type58 rfl rfl rfl rfl (by decide) (by unfold maxLen; omega) (by omega) (World.grownBy.size hwP) ?_ (by decide))
        intro v16 w15 ho18 hx17 hmvhx17
        have ho2 := BOwnR.app ho18
        have hD2 := BDat.app (e := ((⟨(k : Int), f k⟩ : Bl), (C.getD k undef))) hD (Bytes.of_own (h.data k (by omega)))
        refine WL.va rfl rfl rfl (X.assign rfl) ?_
        refine WL.nil ?_
        refine blk_n ?_
        refine thn_n ?_
        refine WF.region ?_
        refine WL.va rfl rfl rfl (X.moveI e4_L0) ?_
        refine WL.va rfl rfl rfl (X.add rfl rfl (w64 (by omega))) ?_
        refine WL.va rfl rfl rfl (X.assignI rfl) ?_
        refine WL.nil ?_
        first | exact thn_n ⟨_, (by omega), k + 1, _, _, rfl, rfl, rfl, (by repeat (first | exact hAL0 | refine Agree.put ?_ rfl | refine Agree.named hF2 ?_)), (Ext.own hwP hoP (Nat.le_refl _) hx17), ⟨by omega, by simp; omega, ho2, hD2, by rw [lstK_succ, List.map_append, hO, if_neg hp]; rfl⟩⟩ | exact thn_n ⟨_, (by omega), k + 1, _, _, rfl, rfl, rfl, (by repeat (first | exact hAL0 | refine Agree.put ?_ rfl | refine Agree.named hF2 ?_)), (Ext.own hwP hoP (Nat.le_refl _) hx17), ⟨by omega, by omega, ho9, hD, by rw [lstK_succ, hO, if_pos hp, List.append_nil]⟩⟩
      · have gh1_9 := (of_decide_eq_true (nf h1_9))
        have hp := gh1_9
        have ho9 := own_ext ho (show Ext wL0 w5 from hx7)
        refine WF.skip ?_
        refine blk_n ?_
        refine thn_n ?_
        refine WF.region ?_
        refine WL.va rfl rfl rfl (X.moveI e4_L0) ?_
        refine WL.va rfl rfl rfl (X.add rfl rfl (w64 (by omega))) ?_
        refine WL.va rfl rfl rfl (X.assignI rfl) ?_
        refine WL.nil ?_
        first | exact thn_n ⟨_, (by omega), k + 1, _, _, rfl, rfl, e3_L0, (by repeat (first | exact hAL0 | refine Agree.put ?_ rfl | refine Agree.named hF2 ?_)), (Ext.trans hwL0 hx7), ⟨by omega, by simp; omega, ho2, hD2, by rw [lstK_succ, List.map_append, hO, if_neg hp]; rfl⟩⟩ | exact thn_n ⟨_, (by omega), k + 1, _, _, rfl, rfl, e3_L0, (by repeat (first | exact hAL0 | refine Agree.put ?_ rfl | refine Agree.named hF2 ?_)), (Ext.trans hwL0 hx7), ⟨by omega, by omega, ho9, hD, by rw [lstK_succ, hO, if_pos hp, List.append_nil]⟩⟩
    · have gh0_3 := (of_decide_eq_false h0_3)
      refine WF.exit ?_
      refine thn_x ?_
      refine thn_x ?_
      refine blk_eq ?_
      refine thn_n ?_
      refine WF.seq ?_
      refine WF.region ?_
      refine WL.va rfl rfl rfl (X.move e3_L0) ?_
      refine WL.va rfl rfl rfl (X.assign rfl) ?_
      refine WL.nil ?_
      refine thn_n ?_
      refine WF.ret ?_
      refine fin_r ?_
      obtain rfl : k = 64 := by omega
      exact ⟨⟨O, hO, Row.of_own ho, hD.ext hwL0⟩, hwL0⟩

set_option maxHeartbeats 800000 in
theorem refSet_ok (v : Value) (l : List Bl) (no : Int) (vb : Value) (b : List UInt8) (w : World) (h : Bls w v l) (hr : RightB l) (hb : Bytes w vb b) : FnOk Try.prog 33 [v, i64 no, vb] w (fun r w' => Bls w' r (setB l no b) ∧ Ext w w') := by
  refine FnOk.enter (rs := [6]) Try.func33 rfl Try.ntmps33 Try.results33 rfl rfl ?_
  refine WF.seq ?_
  refine WF.region ?_
  refine WL.va rfl rfl rfl (X.assign rfl) ?_
  refine WL.nil ?_
  refine thn_n ?_
  refine WF.seq ?_
  refine WF.region ?_
  refine WL.va rfl rfl rfl (X.move rfl) ?_
  refine WL.c rfl rfl rfl (X.call Try.call49 (evl_cons rfl evl_nil)) (rows_ok _ l _ h (fun s hs => by have := (hr.each s hs).2.2.1; omega)) ?_
  rintro vr wr ⟨⟨C, hC, oC⟩, hx1⟩
  have szw := World.grownBy.size hx1
  refine WL.va rfl rfl rfl (X.assign rfl) ?_
  refine WL.nil ?_
  refine thn_n ?_
  refine WF.seq ?_
  refine WF.seq ?_
  refine WF.region ?_
  refine WL.va rfl rfl rfl (X.moveI rfl) ?_
  refine WL.va rfl rfl rfl (X.geq rfl rfl) ?_
  refine WL.va rfl rfl rfl (X.moveB rfl) ?_
  refine WL.split (j := 2) rfl (fun h3 => ?_) (fun h3 => ?_)
  · have gh3 := (of_decide_eq_true h3)
    have h0 := gh3
    refine WL.vg rfl (congrArg some h3) rfl rfl (X.moveI rfl) ?_
    refine WL.vg rfl (congrArg some h3) rfl rfl (X.lss rfl rfl) ?_
    refine WL.va rfl rfl rfl (X.pickT rfl h3 rfl) ?_
    refine WL.va rfl rfl rfl (X.moveB rfl) ?_
    refine WL.split (j := 6) rfl (fun h5 => ?_) (fun h5 => ?_)
    · have gh5 := (of_decide_eq_true h5)
      have h1 := gh5
      refine WL.vg rfl (congrArg some h5) rfl rfl (X.move rfl) ?_
      refine WL.vg rfl (congrArg some h5) rfl rfl (X.len hb rfl Try.underlying34) ?_
      refine WL.vg rfl (congrArg some h5) rfl rfl (X.eql rfl rfl) ?_
      refine WL.va rfl rfl rfl (X.pickT rfl h5 rfl) ?_
      refine WL.nil ?_
      refine thn_n ?_
      refine WF.cond rfl (fun h0_6 => ?_) (fun h0_6 => ?_)
      · have gh0_6 := (of_decide_eq_true h0_6)
        have hok : okB no b = true := decide_eq_true ⟨by omega, by omega, by omega⟩
        have hb4 := (of_decide_eq_true hok).2.2
        obtain ⟨m, rfl⟩ : ∃ m : Nat, no = (m : Int) := ⟨no.toNat, by omega⟩
        refine WF.region ?_
        refine WL.va rfl rfl rfl (X.move rfl) ?_
        refine WL.va rfl rfl rfl (X.moveI rfl) ?_
        refine WL.va rfl rfl rfl (X.move rfl) ?_
        have szc := World.grownBy.size (show Ext wr wr from (Ext.refl _))
        refine WL.c rfl rfl rfl (X.call Try.call37 (evl_cons rfl evl_nil)) (copyBytes_ok _ b _ (Row.ext hb hx1) (by omega)) ?_
        rintro dv w8 ⟨od, hx9⟩
        have gq1 := hx9
        refine WL.va rfl rfl rfl (X.idx (Row.of_own oC.row) rfl rfl (by omega) Try.underlying74 Try.sizeOf34) ?_
        have hg1 := (show Ext wr w8 from hx9)
        have szr := World.grownBy.size (show Ext w w8 from (Ext.trans hx1 hx9))
        refine WL.op rfl (OW.storeOwn (own_ext oC.row hg1) (by omega) rfl rfl (own_one od) Try.sizeOf34 ?_)
        intro w10 ho13 hx12
        have oL := oC.set od (fun b h1 h2 => by have := (od.lt b h1).1; have := (oC.row.lt b h2).2; omega) hg1 ho13 hx12 (by omega)
        have hCL : (C.set m dv).length = 64 := by rw [List.length_set]; exact hC
        have heq : lstF (fun n => if n = m then b else rowsF l n) = setB l (m : Int) b := by rw [← updF_ok hok, refSet_eq hr]
        refine WL.nil ?_
        refine thn_n ?_
        refine WF.seq ?_
        refine WF.region ?_
        refine WL.va rfl rfl rfl (X.move rfl) ?_
        refine WL.c rfl rfl rfl (X.call Try.call51 (evl_cons rfl evl_nil)) (list_ok _ _ _ _ _ oL hCL) ?_
        rintro v15 w14 ⟨hB, hx16⟩
        refine WL.va rfl rfl rfl (X.assign rfl) ?_
        refine WL.nil ?_
        refine thn_n ?_
        refine WF.ret ?_
        refine fin_r ?_
        exact ⟨heq ▸ hB, (Ext.trans (Ext.own (Ext.trans hx1 hx9) (own_ext oC.row hg1) (Nat.le_refl _) hx12) hx16)⟩
      · have gh0_6 := (of_decide_eq_false h0_6)
        have hbad : okB no b = false := decide_eq_false (by omega)
        have oL := oC.ext (show Ext wr wr from (Ext.refl _))
        have hCL := hC
        have heq : lstF (rowsF l) = setB l no b := by rw [← refSet_eq hr, updF_no hbad]
        refine WF.skip ?_
        refine thn_n ?_
        refine WF.seq ?_
        refine WF.region ?_
        refine WL.va rfl rfl rfl (X.move rfl) ?_
        refine WL.c rfl rfl rfl (X.call Try.call51 (evl_cons rfl evl_nil)) (list_ok _ _ _ _ _ oL hCL) ?_
        rintro v18 w17 ⟨hB, hx19⟩
        refine WL.va rfl rfl rfl (X.assign rfl) ?_
        refine WL.nil ?_
        refine thn_n ?_
        refine WF.ret ?_
        refine fin_r ?_
        exact ⟨heq ▸ hB, (Ext.trans hx1 hx19)⟩
    · have gh5 := (of_decide_eq_false h5)
      have hbad : okB no b = false := decide_eq_false (by omega)
      have oL := oC.ext (show Ext wr wr from (Ext.refl _))
      have hCL := hC
      have heq : lstF (rowsF l) = setB l no b := by rw [← refSet_eq hr, updF_no hbad]
      refine WL.p rfl rfl rfl (congrArg some h5) ?_
      refine WL.p rfl rfl rfl (congrArg some h5) ?_
      refine WL.p rfl rfl rfl (congrArg some h5) ?_
      refine WL.va rfl rfl rfl (X.pickF rfl h5 rfl) ?_
      refine WL.nil ?_
      refine thn_n ?_
      refine WF.cond_f rfl ?_
      refine WF.skip ?_
      refine thn_n ?_
      refine WF.seq ?_
      refine WF.region ?_
      refine WL.va rfl rfl rfl (X.move rfl) ?_
      refine WL.c rfl rfl rfl (X.call Try.call51 (evl_cons rfl evl_nil)) (list_ok _ _ _ _ _ oL hCL) ?_
      rintro v22 w21 ⟨hB, hx23⟩
      refine WL.va rfl rfl rfl (X.assign rfl) ?_
      refine WL.nil ?_
      refine thn_n ?_
      refine WF.ret ?_
      refine fin_r ?_
      exact ⟨heq ▸ hB, (Ext.trans hx1 hx23)⟩
  · have gh3 := (of_decide_eq_false h3)
    have hbad : okB no b = false := decide_eq_false (by omega)
    have oL := oC.ext (show Ext wr wr from (Ext.refl _))
    have hCL := hC
    have heq : lstF (rowsF l) = setB l no b := by rw [← refSet_eq hr, updF_no hbad]
    refine WL.p rfl rfl rfl (congrArg some h3) ?_
    refine WL.p rfl rfl rfl (congrArg some h3) ?_
    refine WL.va rfl rfl rfl (X.pickF rfl h3 rfl) ?_
    refine WL.va rfl rfl rfl (X.moveB rfl) ?_
    refine WL.p rfl rfl rfl rfl ?_
    refine WL.p rfl rfl rfl rfl ?_
    refine WL.p rfl rfl rfl rfl ?_
    refine WL.va rfl rfl rfl (X.pickF rfl rfl rfl) ?_
    refine WL.nil ?_
    refine thn_n ?_
    refine WF.cond_f rfl ?_
    refine WF.skip ?_
    refine thn_n ?_
    refine WF.seq ?_
    refine WF.region ?_
    refine WL.va rfl rfl rfl (X.move rfl) ?_
    refine WL.c rfl rfl rfl (X.call Try.call51 (evl_cons rfl evl_nil)) (list_ok _ _ _ _ _ oL hCL) ?_
    rintro v27 w26 ⟨hB, hx28⟩
    refine WL.va rfl rfl rfl (X.assign rfl) ?_
    refine WL.nil ?_
    refine thn_n ?_
    refine WF.ret ?_
    refine fin_r ?_
    exact ⟨heq ▸ hB, (Ext.trans hx1 hx28)⟩

theorem refPart2 {l : List Bl} {lo hi : Int} {ins : Bool} (hr : RightB l) : lstF (fun n : Nat => if inSp lo hi (n : Int) = ins then rowsF l n else zero4) = l.filter fun x => inSp lo hi x.No == ins := by
  rw [← refPart_eq (p := fun n => inSp lo hi n == ins) hr]
  congr 1
  funext n
  by_cases h : inSp lo hi (n : Int) = ins
  · rw [if_pos h, if_pos (by simpa using h)]
  · rw [if_neg h, if_neg (by simpa using h)]
theorem part_step1 {f : Nat → List UInt8} {l : List Bl} {lo hi : Int} {ins : Bool} {k : Nat} (hf : ∀ n, f n = (fun n => if n < k then (if inSp lo hi (n : Int) = ins then rowsF l n else zero4) else rowsF l n) n) (hp : ¬ inSp lo hi (k : Int) = ins) (n : Nat) : (fun n => if n = k then zero4 else f n) n = (fun n => if n < k + 1 then (if inSp lo hi (n : Int) = ins then rowsF l n else zero4) else rowsF l n) n := by
  dsimp only
  by_cases h : n = k
  · subst h; rw [if_pos rfl, if_pos (show n < n + 1 by omega), if_neg hp]
  · rw [if_neg h, hf n]
    dsimp only
    by_cases h2 : n < k
    · rw [if_pos h2, if_pos (show n < k + 1 by omega)]
    · rw [if_neg h2, if_neg (show ¬ n < k + 1 by omega)]
theorem part_step2 {f : Nat → List UInt8} {l : List Bl} {lo hi : Int} {ins : Bool} {k : Nat} (hf : ∀ n, f n = (fun n => if n < k then (if inSp lo hi (n : Int) = ins then rowsF l n else zero4) else rowsF l n) n) (hp : inSp lo hi (k : Int) = ins) (n : Nat) : f n = (fun n => if n < k + 1 then (if inSp lo hi (n : Int) = ins then rowsF l n else zero4) else rowsF l n) n := by
  rw [hf n]
  dsimp only
  by_cases h : n = k
  · subst h; rw [if_neg (show ¬ n < n by omega), if_pos (show n < n + 1 by omega), if_pos hp]
  · by_cases h2 : n < k
    · rw [if_pos h2, if_pos (show n < k + 1 by omega)]
    · rw [if_neg h2, if_neg (show ¬ n < k + 1 by omega)]
set_option maxHeartbeats 1600000 in
theorem refPart_ok (v : Value) (l : List Bl) (lo hi : Int) (ins : Bool) (w : World) (h : Bls w v l) (hr : RightB l) : FnOk Try.prog 55 [v, agg [i64 lo, i64 hi], .bool ins] w (fun r w' => Bls w' r (l.filter fun x => inSp lo hi x.No == ins) ∧ Ext w w') := by
  refine FnOk.enter (rs := [6]) Try.func55 rfl Try.ntmps55 Try.results55 rfl rfl ?_
  refine WF.seq ?_
  refine WF.region ?_
  refine WL.op rfl (OW.boxA (cs := [i64 lo, i64 hi]) rfl ?_ (by decide))
  intro g4 wb heg4 hlg4 hO4 hx3
  have := World.grownBy.size hx3
  refine WL.va rfl rfl rfl (X.assign rfl) ?_
  refine WL.nil ?_
  refine thn_n ?_
  refine WF.seq ?_
  refine WF.region ?_
  refine WL.va rfl rfl rfl (X.move rfl) ?_
  refine WL.c rfl rfl rfl (X.call Try.call49 (evl_cons rfl evl_nil)) (rows_ok _ l _ (h.ext hx3) (fun s hs => by have := (hr.each s hs).2.2.1; omega)) ?_
  rintro vr w5 ⟨⟨C0, hC0, oC0⟩, hx6⟩
  have := World.grownBy.size hx6
  refine WL.va rfl rfl rfl (X.assign rfl) ?_
  refine WL.nil ?_
  refine thn_n ?_
  refine WF.seq ?_
  refine WF.seq ?_
  refine WF.region ?_
  refine WL.va rfl rfl rfl (X.assignI rfl) ?_
  refine WL.nil ?_
  refine thn_n ?_
  refine WF.block ?_
  refine WF.named (fun F7 hF8 => ?_)
  refine WF.loopN (fun mL0 f' w' => ∃ (k : Nat) (C : List Value) (f : Nat → List UInt8), mL0 = 64 - k ∧ f' 8 = .int .i64 (k : Int) ∧ Agree [0, 1, 2, 4, 6, 7, 9, 10] f' F7 ∧ Ext wb w' ∧ k ≤ 64 ∧ C.length = 64 ∧ RowsO w' wb.heap.size vr C f ∧ ∀ n, f n = (fun n => if n < k then (if inSp lo hi (n : Int) = ins then rowsF l n else zero4) else rowsF l n) n) ?_ ?_
  · exact ⟨_, 0, C0, _, rfl, (congrFun hF8 8), (Agree.refl _ _), hx6, ⟨Nat.zero_le _, hC0, oC0, fun n => by simp⟩⟩
  · rintro mL0 fL0 wL0 ⟨k, C, f, hmL0, e8_L0, hAL0, hwL0, ⟨hk0, hC, oC, hf⟩⟩
    have := World.grownBy.size hwL0
    refine WF.seq ?_
    refine WF.seq ?_
    refine WF.region ?_
    refine WL.va rfl rfl rfl (X.moveI e8_L0) ?_
    refine WL.va rfl rfl rfl (X.lss rfl rfl) ?_
    refine WL.nil ?_
    refine thn_n ?_
    refine WF.cond rfl (fun h0_9 => ?_) (fun h0_9 => ?_)
    · have gh0_9 := (of_decide_eq_true h0_9)
      have hk : k < 64 := by omega
      refine WF.skip ?_
      refine thn_n ?_
      refine WF.seq ?_
      refine WF.block ?_
      refine WF.seq ?_
      refine WF.region ?_
      refine WL.va rfl rfl rfl (X.loadOA hO4 hwL0 ((hAL0.eq 4).trans (congrFun hF8 4)) rfl Try.isAgg30 Try.sizeOf30) ?_
      refine WL.va rfl rfl rfl (X.moveI e8_L0) ?_
      refine WL.c rfl rfl rfl (X.call Try.call41 (evl_cons rfl (evl_cons rfl evl_nil))) (refIn1_ok lo hi (k : Int) _) ?_
      rintro v12 w11 ⟨rfl, hx13⟩
      have := World.grownBy.size hx13
      refine WL.va rfl rfl rfl (X.moveB ((hAL0.eq 2).trans (congrFun hF8 2))) ?_
      refine WL.va rfl rfl rfl (X.neqB rfl rfl Try.underlying4) ?_
      refine WL.nil ?_
      refine thn_n ?_
      refine WF.cond rfl (fun h1_15 => ?_) (fun h1_15 => ?_)
      · have gh1_15 := h1_15
        have hp : ¬ inSp lo hi (k : Int) = ins := by simpa using gh1_15
        refine WF.region ?_
        refine WL.va rfl rfl rfl (X.move ((hAL0.eq 7).trans (congrFun hF8 7))) ?_
        refine WL.va rfl rfl rfl (X.moveI e8_L0) ?_
        have szc := World.grownBy.size (show Ext wL0 w11 from hx13)
        refine WL.op rfl (OW.makeB (n := 4) rfl rfl Try.underlying34 Try.type5 rfl rfl rfl (by omega) ?_ (by decide))
        intro dv w17 ho19 hx18
        have od := ho19
        refine WL.va rfl rfl rfl (X.idx (Row.of_own oC.row) rfl rfl (by omega) Try.underlying74 Try.sizeOf34) ?_
        have hgP := (show Ext wL0 w17 from (Ext.trans hx13 hx18))
        have hoP := own_ext oC.row hgP
        have hwP := (show Ext wb w17 from (Ext.trans (Ext.trans hwL0 hx13) hx18))
        have szr := World.grownBy.size hwP
        have szr0 := World.grownBy.size (show Ext wb wL0 from hwL0)
        refine WL.op rfl (OW.storeOwn hoP (by omega) rfl rfl (own_one od) Try.sizeOf34 ?_)
        intro w20 ho23 hx22
        have oL := oC.set od (fun b h1 h2 => by have := (od.lt b h1).1; have := (oC.row.lt b h2).2; omega) hgP ho23 hx22 (by omega)
        refine WL.nil ?_
        refine blk_n ?_
        refine thn_n ?_
        refine WF.region ?_
        refine WL.va rfl rfl rfl (X.moveI e8_L0) ?_
        refine WL.va rfl rfl rfl (X.add rfl rfl (w64 (by omega))) ?_
        refine WL.va rfl rfl rfl (X.assignI rfl) ?_
        refine WL.nil ?_
        first | exact thn_n ⟨_, (by omega), k + 1, _, _, rfl, rfl, (by repeat (first | exact hAL0 | refine Agree.put ?_ rfl | refine Agree.named hF8 ?_)), (Ext.own hwP hoP (Nat.le_refl _) hx22), ⟨by omega, by rw [List.length_set]; exact hC, oL, fun n => part_step1 hf hp n⟩⟩ | exact thn_n ⟨_, (by omega), k + 1, _, _, rfl, rfl, (by repeat (first | exact hAL0 | refine Agree.put ?_ rfl | refine Agree.named hF8 ?_)), (Ext.own hwP hoP (Nat.le_refl _) hx22), ⟨by omega, hC, oC9, fun n => part_step2 hf hp n⟩⟩
      · have gh1_15 := h1_15
        have hp : inSp lo hi (k : Int) = ins := by simpa using gh1_15
        have oC9 := oC.ext (show Ext wL0 w11 from hx13)
        refine WF.skip ?_
        refine blk_n ?_
        refine thn_n ?_
        refine WF.region ?_
        refine WL.va rfl rfl rfl (X.moveI e8_L0) ?_
        refine WL.va rfl rfl rfl (X.add rfl rfl (w64 (by omega))) ?_
        refine WL.va rfl rfl rfl (X.assignI rfl) ?_
        refine WL.nil ?_
        first | exact thn_n ⟨_, (by omega), k + 1, _, _, rfl, rfl, (by repeat (first | exact hAL0 | refine Agree.put ?_ rfl | refine Agree.named hF8 ?_)), (Ext.trans hwL0 hx13), ⟨by omega, by rw [List.length_set]; exact hC, oL, fun n => part_step1 hf hp n⟩⟩ | exact thn_n ⟨_, (by omega), k + 1, _, _, rfl, rfl, (by repeat (first | exact hAL0 | refine Agree.put ?_ rfl | refine Agree.named hF8 ?_)), (Ext.trans hwL0 hx13), ⟨by omega, hC, oC9, fun n => part_step2 hf hp n⟩⟩
    · have gh0_9 := (of_decide_eq_false h0_9)
      obtain rfl : k = 64 := by omega
      refine WF.exit ?_
      refine thn_x ?_
      refine thn_x ?_
      refine blk_eq ?_
      refine thn_n ?_
      refine WF.seq ?_
      refine WF.region ?_
      refine WL.va rfl rfl rfl (X.move ((hAL0.eq 7).trans (congrFun hF8 7))) ?_
      refine WL.c rfl rfl rfl (X.call Try.call51 (evl_cons rfl evl_nil)) (list_ok _ C (fun n : Nat => if inSp lo hi (n : Int) = ins then rowsF l n else zero4) _ _ ((oC.fn (g := (fun n : Nat => if inSp lo hi (n : Int) = ins then rowsF l n else zero4)) (fun n hn => by rw [hf n]; exact if_pos (show n < 64 by omega))).ext (Ext.refl wL0)) hC) ?_
      rintro v25 w24 ⟨hB, hx26⟩
      have := World.grownBy.size hx26
      refine WL.va rfl rfl rfl (X.assign rfl) ?_
      refine WL.nil ?_
      refine thn_n ?_
      refine WF.ret ?_
      refine fin_r ?_
      exact ⟨(refPart2 hr) ▸ hB, (Ext.trans (Ext.trans hx3 hwL0) hx26)⟩

theorem refIn_ok (v : Value) (l : List Bl) (lo hi : Int) (w : World) (h : Bls w v l) (hr : RightB l) : FnOk Try.prog 34 [v, agg [i64 lo, i64 hi]] w (fun r w' => Bls w' r (inB lo hi l) ∧ Ext w w') := by
  refine FnOk.enter (rs := [4]) Try.func34 rfl Try.ntmps34 Try.results34 rfl rfl ?_
  refine WF.seq ?_
  refine WF.region ?_
  refine WL.op rfl (OW.boxA (cs := [i64 lo, i64 hi]) rfl ?_ (by decide))
  intro g3 w1 heg3 hlg3 hO3 hx3
  have := World.grownBy.size hx3
  refine WL.va rfl rfl rfl (X.assign rfl) ?_
  refine WL.nil ?_
  refine thn_n ?_
  refine WF.seq ?_
  refine WF.region ?_
  refine WL.va rfl rfl rfl (X.move rfl) ?_
  refine WL.va rfl rfl rfl (X.loadOA hO3 (Ext.refl _) rfl rfl Try.isAgg30 Try.sizeOf30) ?_
  refine WL.c rfl rfl rfl (X.call Try.call55 (evl_cons rfl (evl_cons rfl (evl_cons rfl evl_nil)))) (refPart_ok _ l lo hi true _ (h.ext hx3) hr) ?_
  rintro v6 w5 ⟨hB, hx7⟩
  have := World.grownBy.size hx7
  refine WL.va rfl rfl rfl (X.assign rfl) ?_
  refine WL.nil ?_
  refine thn_n ?_
  refine WF.ret ?_
  refine fin_r ?_
  exact ⟨(show l.filter (fun x => inSp lo hi x.No == true) = inB lo hi l from by unfold inB; congr 1; funext x; cases inSp lo hi x.No <;> rfl) ▸ hB, (Ext.trans hx3 hx7)⟩

theorem refWithout_ok (v : Value) (l : List Bl) (lo hi : Int) (w : World) (h : Bls w v l) (hr : RightB l) : FnOk Try.prog 35 [v, agg [i64 lo, i64 hi]] w (fun r w' => Bls w' r (outB lo hi l) ∧ Ext w w') := by
  refine FnOk.enter (rs := [4]) Try.func35 rfl Try.ntmps35 Try.results35 rfl rfl ?_
  refine WF.seq ?_
  refine WF.region ?_
  refine WL.op rfl (OW.boxA (cs := [i64 lo, i64 hi]) rfl ?_ (by decide))
  intro g3 w1 heg3 hlg3 hO3 hx3
  have := World.grownBy.size hx3
  refine WL.va rfl rfl rfl (X.assign rfl) ?_
  refine WL.nil ?_
  refine thn_n ?_
  refine WF.seq ?_
  refine WF.region ?_
  refine WL.va rfl rfl rfl (X.move rfl) ?_
  refine WL.va rfl rfl rfl (X.loadOA hO3 (Ext.refl _) rfl rfl Try.isAgg30 Try.sizeOf30) ?_
  refine WL.c rfl rfl rfl (X.call Try.call55 (evl_cons rfl (evl_cons rfl (evl_cons rfl evl_nil)))) (refPart_ok _ l lo hi false _ (h.ext hx3) hr) ?_
  rintro v6 w5 ⟨hB, hx7⟩
  have := World.grownBy.size hx7
  refine WL.va rfl rfl rfl (X.assign rfl) ?_
  refine WL.nil ?_
  refine thn_n ?_
  refine WF.ret ?_
  refine fin_r ?_
  exact ⟨(show l.filter (fun x => inSp lo hi x.No == false) = outB lo hi l from by unfold outB; congr 1; funext x; cases inSp lo hi x.No <;> rfl) ▸ hB, (Ext.trans hx3 hx7)⟩

end Go.Proofs.Ytcaimmbhdfoniaa
