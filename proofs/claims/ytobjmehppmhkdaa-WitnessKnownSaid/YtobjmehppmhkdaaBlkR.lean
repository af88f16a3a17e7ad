/- The walks of the reference over blocks. -/
import Derived.Test.YtobjmehppmhkdaaRowsO
namespace Go.Proofs.Ytobjmehppmhkdaa
open Go Go.RowKit Kf
set_option maxRecDepth 20000

/-- blocks that lie from B on -/
structure BRng (w : World) (B : Nat) (v : Value) (E : List BV) : Prop where
  row : BOwnR w B v E
  data : ∀ e ∈ E, OwnB w B 5 e.2 e.1.Data
section
variable {w w' : World} {B B' B1 T1 : Nat} {v : Value} {E : List BV}
theorem BRng.ext (h : BRng w B v E) (k : Ext w w') : BRng w' B v E := ⟨own_ext h.row k, fun e he => own_ext (h.data e he) k⟩
theorem BRng.mono (h : BRng w B v E) (k : B' ≤ B) : BRng w B' v E := ⟨own_mono h.row k, fun e he => own_mono (h.data e he) k⟩
theorem BRng.bls (h : BRng w B v E) : Bls w v (E.map Prod.fst) := ⟨E, rfl, Row.of_own h.row, fun e he => Bytes.of_own (h.data e he)⟩
theorem BRng.blsE {l : List Bl} (h : BRng w B v E) (e : E.map Prod.fst = l) : Bls w v l := e ▸ h.bls
theorem BRng.nil (w : World) (B : Nat) : BRng w B (.slice none 0 0) [] := ⟨BOwnR.nil _ _, fun e he => by cases he⟩
theorem BRng.chg (h : BRng w B v E) (k : Chg B1 T1 w w') (hne : T1 ≤ B) : BRng w' B v E :=
  ⟨own_chg h.row k fun b hb => by have := (h.row.lt b hb).1; omega, fun e he => own_chg (h.data e he) k fun b hb => by have := ((h.data e he).lt b hb).1; omega⟩
end
set_option maxHeartbeats 800000 in
theorem refGet_ok (v : Value) (l : List Bl) (no : Int) (w : World) (h : Bls w v l) (hd : ∀ s ∈ l, s.Data.length ≤ 1000000) : FnOk Try.prog 91 [v, i64 no] w (fun r w' => OwnB w' w.heap.size 5 r (getB l no) ∧ Ext w w') := by
  obtain ⟨E, rfl, re, de⟩ := h
  have hle : (E.length : Int) ≤ 9223372036854775807 := by obtain ⟨_, c, _, h1, h2, _⟩ := re.shape; unfold maxLen at h2; omega
  refine FnOk.enter (rs := [4]) Try.func91 rfl Try.ntmps91 Try.results91 rfl rfl ?_
  refine WF.seq ?_
  refine WF.region ?_
  refine WL.va rfl rfl rfl (X.assign rfl) ?_
  refine WL.nil ?_
  refine thn_n ?_
  refine WF.seq ?_
  refine WF.seq ?_
  refine WF.region ?_
  refine WL.va rfl rfl rfl (X.assignI rfl) ?_
  refine WL.nil ?_
  refine thn_n ?_
  refine WF.block ?_
  refine WF.named (fun F1 hF2 => ?_)
  refine WF.loopN (fun mL0 f' w' => ∃ (k : Nat), mL0 = E.length - k ∧ f' 5 = .int .i64 (k : Int) ∧ Agree [0, 1] f' F1 ∧ Ext w w' ∧ k ≤ E.length ∧ getB (E.map Prod.fst) no = getB ((E.map Prod.fst).drop k) no) ?_ ?_
  · exact ⟨_, 0, rfl, (congrFun hF2 5), (Agree.refl _ _), (Ext.refl _), ⟨Nat.zero_le _, rfl⟩⟩
  · rintro mL0 fL0 wL0 ⟨k, hmL0, e5_L0, hAL0, hwL0, ⟨hk0, hno⟩⟩
    refine WF.seq ?_
    refine WF.seq ?_
    refine WF.region ?_
    refine WL.va rfl rfl rfl (X.moveI e5_L0) ?_
    refine WL.va rfl rfl rfl (X.move ((hAL0.eq 0).trans (congrFun hF2 0))) ?_
    refine WL.va rfl rfl rfl (X.len re rfl Try.underlying52) ?_
    refine WL.va rfl rfl rfl (X.lss rfl rfl) ?_
    refine WL.nil ?_
    refine thn_n ?_
    refine WF.cond rfl (fun h0_3 => ?_) (fun h0_3 => ?_)
    · have gh0_3 := (of_decide_eq_true h0_3)
      have hk : k < E.length := by omega
      have hdr := getB_drop (l := (E.map Prod.fst)) (n := no) (k := k) (by simpa using hk)
      rw [List.getElem_map] at hdr
      refine WF.skip ?_
      refine thn_n ?_
      refine WF.seq ?_
      refine WF.block ?_
      refine WF.seq ?_
      refine WF.region ?_
      refine WL.va rfl rfl rfl (X.move ((hAL0.eq 0).trans (congrFun hF2 0))) ?_
      refine WL.va rfl rfl rfl (X.moveI e5_L0) ?_
      refine WL.va rfl rfl rfl (X.idx re rfl rfl (by omega) Try.underlying52 Try.sizeOf74) ?_
      refine WL.va rfl rfl rfl (X.fieldAddrA rfl Try.underlying74 rfl rfl Try.sizeOf3) ?_
      refine WL.va rfl rfl rfl (X.loadE re hwL0 rfl (by omega) ((BRow.get hk (by decide)).trans rfl) Try.isAgg3) ?_
      refine WL.va rfl rfl rfl (X.moveI ((hAL0.eq 1).trans (congrFun hF2 1))) ?_
      refine WL.va rfl rfl rfl (X.eql rfl rfl) ?_
      refine WL.nil ?_
      refine thn_n ?_
      refine WF.cond rfl (fun h1_5 => ?_) (fun h1_5 => ?_)
      · have gh1_5 := (of_decide_eq_true h1_5)
        have hyes : getB (E.map Prod.fst) no = (E[k]'hk).1.Data := by rw [hno, hdr, if_pos gh1_5]
        refine WF.seq ?_
        refine WF.region ?_
        refine WL.va rfl rfl rfl (X.move ((hAL0.eq 0).trans (congrFun hF2 0))) ?_
        refine WL.va rfl rfl rfl (X.moveI e5_L0) ?_
        refine WL.va rfl rfl rfl (X.idx re rfl rfl (by omega) Try.underlying52 Try.sizeOf74) ?_
        refine WL.va rfl rfl rfl (X.fieldAddrA rfl Try.underlying74 rfl rfl Try.sizeOf36) ?_
        refine WL.va rfl rfl rfl (X.loadE re hwL0 rfl (by omega) ((BRow.get hk (by decide)).trans rfl) Try.isAgg36) ?_
        have szq := World.grownBy.size (show Ext w wL0 from hwL0)
        refine WL.c rfl rfl rfl (X.call Try.call25 (evl_cons rfl evl_nil)) (copyBytes_ok _ (E[k]'hk).1.Data _ (Row.ext (de _ (List.getElem_mem hk)) hwL0) (Nat.le_trans (hd _ (List.mem_map.2 ⟨_, List.getElem_mem hk, rfl⟩)) (by decide))) ?_
        rintro dv w7 ⟨od, hx8⟩
        refine WL.va rfl rfl rfl (X.assign rfl) ?_
        refine WL.nil ?_
        refine thn_n ?_
        refine WF.ret ?_
        refine blk_r ?_
        refine thn_r ?_
        refine thn_r ?_
        refine blk_r ?_
        refine thn_r ?_
        refine fin_r ?_
        exact ⟨by rw [hyes]; exact own_mono od szq, (Ext.trans hwL0 hx8)⟩
      · have gh1_5 := (of_decide_eq_false h1_5)
        have hnx : getB (E.map Prod.fst) no = getB ((E.map Prod.fst).drop (k + 1)) no := by rw [hno, hdr, if_neg gh1_5]
        refine WF.skip ?_
        refine blk_n ?_
        refine thn_n ?_
        refine WF.region ?_
        refine WL.va rfl rfl rfl (X.moveI e5_L0) ?_
        refine WL.va rfl rfl rfl (X.add rfl rfl (w64 (by omega))) ?_
        refine WL.va rfl rfl rfl (X.assignI rfl) ?_
        refine WL.nil ?_
        exact thn_n ⟨_, (by omega), k + 1, rfl, rfl, (by repeat (first | exact hAL0 | refine Agree.put ?_ rfl | refine Agree.named hF2 ?_)), hwL0, ⟨by omega, hnx⟩⟩
    · have gh0_3 := (of_decide_eq_false h0_3)
      refine WF.exit ?_
      refine thn_x ?_
      refine thn_x ?_
      refine blk_eq ?_
      refine thn_n ?_
      refine WF.seq ?_
      refine WF.region ?_
      have szm := World.grownBy.size (show Ext w wL0 from hwL0)
      refine WL.op rfl (OW.makeB (n := 4) rfl rfl Try.underlying36 Try.type5 rfl rfl rfl (by omega) ?_ (by decide))
      intro v10 w9 ho12 hx11
      have om := ho12
      refine WL.va rfl rfl rfl (X.assign rfl) ?_
      refine WL.nil ?_
      refine thn_n ?_
      refine WF.ret ?_
      refine fin_r ?_
      exact ⟨by rw [hno, List.drop_of_length_le (by simp; omega)]; exact own_mono om szm, (Ext.trans hwL0 hx11)⟩

theorem nought_ok (v : Value) (b : List UInt8) (w : World) (hb : Bytes w v b) : FnOk Try.prog 95 [v] w (fun r w' => r = .bool (decide (b = zero4)) ∧ Ext w w') := by
  refine FnOk.enter (rs := [2]) Try.func95 rfl Try.ntmps95 Try.results95 rfl rfl ?_
  refine WF.seq ?_
  refine WF.region ?_
  refine WL.va rfl rfl rfl (X.assignB rfl) ?_
  refine WL.nil ?_
  refine thn_n ?_
  refine WF.seq ?_
  refine WF.region ?_
  refine WL.va rfl rfl rfl (X.move rfl) ?_
  refine WL.op rfl (OW.makeB (n := 4) rfl rfl Try.underlying36 Try.type5 rfl rfl rfl (by omega) ?_ (by decide))
  intro v3 w2 ho5 hx4
  have om := ho5
  refine WL.c rfl rfl rfl (X.call Try.call84 (evl_cons rfl (evl_cons rfl evl_nil))) (sameBytes_ok _ _ b zero4 _ (Row.ext hb hx4) (Bytes.of_own om)) ?_
  rintro v7 w6 ⟨rfl, hx8⟩
  refine WL.va rfl rfl rfl (X.assignB rfl) ?_
  refine WL.nil ?_
  refine thn_n ?_
  refine WF.ret ?_
  refine fin_r ?_
  exact ⟨rfl, (Ext.trans hx4 hx8)⟩

set_option maxHeartbeats 800000 in
theorem rows_ok (v : Value) (l : List Bl) (w : World) (h : Bls w v l) (hd : ∀ s ∈ l, s.Data.length ≤ 1000000) : FnOk Try.prog 92 [v] w (fun r w' => (∃ C, C.length = 64 ∧ RowsO w' w.heap.size r C (rowsF l)) ∧ Ext w w') := by
  refine FnOk.enter (rs := [2]) Try.func92 rfl Try.ntmps92 Try.results92 rfl rfl ?_
  refine WF.seq ?_
  refine WF.region ?_
  refine WL.va rfl rfl rfl (X.assign rfl) ?_
  refine WL.nil ?_
  refine thn_n ?_
  refine WF.seq ?_
  refine WF.region ?_
  refine WL.va rfl rfl rfl (X.assign rfl) ?_
  refine WL.nil ?_
  refine thn_n ?_
  refine WF.seq ?_
  refine WF.seq ?_
  refine WF.region ?_
  refine WL.va rfl rfl rfl (X.assignI rfl) ?_
  refine WL.nil ?_
  refine thn_n ?_
  refine WF.block ?_
  refine WF.named (fun F1 hF2 => ?_)
  refine WF.loopN (fun mL0 f' w' => ∃ (k : Nat) (vo : Value) (C : List Value), mL0 = 64 - k ∧ f' 4 = .int .i64 (k : Int) ∧ f' 3 = vo ∧ Agree [0, 2] f' F1 ∧ Ext w w' ∧ k ≤ 64 ∧ C.length = k ∧ RowsO w' w.heap.size vo C (rowsF l)) ?_ ?_
  · exact ⟨_, 0, (.slice none 0 0), [], rfl, (congrFun hF2 4), (congrFun hF2 3), (Agree.refl _ _), (Ext.refl _), ⟨Nat.zero_le _, rfl, RowsO.nil _ _ _⟩⟩
  · rintro mL0 fL0 wL0 ⟨k, vo, C, hmL0, e4_L0, e3_L0, hAL0, hwL0, ⟨hk0, hC, ho⟩⟩
    refine WF.seq ?_
    refine WF.seq ?_
    refine WF.region ?_
    refine WL.va rfl rfl rfl (X.moveI e4_L0) ?_
    refine WL.va rfl rfl rfl (X.lss rfl rfl) ?_
    refine WL.nil ?_
    refine thn_n ?_
    refine WF.cond rfl (fun h0_3 => ?_) (fun h0_3 => ?_)
    · have gh0_3 := (of_decide_eq_true h0_3)
      have hk : k < 64 := by omega
      refine WF.skip ?_
      refine thn_n ?_
      refine WF.seq ?_
      refine WF.block ?_
      refine WF.region ?_
      refine WL.va rfl rfl rfl (X.move e3_L0) ?_
      refine WL.va rfl rfl rfl (X.move ((hAL0.eq 0).trans (congrFun hF2 0))) ?_
      refine WL.va rfl rfl rfl (X.moveI e4_L0) ?_
      have hoA := ho.ext (Ext.refl wL0)
      have hBz := World.grownBy.size (show Ext w wL0 from hwL0)
      refine WL.c rfl rfl rfl (X.call Try.call91 (evl_cons rfl (evl_cons rfl evl_nil))) (refGet_ok _ l (k : Int) _ (h.ext hwL0) hd) ?_
      rintro dv w5 ⟨od, hx6⟩
      have gq1 := hx6
      refine WL.op rfl (OW.lits (vs := [dv]) (evp_cons rfl evp_nil) Try.underlying116 Try.sizeOf36 Try.zeroValue36 ⟨own_sz od, trivial⟩ rfl rfl rfl ?_ (by decide))
      intro v8 w7 ho10 hx9
      have o1 := own1 ho10 (own_one od)
      have gq2 := hx9
      refine WL.op rfl (OW.append (bytes := 24) (own_ext (own_ext hoA.row gq1) gq2) (Row.of_own o1) (by intro u hu; rw [List.mem_singleton] at hu; subst hu; exact own_one od) rfl rfl Try.underlying116 Try.type36 rfl rfl rfl rfl (by decide) (by unfold maxLen; omega) (by omega) (Nat.le_trans hBz (Nat.le_trans (World.grownBy.size gq1) (World.grownBy.size gq2))) ?_ (by decide))
      intro v12 w11 ho14 hx13 hmvhx13
      have ho2 := hoA.app (hC ▸ od) gq1 gq2 ho14 hx13 hmvhx13 hBz
      refine WL.va rfl rfl rfl (X.assign rfl) ?_
      refine WL.nil ?_
      refine blk_n ?_
      refine thn_n ?_
      refine WF.region ?_
      refine WL.va rfl rfl rfl (X.moveI e4_L0) ?_
      refine WL.va rfl rfl rfl (X.add rfl rfl (w64 (by omega))) ?_
      refine WL.va rfl rfl rfl (X.assignI rfl) ?_
      refine WL.nil ?_
      exact thn_n ⟨_, (by omega), k + 1, _, _, rfl, rfl, rfl, (by repeat (first | exact hAL0 | refine Agree.put ?_ rfl | refine Agree.named hF2 ?_)), (Ext.own (Ext.trans (Ext.trans hwL0 hx6) hx9) (own_ext (own_ext hoA.row gq1) gq2) (Nat.le_refl _) hx13), ⟨by omega, by simp [hC], ho2⟩⟩
    · have gh0_3 := (of_decide_eq_false h0_3)
      refine WF.exit ?_
      refine thn_x ?_
      refine thn_x ?_
      refine blk_eq ?_
      refine thn_n ?_
      refine WF.seq ?_
      refine WF.region ?_
      refine WL.va rfl rfl rfl (X.move e3_L0) ?_
      refine WL.va rfl rfl rfl (X.assign rfl) ?_
      refine WL.nil ?_
      refine thn_n ?_
      refine WF.ret ?_
      refine fin_r ?_
      exact ⟨⟨C, by omega, ho⟩, hwL0⟩

set_option maxHeartbeats 1600000 in
theorem list_ok (v : Value) (C : List Value) (f : Nat → List UInt8) (B : Nat) (w : World) (h : RowsO w B v C f) (hl : C.length = 64) (hB : B ≤ w.heap.size) : FnOk Try.prog 93 [v] w (fun r w' => (∃ E, E.map Prod.fst = lstF f ∧ BRng w' B r E) ∧ Ext w w') := by
  refine FnOk.enter (rs := [2]) Try.func93 rfl Try.ntmps93 Try.results93 rfl rfl ?_
  refine WF.seq ?_
  refine WF.region ?_
  refine WL.va rfl rfl rfl (X.assign rfl) ?_
  refine WL.nil ?_
  refine thn_n ?_
  refine WF.seq ?_
  refine WF.region ?_
  refine WL.va rfl rfl rfl (X.assign rfl) ?_
  refine WL.nil ?_
  refine thn_n ?_
  refine WF.seq ?_
  refine WF.seq ?_
  refine WF.region ?_
  refine WL.va rfl rfl rfl (X.assignI rfl) ?_
  refine WL.nil ?_
  refine thn_n ?_
  refine WF.block ?_
  refine WF.named (fun F1 hF2 => ?_)
  refine WF.loopN (fun mL0 f' w' => ∃ (k : Nat) (vo : Value) (O : List BV), mL0 = 64 - k ∧ f' 4 = .int .i64 (k : Int) ∧ f' 3 = vo ∧ Agree [0, 2] f' F1 ∧ Ext w w' ∧ k ≤ 64 ∧ O.length ≤ k ∧ BOwnR w' w.heap.size vo O ∧ (∀ e ∈ O, OwnB w B 5 e.2 e.1.Data) ∧ O.map Prod.fst = lstK f k) ?_ ?_
  · exact ⟨_, 0, (.slice none 0 0), [], rfl, (congrFun hF2 4), (congrFun hF2 3), (Agree.refl _ _), (Ext.refl _), ⟨Nat.zero_le _, Nat.le_refl _, BOwnR.nil _ _, (fun e he => by cases he), rfl⟩⟩
  · rintro mL0 fL0 wL0 ⟨k, vo, O, hmL0, e4_L0, e3_L0, hAL0, hwL0, ⟨hk0, hOl, ho, hD, hO⟩⟩
    refine WF.seq ?_
    refine WF.seq ?_
    refine WF.region ?_
    refine WL.va rfl rfl rfl (X.moveI e4_L0) ?_
    refine WL.va rfl rfl rfl (X.lss rfl rfl) ?_
    refine WL.nil ?_
    refine thn_n ?_
    refine WF.cond rfl (fun h0_3 => ?_) (fun h0_3 => ?_)
    · have gh0_3 := (of_decide_eq_true h0_3)
      have hk : k < 64 := by omega
      refine WF.skip ?_
      refine thn_n ?_
      refine WF.seq ?_
      refine WF.block ?_
      refine WF.seq ?_
      refine WF.region ?_
      refine WL.va rfl rfl rfl (X.move ((hAL0.eq 0).trans (congrFun hF2 0))) ?_
      refine WL.va rfl rfl rfl (X.moveI e4_L0) ?_
      refine WL.va rfl rfl rfl (X.idx (Row.of_own h.row) rfl rfl (by omega) Try.underlying116 Try.sizeOf36) ?_
      refine WL.va rfl rfl rfl (X.load1 (Row.of_own h.row) hwL0 rfl (by omega) Try.isAgg36) ?_
      refine WL.c rfl rfl rfl (X.call Try.call95 (evl_cons rfl evl_nil)) (nought_ok _ (f k) _ (Row.ext (Bytes.of_own (h.data k (by omega))) hwL0)) ?_
      rintro v6 w5 ⟨rfl, hx7⟩
      refine WL.va rfl rfl rfl (X.not rfl) ?_
      refine WL.nil ?_
      refine thn_n ?_
      refine WF.cond rfl (fun h1_9 => ?_) (fun h1_9 => ?_)
      · have gh1_9 := (of_decide_eq_false (nt h1_9))
        have hp := gh1_9
        refine WF.region ?_
        refine WL.va rfl rfl rfl (X.move e3_L0) ?_
        refine WL.va rfl rfl rfl (X.moveI e4_L0) ?_
        refine WL.va rfl rfl rfl (X.move ((hAL0.eq 0).trans (congrFun hF2 0))) ?_
        refine WL.va rfl rfl rfl (X.moveI e4_L0) ?_
        refine WL.va rfl rfl rfl (X.idx (Row.of_own h.row) rfl rfl (by omega) Try.underlying116 Try.sizeOf36) ?_
        refine WL.va rfl rfl rfl (X.load1 (Row.of_own h.row) (Ext.trans hwL0 hx7) rfl (by omega) Try.isAgg36) ?_
        refine WL.va rfl rfl rfl (X.buildL (P := Try.prog) (t := 74) (cs := (BV.c ((⟨(k : Int), f k⟩ : Bl), (C.getD k undef)))) (evp_cons rfl (evp_cons rfl evp_nil)) Try.type74 Try.underlying74 rfl rfl ⟨rfl, own_one (h.data k (by omega)), trivial⟩ rfl) ?_
        refine WL.op rfl (OW.lits (vs := [agg (BV.c ((⟨(k : Int), f k⟩ : Bl), (C.getD k undef)))]) (evp_cons rfl evp_nil) Try.underlying52 Try.sizeOf74 Try.zeroValue74 ⟨rfl, trivial⟩ rfl rfl rfl ?_ (by decide))
        intro v12 w11 ho14 hx13
        have o1 : World.ownsRow w11 _ 74 2 v12 1 (BV.c ((⟨(k : Int), f k⟩ : Bl), (C.getD k undef))) := ho14
        have hoP := own_ext ho (show Ext wL0 w11 from (Ext.trans hx7 hx13))
        have hwP := (show Ext w w11 from (Ext.trans (Ext.trans hwL0 hx7) hx13))
        refine WL.op rfl (OW.append (bytes := 32) hoP (Row.of_own o1) (BV.c_one (e := ((⟨(k : Int), f k⟩ : Bl), (C.getD k undef))) (Bytes.of_own (h.data k (by omega)))) rfl rfl Try.underlying52 Try.type74 rfl rfl rfl rfl (by decide) (by unfold maxLen; omega) (by omega) (World.grownBy.size hwP) ?_ (by decide))
        intro v16 w15 ho18 hx17 hmvhx17
        have ho2 := BOwnR.app ho18
        have hD2 : ∀ e ∈ O ++ [((⟨(k : Int), f k⟩ : Bl), (C.getD k undef))], OwnB w B 5 e.2 e.1.Data := fun e he => by
          rcases List.mem_append.1 he with he | he
          · exact hD e he
          · rw [List.mem_singleton] at he; subst he; exact h.data k (by omega)
        refine WL.va rfl rfl rfl (X.assign rfl) ?_
        refine WL.nil ?_
        refine blk_n ?_
        refine thn_n ?_
        refine WF.region ?_
        refine WL.va rfl rfl rfl (X.moveI e4_L0) ?_
        refine WL.va rfl rfl rfl (X.add rfl rfl (w64 (by omega))) ?_
        refine WL.va rfl rfl rfl (X.assignI rfl) ?_
        refine WL.nil ?_
        first | exact thn_n ⟨_, (by omega), k + 1, _, _, rfl, rfl, rfl, (by repeat (first | exact hAL0 | refine Agree.put ?_ rfl | refine Agree.named hF2 ?_)), (Ext.own hwP hoP (Nat.le_refl _) hx17), ⟨by omega, by simp; omega, ho2, hD2, by rw [lstK_succ, List.map_append, hO, if_neg hp]; rfl⟩⟩ | exact thn_n ⟨_, (by omega), k + 1, _, _, rfl, rfl, rfl, (by repeat (first | exact hAL0 | refine Agree.put ?_ rfl | refine Agree.named hF2 ?_)), (Ext.own hwP hoP (Nat.le_refl _) hx17), ⟨by omega, by omega, ho9, hD, by rw [lstK_succ, hO, if_pos hp, List.append_nil]⟩⟩
      · have gh1_9 := (of_decide_eq_true (nf h1_9))
        have hp := gh1_9
        have ho9 := own_ext ho (show Ext wL0 w5 from hx7)
        refine WF.skip ?_
        refine blk_n ?_
        refine thn_n ?_
        refine WF.region ?_
        refine WL.va rfl rfl rfl (X.moveI e4_L0) ?_
        refine WL.va rfl rfl rfl (X.add rfl rfl (w64 (by omega))) ?_
        refine WL.va rfl rfl rfl (X.assignI rfl) ?_
        refine WL.nil ?_
        first | exact thn_n ⟨_, (by omega), k + 1, _, _, rfl, rfl, e3_L0, (by repeat (first | exact hAL0 | refine Agree.put ?_ rfl | refine Agree.named hF2 ?_)), (Ext.trans hwL0 hx7), ⟨by omega, by simp; omega, ho2, hD2, by rw [lstK_succ, List.map_append, hO, if_neg hp]; rfl⟩⟩ | exact thn_n ⟨_, (by omega), k + 1, _, _, rfl, rfl, e3_L0, (by repeat (first | exact hAL0 | refine Agree.put ?_ rfl | refine Agree.named hF2 ?_)), (Ext.trans hwL0 hx7), ⟨by omega, by omega, ho9, hD, by rw [lstK_succ, hO, if_pos hp, List.append_nil]⟩⟩
    · have gh0_3 := (of_decide_eq_false h0_3)
      refine WF.exit ?_
      refine thn_x ?_
      refine thn_x ?_
      refine blk_eq ?_
      refine thn_n ?_
      refine WF.seq ?_
      refine WF.region ?_
      refine WL.va rfl rfl rfl (X.move e3_L0) ?_
      refine WL.va rfl rfl rfl (X.assign rfl) ?_
      refine WL.nil ?_
      refine thn_n ?_
      refine WF.ret ?_
      refine fin_r ?_
      obtain rfl : k = 64 := by omega
      exact ⟨⟨O, hO, own_mono ho hB, fun e he => own_ext (hD e he) hwL0⟩, hwL0⟩

set_option maxHeartbeats 800000 in
theorem refSet_ok (v : Value) (l : List Bl) (no : Int) (vb : Value) (b : List UInt8) (w : World) (h : Bls w v l) (hr : RightB l) (hb : Bytes w vb b) : FnOk Try.prog 86 [v, i64 no, vb] w (fun r w' => (∃ E, E.map Prod.fst = setB l no b ∧ BRng w' w.heap.size r E) ∧ Ext w w') := by
  refine FnOk.enter (rs := [6]) Try.func86 rfl Try.ntmps86 Try.results86 rfl rfl ?_
  refine WF.seq ?_
  refine WF.region ?_
  refine WL.va rfl rfl rfl (X.assign rfl) ?_
  refine WL.nil ?_
  refine thn_n ?_
  refine WF.seq ?_
  refine WF.region ?_
  refine WL.va rfl rfl rfl (X.move rfl) ?_
  refine WL.c rfl rfl rfl (X.call Try.call92 (evl_cons rfl evl_nil)) (rows_ok _ l _ h (fun s hs => by have := (hr.each s hs).2.2.1; omega)) ?_
  rintro vr wr ⟨⟨C, hC, oC⟩, hx1⟩
  have szw := World.grownBy.size hx1
  refine WL.va rfl rfl rfl (X.assign rfl) ?_
  refine WL.nil ?_
  refine thn_n ?_
  refine WF.seq ?_
  refine WF.seq ?_
  refine WF.region ?_
  refine WL.va rfl rfl rfl (X.moveI rfl) ?_
  refine WL.va rfl rfl rfl (X.geq rfl rfl) ?_
  refine WL.va rfl rfl rfl (X.moveB rfl) ?_
  refine WL.split (j := 2) rfl (fun h3 => ?_) (fun h3 => ?_)
  · have gh3 := (of_decide_eq_true h3)
    have h0 := gh3
    refine WL.vg rfl (congrArg some h3) rfl rfl (X.moveI rfl) ?_
    refine WL.vg rfl (congrArg some h3) rfl rfl (X.lss rfl rfl) ?_
    refine WL.va rfl rfl rfl (X.pickT rfl h3 rfl) ?_
    refine WL.va rfl rfl rfl (X.moveB rfl) ?_
    refine WL.split (j := 6) rfl (fun h5 => ?_) (fun h5 => ?_)
    · have gh5 := (of_decide_eq_true h5)
      have h1 := gh5
      refine WL.vg rfl (congrArg some h5) rfl rfl (X.move rfl) ?_
      refine WL.vg rfl (congrArg some h5) rfl rfl (X.len hb rfl Try.underlying36) ?_
      refine WL.vg rfl (congrArg some h5) rfl rfl (X.eql rfl rfl) ?_
      refine WL.va rfl rfl rfl (X.pickT rfl h5 rfl) ?_
      refine WL.nil ?_
      refine thn_n ?_
      refine WF.cond rfl (fun h0_6 => ?_) (fun h0_6 => ?_)
      · have gh0_6 := (of_decide_eq_true h0_6)
        have hok : okB no b = true := decide_eq_true ⟨by omega, by omega, by omega⟩
        have hb4 := (of_decide_eq_true hok).2.2
        obtain ⟨m, rfl⟩ : ∃ m : Nat, no = (m : Int) := ⟨no.toNat, by omega⟩
        refine WF.region ?_
        refine WL.va rfl rfl rfl (X.move rfl) ?_
        refine WL.va rfl rfl rfl (X.moveI rfl) ?_
        refine WL.va rfl rfl rfl (X.move rfl) ?_
        have szc := World.grownBy.size (show Ext wr wr from (Ext.refl _))
        refine WL.c rfl rfl rfl (X.call Try.call25 (evl_cons rfl evl_nil)) (copyBytes_ok _ b _ (Row.ext hb hx1) (by omega)) ?_
        rintro dv w8 ⟨od, hx9⟩
        have gq1 := hx9
        refine WL.va rfl rfl rfl (X.idx (Row.of_own oC.row) rfl rfl (by omega) Try.underlying116 Try.sizeOf36) ?_
        have hg1 := (show Ext wr w8 from hx9)
        have szr := World.grownBy.size (show Ext w w8 from (Ext.trans hx1 hx9))
        refine WL.op rfl (OW.storeOwn (own_ext oC.row hg1) (by omega) rfl rfl (own_one od) Try.sizeOf36 ?_)
        intro w10 ho13 hx12
        have oL := oC.set od (fun b h1 h2 => by have := (od.lt b h1).1; have := (oC.row.lt b h2).2; omega) hg1 ho13 hx12 (by omega)
        have hCL : (C.set m dv).length = 64 := by rw [List.length_set]; exact hC
        have heq : lstF (fun n => if n = m then b else rowsF l n) = setB l (m : Int) b := by rw [← updF_ok hok, refSet_eq hr]
        refine WL.nil ?_
        refine thn_n ?_
        refine WF.seq ?_
        refine WF.region ?_
        refine WL.va rfl rfl rfl (X.move rfl) ?_
        refine WL.c rfl rfl rfl (X.call Try.call93 (evl_cons rfl evl_nil)) (list_ok _ _ _ _ _ oL hCL (World.grownBy.size (show Ext w w10 from (Ext.own (Ext.trans hx1 hx9) (own_ext oC.row hg1) (Nat.le_refl _) hx12)))) ?_
        rintro v15 w14 ⟨⟨E3, hE3, hB⟩, hx16⟩
        refine WL.va rfl rfl rfl (X.assign rfl) ?_
        refine WL.nil ?_
        refine thn_n ?_
        refine WF.ret ?_
        refine fin_r ?_
        exact ⟨⟨E3, hE3.trans heq, hB⟩, (Ext.trans (Ext.own (Ext.trans hx1 hx9) (own_ext oC.row hg1) (Nat.le_refl _) hx12) hx16)⟩
      · have gh0_6 := (of_decide_eq_false h0_6)
        have hbad : okB no b = false := decide_eq_false (by omega)
        have oL := oC.ext (show Ext wr wr from (Ext.refl _))
        have hCL := hC
        have heq : lstF (rowsF l) = setB l no b := by rw [← refSet_eq hr, updF_no hbad]
        refine WF.skip ?_
        refine thn_n ?_
        refine WF.seq ?_
        refine WF.region ?_
        refine WL.va rfl rfl rfl (X.move rfl) ?_
        refine WL.c rfl rfl rfl (X.call Try.call93 (evl_cons rfl evl_nil)) (list_ok _ _ _ _ _ oL hCL (World.grownBy.size (show Ext w wr from hx1))) ?_
        rintro v18 w17 ⟨⟨E3, hE3, hB⟩, hx19⟩
        refine WL.va rfl rfl rfl (X.assign rfl) ?_
        refine WL.nil ?_
        refine thn_n ?_
        refine WF.ret ?_
        refine fin_r ?_
        exact ⟨⟨E3, hE3.trans heq, hB⟩, (Ext.trans hx1 hx19)⟩
    · have gh5 := (of_decide_eq_false h5)
      have hbad : okB no b = false := decide_eq_false (by omega)
      have oL := oC.ext (show Ext wr wr from (Ext.refl _))
      have hCL := hC
      have heq : lstF (rowsF l) = setB l no b := by rw [← refSet_eq hr, updF_no hbad]
      refine WL.p rfl rfl rfl (congrArg some h5) ?_
      refine WL.p rfl rfl rfl (congrArg some h5) ?_
      refine WL.p rfl rfl rfl (congrArg some h5) ?_
      refine WL.va rfl rfl rfl (X.pickF rfl h5 rfl) ?_
      refine WL.nil ?_
      refine thn_n ?_
      refine WF.cond_f rfl ?_
      refine WF.skip ?_
      refine thn_n ?_
      refine WF.seq ?_
      refine WF.region ?_
      refine WL.va rfl rfl rfl (X.move rfl) ?_
      refine WL.c rfl rfl rfl (X.call Try.call93 (evl_cons rfl evl_nil)) (list_ok _ _ _ _ _ oL hCL (World.grownBy.size (show Ext w wr from hx1))) ?_
      rintro v22 w21 ⟨⟨E3, hE3, hB⟩, hx23⟩
      refine WL.va rfl rfl rfl (X.assign rfl) ?_
      refine WL.nil ?_
      refine thn_n ?_
      refine WF.ret ?_
      refine fin_r ?_
      exact ⟨⟨E3, hE3.trans heq, hB⟩, (Ext.trans hx1 hx23)⟩
  · have gh3 := (of_decide_eq_false h3)
    have hbad : okB no b = false := decide_eq_false (by omega)
    have oL := oC.ext (show Ext wr wr from (Ext.refl _))
    have hCL := hC
    have heq : lstF (rowsF l) = setB l no b := by rw [← refSet_eq hr, updF_no hbad]
    refine WL.p rfl rfl rfl (congrArg some h3) ?_
    refine WL.p rfl rfl rfl (congrArg some h3) ?_
    refine WL.va rfl rfl rfl (X.pickF rfl h3 rfl) ?_
    refine WL.va rfl rfl rfl (X.moveB rfl) ?_
    refine WL.p rfl rfl rfl rfl ?_
    refine WL.p rfl rfl rfl rfl ?_
    refine WL.p rfl rfl rfl rfl ?_
    refine WL.va rfl rfl rfl (X.pickF rfl rfl rfl) ?_
    refine WL.nil ?_
    refine thn_n ?_
    refine WF.cond_f rfl ?_
    refine WF.skip ?_
    refine thn_n ?_
    refine WF.seq ?_
    refine WF.region ?_
    refine WL.va rfl rfl rfl (X.move rfl) ?_
    refine WL.c rfl rfl rfl (X.call Try.call93 (evl_cons rfl evl_nil)) (list_ok _ _ _ _ _ oL hCL (World.grownBy.size (show Ext w wr from hx1))) ?_
    rintro v27 w26 ⟨⟨E3, hE3, hB⟩, hx28⟩
    refine WL.va rfl rfl rfl (X.assign rfl) ?_
    refine WL.nil ?_
    refine thn_n ?_
    refine WF.ret ?_
    refine fin_r ?_
    exact ⟨⟨E3, hE3.trans heq, hB⟩, (Ext.trans hx1 hx28)⟩

end Go.Proofs.Ytobjmehppmhkdaa
