/- The walks of the kit's functions over messages. -/
import Derived.Test.YtccbpfbcaogcnaaMgL
namespace Go.Proofs.Ytccbpfbcaogcnaa
open Go Go.RowKit Kf
set_option maxRecDepth 20000
theorem Mg.eq_iff {a b : Mg} : a = b ↔ a.n = b.n ∧ a.ok = b.ok ∧ a.E = b.E ∧ a.D = b.D := by
  cases a; cases b; simp
instance : DecidableEq Mg := fun _ _ => decidable_of_iff _ Mg.eq_iff.symm
theorem n_eq {a b : List Int} (ha : a.length = 14) (hb : b.length = 14) (h0 : a.getD 0 0 = b.getD 0 0) (h1 : a.getD 1 0 = b.getD 1 0) (h2 : a.getD 2 0 = b.getD 2 0) (h3 : a.getD 3 0 = b.getD 3 0) (h4 : a.getD 4 0 = b.getD 4 0) (h5 : a.getD 5 0 = b.getD 5 0) (h6 : a.getD 6 0 = b.getD 6 0) (h7 : a.getD 7 0 = b.getD 7 0) (h8 : a.getD 8 0 = b.getD 8 0) (h9 : a.getD 9 0 = b.getD 9 0) (h10 : a.getD 10 0 = b.getD 10 0) (h11 : a.getD 11 0 = b.getD 11 0) (h12 : a.getD 12 0 = b.getD 12 0) (h13 : a.getD 13 0 = b.getD 13 0) : a = b := by
  match a, ha, b, hb with
  | [a0, a1, a2, a3, a4, a5, a6, a7, a8, a9, a10, a11, a12, a13], _, [b0, b1, b2, b3, b4, b5, b6, b7, b8, b9, b10, b11, b12, b13], _ =>
    obtain rfl : a0 = b0 := h0
    obtain rfl : a1 = b1 := h1
    obtain rfl : a2 = b2 := h2
    obtain rfl : a3 = b3 := h3
    obtain rfl : a4 = b4 := h4
    obtain rfl : a5 = b5 := h5
    obtain rfl : a6 = b6 := h6
    obtain rfl : a7 = b7 := h7
    obtain rfl : a8 = b8 := h8
    obtain rfl : a9 = b9 := h9
    obtain rfl : a10 = b10 := h10
    obtain rfl : a11 = b11 := h11
    obtain rfl : a12 = b12 := h12
    obtain rfl : a13 = b13 := h13
    rfl
theorem ecell {E : List EV} {cs : List Value} {k : Nat} (hk : k < E.length) (h : cs.drop (k * 3) = (E.flatMap EV.c).drop (k * 3)) : cs[k * 3 + 2]? = some E[k].2 := by
  have e : (cs.drop (k * 3))[2]? = ((E.flatMap EV.c).drop (k * 3))[2]? := by rw [h]
  rw [List.getElem?_drop, List.getElem?_drop] at e
  rw [e, ERow.get hk (by decide)]
  rfl
theorem enext {E : List EV} {cs ds : List Value} {k : Nat} (hk : k < E.length) (hl : cs.length = E.length * 3) (hd : ds.length = 3) (h : cs.drop (k * 3) = (E.flatMap EV.c).drop (k * 3)) : (cs.take (k * 3) ++ ds ++ cs.drop (k * 3 + 3)).drop ((k + 1) * 3) = (E.flatMap EV.c).drop ((k + 1) * 3) := by
  have h2 : cs.drop (k * 3 + 3) = (E.flatMap EV.c).drop (k * 3 + 3) := by rw [← List.drop_drop, ← List.drop_drop, h]
  rw [show (k + 1) * 3 = k * 3 + 3 by omega, ← h2]
  exact List.drop_left' (by simp; omega)
theorem chg_new {a b c : World} {B T : Nat} {row : Option Nat} (h : Chg B T a b) (k : b.grownBy c row) (hr : ∀ g, row = some g → a.heap.size ≤ g) : Chg B T a c :=
  ⟨k.os.trans h.os, k.tape.trans h.tape, k.output.trans h.output, Nat.le_trans h.size k.size, fun i hi hn => (k.block i (Nat.lt_of_lt_of_le hi h.size) (fun e => by have := hr i e.symm; omega)).trans (h.block i hi hn)⟩
theorem chg_wide {w w' : World} {B T T2 : Nat} (h : Chg B T w w') (hT : T ≤ T2) : Chg B T2 w w' := ⟨h.os, h.tape, h.output, h.size, fun i hi hn => h.block i hi (by omega)⟩
/-- small enough to be gone through -/
structure Mg.small (m : Mg) : Prop where
  E : m.E.length ≤ 1000000
  D : m.D.length ≤ 1000000
  ED : ∀ e ∈ m.E, e.Data.length ≤ 1000000

theorem sameE_ok (a b : EV) (w : World) (ha : Bytes w a.2 a.1.Data) (hb : Bytes w b.2 b.1.Data) : FnOk Try.prog 72 [agg (EV.c a), agg (EV.c b)] w (fun r w' => r = .bool (decide (a.1 = b.1)) ∧ Ext w w') := by
  refine FnOk.enter (rs := [4]) Try.func72 rfl Try.ntmps72 Try.results72 rfl rfl ?_
  refine WF.seq ?_
  refine WF.region ?_
  refine WL.op rfl (OW.boxA (cs := (EV.c a)) rfl ?_ (by decide))
  intro g2 w1 heg2 hlg2 hO2 hx3
  have := World.grownBy.size hx3
  refine WL.op rfl (OW.boxA (cs := (EV.c b)) rfl ?_ (by decide))
  intro g3 w5 heg3 hlg3 hO3 hx7
  have := World.grownBy.size hx7
  refine WL.va rfl rfl rfl (X.assignB rfl) ?_
  refine WL.nil ?_
  refine thn_n ?_
  refine WF.seq ?_
  refine WF.region ?_
  refine WL.va rfl rfl rfl (X.fieldAddrO (off := 0) rfl Try.underlying57 rfl rfl Try.sizeOf3) ?_
  refine WL.va rfl rfl rfl (X.loadO hO2 hx7 rfl rfl Try.isAgg3) ?_
  refine WL.va rfl rfl rfl (X.fieldAddrO (off := 0) rfl Try.underlying57 rfl rfl Try.sizeOf3) ?_
  refine WL.va rfl rfl rfl (X.loadO hO3 (Ext.refl _) rfl rfl Try.isAgg3) ?_
  refine WL.va rfl rfl rfl (X.eql rfl rfl) ?_
  refine WL.va rfl rfl rfl (X.moveB rfl) ?_
  refine WL.split (j := 5) rfl (fun h11 => ?_) (fun h11 => ?_)
  · have gh11 := (of_decide_eq_true h11)
    have hc0 := gh11
    refine WL.vg rfl (congrArg some h11) rfl rfl (X.fieldAddrO (off := 1) rfl Try.underlying57 rfl rfl Try.sizeOf3) ?_
    refine WL.vg rfl (congrArg some h11) rfl rfl (X.loadO hO2 hx7 rfl rfl Try.isAgg3) ?_
    refine WL.vg rfl (congrArg some h11) rfl rfl (X.fieldAddrO (off := 1) rfl Try.underlying57 rfl rfl Try.sizeOf3) ?_
    refine WL.vg rfl (congrArg some h11) rfl rfl (X.loadO hO3 (Ext.refl _) rfl rfl Try.isAgg3) ?_
    refine WL.vg rfl (congrArg some h11) rfl rfl (X.eql rfl rfl) ?_
    refine WL.va rfl rfl rfl (X.pickT rfl h11 rfl) ?_
    refine WL.va rfl rfl rfl (X.moveB rfl) ?_
    refine WL.split (j := 12) rfl (fun h13 => ?_) (fun h13 => ?_)
    · have gh13 := (of_decide_eq_true h13)
      have hc1 := gh13
      refine WL.vg rfl (congrArg some h13) rfl rfl (X.fieldAddrO (off := 2) rfl Try.underlying57 rfl rfl Try.sizeOf23) ?_
      refine WL.vg rfl (congrArg some h13) rfl rfl (X.loadO hO2 hx7 rfl rfl Try.isAgg23) ?_
      refine WL.vg rfl (congrArg some h13) rfl rfl (X.fieldAddrO (off := 2) rfl Try.underlying57 rfl rfl Try.sizeOf23) ?_
      refine WL.vg rfl (congrArg some h13) rfl rfl (X.loadO hO3 (Ext.refl _) rfl rfl Try.isAgg23) ?_
      refine WL.cg rfl (congrArg some h13) rfl rfl (X.call Try.call18 (evl_cons rfl (evl_cons rfl evl_nil))) (sameBytes_ok _ _ a.1.Data b.1.Data _ (Row.ext ha (Ext.trans hx3 hx7)) (Row.ext hb (Ext.trans hx3 hx7))) ?_
      rintro v15 w14 ⟨rfl, hx16⟩
      have := World.grownBy.size hx16
      refine WL.va rfl rfl rfl (X.pickT rfl h13 rfl) ?_
      refine WL.va rfl rfl rfl (X.assignB rfl) ?_
      refine WL.nil ?_
      refine thn_n ?_
      refine WF.ret ?_
      refine fin_r ?_
      first | exact ⟨congrArg Value.bool (decide_eq_false hne).symm, (Ext.trans (Ext.trans hx3 hx7) hx16)⟩ | exact ⟨congrArg Value.bool (decide_eq_decide.2 (by rw [En.eq_iff]; simp [hc0, hc1])), (Ext.trans (Ext.trans hx3 hx7) hx16)⟩
    · have gh13 := (of_decide_eq_false h13)
      have hne : ¬ a.1 = b.1 := fun e => gh13 (by rw [e])
      refine WL.p rfl rfl rfl (congrArg some h13) ?_
      refine WL.p rfl rfl rfl (congrArg some h13) ?_
      refine WL.p rfl rfl rfl (congrArg some h13) ?_
      refine WL.p rfl rfl rfl (congrArg some h13) ?_
      refine WL.p rfl rfl rfl (congrArg some h13) ?_
      refine WL.va rfl rfl rfl (X.pickF rfl h13 rfl) ?_
      refine WL.va rfl rfl rfl (X.assignB rfl) ?_
      refine WL.nil ?_
      refine thn_n ?_
      refine WF.ret ?_
      refine fin_r ?_
      first | exact ⟨congrArg Value.bool (decide_eq_false hne).symm, (Ext.trans hx3 hx7)⟩ | exact ⟨congrArg Value.bool (decide_eq_decide.2 (by rw [En.eq_iff]; simp [hc0, hc1])), (Ext.trans hx3 hx7)⟩
  · have gh11 := (of_decide_eq_false h11)
    have hne : ¬ a.1 = b.1 := fun e => gh11 (by rw [e])
    refine WL.p rfl rfl rfl (congrArg some h11) ?_
    refine WL.p rfl rfl rfl (congrArg some h11) ?_
    refine WL.p rfl rfl rfl (congrArg some h11) ?_
    refine WL.p rfl rfl rfl (congrArg some h11) ?_
    refine WL.p rfl rfl rfl (congrArg some h11) ?_
    refine WL.va rfl rfl rfl (X.pickF rfl h11 rfl) ?_
    refine WL.va rfl rfl rfl (X.moveB rfl) ?_
    refine WL.p rfl rfl rfl rfl ?_
    refine WL.p rfl rfl rfl rfl ?_
    refine WL.p rfl rfl rfl rfl ?_
    refine WL.p rfl rfl rfl rfl ?_
    refine WL.p rfl rfl rfl rfl ?_
    refine WL.va rfl rfl rfl (X.pickF rfl rfl rfl) ?_
    refine WL.va rfl rfl rfl (X.assignB rfl) ?_
    refine WL.nil ?_
    refine thn_n ?_
    refine WF.ret ?_
    refine fin_r ?_
    first | exact ⟨congrArg Value.bool (decide_eq_false hne).symm, (Ext.trans hx3 hx7)⟩ | exact ⟨congrArg Value.bool (decide_eq_decide.2 (by rw [En.eq_iff]; simp [hc0, hc1])), (Ext.trans hx3 hx7)⟩

set_option maxHeartbeats 800000 in
theorem sameEs_ok (va vb : Value) (la lb : List En) (w : World) (ha : Ens w va la) (hb : Ens w vb lb) : FnOk Try.prog 50 [va, vb] w (fun r w' => r = .bool (decide (la = lb)) ∧ Ext w w') := by
  obtain ⟨Ea, rfl, ra, da⟩ := ha
  obtain ⟨Eb, rfl, rb, db⟩ := hb
  have hla : (Ea.length : Int) ≤ 9223372036854775807 := by obtain ⟨_, c, _, h1, h2, _⟩ := ra.shape; unfold maxLen at h2; omega
  refine FnOk.enter (rs := [4]) Try.func50 rfl Try.ntmps50 Try.results50 rfl rfl ?_
  refine WF.seq ?_
  refine WF.region ?_
  refine WL.va rfl rfl rfl (X.assignB rfl) ?_
  refine WL.nil ?_
  refine thn_n ?_
  refine WF.seq ?_
  refine WF.seq ?_
  refine WF.region ?_
  refine WL.va rfl rfl rfl (X.move rfl) ?_
  refine WL.va rfl rfl rfl (X.len ra rfl Try.underlying22) ?_
  refine WL.va rfl rfl rfl (X.move rfl) ?_
  refine WL.va rfl rfl rfl (X.len rb rfl Try.underlying22) ?_
  refine WL.va rfl rfl rfl (X.neq rfl rfl) ?_
  refine WL.nil ?_
  refine thn_n ?_
  refine WF.cond rfl (fun h0_2 => ?_) (fun h0_2 => ?_)
  · have gh0_2 := (of_decide_eq_true h0_2)
    have hne : Ea.map Prod.fst ≠ Eb.map Prod.fst := fun e => by have := congrArg List.length e; simp at this; omega
    refine WF.seq ?_
    refine WF.region ?_
    refine WL.va rfl rfl rfl (X.assignB rfl) ?_
    refine WL.nil ?_
    refine thn_n ?_
    refine WF.ret ?_
    refine thn_r ?_
    refine fin_r ?_
    exact ⟨congrArg Value.bool (decide_eq_false hne).symm, (Ext.refl _)⟩
  · have gh0_2 := (Decidable.of_not_not (of_decide_eq_false h0_2))
    refine WF.skip ?_
    refine thn_n ?_
    refine WF.seq ?_
    refine WF.seq ?_
    refine WF.region ?_
    refine WL.va rfl rfl rfl (X.assignI rfl) ?_
    refine WL.nil ?_
    refine thn_n ?_
    refine WF.block ?_
    refine WF.named (fun F5 hF6 => ?_)
    refine WF.loopN (fun mL0 f' w' => ∃ (k : Nat), mL0 = Ea.length - k ∧ f' 5 = .int .i64 (k : Int) ∧ Agree [0, 1, 6, 7, 8, 9, 10] f' F5 ∧ Ext w w' ∧ k ≤ Ea.length ∧ (Ea.map Prod.fst).take k = (Eb.map Prod.fst).take k) ?_ ?_
    · exact ⟨_, 0, rfl, (congrFun hF6 5), (Agree.refl _ _), (Ext.refl _), ⟨Nat.zero_le _, rfl⟩⟩
    · rintro mL0 fL0 wL0 ⟨k, hmL0, e5_L0, hAL0, hwL0, ⟨hk, hkk⟩⟩
      refine WF.seq ?_
      refine WF.seq ?_
      refine WF.region ?_
      refine WL.va rfl rfl rfl (X.moveI e5_L0) ?_
      refine WL.va rfl rfl rfl (X.move ((hAL0.eq 0).trans (congrFun hF6 0))) ?_
      refine WL.va rfl rfl rfl (X.len ra rfl Try.underlying22) ?_
      refine WL.va rfl rfl rfl (X.lss rfl rfl) ?_
      refine WL.nil ?_
      refine thn_n ?_
      refine WF.cond rfl (fun h1_7 => ?_) (fun h1_7 => ?_)
      · have gh1_7 := (of_decide_eq_true h1_7)
        refine WF.skip ?_
        refine thn_n ?_
        refine WF.seq ?_
        refine WF.block ?_
        refine WF.seq ?_
        refine WF.drawn (.q 0 (.q 1 (.q 2 (.q 3 (.q 4 (.q 5 (.q 6 (.q 7 (.l 8 (.q 9 .nil)))))))))) (fun w' => Ext wL0 w') 10 (by kernel_rfl) (by kernel_rfl) (Ext.drew _) ?_
        refine WO.q rfl rfl rfl rfl (fun w' hE9 => (X.move ((hAL0.eq 0).trans (congrFun hF6 0)))) ?_
        refine WO.q rfl rfl rfl rfl (fun w' hE9 => (X.moveI e5_L0)) ?_
        refine WO.q rfl rfl rfl rfl (fun w' hE9 => (X.idx ra rfl rfl (by omega) Try.underlying22 Try.sizeOf57)) ?_
        refine WO.q rfl rfl rfl rfl (fun w' hE9 => (X.loadEl ra (Ext.trans hwL0 hE9) rfl (by omega) (ERow.el (E := Ea) (k := k) (by omega)) Try.isAgg57 Try.sizeOf57)) ?_
        refine WO.q rfl rfl rfl rfl (fun w' hE9 => (X.move ((hAL0.eq 1).trans (congrFun hF6 1)))) ?_
        refine WO.q rfl rfl rfl rfl (fun w' hE9 => (X.moveI e5_L0)) ?_
        refine WO.q rfl rfl rfl rfl (fun w' hE9 => (X.idx rb rfl rfl (by omega) Try.underlying22 Try.sizeOf57)) ?_
        refine WO.q rfl rfl rfl rfl (fun w' hE9 => (X.loadEl rb (Ext.trans hwL0 hE9) rfl (by omega) (ERow.el (E := Eb) (k := k) (by omega)) Try.isAgg57 Try.sizeOf57)) ?_
        refine WO.l ?_
        refine LO.go rfl rfl (OW.enter rfl (by decide) (X.call Try.call72 (evl_cons rfl (evl_cons rfl evl_nil))) (sameE_ok (Ea[k]'(by omega)) (Eb[k]'(by omega)) _ (Row.ext (da _ (List.getElem_mem _)) (Ext.trans hwL0 (Ext.drew _))) (Row.ext (db _ (List.getElem_mem _)) (Ext.trans hwL0 (Ext.drew _)))) ?_)
        rintro v11 w10 ⟨rfl, hx12⟩
        refine ⟨(Ext.trans (Ext.drew _) hx12), ?_⟩
        refine WO.q rfl rfl rfl rfl (fun w' hE9 => (X.not rfl)) ?_
        refine WO.nil ?_
        refine WL.nil ?_
        refine thn_n ?_
        refine WF.cond rfl (fun h2_14 => ?_) (fun h2_14 => ?_)
        · have gh2_14 := (of_decide_eq_false (nt h2_14))
          have hne : Ea.map Prod.fst ≠ Eb.map Prod.fst := fun e => gh2_14 (by have := congrArg (fun z => z[k]?) e; simpa [List.getElem?_eq_getElem (show k < Ea.length by omega), List.getElem?_eq_getElem (show k < Eb.length by omega)] using this)
          refine WF.seq ?_
          refine WF.region ?_
          refine WL.va rfl rfl rfl (X.assignB rfl) ?_
          refine WL.nil ?_
          refine thn_n ?_
          refine WF.ret ?_
          refine blk_r ?_
          refine thn_r ?_
          refine thn_r ?_
          refine blk_r ?_
          refine thn_r ?_
          refine fin_r ?_
          exact ⟨congrArg Value.bool (decide_eq_false hne).symm, (Ext.trans (Ext.trans hwL0 (Ext.drew _)) hx12)⟩
        · have gh2_14 := (of_decide_eq_true (nf h2_14))
          have heq := gh2_14
          refine WF.skip ?_
          refine blk_n ?_
          refine thn_n ?_
          refine WF.region ?_
          refine WL.va rfl rfl rfl (X.moveI e5_L0) ?_
          refine WL.va rfl rfl rfl (X.add rfl rfl (w64 (by omega))) ?_
          refine WL.va rfl rfl rfl (X.assignI rfl) ?_
          refine WL.nil ?_
          exact thn_n ⟨_, (by omega), k + 1, rfl, rfl, (by repeat (first | exact hAL0 | refine Agree.put ?_ rfl | refine Agree.named hF6 ?_)), (Ext.trans (Ext.trans hwL0 (Ext.drew _)) hx12), ⟨by omega, by rw [take_map (by omega), take_map (by omega), hkk, heq]⟩⟩
      · have gh1_7 := (of_decide_eq_false h1_7)
        refine WF.exit ?_
        refine thn_x ?_
        refine thn_x ?_
        refine blk_eq ?_
        refine thn_n ?_
        refine WF.seq ?_
        refine WF.region ?_
        refine WL.va rfl rfl rfl (X.assignB rfl) ?_
        refine WL.nil ?_
        refine thn_n ?_
        refine WF.ret ?_
        refine fin_r ?_
        exact ⟨congrArg Value.bool (decide_eq_true (by rw [List.take_of_length_le (by simp; omega), List.take_of_length_le (by simp; omega)] at hkk; exact hkk)).symm, hwL0⟩

set_option maxHeartbeats 1600000 in
theorem copyEs_ok (v : Value) (l : List En) (w : World) (h : Ens w v l) (hm : l.length ≤ 1000000) (hd : ∀ s ∈ l, s.Data.length ≤ 1000000) : FnOk Try.prog 42 [v] w (fun r w' => (∃ F, F.map Prod.fst = l ∧ EOwn w' w.heap.size r F) ∧ Ext w w') := by
  obtain ⟨E, rfl, re, de⟩ := h
  simp only [List.length_map] at hm
  refine FnOk.enter (rs := [2]) Try.func42 rfl Try.ntmps42 Try.results42 rfl rfl ?_
  refine WF.seq ?_
  refine WF.region ?_
  refine WL.va rfl rfl rfl (X.assign rfl) ?_
  refine WL.nil ?_
  refine thn_n ?_
  refine WF.seq ?_
  refine WF.region ?_
  refine WL.va rfl rfl rfl (X.assign rfl) ?_
  refine WL.nil ?_
  refine thn_n ?_
  refine WF.seq ?_
  refine WF.seq ?_
  refine WF.region ?_
  refine WL.va rfl rfl rfl (X.assignI rfl) ?_
  refine WL.nil ?_
  refine thn_n ?_
  refine WF.block ?_
  refine WF.named (fun F1 hF2 => ?_)
  refine WF.loopN (fun mL0 f' w' => ∃ (k : Nat) (vo : Value) (O : List EV), mL0 = E.length - k ∧ f' 4 = .int .i64 (k : Int) ∧ f' 3 = vo ∧ Agree [0, 2] f' F1 ∧ Ext w w' ∧ k ≤ E.length ∧ O.length = k ∧ EOwn w' w.heap.size vo O ∧ O.map Prod.fst = (E.map Prod.fst).take k) ?_ ?_
  · exact ⟨_, 0, (.slice none 0 0), [], rfl, (congrFun hF2 4), (congrFun hF2 3), (Agree.refl _ _), (Ext.refl _), ⟨Nat.zero_le _, rfl, EOwn.nil _ _, rfl⟩⟩
  · rintro mL0 fL0 wL0 ⟨k, vo, O, hmL0, e4_L0, e3_L0, hAL0, hwL0, ⟨hk0, hOl, ho, hO⟩⟩
    refine WF.seq ?_
    refine WF.seq ?_
    refine WF.region ?_
    refine WL.va rfl rfl rfl (X.moveI e4_L0) ?_
    refine WL.va rfl rfl rfl (X.move ((hAL0.eq 0).trans (congrFun hF2 0))) ?_
    refine WL.va rfl rfl rfl (X.len re rfl Try.underlying22) ?_
    refine WL.va rfl rfl rfl (X.lss rfl rfl) ?_
    refine WL.nil ?_
    refine thn_n ?_
    refine WF.cond rfl (fun h0_3 => ?_) (fun h0_3 => ?_)
    · have gh0_3 := (of_decide_eq_true h0_3)
      have hk : k < E.length := by omega
      refine WF.skip ?_
      refine thn_n ?_
      refine WF.seq ?_
      refine WF.block ?_
      refine WF.drawn (.q 0 (.q 1 (.q 2 (.q 3 (.q 4 (.q 5 (.q 6 (.q 7 (.q 8 (.q 9 (.q 10 (.q 11 (.q 12 (.q 13 (.q 14 (.q 15 (.l 16 (.q 17 (.l 18 .nil))))))))))))))))))) (fun w' => Ext wL0 w') 19 (by kernel_rfl) (by kernel_rfl) (Ext.drew _) ?_
      refine WO.q rfl rfl rfl rfl (fun w' hE5 => (X.move e3_L0)) ?_
      refine WO.q rfl rfl rfl rfl (fun w' hE5 => (X.move ((hAL0.eq 0).trans (congrFun hF2 0)))) ?_
      refine WO.q rfl rfl rfl rfl (fun w' hE5 => (X.moveI e4_L0)) ?_
      refine WO.q rfl rfl rfl rfl (fun w' hE5 => (X.idx re rfl rfl (by omega) Try.underlying22 Try.sizeOf57)) ?_
      refine WO.q rfl rfl rfl rfl (fun w' hE5 => (X.fieldAddrA rfl Try.underlying57 rfl rfl Try.sizeOf3)) ?_
      refine WO.q rfl rfl rfl rfl (fun w' hE5 => (X.loadE re (Ext.trans hwL0 hE5) rfl (by omega) ((ERow.get hk (by decide)).trans rfl) Try.isAgg3)) ?_
      refine WO.q rfl rfl rfl rfl (fun w' hE5 => (X.move ((hAL0.eq 0).trans (congrFun hF2 0)))) ?_
      refine WO.q rfl rfl rfl rfl (fun w' hE5 => (X.moveI e4_L0)) ?_
      refine WO.q rfl rfl rfl rfl (fun w' hE5 => (X.idx re rfl rfl (by omega) Try.underlying22 Try.sizeOf57)) ?_
      refine WO.q rfl rfl rfl rfl (fun w' hE5 => (X.fieldAddrA rfl Try.underlying57 rfl rfl Try.sizeOf3)) ?_
      refine WO.q rfl rfl rfl rfl (fun w' hE5 => (X.loadE re (Ext.trans hwL0 hE5) rfl (by omega) ((ERow.get hk (by decide)).trans rfl) Try.isAgg3)) ?_
      refine WO.q rfl rfl rfl rfl (fun w' hE5 => (X.move ((hAL0.eq 0).trans (congrFun hF2 0)))) ?_
      refine WO.q rfl rfl rfl rfl (fun w' hE5 => (X.moveI e4_L0)) ?_
      refine WO.q rfl rfl rfl rfl (fun w' hE5 => (X.idx re rfl rfl (by omega) Try.underlying22 Try.sizeOf57)) ?_
      refine WO.q rfl rfl rfl rfl (fun w' hE5 => (X.fieldAddrA rfl Try.underlying57 rfl rfl Try.sizeOf23)) ?_
      refine WO.q rfl rfl rfl rfl (fun w' hE5 => (X.loadE re (Ext.trans hwL0 hE5) rfl (by omega) ((ERow.get hk (by decide)).trans rfl) Try.isAgg23)) ?_
      refine WO.l ?_
      have hoA := ho.ext (Ext.drew _)
      have hBz := World.grownBy.size (show Ext w wL0.drew from (Ext.trans hwL0 (Ext.drew _)))
      refine LO.go rfl rfl (OW.enter rfl (by decide) (X.call Try.call27 (evl_cons rfl evl_nil)) (copyBytes_ok _ (E[k]'hk).1.Data _ (Row.ext (de _ (List.getElem_mem hk)) (Ext.trans hwL0 (Ext.drew _))) (Nat.le_trans (hd _ (List.mem_map.2 ⟨_, List.getElem_mem hk, rfl⟩)) (by decide))) ?_)
      rintro dv w6 ⟨od, hx7⟩
      refine ⟨(Ext.trans (Ext.drew _) hx7), ?_⟩
      have gq1 := hx7
      refine WO.q rfl rfl rfl rfl (fun w' hE5 => (X.buildL (P := Try.prog) (t := 57) (cs := (EV.c ((E[k]'hk).1, dv))) (evp_cons rfl (evp_cons rfl (evp_cons rfl evp_nil))) Try.type57 Try.underlying57 rfl rfl ⟨rfl, rfl, own_one od, trivial⟩ rfl)) ?_
      refine WO.l ?_
      refine LO.go rfl rfl (OW.lits (vs := [agg (EV.c ((E[k]'hk).1, dv))]) (evp_cons rfl evp_nil) Try.underlying22 Try.sizeOf57 Try.zeroValue57 ⟨rfl, trivial⟩ rfl rfl rfl ?_ (by decide))
      intro v9 w8 ho11 hx10
      have o1 : World.ownsRow w8 _ 57 3 v9 1 (EV.c ((E[k]'hk).1, dv)) := ho11
      have gq2 := hx10
      refine ⟨(Ext.trans (Ext.trans (Ext.drew _) hx7) hx10), ?_⟩
      refine WO.nil ?_
      refine WL.op rfl (OW.append (bytes := 40) (own_ext (own_ext hoA.row gq1) gq2) (Row.of_own o1) (EV.c_one (e := ((E[k]'hk).1, dv)) (Bytes.of_own od)) rfl rfl Try.underlying22 Try.type57 rfl rfl rfl rfl (by decide) (by unfold maxLen; omega) (by omega) (Nat.le_trans hBz (Nat.le_trans (World.grownBy.size gq1) (World.grownBy.size gq2))) ?_ (by decide))
      intro v13 w12 ho15 hx14 hmvhx14
      have ho2 := hoA.app (s := (E[k]'hk).1) od gq1 gq2 ho15 hx14 hmvhx14 hBz
      refine WL.va rfl rfl rfl (X.assign rfl) ?_
      refine WL.nil ?_
      refine blk_n ?_
      refine thn_n ?_
      refine WF.region ?_
      refine WL.va rfl rfl rfl (X.moveI e4_L0) ?_
      refine WL.va rfl rfl rfl (X.add rfl rfl (w64 (by omega))) ?_
      refine WL.va rfl rfl rfl (X.assignI rfl) ?_
      refine WL.nil ?_
      exact thn_n ⟨_, (by omega), k + 1, _, _, rfl, rfl, rfl, (by repeat (first | exact hAL0 | refine Agree.put ?_ rfl | refine Agree.named hF2 ?_)), (Ext.own (Ext.trans (Ext.trans (Ext.trans hwL0 (Ext.drew _)) hx7) hx10) (own_ext (own_ext hoA.row gq1) gq2) (Nat.le_refl _) hx14), ⟨by omega, by simp [hOl], ho2, by rw [take_map hk, List.map_append, hO]; rfl⟩⟩
    · have gh0_3 := (of_decide_eq_false h0_3)
      refine WF.exit ?_
      refine thn_x ?_
      refine thn_x ?_
      refine blk_eq ?_
      refine thn_n ?_
      refine WF.seq ?_
      refine WF.region ?_
      refine WL.va rfl rfl rfl (X.move e3_L0) ?_
      refine WL.va rfl rfl rfl (X.assign rfl) ?_
      refine WL.nil ?_
      refine thn_n ?_
      refine WF.ret ?_
      refine fin_r ?_
      exact ⟨⟨_, by rw [hO, List.take_of_length_le (by simp; omega)], ho⟩, hwL0⟩

set_option maxHeartbeats 4000000 in
theorem sameMsg_ok (a b : Mg) (ea da eb db : Value) (w : World) (ha : MgAt w ea da a) (hb : MgAt w eb db b) : FnOk Try.prog 20 [agg (mc a.n a.ok ea da), agg (mc b.n b.ok eb db)] w (fun r w' => r = .bool (decide (a = b)) ∧ Ext w w') := by
  refine FnOk.enter (rs := [4]) Try.func20 rfl Try.ntmps20 Try.results20 rfl rfl ?_
  refine WF.seq ?_
  refine WF.region ?_
  refine WL.op rfl (OW.boxA (cs := (mc a.n a.ok ea da)) rfl ?_ (by decide))
  intro g2 w1 heg2 hlg2 hO2 hx3
  have := World.grownBy.size hx3
  refine WL.op rfl (OW.boxA (cs := (mc b.n b.ok eb db)) rfl ?_ (by decide))
  intro g3 w5 heg3 hlg3 hO3 hx7
  have := World.grownBy.size hx7
  refine WL.va rfl rfl rfl (X.assignB rfl) ?_
  refine WL.nil ?_
  refine thn_n ?_
  refine WF.seq ?_
  refine WF.region ?_
  refine WL.va rfl rfl rfl (X.fieldAddrO (off := 0) rfl Try.underlying25 rfl rfl Try.sizeOf3) ?_
  refine WL.va rfl rfl rfl (X.loadO hO2 hx7 rfl rfl Try.isAgg3) ?_
  refine WL.va rfl rfl rfl (X.fieldAddrO (off := 0) rfl Try.underlying25 rfl rfl Try.sizeOf3) ?_
  refine WL.va rfl rfl rfl (X.loadO hO3 (Ext.refl _) rfl rfl Try.isAgg3) ?_
  refine WL.va rfl rfl rfl (X.eql rfl rfl) ?_
  refine WL.va rfl rfl rfl (X.moveB rfl) ?_
  refine WL.split (j := 5) rfl (fun h11 => ?_) (fun h11 => ?_)
  · have gh11 := (of_decide_eq_true h11)
    refine WL.vg rfl (congrArg some h11) rfl rfl (X.fieldAddrO (off := 1) rfl Try.underlying25 rfl rfl Try.sizeOf3) ?_
    refine WL.vg rfl (congrArg some h11) rfl rfl (X.loadO hO2 hx7 rfl rfl Try.isAgg3) ?_
    refine WL.vg rfl (congrArg some h11) rfl rfl (X.fieldAddrO (off := 1) rfl Try.underlying25 rfl rfl Try.sizeOf3) ?_
    refine WL.vg rfl (congrArg some h11) rfl rfl (X.loadO hO3 (Ext.refl _) rfl rfl Try.isAgg3) ?_
    refine WL.vg rfl (congrArg some h11) rfl rfl (X.eql rfl rfl) ?_
    refine WL.va rfl rfl rfl (X.pickT rfl h11 rfl) ?_
    refine WL.va rfl rfl rfl (X.moveB rfl) ?_
    refine WL.split (j := 12) rfl (fun h13 => ?_) (fun h13 => ?_)
    · have gh13 := (of_decide_eq_true h13)
      refine WL.vg rfl (congrArg some h13) rfl rfl (X.fieldAddrO (off := 2) rfl Try.underlying25 rfl rfl Try.sizeOf3) ?_
      refine WL.vg rfl (congrArg some h13) rfl rfl (X.loadO hO2 hx7 rfl rfl Try.isAgg3) ?_
      refine WL.vg rfl (congrArg some h13) rfl rfl (X.fieldAddrO (off := 2) rfl Try.underlying25 rfl rfl Try.sizeOf3) ?_
      refine WL.vg rfl (congrArg some h13) rfl rfl (X.loadO hO3 (Ext.refl _) rfl rfl Try.isAgg3) ?_
      refine WL.vg rfl (congrArg some h13) rfl rfl (X.eql rfl rfl) ?_
      refine WL.va rfl rfl rfl (X.pickT rfl h13 rfl) ?_
      refine WL.va rfl rfl rfl (X.moveB rfl) ?_
      refine WL.split (j := 19) rfl (fun h15 => ?_) (fun h15 => ?_)
      · have gh15 := (of_decide_eq_true h15)
        refine WL.vg rfl (congrArg some h15) rfl rfl (X.fieldAddrO (off := 3) rfl Try.underlying25 rfl rfl Try.sizeOf3) ?_
        refine WL.vg rfl (congrArg some h15) rfl rfl (X.loadO hO2 hx7 rfl rfl Try.isAgg3) ?_
        refine WL.vg rfl (congrArg some h15) rfl rfl (X.fieldAddrO (off := 3) rfl Try.underlying25 rfl rfl Try.sizeOf3) ?_
        refine WL.vg rfl (congrArg some h15) rfl rfl (X.loadO hO3 (Ext.refl _) rfl rfl Try.isAgg3) ?_
        refine WL.vg rfl (congrArg some h15) rfl rfl (X.eql rfl rfl) ?_
        refine WL.va rfl rfl rfl (X.pickT rfl h15 rfl) ?_
        refine WL.va rfl rfl rfl (X.moveB rfl) ?_
        refine WL.split (j := 26) rfl (fun h17 => ?_) (fun h17 => ?_)
        · have gh17 := (of_decide_eq_true h17)
          refine WL.vg rfl (congrArg some h17) rfl rfl (X.fieldAddrO (off := 4) rfl Try.underlying25 rfl rfl Try.sizeOf3) ?_
          refine WL.vg rfl (congrArg some h17) rfl rfl (X.loadO hO2 hx7 rfl rfl Try.isAgg3) ?_
          refine WL.vg rfl (congrArg some h17) rfl rfl (X.fieldAddrO (off := 4) rfl Try.underlying25 rfl rfl Try.sizeOf3) ?_
          refine WL.vg rfl (congrArg some h17) rfl rfl (X.loadO hO3 (Ext.refl _) rfl rfl Try.isAgg3) ?_
          refine WL.vg rfl (congrArg some h17) rfl rfl (X.eql rfl rfl) ?_
          refine WL.va rfl rfl rfl (X.pickT rfl h17 rfl) ?_
          refine WL.va rfl rfl rfl (X.moveB rfl) ?_
          refine WL.split (j := 33) rfl (fun h19 => ?_) (fun h19 => ?_)
          · have gh19 := (of_decide_eq_true h19)
            refine WL.vg rfl (congrArg some h19) rfl rfl (X.fieldAddrO (off := 5) rfl Try.underlying25 rfl rfl Try.sizeOf3) ?_
            refine WL.vg rfl (congrArg some h19) rfl rfl (X.loadO hO2 hx7 rfl rfl Try.isAgg3) ?_
            refine WL.vg rfl (congrArg some h19) rfl rfl (X.fieldAddrO (off := 5) rfl Try.underlying25 rfl rfl Try.sizeOf3) ?_
            refine WL.vg rfl (congrArg some h19) rfl rfl (X.loadO hO3 (Ext.refl _) rfl rfl Try.isAgg3) ?_
            refine WL.vg rfl (congrArg some h19) rfl rfl (X.eql rfl rfl) ?_
            refine WL.va rfl rfl rfl (X.pickT rfl h19 rfl) ?_
            refine WL.va rfl rfl rfl (X.moveB rfl) ?_
            refine WL.split (j := 40) rfl (fun h21 => ?_) (fun h21 => ?_)
            · have gh21 := (of_decide_eq_true h21)
              refine WL.vg rfl (congrArg some h21) rfl rfl (X.fieldAddrO (off := 6) rfl Try.underlying25 rfl rfl Try.sizeOf3) ?_
              refine WL.vg rfl (congrArg some h21) rfl rfl (X.loadO hO2 hx7 rfl rfl Try.isAgg3) ?_
              refine WL.vg rfl (congrArg some h21) rfl rfl (X.fieldAddrO (off := 6) rfl Try.underlying25 rfl rfl Try.sizeOf3) ?_
              refine WL.vg rfl (congrArg some h21) rfl rfl (X.loadO hO3 (Ext.refl _) rfl rfl Try.isAgg3) ?_
              refine WL.vg rfl (congrArg some h21) rfl rfl (X.eql rfl rfl) ?_
              refine WL.va rfl rfl rfl (X.pickT rfl h21 rfl) ?_
              refine WL.va rfl rfl rfl (X.moveB rfl) ?_
              refine WL.split (j := 47) rfl (fun h23 => ?_) (fun h23 => ?_)
              · have gh23 := (of_decide_eq_true h23)
                refine WL.vg rfl (congrArg some h23) rfl rfl (X.fieldAddrO (off := 7) rfl Try.underlying25 rfl rfl Try.sizeOf3) ?_
                refine WL.vg rfl (congrArg some h23) rfl rfl (X.loadO hO2 hx7 rfl rfl Try.isAgg3) ?_
                refine WL.vg rfl (congrArg some h23) rfl rfl (X.fieldAddrO (off := 7) rfl Try.underlying25 rfl rfl Try.sizeOf3) ?_
                refine WL.vg rfl (congrArg some h23) rfl rfl (X.loadO hO3 (Ext.refl _) rfl rfl Try.isAgg3) ?_
                refine WL.vg rfl (congrArg some h23) rfl rfl (X.eql rfl rfl) ?_
                refine WL.va rfl rfl rfl (X.pickT rfl h23 rfl) ?_
                refine WL.va rfl rfl rfl (X.moveB rfl) ?_
                refine WL.split (j := 54) rfl (fun h25 => ?_) (fun h25 => ?_)
                · have gh25 := (of_decide_eq_true h25)
                  refine WL.vg rfl (congrArg some h25) rfl rfl (X.fieldAddrO (off := 8) rfl Try.underlying25 rfl rfl Try.sizeOf3) ?_
                  refine WL.vg rfl (congrArg some h25) rfl rfl (X.loadO hO2 hx7 rfl rfl Try.isAgg3) ?_
                  refine WL.vg rfl (congrArg some h25) rfl rfl (X.fieldAddrO (off := 8) rfl Try.underlying25 rfl rfl Try.sizeOf3) ?_
                  refine WL.vg rfl (congrArg some h25) rfl rfl (X.loadO hO3 (Ext.refl _) rfl rfl Try.isAgg3) ?_
                  refine WL.vg rfl (congrArg some h25) rfl rfl (X.eql rfl rfl) ?_
                  refine WL.va rfl rfl rfl (X.pickT rfl h25 rfl) ?_
                  refine WL.va rfl rfl rfl (X.assignB rfl) ?_
                  refine WL.nil ?_
                  refine thn_n ?_
                  refine WF.seq ?_
                  refine WF.region ?_
                  refine WL.va rfl rfl rfl (X.moveB rfl) ?_
                  refine WL.va rfl rfl rfl (X.moveB rfl) ?_
                  refine WL.split (j := 1) rfl (fun h27 => ?_) (fun h27 => ?_)
                  · have gh27 := (of_decide_eq_true h27)
                    refine WL.vg rfl (congrArg some h27) rfl rfl (X.fieldAddrO (off := 9) rfl Try.underlying25 rfl rfl Try.sizeOf3) ?_
                    refine WL.vg rfl (congrArg some h27) rfl rfl (X.loadO hO2 hx7 rfl rfl Try.isAgg3) ?_
                    refine WL.vg rfl (congrArg some h27) rfl rfl (X.fieldAddrO (off := 9) rfl Try.underlying25 rfl rfl Try.sizeOf3) ?_
                    refine WL.vg rfl (congrArg some h27) rfl rfl (X.loadO hO3 (Ext.refl _) rfl rfl Try.isAgg3) ?_
                    refine WL.vg rfl (congrArg some h27) rfl rfl (X.eql rfl rfl) ?_
                    refine WL.va rfl rfl rfl (X.pickT rfl h27 rfl) ?_
                    refine WL.va rfl rfl rfl (X.moveB rfl) ?_
                    refine WL.split (j := 8) rfl (fun h29 => ?_) (fun h29 => ?_)
                    · have gh29 := (of_decide_eq_true h29)
                      refine WL.vg rfl (congrArg some h29) rfl rfl (X.fieldAddrO (off := 10) rfl Try.underlying25 rfl rfl Try.sizeOf3) ?_
                      refine WL.vg rfl (congrArg some h29) rfl rfl (X.loadO hO2 hx7 rfl rfl Try.isAgg3) ?_
                      refine WL.vg rfl (congrArg some h29) rfl rfl (X.fieldAddrO (off := 10) rfl Try.underlying25 rfl rfl Try.sizeOf3) ?_
                      refine WL.vg rfl (congrArg some h29) rfl rfl (X.loadO hO3 (Ext.refl _) rfl rfl Try.isAgg3) ?_
                      refine WL.vg rfl (congrArg some h29) rfl rfl (X.eql rfl rfl) ?_
                      refine WL.va rfl rfl rfl (X.pickT rfl h29 rfl) ?_
                      refine WL.va rfl rfl rfl (X.moveB rfl) ?_
                      refine WL.split (j := 15) rfl (fun h31 => ?_) (fun h31 => ?_)
                      · have gh31 := (of_decide_eq_true h31)
                        refine WL.vg rfl (congrArg some h31) rfl rfl (X.fieldAddrO (off := 11) rfl Try.underlying25 rfl rfl Try.sizeOf3) ?_
                        refine WL.vg rfl (congrArg some h31) rfl rfl (X.loadO hO2 hx7 rfl rfl Try.isAgg3) ?_
                        refine WL.vg rfl (congrArg some h31) rfl rfl (X.fieldAddrO (off := 11) rfl Try.underlying25 rfl rfl Try.sizeOf3) ?_
                        refine WL.vg rfl (congrArg some h31) rfl rfl (X.loadO hO3 (Ext.refl _) rfl rfl Try.isAgg3) ?_
                        refine WL.vg rfl (congrArg some h31) rfl rfl (X.eql rfl rfl) ?_
                        refine WL.va rfl rfl rfl (X.pickT rfl h31 rfl) ?_
                        refine WL.va rfl rfl rfl (X.moveB rfl) ?_
                        refine WL.split (j := 22) rfl (fun h33 => ?_) (fun h33 => ?_)
                        · have gh33 := (of_decide_eq_true h33)
                          refine WL.vg rfl (congrArg some h33) rfl rfl (X.fieldAddrO (off := 12) rfl Try.underlying25 rfl rfl Try.sizeOf3) ?_
                          refine WL.vg rfl (congrArg some h33) rfl rfl (X.loadO hO2 hx7 rfl rfl Try.isAgg3) ?_
                          refine WL.vg rfl (congrArg some h33) rfl rfl (X.fieldAddrO (off := 12) rfl Try.underlying25 rfl rfl Try.sizeOf3) ?_
                          refine WL.vg rfl (congrArg some h33) rfl rfl (X.loadO hO3 (Ext.refl _) rfl rfl Try.isAgg3) ?_
                          refine WL.vg rfl (congrArg some h33) rfl rfl (X.eql rfl rfl) ?_
                          refine WL.va rfl rfl rfl (X.pickT rfl h33 rfl) ?_
                          refine WL.va rfl rfl rfl (X.moveB rfl) ?_
                          refine WL.split (j := 29) rfl (fun h35 => ?_) (fun h35 => ?_)
                          · have gh35 := (of_decide_eq_true h35)
                            refine WL.vg rfl (congrArg some h35) rfl rfl (X.fieldAddrO (off := 13) rfl Try.underlying25 rfl rfl Try.sizeOf3) ?_
                            refine WL.vg rfl (congrArg some h35) rfl rfl (X.loadO hO2 hx7 rfl rfl Try.isAgg3) ?_
                            refine WL.vg rfl (congrArg some h35) rfl rfl (X.fieldAddrO (off := 13) rfl Try.underlying25 rfl rfl Try.sizeOf3) ?_
                            refine WL.vg rfl (congrArg some h35) rfl rfl (X.loadO hO3 (Ext.refl _) rfl rfl Try.isAgg3) ?_
                            refine WL.vg rfl (congrArg some h35) rfl rfl (X.eql rfl rfl) ?_
                            refine WL.va rfl rfl rfl (X.pickT rfl h35 rfl) ?_
                            refine WL.va rfl rfl rfl (X.moveB rfl) ?_
                            refine WL.split (j := 36) rfl (fun h37 => ?_) (fun h37 => ?_)
                            · have gh37 := (of_decide_eq_true h37)
                              refine WL.vg rfl (congrArg some h37) rfl rfl (X.fieldAddrO (off := 14) rfl Try.underlying25 rfl rfl Try.sizeOf4) ?_
                              refine WL.vg rfl (congrArg some h37) rfl rfl (X.loadO hO2 hx7 rfl rfl Try.isAgg4) ?_
                              refine WL.vg rfl (congrArg some h37) rfl rfl (X.fieldAddrO (off := 14) rfl Try.underlying25 rfl rfl Try.sizeOf4) ?_
                              refine WL.vg rfl (congrArg some h37) rfl rfl (X.loadO hO3 (Ext.refl _) rfl rfl Try.isAgg4) ?_
                              refine WL.vg rfl (congrArg some h37) rfl rfl (X.eqlB rfl rfl Try.underlying4) ?_
                              refine WL.va rfl rfl rfl (X.pickT rfl h37 rfl) ?_
                              refine WL.va rfl rfl rfl (X.moveB rfl) ?_
                              refine WL.split (j := 43) rfl (fun h41 => ?_) (fun h41 => ?_)
                              · have gh41 := h41
                                refine WL.vg rfl (congrArg some h41) rfl rfl (X.fieldAddrO (off := 15) rfl Try.underlying25 rfl rfl Try.sizeOf22) ?_
                                refine WL.vg rfl (congrArg some h41) rfl rfl (X.loadO hO2 hx7 rfl rfl Try.isAgg22) ?_
                                refine WL.vg rfl (congrArg some h41) rfl rfl (X.fieldAddrO (off := 15) rfl Try.underlying25 rfl rfl Try.sizeOf22) ?_
                                refine WL.vg rfl (congrArg some h41) rfl rfl (X.loadO hO3 (Ext.refl _) rfl rfl Try.isAgg22) ?_
                                refine WL.cg rfl (congrArg some h41) rfl rfl (X.call Try.call50 (evl_cons rfl (evl_cons rfl evl_nil))) (sameEs_ok _ _ _ _ _ (ha.E.ext (Ext.trans hx3 hx7)) (hb.E.ext (Ext.trans hx3 hx7))) ?_
                                rintro v43 w42 ⟨rfl, hx44⟩
                                have := World.grownBy.size hx44
                                refine WL.va rfl rfl rfl (X.pickT rfl h41 rfl) ?_
                                refine WL.va rfl rfl rfl (X.moveB rfl) ?_
                                refine WL.split (j := 50) rfl (fun h46 => ?_) (fun h46 => ?_)
                                · have gh46 := (of_decide_eq_true h46)
                                  refine WL.vg rfl (congrArg some h46) rfl rfl (X.fieldAddrO (off := 16) rfl Try.underlying25 rfl rfl Try.sizeOf23) ?_
                                  refine WL.vg rfl (congrArg some h46) rfl rfl (X.loadO hO2 (Ext.trans hx7 hx44) rfl rfl Try.isAgg23) ?_
                                  refine WL.vg rfl (congrArg some h46) rfl rfl (X.fieldAddrO (off := 16) rfl Try.underlying25 rfl rfl Try.sizeOf23) ?_
                                  refine WL.vg rfl (congrArg some h46) rfl rfl (X.loadO hO3 hx44 rfl rfl Try.isAgg23) ?_
                                  refine WL.cg rfl (congrArg some h46) rfl rfl (X.call Try.call18 (evl_cons rfl (evl_cons rfl evl_nil))) (sameBytes_ok _ _ _ _ _ (Row.ext ha.D (Ext.trans (Ext.trans hx3 hx7) hx44)) (Row.ext hb.D (Ext.trans (Ext.trans hx3 hx7) hx44))) ?_
                                  rintro v48 w47 ⟨rfl, hx49⟩
                                  have := World.grownBy.size hx49
                                  refine WL.va rfl rfl rfl (X.pickT rfl h46 rfl) ?_
                                  refine WL.va rfl rfl rfl (X.assignB rfl) ?_
                                  refine WL.nil ?_
                                  refine thn_n ?_
                                  refine WF.ret ?_
                                  refine fin_r ?_
                                  first | exact ⟨congrArg Value.bool (decide_eq_false hne).symm, (Ext.trans (Ext.trans (Ext.trans hx3 hx7) hx44) hx49)⟩ | (refine ⟨congrArg Value.bool (decide_eq_decide.2 ?_), (Ext.trans (Ext.trans (Ext.trans hx3 hx7) hx44) hx49)⟩; rw [Mg.eq_iff]; constructor; (· intro e; refine ⟨n_eq ha.len hb.len ?_ ?_ ?_ ?_ ?_ ?_ ?_ ?_ ?_ ?_ ?_ ?_ ?_ ?_, eq_of_beq ?_, ?_, e⟩ <;> assumption); (· intro e; exact e.2.2.2))
                                · have gh46 := (of_decide_eq_false h46)
                                  have hne : a ≠ b := fun e => by first | exact gh46 (by rw [e]) | (rw [e] at gh46; simp at gh46)
                                  refine WL.p rfl rfl rfl (congrArg some h46) ?_
                                  refine WL.p rfl rfl rfl (congrArg some h46) ?_
                                  refine WL.p rfl rfl rfl (congrArg some h46) ?_
                                  refine WL.p rfl rfl rfl (congrArg some h46) ?_
                                  refine WL.p rfl rfl rfl (congrArg some h46) ?_
                                  refine WL.va rfl rfl rfl (X.pickF rfl h46 rfl) ?_
                                  refine WL.va rfl rfl rfl (X.assignB rfl) ?_
                                  refine WL.nil ?_
                                  refine thn_n ?_
                                  refine WF.ret ?_
                                  refine fin_r ?_
                                  first | exact ⟨congrArg Value.bool (decide_eq_false hne).symm, (Ext.trans (Ext.trans hx3 hx7) hx44)⟩ | (refine ⟨congrArg Value.bool (decide_eq_decide.2 ?_), (Ext.trans (Ext.trans hx3 hx7) hx44)⟩; rw [Mg.eq_iff]; constructor; (· intro e; refine ⟨n_eq ha.len hb.len ?_ ?_ ?_ ?_ ?_ ?_ ?_ ?_ ?_ ?_ ?_ ?_ ?_ ?_, eq_of_beq ?_, ?_, e⟩ <;> assumption); (· intro e; exact e.2.2.2))
                              · have gh41 := h41
                                have hne : a ≠ b := fun e => by first | exact gh41 (by rw [e]) | (rw [e] at gh41; simp at gh41)
                                refine WL.p rfl rfl rfl (congrArg some h41) ?_
                                refine WL.p rfl rfl rfl (congrArg some h41) ?_
                                refine WL.p rfl rfl rfl (congrArg some h41) ?_
                                refine WL.p rfl rfl rfl (congrArg some h41) ?_
                                refine WL.p rfl rfl rfl (congrArg some h41) ?_
                                refine WL.va rfl rfl rfl (X.pickF rfl h41 rfl) ?_
                                refine WL.va rfl rfl rfl (X.moveB rfl) ?_
                                refine WL.p rfl rfl rfl rfl ?_
                                refine WL.p rfl rfl rfl rfl ?_
                                refine WL.p rfl rfl rfl rfl ?_
                                refine WL.p rfl rfl rfl rfl ?_
                                refine WL.p rfl rfl rfl rfl ?_
                                refine WL.va rfl rfl rfl (X.pickF rfl rfl rfl) ?_
                                refine WL.va rfl rfl rfl (X.assignB rfl) ?_
                                refine WL.nil ?_
                                refine thn_n ?_
                                refine WF.ret ?_
                                refine fin_r ?_
                                first | exact ⟨congrArg Value.bool (decide_eq_false hne).symm, (Ext.trans hx3 hx7)⟩ | (refine ⟨congrArg Value.bool (decide_eq_decide.2 ?_), (Ext.trans hx3 hx7)⟩; rw [Mg.eq_iff]; constructor; (· intro e; refine ⟨n_eq ha.len hb.len ?_ ?_ ?_ ?_ ?_ ?_ ?_ ?_ ?_ ?_ ?_ ?_ ?_ ?_, eq_of_beq ?_, ?_, e⟩ <;> assumption); (· intro e; exact e.2.2.2))
                            · have gh37 := (of_decide_eq_false h37)
                              have hne : a ≠ b := fun e => by first | exact gh37 (by rw [e]) | (rw [e] at gh37; simp at gh37)
                              refine WL.p rfl rfl rfl (congrArg some h37) ?_
                              refine WL.p rfl rfl rfl (congrArg some h37) ?_
                              refine WL.p rfl rfl rfl (congrArg some h37) ?_
                              refine WL.p rfl rfl rfl (congrArg some h37) ?_
                              refine WL.p rfl rfl rfl (congrArg some h37) ?_
                              refine WL.va rfl rfl rfl (X.pickF rfl h37 rfl) ?_
                              refine WL.va rfl rfl rfl (X.moveB rfl) ?_
                              refine WL.p rfl rfl rfl rfl ?_
                              refine WL.p rfl rfl rfl rfl ?_
                              refine WL.p rfl rfl rfl rfl ?_
                              refine WL.p rfl rfl rfl rfl ?_
                              refine WL.p rfl rfl rfl rfl ?_
                              refine WL.va rfl rfl rfl (X.pickF rfl rfl rfl) ?_
                              refine WL.va rfl rfl rfl (X.moveB rfl) ?_
                              refine WL.p rfl rfl rfl rfl ?_
                              refine WL.p rfl rfl rfl rfl ?_
                              refine WL.p rfl rfl rfl rfl ?_
                              refine WL.p rfl rfl rfl rfl ?_
                              refine WL.p rfl rfl rfl rfl ?_
                              refine WL.va rfl rfl rfl (X.pickF rfl rfl rfl) ?_
                              refine WL.va rfl rfl rfl (X.assignB rfl) ?_
                              refine WL.nil ?_
                              refine thn_n ?_
                              refine WF.ret ?_
                              refine fin_r ?_
                              first | exact ⟨congrArg Value.bool (decide_eq_false hne).symm, (Ext.trans hx3 hx7)⟩ | (refine ⟨congrArg Value.bool (decide_eq_decide.2 ?_), (Ext.trans hx3 hx7)⟩; rw [Mg.eq_iff]; constructor; (· intro e; refine ⟨n_eq ha.len hb.len ?_ ?_ ?_ ?_ ?_ ?_ ?_ ?_ ?_ ?_ ?_ ?_ ?_ ?_, eq_of_beq ?_, ?_, e⟩ <;> assumption); (· intro e; exact e.2.2.2))
                          · have gh35 := (of_decide_eq_false h35)
                            have hne : a ≠ b := fun e => by first | exact gh35 (by rw [e]) | (rw [e] at gh35; simp at gh35)
                            refine WL.p rfl rfl rfl (congrArg some h35) ?_
                            refine WL.p rfl rfl rfl (congrArg some h35) ?_
                            refine WL.p rfl rfl rfl (congrArg some h35) ?_
                            refine WL.p rfl rfl rfl (congrArg some h35) ?_
                            refine WL.p rfl rfl rfl (congrArg some h35) ?_
                            refine WL.va rfl rfl rfl (X.pickF rfl h35 rfl) ?_
                            refine WL.va rfl rfl rfl (X.moveB rfl) ?_
                            refine WL.p rfl rfl rfl rfl ?_
                            refine WL.p rfl rfl rfl rfl ?_
                            refine WL.p rfl rfl rfl rfl ?_
                            refine WL.p rfl rfl rfl rfl ?_
                            refine WL.p rfl rfl rfl rfl ?_
                            refine WL.va rfl rfl rfl (X.pickF rfl rfl rfl) ?_
                            refine WL.va rfl rfl rfl (X.moveB rfl) ?_
                            refine WL.p rfl rfl rfl rfl ?_
                            refine WL.p rfl rfl rfl rfl ?_
                            refine WL.p rfl rfl rfl rfl ?_
                            refine WL.p rfl rfl rfl rfl ?_
                            refine WL.p rfl rfl rfl rfl ?_
                            refine WL.va rfl rfl rfl (X.pickF rfl rfl rfl) ?_
                            refine WL.va rfl rfl rfl (X.moveB rfl) ?_
                            refine WL.p rfl rfl rfl rfl ?_
                            refine WL.p rfl rfl rfl rfl ?_
                            refine WL.p rfl rfl rfl rfl ?_
                            refine WL.p rfl rfl rfl rfl ?_
                            refine WL.p rfl rfl rfl rfl ?_
                            refine WL.va rfl rfl rfl (X.pickF rfl rfl rfl) ?_
                            refine WL.va rfl rfl rfl (X.assignB rfl) ?_
                            refine WL.nil ?_
                            refine thn_n ?_
                            refine WF.ret ?_
                            refine fin_r ?_
                            first | exact ⟨congrArg Value.bool (decide_eq_false hne).symm, (Ext.trans hx3 hx7)⟩ | (refine ⟨congrArg Value.bool (decide_eq_decide.2 ?_), (Ext.trans hx3 hx7)⟩; rw [Mg.eq_iff]; constructor; (· intro e; refine ⟨n_eq ha.len hb.len ?_ ?_ ?_ ?_ ?_ ?_ ?_ ?_ ?_ ?_ ?_ ?_ ?_ ?_, eq_of_beq ?_, ?_, e⟩ <;> assumption); (· intro e; exact e.2.2.2))
                        · have gh33 := (of_decide_eq_false h33)
                          have hne : a ≠ b := fun e => by first | exact gh33 (by rw [e]) | (rw [e] at gh33; simp at gh33)
                          refine WL.p rfl rfl rfl (congrArg some h33) ?_
                          refine WL.p rfl rfl rfl (congrArg some h33) ?_
                          refine WL.p rfl rfl rfl (congrArg some h33) ?_
                          refine WL.p rfl rfl rfl (congrArg some h33) ?_
                          refine WL.p rfl rfl rfl (congrArg some h33) ?_
                          refine WL.va rfl rfl rfl (X.pickF rfl h33 rfl) ?_
                          refine WL.va rfl rfl rfl (X.moveB rfl) ?_
                          refine WL.p rfl rfl rfl rfl ?_
                          refine WL.p rfl rfl rfl rfl ?_
                          refine WL.p rfl rfl rfl rfl ?_
                          refine WL.p rfl rfl rfl rfl ?_
                          refine WL.p rfl rfl rfl rfl ?_
                          refine WL.va rfl rfl rfl (X.pickF rfl rfl rfl) ?_
                          refine WL.va rfl rfl rfl (X.moveB rfl) ?_
                          refine WL.p rfl rfl rfl rfl ?_
                          refine WL.p rfl rfl rfl rfl ?_
                          refine WL.p rfl rfl rfl rfl ?_
                          refine WL.p rfl rfl rfl rfl ?_
                          refine WL.p rfl rfl rfl rfl ?_
                          refine WL.va rfl rfl rfl (X.pickF rfl rfl rfl) ?_
                          refine WL.va rfl rfl rfl (X.moveB rfl) ?_
                          refine WL.p rfl rfl rfl rfl ?_
                          refine WL.p rfl rfl rfl rfl ?_
                          refine WL.p rfl rfl rfl rfl ?_
                          refine WL.p rfl rfl rfl rfl ?_
                          refine WL.p rfl rfl rfl rfl ?_
                          refine WL.va rfl rfl rfl (X.pickF rfl rfl rfl) ?_
                          refine WL.va rfl rfl rfl (X.moveB rfl) ?_
                          refine WL.p rfl rfl rfl rfl ?_
                          refine WL.p rfl rfl rfl rfl ?_
                          refine WL.p rfl rfl rfl rfl ?_
                          refine WL.p rfl rfl rfl rfl ?_
                          refine WL.p rfl rfl rfl rfl ?_
                          refine WL.va rfl rfl rfl (X.pickF rfl rfl rfl) ?_
                          refine WL.va rfl rfl rfl (X.assignB rfl) ?_
                          refine WL.nil ?_
                          refine thn_n ?_
                          refine WF.ret ?_
                          refine fin_r ?_
                          first | exact ⟨congrArg Value.bool (decide_eq_false hne).symm, (Ext.trans hx3 hx7)⟩ | (refine ⟨congrArg Value.bool (decide_eq_decide.2 ?_), (Ext.trans hx3 hx7)⟩; rw [Mg.eq_iff]; constructor; (· intro e; refine ⟨n_eq ha.len hb.len ?_ ?_ ?_ ?_ ?_ ?_ ?_ ?_ ?_ ?_ ?_ ?_ ?_ ?_, eq_of_beq ?_, ?_, e⟩ <;> assumption); (· intro e; exact e.2.2.2))
                      · have gh31 := (of_decide_eq_false h31)
                        have hne : a ≠ b := fun e => by first | exact gh31 (by rw [e]) | (rw [e] at gh31; simp at gh31)
                        refine WL.p rfl rfl rfl (congrArg some h31) ?_
                        refine WL.p rfl rfl rfl (congrArg some h31) ?_
                        refine WL.p rfl rfl rfl (congrArg some h31) ?_
                        refine WL.p rfl rfl rfl (congrArg some h31) ?_
                        refine WL.p rfl rfl rfl (congrArg some h31) ?_
                        refine WL.va rfl rfl rfl (X.pickF rfl h31 rfl) ?_
                        refine WL.va rfl rfl rfl (X.moveB rfl) ?_
                        refine WL.p rfl rfl rfl rfl ?_
                        refine WL.p rfl rfl rfl rfl ?_
                        refine WL.p rfl rfl rfl rfl ?_
                        refine WL.p rfl rfl rfl rfl ?_
                        refine WL.p rfl rfl rfl rfl ?_
                        refine WL.va rfl rfl rfl (X.pickF rfl rfl rfl) ?_
                        refine WL.va rfl rfl rfl (X.moveB rfl) ?_
                        refine WL.p rfl rfl rfl rfl ?_
                        refine WL.p rfl rfl rfl rfl ?_
                        refine WL.p rfl rfl rfl rfl ?_
                        refine WL.p rfl rfl rfl rfl ?_
                        refine WL.p rfl rfl rfl rfl ?_
                        refine WL.va rfl rfl rfl (X.pickF rfl rfl rfl) ?_
                        refine WL.va rfl rfl rfl (X.moveB rfl) ?_
                        refine WL.p rfl rfl rfl rfl ?_
                        refine WL.p rfl rfl rfl rfl ?_
                        refine WL.p rfl rfl rfl rfl ?_
                        refine WL.p rfl rfl rfl rfl ?_
                        refine WL.p rfl rfl rfl rfl ?_
                        refine WL.va rfl rfl rfl (X.pickF rfl rfl rfl) ?_
                        refine WL.va rfl rfl rfl (X.moveB rfl) ?_
                        refine WL.p rfl rfl rfl rfl ?_
                        refine WL.p rfl rfl rfl rfl ?_
                        refine WL.p rfl rfl rfl rfl ?_
                        refine WL.p rfl rfl rfl rfl ?_
                        refine WL.p rfl rfl rfl rfl ?_
                        refine WL.va rfl rfl rfl (X.pickF rfl rfl rfl) ?_
                        refine WL.va rfl rfl rfl (X.moveB rfl) ?_
                        refine WL.p rfl rfl rfl rfl ?_
                        refine WL.p rfl rfl rfl rfl ?_
                        refine WL.p rfl rfl rfl rfl ?_
                        refine WL.p rfl rfl rfl rfl ?_
                        refine WL.p rfl rfl rfl rfl ?_
                        refine WL.va rfl rfl rfl (X.pickF rfl rfl rfl) ?_
                        refine WL.va rfl rfl rfl (X.assignB rfl) ?_
                        refine WL.nil ?_
                        refine thn_n ?_
                        refine WF.ret ?_
                        refine fin_r ?_
                        first | exact ⟨congrArg Value.bool (decide_eq_false hne).symm, (Ext.trans hx3 hx7)⟩ | (refine ⟨congrArg Value.bool (decide_eq_decide.2 ?_), (Ext.trans hx3 hx7)⟩; rw [Mg.eq_iff]; constructor; (· intro e; refine ⟨n_eq ha.len hb.len ?_ ?_ ?_ ?_ ?_ ?_ ?_ ?_ ?_ ?_ ?_ ?_ ?_ ?_, eq_of_beq ?_, ?_, e⟩ <;> assumption); (· intro e; exact e.2.2.2))
                    · have gh29 := (of_decide_eq_false h29)
                      have hne : a ≠ b := fun e => by first | exact gh29 (by rw [e]) | (rw [e] at gh29; simp at gh29)
                      refine WL.p rfl rfl rfl (congrArg some h29) ?_
                      refine WL.p rfl rfl rfl (congrArg some h29) ?_
                      refine WL.p rfl rfl rfl (congrArg some h29) ?_
                      refine WL.p rfl rfl rfl (congrArg some h29) ?_
                      refine WL.p rfl rfl rfl (congrArg some h29) ?_
                      refine WL.va rfl rfl rfl (X.pickF rfl h29 rfl) ?_
                      refine WL.va rfl rfl rfl (X.moveB rfl) ?_
                      refine WL.p rfl rfl rfl rfl ?_
                      refine WL.p rfl rfl rfl rfl ?_
                      refine WL.p rfl rfl rfl rfl ?_
                      refine WL.p rfl rfl rfl rfl ?_
                      refine WL.p rfl rfl rfl rfl ?_
                      refine WL.va rfl rfl rfl (X.pickF rfl rfl rfl) ?_
                      refine WL.va rfl rfl rfl (X.moveB rfl) ?_
                      refine WL.p rfl rfl rfl rfl ?_
                      refine WL.p rfl rfl rfl rfl ?_
                      refine WL.p rfl rfl rfl rfl ?_
                      refine WL.p rfl rfl rfl rfl ?_
                      refine WL.p rfl rfl rfl rfl ?_
                      refine WL.va rfl rfl rfl (X.pickF rfl rfl rfl) ?_
                      refine WL.va rfl rfl rfl (X.moveB rfl) ?_
                      refine WL.p rfl rfl rfl rfl ?_
                      refine WL.p rfl rfl rfl rfl ?_
                      refine WL.p rfl rfl rfl rfl ?_
                      refine WL.p rfl rfl rfl rfl ?_
                      refine WL.p rfl rfl rfl rfl ?_
                      refine WL.va rfl rfl rfl (X.pickF rfl rfl rfl) ?_
                      refine WL.va rfl rfl rfl (X.moveB rfl) ?_
                      refine WL.p rfl rfl rfl rfl ?_
                      refine WL.p rfl rfl rfl rfl ?_
                      refine WL.p rfl rfl rfl rfl ?_
                      refine WL.p rfl rfl rfl rfl ?_
                      refine WL.p rfl rfl rfl rfl ?_
                      refine WL.va rfl rfl rfl (X.pickF rfl rfl rfl) ?_
                      refine WL.va rfl rfl rfl (X.moveB rfl) ?_
                      refine WL.p rfl rfl rfl rfl ?_
                      refine WL.p rfl rfl rfl rfl ?_
                      refine WL.p rfl rfl rfl rfl ?_
                      refine WL.p rfl rfl rfl rfl ?_
                      refine WL.p rfl rfl rfl rfl ?_
                      refine WL.va rfl rfl rfl (X.pickF rfl rfl rfl) ?_
                      refine WL.va rfl rfl rfl (X.moveB rfl) ?_
                      refine WL.p rfl rfl rfl rfl ?_
                      refine WL.p rfl rfl rfl rfl ?_
                      refine WL.p rfl rfl rfl rfl ?_
                      refine WL.p rfl rfl rfl rfl ?_
                      refine WL.p rfl rfl rfl rfl ?_
                      refine WL.va rfl rfl rfl (X.pickF rfl rfl rfl) ?_
                      refine WL.va rfl rfl rfl (X.assignB rfl) ?_
                      refine WL.nil ?_
                      refine thn_n ?_
                      refine WF.ret ?_
                      refine fin_r ?_
                      first | exact ⟨congrArg Value.bool (decide_eq_false hne).symm, (Ext.trans hx3 hx7)⟩ | (refine ⟨congrArg Value.bool (decide_eq_decide.2 ?_), (Ext.trans hx3 hx7)⟩; rw [Mg.eq_iff]; constructor; (· intro e; refine ⟨n_eq ha.len hb.len ?_ ?_ ?_ ?_ ?_ ?_ ?_ ?_ ?_ ?_ ?_ ?_ ?_ ?_, eq_of_beq ?_, ?_, e⟩ <;> assumption); (· intro e; exact e.2.2.2))
                  · have gh27 := (of_decide_eq_false h27)
                    have hne : a ≠ b := fun e => by first | exact gh27 (by rw [e]) | (rw [e] at gh27; simp at gh27)
                    refine WL.p rfl rfl rfl (congrArg some h27) ?_
                    refine WL.p rfl rfl rfl (congrArg some h27) ?_
                    refine WL.p rfl rfl rfl (congrArg some h27) ?_
                    refine WL.p rfl rfl rfl (congrArg some h27) ?_
                    refine WL.p rfl rfl rfl (congrArg some h27) ?_
                    refine WL.va rfl rfl rfl (X.pickF rfl h27 rfl) ?_
                    refine WL.va rfl rfl rfl (X.moveB rfl) ?_
                    refine WL.p rfl rfl rfl rfl ?_
                    refine WL.p rfl rfl rfl rfl ?_
                    refine WL.p rfl rfl rfl rfl ?_
                    refine WL.p rfl rfl rfl rfl ?_
                    refine WL.p rfl rfl rfl rfl ?_
                    refine WL.va rfl rfl rfl (X.pickF rfl rfl rfl) ?_
                    refine WL.va rfl rfl rfl (X.moveB rfl) ?_
                    refine WL.p rfl rfl rfl rfl ?_
                    refine WL.p rfl rfl rfl rfl ?_
                    refine WL.p rfl rfl rfl rfl ?_
                    refine WL.p rfl rfl rfl rfl ?_
                    refine WL.p rfl rfl rfl rfl ?_
                    refine WL.va rfl rfl rfl (X.pickF rfl rfl rfl) ?_
                    refine WL.va rfl rfl rfl (X.moveB rfl) ?_
                    refine WL.p rfl rfl rfl rfl ?_
                    refine WL.p rfl rfl rfl rfl ?_
                    refine WL.p rfl rfl rfl rfl ?_
                    refine WL.p rfl rfl rfl rfl ?_
                    refine WL.p rfl rfl rfl rfl ?_
                    refine WL.va rfl rfl rfl (X.pickF rfl rfl rfl) ?_
                    refine WL.va rfl rfl rfl (X.moveB rfl) ?_
                    refine WL.p rfl rfl rfl rfl ?_
                    refine WL.p rfl rfl rfl rfl ?_
                    refine WL.p rfl rfl rfl rfl ?_
                    refine WL.p rfl rfl rfl rfl ?_
                    refine WL.p rfl rfl rfl rfl ?_
                    refine WL.va rfl rfl rfl (X.pickF rfl rfl rfl) ?_
                    refine WL.va rfl rfl rfl (X.moveB rfl) ?_
                    refine WL.p rfl rfl rfl rfl ?_
                    refine WL.p rfl rfl rfl rfl ?_
                    refine WL.p rfl rfl rfl rfl ?_
                    refine WL.p rfl rfl rfl rfl ?_
                    refine WL.p rfl rfl rfl rfl ?_
                    refine WL.va rfl rfl rfl (X.pickF rfl rfl rfl) ?_
                    refine WL.va rfl rfl rfl (X.moveB rfl) ?_
                    refine WL.p rfl rfl rfl rfl ?_
                    refine WL.p rfl rfl rfl rfl ?_
                    refine WL.p rfl rfl rfl rfl ?_
                    refine WL.p rfl rfl rfl rfl ?_
                    refine WL.p rfl rfl rfl rfl ?_
                    refine WL.va rfl rfl rfl (X.pickF rfl rfl rfl) ?_
                    refine WL.va rfl rfl rfl (X.moveB rfl) ?_
                    refine WL.p rfl rfl rfl rfl ?_
                    refine WL.p rfl rfl rfl rfl ?_
                    refine WL.p rfl rfl rfl rfl ?_
                    refine WL.p rfl rfl rfl rfl ?_
                    refine WL.p rfl rfl rfl rfl ?_
                    refine WL.va rfl rfl rfl (X.pickF rfl rfl rfl) ?_
                    refine WL.va rfl rfl rfl (X.assignB rfl) ?_
                    refine WL.nil ?_
                    refine thn_n ?_
                    refine WF.ret ?_
                    refine fin_r ?_
                    first | exact ⟨congrArg Value.bool (decide_eq_false hne).symm, (Ext.trans hx3 hx7)⟩ | (refine ⟨congrArg Value.bool (decide_eq_decide.2 ?_), (Ext.trans hx3 hx7)⟩; rw [Mg.eq_iff]; constructor; (· intro e; refine ⟨n_eq ha.len hb.len ?_ ?_ ?_ ?_ ?_ ?_ ?_ ?_ ?_ ?_ ?_ ?_ ?_ ?_, eq_of_beq ?_, ?_, e⟩ <;> assumption); (· intro e; exact e.2.2.2))
                · have gh25 := (of_decide_eq_false h25)
                  have hne : a ≠ b := fun e => gh25 (by rw [e])
                  refine WL.p rfl rfl rfl (congrArg some h25) ?_
                  refine WL.p rfl rfl rfl (congrArg some h25) ?_
                  refine WL.p rfl rfl rfl (congrArg some h25) ?_
                  refine WL.p rfl rfl rfl (congrArg some h25) ?_
                  refine WL.p rfl rfl rfl (congrArg some h25) ?_
                  refine WL.va rfl rfl rfl (X.pickF rfl h25 rfl) ?_
                  refine WL.va rfl rfl rfl (X.assignB rfl) ?_
                  refine WL.nil ?_
                  refine thn_n ?_
                  refine WF.seq ?_
                  refine WF.region ?_
                  refine WL.va rfl rfl rfl (X.moveB rfl) ?_
                  refine WL.va rfl rfl rfl (X.moveB rfl) ?_
                  refine WL.p rfl rfl rfl rfl ?_
                  refine WL.p rfl rfl rfl rfl ?_
                  refine WL.p rfl rfl rfl rfl ?_
                  refine WL.p rfl rfl rfl rfl ?_
                  refine WL.p rfl rfl rfl rfl ?_
                  refine WL.va rfl rfl rfl (X.pickF rfl rfl rfl) ?_
                  refine WL.va rfl rfl rfl (X.moveB rfl) ?_
                  refine WL.p rfl rfl rfl rfl ?_
                  refine WL.p rfl rfl rfl rfl ?_
                  refine WL.p rfl rfl rfl rfl ?_
                  refine WL.p rfl rfl rfl rfl ?_
                  refine WL.p rfl rfl rfl rfl ?_
                  refine WL.va rfl rfl rfl (X.pickF rfl rfl rfl) ?_
                  refine WL.va rfl rfl rfl (X.moveB rfl) ?_
                  refine WL.p rfl rfl rfl rfl ?_
                  refine WL.p rfl rfl rfl rfl ?_
                  refine WL.p rfl rfl rfl rfl ?_
                  refine WL.p rfl rfl rfl rfl ?_
                  refine WL.p rfl rfl rfl rfl ?_
                  refine WL.va rfl rfl rfl (X.pickF rfl rfl rfl) ?_
                  refine WL.va rfl rfl rfl (X.moveB rfl) ?_
                  refine WL.p rfl rfl rfl rfl ?_
                  refine WL.p rfl rfl rfl rfl ?_
                  refine WL.p rfl rfl rfl rfl ?_
                  refine WL.p rfl rfl rfl rfl ?_
                  refine WL.p rfl rfl rfl rfl ?_
                  refine WL.va rfl rfl rfl (X.pickF rfl rfl rfl) ?_
                  refine WL.va rfl rfl rfl (X.moveB rfl) ?_
                  refine WL.p rfl rfl rfl rfl ?_
                  refine WL.p rfl rfl rfl rfl ?_
                  refine WL.p rfl rfl rfl rfl ?_
                  refine WL.p rfl rfl rfl rfl ?_
                  refine WL.p rfl rfl rfl rfl ?_
                  refine WL.va rfl rfl rfl (X.pickF rfl rfl rfl) ?_
                  refine WL.va rfl rfl rfl (X.moveB rfl) ?_
                  refine WL.p rfl rfl rfl rfl ?_
                  refine WL.p rfl rfl rfl rfl ?_
                  refine WL.p rfl rfl rfl rfl ?_
                  refine WL.p rfl rfl rfl rfl ?_
                  refine WL.p rfl rfl rfl rfl ?_
                  refine WL.va rfl rfl rfl (X.pickF rfl rfl rfl) ?_
                  refine WL.va rfl rfl rfl (X.moveB rfl) ?_
                  refine WL.p rfl rfl rfl rfl ?_
                  refine WL.p rfl rfl rfl rfl ?_
                  refine WL.p rfl rfl rfl rfl ?_
                  refine WL.p rfl rfl rfl rfl ?_
                  refine WL.p rfl rfl rfl rfl ?_
                  refine WL.va rfl rfl rfl (X.pickF rfl rfl rfl) ?_
                  refine WL.va rfl rfl rfl (X.moveB rfl) ?_
                  refine WL.p rfl rfl rfl rfl ?_
                  refine WL.p rfl rfl rfl rfl ?_
                  refine WL.p rfl rfl rfl rfl ?_
                  refine WL.p rfl rfl rfl rfl ?_
                  refine WL.p rfl rfl rfl rfl ?_
                  refine WL.va rfl rfl rfl (X.pickF rfl rfl rfl) ?_
                  refine WL.va rfl rfl rfl (X.assignB rfl) ?_
                  refine WL.nil ?_
                  refine thn_n ?_
                  refine WF.ret ?_
                  refine fin_r ?_
                  first | exact ⟨congrArg Value.bool (decide_eq_false hne).symm, (Ext.trans hx3 hx7)⟩ | (refine ⟨congrArg Value.bool (decide_eq_decide.2 ?_), (Ext.trans hx3 hx7)⟩; rw [Mg.eq_iff]; constructor; (· intro e; refine ⟨n_eq ha.len hb.len ?_ ?_ ?_ ?_ ?_ ?_ ?_ ?_ ?_ ?_ ?_ ?_ ?_ ?_, eq_of_beq ?_, ?_, e⟩ <;> assumption); (· intro e; exact e.2.2.2))
              · have gh23 := (of_decide_eq_false h23)
                have hne : a ≠ b := fun e => gh23 (by rw [e])
                refine WL.p rfl rfl rfl (congrArg some h23) ?_
                refine WL.p rfl rfl rfl (congrArg some h23) ?_
                refine WL.p rfl rfl rfl (congrArg some h23) ?_
                refine WL.p rfl rfl rfl (congrArg some h23) ?_
                refine WL.p rfl rfl rfl (congrArg some h23) ?_
                refine WL.va rfl rfl rfl (X.pickF rfl h23 rfl) ?_
                refine WL.va rfl rfl rfl (X.moveB rfl) ?_
                refine WL.p rfl rfl rfl rfl ?_
                refine WL.p rfl rfl rfl rfl ?_
                refine WL.p rfl rfl rfl rfl ?_
                refine WL.p rfl rfl rfl rfl ?_
                refine WL.p rfl rfl rfl rfl ?_
                refine WL.va rfl rfl rfl (X.pickF rfl rfl rfl) ?_
                refine WL.va rfl rfl rfl (X.assignB rfl) ?_
                refine WL.nil ?_
                refine thn_n ?_
                refine WF.seq ?_
                refine WF.region ?_
                refine WL.va rfl rfl rfl (X.moveB rfl) ?_
                refine WL.va rfl rfl rfl (X.moveB rfl) ?_
                refine WL.p rfl rfl rfl rfl ?_
                refine WL.p rfl rfl rfl rfl ?_
                refine WL.p rfl rfl rfl rfl ?_
                refine WL.p rfl rfl rfl rfl ?_
                refine WL.p rfl rfl rfl rfl ?_
                refine WL.va rfl rfl rfl (X.pickF rfl rfl rfl) ?_
                refine WL.va rfl rfl rfl (X.moveB rfl) ?_
                refine WL.p rfl rfl rfl rfl ?_
                refine WL.p rfl rfl rfl rfl ?_
                refine WL.p rfl rfl rfl rfl ?_
                refine WL.p rfl rfl rfl rfl ?_
                refine WL.p rfl rfl rfl rfl ?_
                refine WL.va rfl rfl rfl (X.pickF rfl rfl rfl) ?_
                refine WL.va rfl rfl rfl (X.moveB rfl) ?_
                refine WL.p rfl rfl rfl rfl ?_
                refine WL.p rfl rfl rfl rfl ?_
                refine WL.p rfl rfl rfl rfl ?_
                refine WL.p rfl rfl rfl rfl ?_
                refine WL.p rfl rfl rfl rfl ?_
                refine WL.va rfl rfl rfl (X.pickF rfl rfl rfl) ?_
                refine WL.va rfl rfl rfl (X.moveB rfl) ?_
                refine WL.p rfl rfl rfl rfl ?_
                refine WL.p rfl rfl rfl rfl ?_
                refine WL.p rfl rfl rfl rfl ?_
                refine WL.p rfl rfl rfl rfl ?_
                refine WL.p rfl rfl rfl rfl ?_
                refine WL.va rfl rfl rfl (X.pickF rfl rfl rfl) ?_
                refine WL.va rfl rfl rfl (X.moveB rfl) ?_
                refine WL.p rfl rfl rfl rfl ?_
                refine WL.p rfl rfl rfl rfl ?_
                refine WL.p rfl rfl rfl rfl ?_
                refine WL.p rfl rfl rfl rfl ?_
                refine WL.p rfl rfl rfl rfl ?_
                refine WL.va rfl rfl rfl (X.pickF rfl rfl rfl) ?_
                refine WL.va rfl rfl rfl (X.moveB rfl) ?_
                refine WL.p rfl rfl rfl rfl ?_
                refine WL.p rfl rfl rfl rfl ?_
                refine WL.p rfl rfl rfl rfl ?_
                refine WL.p rfl rfl rfl rfl ?_
                refine WL.p rfl rfl rfl rfl ?_
                refine WL.va rfl rfl rfl (X.pickF rfl rfl rfl) ?_
                refine WL.va rfl rfl rfl (X.moveB rfl) ?_
                refine WL.p rfl rfl rfl rfl ?_
                refine WL.p rfl rfl rfl rfl ?_
                refine WL.p rfl rfl rfl rfl ?_
                refine WL.p rfl rfl rfl rfl ?_
                refine WL.p rfl rfl rfl rfl ?_
                refine WL.va rfl rfl rfl (X.pickF rfl rfl rfl) ?_
                refine WL.va rfl rfl rfl (X.moveB rfl) ?_
                refine WL.p rfl rfl rfl rfl ?_
                refine WL.p rfl rfl rfl rfl ?_
                refine WL.p rfl rfl rfl rfl ?_
                refine WL.p rfl rfl rfl rfl ?_
                refine WL.p rfl rfl rfl rfl ?_
                refine WL.va rfl rfl rfl (X.pickF rfl rfl rfl) ?_
                refine WL.va rfl rfl rfl (X.assignB rfl) ?_
                refine WL.nil ?_
                refine thn_n ?_
                refine WF.ret ?_
                refine fin_r ?_
                first | exact ⟨congrArg Value.bool (decide_eq_false hne).symm, (Ext.trans hx3 hx7)⟩ | (refine ⟨congrArg Value.bool (decide_eq_decide.2 ?_), (Ext.trans hx3 hx7)⟩; rw [Mg.eq_iff]; constructor; (· intro e; refine ⟨n_eq ha.len hb.len ?_ ?_ ?_ ?_ ?_ ?_ ?_ ?_ ?_ ?_ ?_ ?_ ?_ ?_, eq_of_beq ?_, ?_, e⟩ <;> assumption); (· intro e; exact e.2.2.2))
            · have gh21 := (of_decide_eq_false h21)
              have hne : a ≠ b := fun e => gh21 (by rw [e])
              refine WL.p rfl rfl rfl (congrArg some h21) ?_
              refine WL.p rfl rfl rfl (congrArg some h21) ?_
              refine WL.p rfl rfl rfl (congrArg some h21) ?_
              refine WL.p rfl rfl rfl (congrArg some h21) ?_
              refine WL.p rfl rfl rfl (congrArg some h21) ?_
              refine WL.va rfl rfl rfl (X.pickF rfl h21 rfl) ?_
              refine WL.va rfl rfl rfl (X.moveB rfl) ?_
              refine WL.p rfl rfl rfl rfl ?_
              refine WL.p rfl rfl rfl rfl ?_
              refine WL.p rfl rfl rfl rfl ?_
              refine WL.p rfl rfl rfl rfl ?_
              refine WL.p rfl rfl rfl rfl ?_
              refine WL.va rfl rfl rfl (X.pickF rfl rfl rfl) ?_
              refine WL.va rfl rfl rfl (X.moveB rfl) ?_
              refine WL.p rfl rfl rfl rfl ?_
              refine WL.p rfl rfl rfl rfl ?_
              refine WL.p rfl rfl rfl rfl ?_
              refine WL.p rfl rfl rfl rfl ?_
              refine WL.p rfl rfl rfl rfl ?_
              refine WL.va rfl rfl rfl (X.pickF rfl rfl rfl) ?_
              refine WL.va rfl rfl rfl (X.assignB rfl) ?_
              refine WL.nil ?_
              refine thn_n ?_
              refine WF.seq ?_
              refine WF.region ?_
              refine WL.va rfl rfl rfl (X.moveB rfl) ?_
              refine WL.va rfl rfl rfl (X.moveB rfl) ?_
              refine WL.p rfl rfl rfl rfl ?_
              refine WL.p rfl rfl rfl rfl ?_
              refine WL.p rfl rfl rfl rfl ?_
              refine WL.p rfl rfl rfl rfl ?_
              refine WL.p rfl rfl rfl rfl ?_
              refine WL.va rfl rfl rfl (X.pickF rfl rfl rfl) ?_
              refine WL.va rfl rfl rfl (X.moveB rfl) ?_
              refine WL.p rfl rfl rfl rfl ?_
              refine WL.p rfl rfl rfl rfl ?_
              refine WL.p rfl rfl rfl rfl ?_
              refine WL.p rfl rfl rfl rfl ?_
              refine WL.p rfl rfl rfl rfl ?_
              refine WL.va rfl rfl rfl (X.pickF rfl rfl rfl) ?_
              refine WL.va rfl rfl rfl (X.moveB rfl) ?_
              refine WL.p rfl rfl rfl rfl ?_
              refine WL.p rfl rfl rfl rfl ?_
              refine WL.p rfl rfl rfl rfl ?_
              refine WL.p rfl rfl rfl rfl ?_
              refine WL.p rfl rfl rfl rfl ?_
              refine WL.va rfl rfl rfl (X.pickF rfl rfl rfl) ?_
              refine WL.va rfl rfl rfl (X.moveB rfl) ?_
              refine WL.p rfl rfl rfl rfl ?_
              refine WL.p rfl rfl rfl rfl ?_
              refine WL.p rfl rfl rfl rfl ?_
              refine WL.p rfl rfl rfl rfl ?_
              refine WL.p rfl rfl rfl rfl ?_
              refine WL.va rfl rfl rfl (X.pickF rfl rfl rfl) ?_
              refine WL.va rfl rfl rfl (X.moveB rfl) ?_
              refine WL.p rfl rfl rfl rfl ?_
              refine WL.p rfl rfl rfl rfl ?_
              refine WL.p rfl rfl rfl rfl ?_
              refine WL.p rfl rfl rfl rfl ?_
              refine WL.p rfl rfl rfl rfl ?_
              refine WL.va rfl rfl rfl (X.pickF rfl rfl rfl) ?_
              refine WL.va rfl rfl rfl (X.moveB rfl) ?_
              refine WL.p rfl rfl rfl rfl ?_
              refine WL.p rfl rfl rfl rfl ?_
              refine WL.p rfl rfl rfl rfl ?_
              refine WL.p rfl rfl rfl rfl ?_
              refine WL.p rfl rfl rfl rfl ?_
              refine WL.va rfl rfl rfl (X.pickF rfl rfl rfl) ?_
              refine WL.va rfl rfl rfl (X.moveB rfl) ?_
              refine WL.p rfl rfl rfl rfl ?_
              refine WL.p rfl rfl rfl rfl ?_
              refine WL.p rfl rfl rfl rfl ?_
              refine WL.p rfl rfl rfl rfl ?_
              refine WL.p rfl rfl rfl rfl ?_
              refine WL.va rfl rfl rfl (X.pickF rfl rfl rfl) ?_
              refine WL.va rfl rfl rfl (X.moveB rfl) ?_
              refine WL.p rfl rfl rfl rfl ?_
              refine WL.p rfl rfl rfl rfl ?_
              refine WL.p rfl rfl rfl rfl ?_
              refine WL.p rfl rfl rfl rfl ?_
              refine WL.p rfl rfl rfl rfl ?_
              refine WL.va rfl rfl rfl (X.pickF rfl rfl rfl) ?_
              refine WL.va rfl rfl rfl (X.assignB rfl) ?_
              refine WL.nil ?_
              refine thn_n ?_
              refine WF.ret ?_
              refine fin_r ?_
              first | exact ⟨congrArg Value.bool (decide_eq_false hne).symm, (Ext.trans hx3 hx7)⟩ | (refine ⟨congrArg Value.bool (decide_eq_decide.2 ?_), (Ext.trans hx3 hx7)⟩; rw [Mg.eq_iff]; constructor; (· intro e; refine ⟨n_eq ha.len hb.len ?_ ?_ ?_ ?_ ?_ ?_ ?_ ?_ ?_ ?_ ?_ ?_ ?_ ?_, eq_of_beq ?_, ?_, e⟩ <;> assumption); (· intro e; exact e.2.2.2))
          · have gh19 := (of_decide_eq_false h19)
            have hne : a ≠ b := fun e => gh19 (by rw [e])
            refine WL.p rfl rfl rfl (congrArg some h19) ?_
            refine WL.p rfl rfl rfl (congrArg some h19) ?_
            refine WL.p rfl rfl rfl (congrArg some h19) ?_
            refine WL.p rfl rfl rfl (congrArg some h19) ?_
            refine WL.p rfl rfl rfl (congrArg some h19) ?_
            refine WL.va rfl rfl rfl (X.pickF rfl h19 rfl) ?_
            refine WL.va rfl rfl rfl (X.moveB rfl) ?_
            refine WL.p rfl rfl rfl rfl ?_
            refine WL.p rfl rfl rfl rfl ?_
            refine WL.p rfl rfl rfl rfl ?_
            refine WL.p rfl rfl rfl rfl ?_
            refine WL.p rfl rfl rfl rfl ?_
            refine WL.va rfl rfl rfl (X.pickF rfl rfl rfl) ?_
            refine WL.va rfl rfl rfl (X.moveB rfl) ?_
            refine WL.p rfl rfl rfl rfl ?_
            refine WL.p rfl rfl rfl rfl ?_
            refine WL.p rfl rfl rfl rfl ?_
            refine WL.p rfl rfl rfl rfl ?_
            refine WL.p rfl rfl rfl rfl ?_
            refine WL.va rfl rfl rfl (X.pickF rfl rfl rfl) ?_
            refine WL.va rfl rfl rfl (X.moveB rfl) ?_
            refine WL.p rfl rfl rfl rfl ?_
            refine WL.p rfl rfl rfl rfl ?_
            refine WL.p rfl rfl rfl rfl ?_
            refine WL.p rfl rfl rfl rfl ?_
            refine WL.p rfl rfl rfl rfl ?_
            refine WL.va rfl rfl rfl (X.pickF rfl rfl rfl) ?_
            refine WL.va rfl rfl rfl (X.assignB rfl) ?_
            refine WL.nil ?_
            refine thn_n ?_
            refine WF.seq ?_
            refine WF.region ?_
            refine WL.va rfl rfl rfl (X.moveB rfl) ?_
            refine WL.va rfl rfl rfl (X.moveB rfl) ?_
            refine WL.p rfl rfl rfl rfl ?_
            refine WL.p rfl rfl rfl rfl ?_
            refine WL.p rfl rfl rfl rfl ?_
            refine WL.p rfl rfl rfl rfl ?_
            refine WL.p rfl rfl rfl rfl ?_
            refine WL.va rfl rfl rfl (X.pickF rfl rfl rfl) ?_
            refine WL.va rfl rfl rfl (X.moveB rfl) ?_
            refine WL.p rfl rfl rfl rfl ?_
            refine WL.p rfl rfl rfl rfl ?_
            refine WL.p rfl rfl rfl rfl ?_
            refine WL.p rfl rfl rfl rfl ?_
            refine WL.p rfl rfl rfl rfl ?_
            refine WL.va rfl rfl rfl (X.pickF rfl rfl rfl) ?_
            refine WL.va rfl rfl rfl (X.moveB rfl) ?_
            refine WL.p rfl rfl rfl rfl ?_
            refine WL.p rfl rfl rfl rfl ?_
            refine WL.p rfl rfl rfl rfl ?_
            refine WL.p rfl rfl rfl rfl ?_
            refine WL.p rfl rfl rfl rfl ?_
            refine WL.va rfl rfl rfl (X.pickF rfl rfl rfl) ?_
            refine WL.va rfl rfl rfl (X.moveB rfl) ?_
            refine WL.p rfl rfl rfl rfl ?_
            refine WL.p rfl rfl rfl rfl ?_
            refine WL.p rfl rfl rfl rfl ?_
            refine WL.p rfl rfl rfl rfl ?_
            refine WL.p rfl rfl rfl rfl ?_
            refine WL.va rfl rfl rfl (X.pickF rfl rfl rfl) ?_
            refine WL.va rfl rfl rfl (X.moveB rfl) ?_
            refine WL.p rfl rfl rfl rfl ?_
            refine WL.p rfl rfl rfl rfl ?_
            refine WL.p rfl rfl rfl rfl ?_
            refine WL.p rfl rfl rfl rfl ?_
            refine WL.p rfl rfl rfl rfl ?_
            refine WL.va rfl rfl rfl (X.pickF rfl rfl rfl) ?_
            refine WL.va rfl rfl rfl (X.moveB rfl) ?_
            refine WL.p rfl rfl rfl rfl ?_
            refine WL.p rfl rfl rfl rfl ?_
            refine WL.p rfl rfl rfl rfl ?_
            refine WL.p rfl rfl rfl rfl ?_
            refine WL.p rfl rfl rfl rfl ?_
            refine WL.va rfl rfl rfl (X.pickF rfl rfl rfl) ?_
            refine WL.va rfl rfl rfl (X.moveB rfl) ?_
            refine WL.p rfl rfl rfl rfl ?_
            refine WL.p rfl rfl rfl rfl ?_
            refine WL.p rfl rfl rfl rfl ?_
            refine WL.p rfl rfl rfl rfl ?_
            refine WL.p rfl rfl rfl rfl ?_
            refine WL.va rfl rfl rfl (X.pickF rfl rfl rfl) ?_
            refine WL.va rfl rfl rfl (X.moveB rfl) ?_
            refine WL.p rfl rfl rfl rfl ?_
            refine WL.p rfl rfl rfl rfl ?_
            refine WL.p rfl rfl rfl rfl ?_
            refine WL.p rfl rfl rfl rfl ?_
            refine WL.p rfl rfl rfl rfl ?_
            refine WL.va rfl rfl rfl (X.pickF rfl rfl rfl) ?_
            refine WL.va rfl rfl rfl (X.assignB rfl) ?_
            refine WL.nil ?_
            refine thn_n ?_
            refine WF.ret ?_
            refine fin_r ?_
            first | exact ⟨congrArg Value.bool (decide_eq_false hne).symm, (Ext.trans hx3 hx7)⟩ | (refine ⟨congrArg Value.bool (decide_eq_decide.2 ?_), (Ext.trans hx3 hx7)⟩; rw [Mg.eq_iff]; constructor; (· intro e; refine ⟨n_eq ha.len hb.len ?_ ?_ ?_ ?_ ?_ ?_ ?_ ?_ ?_ ?_ ?_ ?_ ?_ ?_, eq_of_beq ?_, ?_, e⟩ <;> assumption); (· intro e; exact e.2.2.2))
        · have gh17 := (of_decide_eq_false h17)
          have hne : a ≠ b := fun e => gh17 (by rw [e])
          refine WL.p rfl rfl rfl (congrArg some h17) ?_
          refine WL.p rfl rfl rfl (congrArg some h17) ?_
          refine WL.p rfl rfl rfl (congrArg some h17) ?_
          refine WL.p rfl rfl rfl (congrArg some h17) ?_
          refine WL.p rfl rfl rfl (congrArg some h17) ?_
          refine WL.va rfl rfl rfl (X.pickF rfl h17 rfl) ?_
          refine WL.va rfl rfl rfl (X.moveB rfl) ?_
          refine WL.p rfl rfl rfl rfl ?_
          refine WL.p rfl rfl rfl rfl ?_
          refine WL.p rfl rfl rfl rfl ?_
          refine WL.p rfl rfl rfl rfl ?_
          refine WL.p rfl rfl rfl rfl ?_
          refine WL.va rfl rfl rfl (X.pickF rfl rfl rfl) ?_
          refine WL.va rfl rfl rfl (X.moveB rfl) ?_
          refine WL.p rfl rfl rfl rfl ?_
          refine WL.p rfl rfl rfl rfl ?_
          refine WL.p rfl rfl rfl rfl ?_
          refine WL.p rfl rfl rfl rfl ?_
          refine WL.p rfl rfl rfl rfl ?_
          refine WL.va rfl rfl rfl (X.pickF rfl rfl rfl) ?_
          refine WL.va rfl rfl rfl (X.moveB rfl) ?_
          refine WL.p rfl rfl rfl rfl ?_
          refine WL.p rfl rfl rfl rfl ?_
          refine WL.p rfl rfl rfl rfl ?_
          refine WL.p rfl rfl rfl rfl ?_
          refine WL.p rfl rfl rfl rfl ?_
          refine WL.va rfl rfl rfl (X.pickF rfl rfl rfl) ?_
          refine WL.va rfl rfl rfl (X.moveB rfl) ?_
          refine WL.p rfl rfl rfl rfl ?_
          refine WL.p rfl rfl rfl rfl ?_
          refine WL.p rfl rfl rfl rfl ?_
          refine WL.p rfl rfl rfl rfl ?_
          refine WL.p rfl rfl rfl rfl ?_
          refine WL.va rfl rfl rfl (X.pickF rfl rfl rfl) ?_
          refine WL.va rfl rfl rfl (X.assignB rfl) ?_
          refine WL.nil ?_
          refine thn_n ?_
          refine WF.seq ?_
          refine WF.region ?_
          refine WL.va rfl rfl rfl (X.moveB rfl) ?_
          refine WL.va rfl rfl rfl (X.moveB rfl) ?_
          refine WL.p rfl rfl rfl rfl ?_
          refine WL.p rfl rfl rfl rfl ?_
          refine WL.p rfl rfl rfl rfl ?_
          refine WL.p rfl rfl rfl rfl ?_
          refine WL.p rfl rfl rfl rfl ?_
          refine WL.va rfl rfl rfl (X.pickF rfl rfl rfl) ?_
          refine WL.va rfl rfl rfl (X.moveB rfl) ?_
          refine WL.p rfl rfl rfl rfl ?_
          refine WL.p rfl rfl rfl rfl ?_
          refine WL.p rfl rfl rfl rfl ?_
          refine WL.p rfl rfl rfl rfl ?_
          refine WL.p rfl rfl rfl rfl ?_
          refine WL.va rfl rfl rfl (X.pickF rfl rfl rfl) ?_
          refine WL.va rfl rfl rfl (X.moveB rfl) ?_
          refine WL.p rfl rfl rfl rfl ?_
          refine WL.p rfl rfl rfl rfl ?_
          refine WL.p rfl rfl rfl rfl ?_
          refine WL.p rfl rfl rfl rfl ?_
          refine WL.p rfl rfl rfl rfl ?_
          refine WL.va rfl rfl rfl (X.pickF rfl rfl rfl) ?_
          refine WL.va rfl rfl rfl (X.moveB rfl) ?_
          refine WL.p rfl rfl rfl rfl ?_
          refine WL.p rfl rfl rfl rfl ?_
          refine WL.p rfl rfl rfl rfl ?_
          refine WL.p rfl rfl rfl rfl ?_
          refine WL.p rfl rfl rfl rfl ?_
          refine WL.va rfl rfl rfl (X.pickF rfl rfl rfl) ?_
          refine WL.va rfl rfl rfl (X.moveB rfl) ?_
          refine WL.p rfl rfl rfl rfl ?_
          refine WL.p rfl rfl rfl rfl ?_
          refine WL.p rfl rfl rfl rfl ?_
          refine WL.p rfl rfl rfl rfl ?_
          refine WL.p rfl rfl rfl rfl ?_
          refine WL.va rfl rfl rfl (X.pickF rfl rfl rfl) ?_
          refine WL.va rfl rfl rfl (X.moveB rfl) ?_
          refine WL.p rfl rfl rfl rfl ?_
          refine WL.p rfl rfl rfl rfl ?_
          refine WL.p rfl rfl rfl rfl ?_
          refine WL.p rfl rfl rfl rfl ?_
          refine WL.p rfl rfl rfl rfl ?_
          refine WL.va rfl rfl rfl (X.pickF rfl rfl rfl) ?_
          refine WL.va rfl rfl rfl (X.moveB rfl) ?_
          refine WL.p rfl rfl rfl rfl ?_
          refine WL.p rfl rfl rfl rfl ?_
          refine WL.p rfl rfl rfl rfl ?_
          refine WL.p rfl rfl rfl rfl ?_
          refine WL.p rfl rfl rfl rfl ?_
          refine WL.va rfl rfl rfl (X.pickF rfl rfl rfl) ?_
          refine WL.va rfl rfl rfl (X.moveB rfl) ?_
          refine WL.p rfl rfl rfl rfl ?_
          refine WL.p rfl rfl rfl rfl ?_
          refine WL.p rfl rfl rfl rfl ?_
          refine WL.p rfl rfl rfl rfl ?_
          refine WL.p rfl rfl rfl rfl ?_
          refine WL.va rfl rfl rfl (X.pickF rfl rfl rfl) ?_
          refine WL.va rfl rfl rfl (X.assignB rfl) ?_
          refine WL.nil ?_
          refine thn_n ?_
          refine WF.ret ?_
          refine fin_r ?_
          first | exact ⟨congrArg Value.bool (decide_eq_false hne).symm, (Ext.trans hx3 hx7)⟩ | (refine ⟨congrArg Value.bool (decide_eq_decide.2 ?_), (Ext.trans hx3 hx7)⟩; rw [Mg.eq_iff]; constructor; (· intro e; refine ⟨n_eq ha.len hb.len ?_ ?_ ?_ ?_ ?_ ?_ ?_ ?_ ?_ ?_ ?_ ?_ ?_ ?_, eq_of_beq ?_, ?_, e⟩ <;> assumption); (· intro e; exact e.2.2.2))
      · have gh15 := (of_decide_eq_false h15)
        have hne : a ≠ b := fun e => gh15 (by rw [e])
        refine WL.p rfl rfl rfl (congrArg some h15) ?_
        refine WL.p rfl rfl rfl (congrArg some h15) ?_
        refine WL.p rfl rfl rfl (congrArg some h15) ?_
        refine WL.p rfl rfl rfl (congrArg some h15) ?_
        refine WL.p rfl rfl rfl (congrArg some h15) ?_
        refine WL.va rfl rfl rfl (X.pickF rfl h15 rfl) ?_
        refine WL.va rfl rfl rfl (X.moveB rfl) ?_
        refine WL.p rfl rfl rfl rfl ?_
        refine WL.p rfl rfl rfl rfl ?_
        refine WL.p rfl rfl rfl rfl ?_
        refine WL.p rfl rfl rfl rfl ?_
        refine WL.p rfl rfl rfl rfl ?_
        refine WL.va rfl rfl rfl (X.pickF rfl rfl rfl) ?_
        refine WL.va rfl rfl rfl (X.moveB rfl) ?_
        refine WL.p rfl rfl rfl rfl ?_
        refine WL.p rfl rfl rfl rfl ?_
        refine WL.p rfl rfl rfl rfl ?_
        refine WL.p rfl rfl rfl rfl ?_
        refine WL.p rfl rfl rfl rfl ?_
        refine WL.va rfl rfl rfl (X.pickF rfl rfl rfl) ?_
        refine WL.va rfl rfl rfl (X.moveB rfl) ?_
        refine WL.p rfl rfl rfl rfl ?_
        refine WL.p rfl rfl rfl rfl ?_
        refine WL.p rfl rfl rfl rfl ?_
        refine WL.p rfl rfl rfl rfl ?_
        refine WL.p rfl rfl rfl rfl ?_
        refine WL.va rfl rfl rfl (X.pickF rfl rfl rfl) ?_
        refine WL.va rfl rfl rfl (X.moveB rfl) ?_
        refine WL.p rfl rfl rfl rfl ?_
        refine WL.p rfl rfl rfl rfl ?_
        refine WL.p rfl rfl rfl rfl ?_
        refine WL.p rfl rfl rfl rfl ?_
        refine WL.p rfl rfl rfl rfl ?_
        refine WL.va rfl rfl rfl (X.pickF rfl rfl rfl) ?_
        refine WL.va rfl rfl rfl (X.moveB rfl) ?_
        refine WL.p rfl rfl rfl rfl ?_
        refine WL.p rfl rfl rfl rfl ?_
        refine WL.p rfl rfl rfl rfl ?_
        refine WL.p rfl rfl rfl rfl ?_
        refine WL.p rfl rfl rfl rfl ?_
        refine WL.va rfl rfl rfl (X.pickF rfl rfl rfl) ?_
        refine WL.va rfl rfl rfl (X.assignB rfl) ?_
        refine WL.nil ?_
        refine thn_n ?_
        refine WF.seq ?_
        refine WF.region ?_
        refine WL.va rfl rfl rfl (X.moveB rfl) ?_
        refine WL.va rfl rfl rfl (X.moveB rfl) ?_
        refine WL.p rfl rfl rfl rfl ?_
        refine WL.p rfl rfl rfl rfl ?_
        refine WL.p rfl rfl rfl rfl ?_
        refine WL.p rfl rfl rfl rfl ?_
        refine WL.p rfl rfl rfl rfl ?_
        refine WL.va rfl rfl rfl (X.pickF rfl rfl rfl) ?_
        refine WL.va rfl rfl rfl (X.moveB rfl) ?_
        refine WL.p rfl rfl rfl rfl ?_
        refine WL.p rfl rfl rfl rfl ?_
        refine WL.p rfl rfl rfl rfl ?_
        refine WL.p rfl rfl rfl rfl ?_
        refine WL.p rfl rfl rfl rfl ?_
        refine WL.va rfl rfl rfl (X.pickF rfl rfl rfl) ?_
        refine WL.va rfl rfl rfl (X.moveB rfl) ?_
        refine WL.p rfl rfl rfl rfl ?_
        refine WL.p rfl rfl rfl rfl ?_
        refine WL.p rfl rfl rfl rfl ?_
        refine WL.p rfl rfl rfl rfl ?_
        refine WL.p rfl rfl rfl rfl ?_
        refine WL.va rfl rfl rfl (X.pickF rfl rfl rfl) ?_
        refine WL.va rfl rfl rfl (X.moveB rfl) ?_
        refine WL.p rfl rfl rfl rfl ?_
        refine WL.p rfl rfl rfl rfl ?_
        refine WL.p rfl rfl rfl rfl ?_
        refine WL.p rfl rfl rfl rfl ?_
        refine WL.p rfl rfl rfl rfl ?_
        refine WL.va rfl rfl rfl (X.pickF rfl rfl rfl) ?_
        refine WL.va rfl rfl rfl (X.moveB rfl) ?_
        refine WL.p rfl rfl rfl rfl ?_
        refine WL.p rfl rfl rfl rfl ?_
        refine WL.p rfl rfl rfl rfl ?_
        refine WL.p rfl rfl rfl rfl ?_
        refine WL.p rfl rfl rfl rfl ?_
        refine WL.va rfl rfl rfl (X.pickF rfl rfl rfl) ?_
        refine WL.va rfl rfl rfl (X.moveB rfl) ?_
        refine WL.p rfl rfl rfl rfl ?_
        refine WL.p rfl rfl rfl rfl ?_
        refine WL.p rfl rfl rfl rfl ?_
        refine WL.p rfl rfl rfl rfl ?_
        refine WL.p rfl rfl rfl rfl ?_
        refine WL.va rfl rfl rfl (X.pickF rfl rfl rfl) ?_
        refine WL.va rfl rfl rfl (X.moveB rfl) ?_
        refine WL.p rfl rfl rfl rfl ?_
        refine WL.p rfl rfl rfl rfl ?_
        refine WL.p rfl rfl rfl rfl ?_
        refine WL.p rfl rfl rfl rfl ?_
        refine WL.p rfl rfl rfl rfl ?_
        refine WL.va rfl rfl rfl (X.pickF rfl rfl rfl) ?_
        refine WL.va rfl rfl rfl (X.moveB rfl) ?_
        refine WL.p rfl rfl rfl rfl ?_
        refine WL.p rfl rfl rfl rfl ?_
        refine WL.p rfl rfl rfl rfl ?_
        refine WL.p rfl rfl rfl rfl ?_
        refine WL.p rfl rfl rfl rfl ?_
        refine WL.va rfl rfl rfl (X.pickF rfl rfl rfl) ?_
        refine WL.va rfl rfl rfl (X.assignB rfl) ?_
        refine WL.nil ?_
        refine thn_n ?_
        refine WF.ret ?_
        refine fin_r ?_
        first | exact ⟨congrArg Value.bool (decide_eq_false hne).symm, (Ext.trans hx3 hx7)⟩ | (refine ⟨congrArg Value.bool (decide_eq_decide.2 ?_), (Ext.trans hx3 hx7)⟩; rw [Mg.eq_iff]; constructor; (· intro e; refine ⟨n_eq ha.len hb.len ?_ ?_ ?_ ?_ ?_ ?_ ?_ ?_ ?_ ?_ ?_ ?_ ?_ ?_, eq_of_beq ?_, ?_, e⟩ <;> assumption); (· intro e; exact e.2.2.2))
    · have gh13 := (of_decide_eq_false h13)
      have hne : a ≠ b := fun e => gh13 (by rw [e])
      refine WL.p rfl rfl rfl (congrArg some h13) ?_
      refine WL.p rfl rfl rfl (congrArg some h13) ?_
      refine WL.p rfl rfl rfl (congrArg some h13) ?_
      refine WL.p rfl rfl rfl (congrArg some h13) ?_
      refine WL.p rfl rfl rfl (congrArg some h13) ?_
      refine WL.va rfl rfl rfl (X.pickF rfl h13 rfl) ?_
      refine WL.va rfl rfl rfl (X.moveB rfl) ?_
      refine WL.p rfl rfl rfl rfl ?_
      refine WL.p rfl rfl rfl rfl ?_
      refine WL.p rfl rfl rfl rfl ?_
      refine WL.p rfl rfl rfl rfl ?_
      refine WL.p rfl rfl rfl rfl ?_
      refine WL.va rfl rfl rfl (X.pickF rfl rfl rfl) ?_
      refine WL.va rfl rfl rfl (X.moveB rfl) ?_
      refine WL.p rfl rfl rfl rfl ?_
      refine WL.p rfl rfl rfl rfl ?_
      refine WL.p rfl rfl rfl rfl ?_
      refine WL.p rfl rfl rfl rfl ?_
      refine WL.p rfl rfl rfl rfl ?_
      refine WL.va rfl rfl rfl (X.pickF rfl rfl rfl) ?_
      refine WL.va rfl rfl rfl (X.moveB rfl) ?_
      refine WL.p rfl rfl rfl rfl ?_
      refine WL.p rfl rfl rfl rfl ?_
      refine WL.p rfl rfl rfl rfl ?_
      refine WL.p rfl rfl rfl rfl ?_
      refine WL.p rfl rfl rfl rfl ?_
      refine WL.va rfl rfl rfl (X.pickF rfl rfl rfl) ?_
      refine WL.va rfl rfl rfl (X.moveB rfl) ?_
      refine WL.p rfl rfl rfl rfl ?_
      refine WL.p rfl rfl rfl rfl ?_
      refine WL.p rfl rfl rfl rfl ?_
      refine WL.p rfl rfl rfl rfl ?_
      refine WL.p rfl rfl rfl rfl ?_
      refine WL.va rfl rfl rfl (X.pickF rfl rfl rfl) ?_
      refine WL.va rfl rfl rfl (X.moveB rfl) ?_
      refine WL.p rfl rfl rfl rfl ?_
      refine WL.p rfl rfl rfl rfl ?_
      refine WL.p rfl rfl rfl rfl ?_
      refine WL.p rfl rfl rfl rfl ?_
      refine WL.p rfl rfl rfl rfl ?_
      refine WL.va rfl rfl rfl (X.pickF rfl rfl rfl) ?_
      refine WL.va rfl rfl rfl (X.moveB rfl) ?_
      refine WL.p rfl rfl rfl rfl ?_
      refine WL.p rfl rfl rfl rfl ?_
      refine WL.p rfl rfl rfl rfl ?_
      refine WL.p rfl rfl rfl rfl ?_
      refine WL.p rfl rfl rfl rfl ?_
      refine WL.va rfl rfl rfl (X.pickF rfl rfl rfl) ?_
      refine WL.va rfl rfl rfl (X.assignB rfl) ?_
      refine WL.nil ?_
      refine thn_n ?_
      refine WF.seq ?_
      refine WF.region ?_
      refine WL.va rfl rfl rfl (X.moveB rfl) ?_
      refine WL.va rfl rfl rfl (X.moveB rfl) ?_
      refine WL.p rfl rfl rfl rfl ?_
      refine WL.p rfl rfl rfl rfl ?_
      refine WL.p rfl rfl rfl rfl ?_
      refine WL.p rfl rfl rfl rfl ?_
      refine WL.p rfl rfl rfl rfl ?_
      refine WL.va rfl rfl rfl (X.pickF rfl rfl rfl) ?_
      refine WL.va rfl rfl rfl (X.moveB rfl) ?_
      refine WL.p rfl rfl rfl rfl ?_
      refine WL.p rfl rfl rfl rfl ?_
      refine WL.p rfl rfl rfl rfl ?_
      refine WL.p rfl rfl rfl rfl ?_
      refine WL.p rfl rfl rfl rfl ?_
      refine WL.va rfl rfl rfl (X.pickF rfl rfl rfl) ?_
      refine WL.va rfl rfl rfl (X.moveB rfl) ?_
      refine WL.p rfl rfl rfl rfl ?_
      refine WL.p rfl rfl rfl rfl ?_
      refine WL.p rfl rfl rfl rfl ?_
      refine WL.p rfl rfl rfl rfl ?_
      refine WL.p rfl rfl rfl rfl ?_
      refine WL.va rfl rfl rfl (X.pickF rfl rfl rfl) ?_
      refine WL.va rfl rfl rfl (X.moveB rfl) ?_
      refine WL.p rfl rfl rfl rfl ?_
      refine WL.p rfl rfl rfl rfl ?_
      refine WL.p rfl rfl rfl rfl ?_
      refine WL.p rfl rfl rfl rfl ?_
      refine WL.p rfl rfl rfl rfl ?_
      refine WL.va rfl rfl rfl (X.pickF rfl rfl rfl) ?_
      refine WL.va rfl rfl rfl (X.moveB rfl) ?_
      refine WL.p rfl rfl rfl rfl ?_
      refine WL.p rfl rfl rfl rfl ?_
      refine WL.p rfl rfl rfl rfl ?_
      refine WL.p rfl rfl rfl rfl ?_
      refine WL.p rfl rfl rfl rfl ?_
      refine WL.va rfl rfl rfl (X.pickF rfl rfl rfl) ?_
      refine WL.va rfl rfl rfl (X.moveB rfl) ?_
      refine WL.p rfl rfl rfl rfl ?_
      refine WL.p rfl rfl rfl rfl ?_
      refine WL.p rfl rfl rfl rfl ?_
      refine WL.p rfl rfl rfl rfl ?_
      refine WL.p rfl rfl rfl rfl ?_
      refine WL.va rfl rfl rfl (X.pickF rfl rfl rfl) ?_
      refine WL.va rfl rfl rfl (X.moveB rfl) ?_
      refine WL.p rfl rfl rfl rfl ?_
      refine WL.p rfl rfl rfl rfl ?_
      refine WL.p rfl rfl rfl rfl ?_
      refine WL.p rfl rfl rfl rfl ?_
      refine WL.p rfl rfl rfl rfl ?_
      refine WL.va rfl rfl rfl (X.pickF rfl rfl rfl) ?_
      refine WL.va rfl rfl rfl (X.moveB rfl) ?_
      refine WL.p rfl rfl rfl rfl ?_
      refine WL.p rfl rfl rfl rfl ?_
      refine WL.p rfl rfl rfl rfl ?_
      refine WL.p rfl rfl rfl rfl ?_
      refine WL.p rfl rfl rfl rfl ?_
      refine WL.va rfl rfl rfl (X.pickF rfl rfl rfl) ?_
      refine WL.va rfl rfl rfl (X.assignB rfl) ?_
      refine WL.nil ?_
      refine thn_n ?_
      refine WF.ret ?_
      refine fin_r ?_
      first | exact ⟨congrArg Value.bool (decide_eq_false hne).symm, (Ext.trans hx3 hx7)⟩ | (refine ⟨congrArg Value.bool (decide_eq_decide.2 ?_), (Ext.trans hx3 hx7)⟩; rw [Mg.eq_iff]; constructor; (· intro e; refine ⟨n_eq ha.len hb.len ?_ ?_ ?_ ?_ ?_ ?_ ?_ ?_ ?_ ?_ ?_ ?_ ?_ ?_, eq_of_beq ?_, ?_, e⟩ <;> assumption); (· intro e; exact e.2.2.2))
  · have gh11 := (of_decide_eq_false h11)
    have hne : a ≠ b := fun e => gh11 (by rw [e])
    refine WL.p rfl rfl rfl (congrArg some h11) ?_
    refine WL.p rfl rfl rfl (congrArg some h11) ?_
    refine WL.p rfl rfl rfl (congrArg some h11) ?_
    refine WL.p rfl rfl rfl (congrArg some h11) ?_
    refine WL.p rfl rfl rfl (congrArg some h11) ?_
    refine WL.va rfl rfl rfl (X.pickF rfl h11 rfl) ?_
    refine WL.va rfl rfl rfl (X.moveB rfl) ?_
    refine WL.p rfl rfl rfl rfl ?_
    refine WL.p rfl rfl rfl rfl ?_
    refine WL.p rfl rfl rfl rfl ?_
    refine WL.p rfl rfl rfl rfl ?_
    refine WL.p rfl rfl rfl rfl ?_
    refine WL.va rfl rfl rfl (X.pickF rfl rfl rfl) ?_
    refine WL.va rfl rfl rfl (X.moveB rfl) ?_
    refine WL.p rfl rfl rfl rfl ?_
    refine WL.p rfl rfl rfl rfl ?_
    refine WL.p rfl rfl rfl rfl ?_
    refine WL.p rfl rfl rfl rfl ?_
    refine WL.p rfl rfl rfl rfl ?_
    refine WL.va rfl rfl rfl (X.pickF rfl rfl rfl) ?_
    refine WL.va rfl rfl rfl (X.moveB rfl) ?_
    refine WL.p rfl rfl rfl rfl ?_
    refine WL.p rfl rfl rfl rfl ?_
    refine WL.p rfl rfl rfl rfl ?_
    refine WL.p rfl rfl rfl rfl ?_
    refine WL.p rfl rfl rfl rfl ?_
    refine WL.va rfl rfl rfl (X.pickF rfl rfl rfl) ?_
    refine WL.va rfl rfl rfl (X.moveB rfl) ?_
    refine WL.p rfl rfl rfl rfl ?_
    refine WL.p rfl rfl rfl rfl ?_
    refine WL.p rfl rfl rfl rfl ?_
    refine WL.p rfl rfl rfl rfl ?_
    refine WL.p rfl rfl rfl rfl ?_
    refine WL.va rfl rfl rfl (X.pickF rfl rfl rfl) ?_
    refine WL.va rfl rfl rfl (X.moveB rfl) ?_
    refine WL.p rfl rfl rfl rfl ?_
    refine WL.p rfl rfl rfl rfl ?_
    refine WL.p rfl rfl rfl rfl ?_
    refine WL.p rfl rfl rfl rfl ?_
    refine WL.p rfl rfl rfl rfl ?_
    refine WL.va rfl rfl rfl (X.pickF rfl rfl rfl) ?_
    refine WL.va rfl rfl rfl (X.moveB rfl) ?_
    refine WL.p rfl rfl rfl rfl ?_
    refine WL.p rfl rfl rfl rfl ?_
    refine WL.p rfl rfl rfl rfl ?_
    refine WL.p rfl rfl rfl rfl ?_
    refine WL.p rfl rfl rfl rfl ?_
    refine WL.va rfl rfl rfl (X.pickF rfl rfl rfl) ?_
    refine WL.va rfl rfl rfl (X.moveB rfl) ?_
    refine WL.p rfl rfl rfl rfl ?_
    refine WL.p rfl rfl rfl rfl ?_
    refine WL.p rfl rfl rfl rfl ?_
    refine WL.p rfl rfl rfl rfl ?_
    refine WL.p rfl rfl rfl rfl ?_
    refine WL.va rfl rfl rfl (X.pickF rfl rfl rfl) ?_
    refine WL.va rfl rfl rfl (X.assignB rfl) ?_
    refine WL.nil ?_
    refine thn_n ?_
    refine WF.seq ?_
    refine WF.region ?_
    refine WL.va rfl rfl rfl (X.moveB rfl) ?_
    refine WL.va rfl rfl rfl (X.moveB rfl) ?_
    refine WL.p rfl rfl rfl rfl ?_
    refine WL.p rfl rfl rfl rfl ?_
    refine WL.p rfl rfl rfl rfl ?_
    refine WL.p rfl rfl rfl rfl ?_
    refine WL.p rfl rfl rfl rfl ?_
    refine WL.va rfl rfl rfl (X.pickF rfl rfl rfl) ?_
    refine WL.va rfl rfl rfl (X.moveB rfl) ?_
    refine WL.p rfl rfl rfl rfl ?_
    refine WL.p rfl rfl rfl rfl ?_
    refine WL.p rfl rfl rfl rfl ?_
    refine WL.p rfl rfl rfl rfl ?_
    refine WL.p rfl rfl rfl rfl ?_
    refine WL.va rfl rfl rfl (X.pickF rfl rfl rfl) ?_
    refine WL.va rfl rfl rfl (X.moveB rfl) ?_
    refine WL.p rfl rfl rfl rfl ?_
    refine WL.p rfl rfl rfl rfl ?_
    refine WL.p rfl rfl rfl rfl ?_
    refine WL.p rfl rfl rfl rfl ?_
    refine WL.p rfl rfl rfl rfl ?_
    refine WL.va rfl rfl rfl (X.pickF rfl rfl rfl) ?_
    refine WL.va rfl rfl rfl (X.moveB rfl) ?_
    refine WL.p rfl rfl rfl rfl ?_
    refine WL.p rfl rfl rfl rfl ?_
    refine WL.p rfl rfl rfl rfl ?_
    refine WL.p rfl rfl rfl rfl ?_
    refine WL.p rfl rfl rfl rfl ?_
    refine WL.va rfl rfl rfl (X.pickF rfl rfl rfl) ?_
    refine WL.va rfl rfl rfl (X.moveB rfl) ?_
    refine WL.p rfl rfl rfl rfl ?_
    refine WL.p rfl rfl rfl rfl ?_
    refine WL.p rfl rfl rfl rfl ?_
    refine WL.p rfl rfl rfl rfl ?_
    refine WL.p rfl rfl rfl rfl ?_
    refine WL.va rfl rfl rfl (X.pickF rfl rfl rfl) ?_
    refine WL.va rfl rfl rfl (X.moveB rfl) ?_
    refine WL.p rfl rfl rfl rfl ?_
    refine WL.p rfl rfl rfl rfl ?_
    refine WL.p rfl rfl rfl rfl ?_
    refine WL.p rfl rfl rfl rfl ?_
    refine WL.p rfl rfl rfl rfl ?_
    refine WL.va rfl rfl rfl (X.pickF rfl rfl rfl) ?_
    refine WL.va rfl rfl rfl (X.moveB rfl) ?_
    refine WL.p rfl rfl rfl rfl ?_
    refine WL.p rfl rfl rfl rfl ?_
    refine WL.p rfl rfl rfl rfl ?_
    refine WL.p rfl rfl rfl rfl ?_
    refine WL.p rfl rfl rfl rfl ?_
    refine WL.va rfl rfl rfl (X.pickF rfl rfl rfl) ?_
    refine WL.va rfl rfl rfl (X.moveB rfl) ?_
    refine WL.p rfl rfl rfl rfl ?_
    refine WL.p rfl rfl rfl rfl ?_
    refine WL.p rfl rfl rfl rfl ?_
    refine WL.p rfl rfl rfl rfl ?_
    refine WL.p rfl rfl rfl rfl ?_
    refine WL.va rfl rfl rfl (X.pickF rfl rfl rfl) ?_
    refine WL.va rfl rfl rfl (X.assignB rfl) ?_
    refine WL.nil ?_
    refine thn_n ?_
    refine WF.ret ?_
    refine fin_r ?_
    first | exact ⟨congrArg Value.bool (decide_eq_false hne).symm, (Ext.trans hx3 hx7)⟩ | (refine ⟨congrArg Value.bool (decide_eq_decide.2 ?_), (Ext.trans hx3 hx7)⟩; rw [Mg.eq_iff]; constructor; (· intro e; refine ⟨n_eq ha.len hb.len ?_ ?_ ?_ ?_ ?_ ?_ ?_ ?_ ?_ ?_ ?_ ?_ ?_ ?_, eq_of_beq ?_, ?_, e⟩ <;> assumption); (· intro e; exact e.2.2.2))

set_option maxHeartbeats 1000000 in
theorem bigEs_ok (v : Value) (l : List En) (w : World) (h : Ens w v l) : FnOk Try.prog 63 [v, i64 2000, i64 131072] w (fun r w' => (∃ b, r = .bool b ∧ (b = false → l.length ≤ 2000 ∧ ∀ x ∈ l, x.Data.length ≤ 131072)) ∧ Ext w w') := by
  obtain ⟨E, hE, rE, dE⟩ := h
  have hEl : E.length = l.length := by rw [← hE]; simp
  have lE : (E.length : Int) ≤ 9223372036854775807 := by obtain ⟨_, c, _, h1, h2, _⟩ := rE.shape; unfold maxLen at h2; omega
  refine FnOk.enter (rs := [6]) Try.func63 rfl Try.ntmps63 Try.results63 rfl rfl ?_
  refine WF.seq ?_
  refine WF.region ?_
  refine WL.va rfl rfl rfl (X.assignB rfl) ?_
  refine WL.nil ?_
  refine thn_n ?_
  refine WF.seq ?_
  refine WF.seq ?_
  refine WF.region ?_
  refine WL.va rfl rfl rfl (X.move rfl) ?_
  refine WL.va rfl rfl rfl (X.len rE rfl Try.underlying22) ?_
  refine WL.va rfl rfl rfl (X.moveI rfl) ?_
  refine WL.va rfl rfl rfl (X.gtr rfl rfl) ?_
  refine WL.nil ?_
  refine thn_n ?_
  refine WF.cond rfl (fun h0_2 => ?_) (fun h0_2 => ?_)
  · have gh0_2 := (of_decide_eq_true h0_2)
    refine WF.seq ?_
    refine WF.region ?_
    refine WL.va rfl rfl rfl (X.assignB rfl) ?_
    refine WL.nil ?_
    refine thn_n ?_
    refine WF.ret ?_
    refine thn_r ?_
    refine fin_r ?_
    exact ⟨⟨_, rfl, fun q => (by cases q)⟩, (Ext.refl _)⟩
  · have gh0_2 := (of_decide_eq_false h0_2)
    refine WF.skip ?_
    refine thn_n ?_
    refine WF.seq ?_
    refine WF.region ?_
    refine WL.va rfl rfl rfl (X.assignI rfl) ?_
    refine WL.nil ?_
    refine thn_n ?_
    refine WF.seq ?_
    refine WF.seq ?_
    refine WF.region ?_
    refine WL.va rfl rfl rfl (X.assignI rfl) ?_
    refine WL.nil ?_
    refine thn_n ?_
    refine WF.block ?_
    refine WF.named (fun F5 hF6 => ?_)
    refine WF.loopN (fun mL0 f' w' => ∃ (k : Nat) (n : Int), mL0 = E.length - k ∧ f' 8 = .int .i64 (k : Int) ∧ f' 7 = .int .i64 n ∧ Agree [0, 1, 2, 9, 10, 11, 12] f' F5 ∧ Ext w w' ∧ k ≤ E.length ∧ 0 ≤ n ∧ n ≤ 131072 ∧ ∀ j (hj : j < E.length), j < k → E[j].1.Data.length ≤ 131072) ?_ ?_
    · exact ⟨_, 0, 0, rfl, (congrFun hF6 8), (congrFun hF6 7), (Agree.refl _ _), (Ext.refl _), ⟨Nat.zero_le _, by omega, by omega, fun j _ hj => by omega⟩⟩
    · rintro mL0 fL0 wL0 ⟨k, n, hmL0, e8_L0, e7_L0, hAL0, hwL0, ⟨hk0, hn0, hn1, hall⟩⟩
      refine WF.seq ?_
      refine WF.seq ?_
      refine WF.region ?_
      refine WL.va rfl rfl rfl (X.moveI e8_L0) ?_
      refine WL.va rfl rfl rfl (X.move ((hAL0.eq 0).trans (congrFun hF6 0))) ?_
      refine WL.va rfl rfl rfl (X.len rE rfl Try.underlying22) ?_
      refine WL.va rfl rfl rfl (X.lss rfl rfl) ?_
      refine WL.nil ?_
      refine thn_n ?_
      refine WF.cond rfl (fun h1_7 => ?_) (fun h1_7 => ?_)
      · have gh1_7 := (of_decide_eq_true h1_7)
        have hk : k < E.length := by omega
        refine WF.skip ?_
        refine thn_n ?_
        refine WF.seq ?_
        refine WF.block ?_
        refine WF.seq ?_
        refine WF.region ?_
        refine WL.va rfl rfl rfl (X.moveI e7_L0) ?_
        refine WL.va rfl rfl rfl (X.move ((hAL0.eq 0).trans (congrFun hF6 0))) ?_
        refine WL.va rfl rfl rfl (X.moveI e8_L0) ?_
        refine WL.va rfl rfl rfl (X.idx rE rfl rfl hk Try.underlying22 Try.sizeOf57) ?_
        refine WL.va rfl rfl rfl (X.fieldAddrA rfl Try.underlying57 rfl rfl Try.sizeOf23) ?_
        refine WL.va rfl rfl rfl (X.loadE rE hwL0 rfl hk ((ERow.get hk (by decide)).trans rfl) Try.isAgg23) ?_
        refine WL.va rfl rfl rfl (X.len (dE _ (List.getElem_mem hk)) rfl Try.underlying23) ?_
        refine WL.va rfl rfl rfl (X.moveI ((hAL0.eq 2).trans (congrFun hF6 2))) ?_
        refine WL.va rfl rfl rfl (X.add rfl rfl (w64 (by omega))) ?_
        refine WL.va rfl rfl rfl (X.min2 rfl rfl) ?_
        refine WL.va rfl rfl rfl (X.add rfl rfl (w64 (by omega))) ?_
        refine WL.va rfl rfl rfl (X.assignI rfl) ?_
        refine WL.nil ?_
        refine thn_n ?_
        refine WF.seq ?_
        refine WF.region ?_
        refine WL.va rfl rfl rfl (X.moveI rfl) ?_
        refine WL.va rfl rfl rfl (X.moveI ((hAL0.eq 2).trans (congrFun hF6 2))) ?_
        refine WL.va rfl rfl rfl (X.gtr rfl rfl) ?_
        refine WL.nil ?_
        refine thn_n ?_
        refine WF.cond rfl (fun h2_9 => ?_) (fun h2_9 => ?_)
        · have gh2_9 := (of_decide_eq_true h2_9)
          refine WF.seq ?_
          refine WF.region ?_
          refine WL.va rfl rfl rfl (X.assignB rfl) ?_
          refine WL.nil ?_
          refine thn_n ?_
          refine WF.ret ?_
          refine blk_r ?_
          refine thn_r ?_
          refine thn_r ?_
          refine blk_r ?_
          refine thn_r ?_
          refine fin_r ?_
          exact ⟨⟨_, rfl, fun q => (by cases q)⟩, hwL0⟩
        · have gh2_9 := (of_decide_eq_false h2_9)
          have hkl : (E[k]'hk).1.Data.length ≤ 131072 := by omega
          refine WF.skip ?_
          refine blk_n ?_
          refine thn_n ?_
          refine WF.region ?_
          refine WL.va rfl rfl rfl (X.moveI e8_L0) ?_
          refine WL.va rfl rfl rfl (X.add rfl rfl (w64 (by omega))) ?_
          refine WL.va rfl rfl rfl (X.assignI rfl) ?_
          refine WL.nil ?_
          exact thn_n ⟨_, (by omega), k + 1, _, rfl, rfl, rfl, (by repeat (first | exact hAL0 | refine Agree.put ?_ rfl | refine Agree.named hF6 ?_)), hwL0, ⟨by omega, by omega, by omega, fun j hj hj2 => by
        rcases Nat.lt_succ_iff_lt_or_eq.1 hj2 with hq | rfl
        · exact hall j hj hq
        · exact hkl⟩⟩
      · have gh1_7 := (of_decide_eq_false h1_7)
        refine WF.exit ?_
        refine thn_x ?_
        refine thn_x ?_
        refine blk_eq ?_
        refine thn_n ?_
        refine WF.seq ?_
        refine WF.region ?_
        refine WL.va rfl rfl rfl (X.assignB rfl) ?_
        refine WL.nil ?_
        refine thn_n ?_
        refine WF.ret ?_
        refine fin_r ?_
        refine ⟨⟨_, rfl, fun _ => ⟨by omega, fun x hx => ?_⟩⟩, hwL0⟩
        rw [← hE] at hx
        obtain ⟨e, he, rfl⟩ := List.mem_map.1 hx
        obtain ⟨j, hj, rfl⟩ := List.getElem_of_mem he
        exact hall j hj (by omega)

set_option maxHeartbeats 1000000 in
theorem bigMsg_ok (vE vD : Value) (m : Mg) (w : World) (h : MgAt w vE vD m) : FnOk Try.prog 31 [agg (mc m.n m.ok vE vD), i64 2000, i64 131072] w (fun r w' => (∃ b, r = .bool b ∧ (b = false → m.E.length ≤ 2000 ∧ m.D.length ≤ 131072 ∧ ∀ x ∈ m.E, x.Data.length ≤ 131072)) ∧ Ext w w') := by
  refine FnOk.enter (rs := [6]) Try.func31 rfl Try.ntmps31 Try.results31 rfl rfl ?_
  refine WF.seq ?_
  refine WF.region ?_
  refine WL.op rfl (OW.boxA (cs := (mc m.n m.ok vE vD)) rfl ?_ (by decide))
  intro g3 w1 heg3 hlg3 hO3 hx3
  have := World.grownBy.size hx3
  refine WL.va rfl rfl rfl (X.assignB rfl) ?_
  refine WL.nil ?_
  refine thn_n ?_
  refine WF.seq ?_
  refine WF.region ?_
  refine WL.va rfl rfl rfl (X.fieldAddrO (off := 15) rfl Try.underlying25 rfl rfl Try.sizeOf22) ?_
  refine WL.va rfl rfl rfl (X.loadO hO3 (Ext.refl _) rfl rfl Try.isAgg22) ?_
  refine WL.va rfl rfl rfl (X.moveI rfl) ?_
  refine WL.va rfl rfl rfl (X.moveI rfl) ?_
  refine WL.c rfl rfl rfl (X.call Try.call63 (evl_cons rfl (evl_cons rfl (evl_cons rfl evl_nil)))) (bigEs_ok _ _ _ (h.E.ext hx3)) ?_
  rintro v7 w6 ⟨⟨bE, rfl, hbE⟩, hx8⟩
  have := World.grownBy.size hx8
  refine WL.va rfl rfl rfl (X.moveB rfl) ?_
  refine WL.split (j := 5) rfl (fun h10 => ?_) (fun h10 => ?_)
  · have gh10 := h10
    have hq := gh10
    refine WL.p rfl rfl rfl (congrArg some h10) ?_
    refine WL.p rfl rfl rfl (congrArg some h10) ?_
    refine WL.p rfl rfl rfl (congrArg some h10) ?_
    refine WL.p rfl rfl rfl (congrArg some h10) ?_
    refine WL.p rfl rfl rfl (congrArg some h10) ?_
    refine WL.va rfl rfl rfl (X.pickT rfl h10 rfl) ?_
    refine WL.va rfl rfl rfl (X.assignB rfl) ?_
    refine WL.nil ?_
    refine thn_n ?_
    refine WF.ret ?_
    refine fin_r ?_
    first | exact ⟨⟨_, rfl, fun q => by cases q⟩, (Ext.trans hx3 hx8)⟩ | exact ⟨⟨_, rfl, fun q => ⟨(hbE hq).1, by have := of_decide_eq_false q; omega, (hbE hq).2⟩⟩, (Ext.trans hx3 hx8)⟩
  · have gh10 := h10
    have hq := gh10
    refine WL.vg rfl (congrArg some h10) rfl rfl (X.fieldAddrO (off := 16) rfl Try.underlying25 rfl rfl Try.sizeOf23) ?_
    refine WL.vg rfl (congrArg some h10) rfl rfl (X.loadO hO3 hx8 rfl rfl Try.isAgg23) ?_
    refine WL.vg rfl (congrArg some h10) rfl rfl (X.len (Row.ext h.D (Ext.trans hx3 hx8)) rfl Try.underlying23) ?_
    refine WL.vg rfl (congrArg some h10) rfl rfl (X.moveI rfl) ?_
    refine WL.vg rfl (congrArg some h10) rfl rfl (X.gtr rfl rfl) ?_
    refine WL.va rfl rfl rfl (X.pickF rfl h10 rfl) ?_
    refine WL.va rfl rfl rfl (X.assignB rfl) ?_
    refine WL.nil ?_
    refine thn_n ?_
    refine WF.ret ?_
    refine fin_r ?_
    first | exact ⟨⟨_, rfl, fun q => by cases q⟩, (Ext.trans hx3 hx8)⟩ | exact ⟨⟨_, rfl, fun q => ⟨(hbE hq).1, by have := of_decide_eq_false q; omega, (hbE hq).2⟩⟩, (Ext.trans hx3 hx8)⟩

set_option maxHeartbeats 2000000 in
theorem copyMsg_ok (vE vD : Value) (m : Mg) (w : World) (h : MgAt w vE vD m) (hm : m.small) : FnOk Try.prog 15 [agg (mc m.n m.ok vE vD)] w (fun r w' => (∃ v1 v2, r = agg (mc m.n m.ok v1 v2) ∧ MgAt w' v1 v2 m) ∧ Ext w w') := by
  refine FnOk.enterC (rs := [.cell 2 25]) Try.func15 rfl Try.ntmps15 Try.results15 rfl rfl ?_
  refine WF.seq ?_
  refine WF.region ?_
  refine WL.op rfl (OW.boxA (cs := (mc m.n m.ok vE vD)) rfl ?_ (by decide))
  intro g1 w1 heg1 hlg1 hO1 hx3
  have := World.grownBy.size hx3
  refine WL.op rfl (OW.allocO (cs := [i64 0, i64 0, i64 0, i64 0, i64 0, i64 0, i64 0, i64 0, i64 0, i64 0, i64 0, i64 0, i64 0, i64 0, .bool false, .slice none 0 0, .slice none 0 0]) Try.zeroValue25 rfl ?_ (by decide))
  intro g2 w5 heg2 hlg2 hO2 hx7
  have := World.grownBy.size hx7
  refine WL.nil ?_
  refine thn_n ?_
  refine WF.seq ?_
  refine WF.region ?_
  refine WL.va rfl rfl rfl (X.fieldAddrO (off := 15) rfl Try.underlying25 rfl rfl Try.sizeOf22) ?_
  refine WL.va rfl rfl rfl (X.loadO hO1 hx7 rfl rfl Try.isAgg22) ?_
  refine WL.c rfl rfl rfl (X.call Try.call42 (evl_cons rfl evl_nil)) (copyEs_ok _ _ _ (h.E.ext (Ext.trans hx3 hx7)) hm.E hm.ED) ?_
  rintro v1 w9 ⟨⟨F, hF, oE⟩, hx10⟩
  have := World.grownBy.size hx10
  refine WL.va rfl rfl rfl (X.fieldAddrO (off := 15) rfl Try.underlying25 rfl rfl Try.sizeOf22) ?_
  refine WL.op rfl (OW.storeO (hO1.ext (Ext.trans hx7 hx10)) (Nat.le_of_ble_eq_true rfl) rfl rfl (own_one oE.row) Try.sizeOf22 ?_)
  intro w11 hO1 hx13
  have := World.grownBy.size hx13
  replace hO2 := (hO2.ext hx10).keptO hx13 (by omega)
  replace oE := oE.keptO hx13 (by omega)
  replace hO1 : Blk _ _ _ (mc m.n m.ok v1 vD) := hO1
  refine WL.nil ?_
  refine thn_n ?_
  refine WF.seq ?_
  refine WF.region ?_
  refine WL.va rfl rfl rfl (X.fieldAddrO (off := 16) rfl Try.underlying25 rfl rfl Try.sizeOf23) ?_
  refine WL.va rfl rfl rfl (X.loadO hO1 (Ext.refl _) rfl rfl Try.isAgg23) ?_
  refine WL.c rfl rfl rfl (X.call Try.call27 (evl_cons rfl evl_nil)) (copyBytes_ok _ _ _ (Row.ext h.D (Ext.store (Ext.trans (Ext.trans hx3 hx7) hx10) hx13 (by omega))) (by have := hm.D; omega)) ?_
  rintro v2 w15 ⟨oD, hx16⟩
  have := World.grownBy.size hx16
  refine WL.va rfl rfl rfl (X.fieldAddrO (off := 16) rfl Try.underlying25 rfl rfl Try.sizeOf23) ?_
  refine WL.op rfl (OW.storeO (hO1.ext hx16) (Nat.le_of_ble_eq_true rfl) rfl rfl (own_one oD) Try.sizeOf23 ?_)
  intro w17 hO1 hx19
  have := World.grownBy.size hx19
  replace hO2 := (hO2.ext hx16).keptO hx19 (by omega)
  replace oE := (oE.ext hx16).keptO hx19 (by omega)
  replace oD := own_keptO oD hx19 (by omega)
  replace hO1 : Blk _ _ _ (mc m.n m.ok v1 v2) := hO1
  refine WL.nil ?_
  refine thn_n ?_
  refine WF.seq ?_
  refine WF.region ?_
  refine WL.va rfl rfl rfl (X.loadOA hO1 (Ext.refl _) rfl rfl Try.isAgg25 Try.sizeOf25) ?_
  have hA : MgAt w17 v1 v2 m := ⟨h.len, h.inn, h.ein, oE.sessE hF, Row.of_own oD⟩
  refine WL.op rfl (OW.storeOA hO2 rfl rfl rfl hA.ones Try.sizeOf25 ?_)
  intro w21 hO2 hx23
  have := World.grownBy.size hx23
  replace hO1 := hO1.keptO hx23 (by omega)
  replace oE := oE.keptO hx23 (by omega)
  replace oD := own_keptO oD hx23 (by omega)
  refine WL.nil ?_
  refine thn_n ?_
  refine WF.ret ?_
  refine finC_r (vs := [_]) ⟨⟨_, rfl, readO hO2 Try.isAgg25 Try.sizeOf25⟩, trivial⟩ ?_
  exact ⟨⟨v1, v2, rfl, ⟨h.len, h.inn, h.ein, oE.sessE hF, Row.of_own oD⟩⟩, (Ext.store (Ext.store (Ext.trans (Ext.store (Ext.trans (Ext.trans hx3 hx7) hx10) hx13 (by omega)) hx16) hx19 (by omega)) hx23 (by omega))⟩

set_option maxHeartbeats 1600000 in
theorem spoilEsD_ok (v D : Value) (E : List EV) (L0 : List UInt8) (w : World) (B T : Nat) (h : EOwnR w B v E) (hD : OwnB w B 5 D L0) (hsg : SegE D L0 E) (hap : Apart v D) (hT : (∀ b, v.ownBlock = some b → b < T) ∧ ∀ b, D.ownBlock = some b → b < T) : FnOk Try.prog 60 [v] w (fun _ w' => (∃ L, OwnB w' B 5 D L ∧ L.length = L0.length) ∧ Chg B T w w') := by
  have hle : (E.length : Int) ≤ 9223372036854775807 := by obtain ⟨_, c, _, h1, h2, _⟩ := (Row.of_own h).shape; unfold maxLen at h2; omega
  refine FnOk.enter (rs := []) Try.func60 rfl Try.ntmps60 Try.results60 rfl rfl ?_
  refine WF.seq ?_
  refine WF.region ?_
  refine WL.va rfl rfl rfl (X.assignI rfl) ?_
  refine WL.nil ?_
  refine thn_n ?_
  refine WF.block ?_
  refine WF.named (fun F1 hF2 => ?_)
  refine WF.loopN (fun mL0 f' w' => ∃ (k : Nat) (cs : List Value) (L : List UInt8), mL0 = E.length - k ∧ f' 2 = .int .i64 (k : Int) ∧ Agree [0] f' F1 ∧ Chg B T w w' ∧ k ≤ E.length ∧ L.length = L0.length ∧ OwnB w' B 5 D L ∧ w'.ownsRow B 57 3 v E.length cs ∧ cs.drop (k * 3) = (E.flatMap EV.c).drop (k * 3)) ?_ ?_
  · exact ⟨_, 0, _, _, rfl, (congrFun hF2 2), (Agree.refl _ _), (Chg.refl _ _ _), ⟨Nat.zero_le _, rfl, hD, h, rfl⟩⟩
  · rintro mL0 fL0 wL0 ⟨k, cs, L, hmL0, e2_L0, hAL0, hwL0, ⟨hk0, hLl, hoD, hrow, hdr⟩⟩
    refine WF.seq ?_
    refine WF.seq ?_
    refine WF.region ?_
    refine WL.va rfl rfl rfl (X.moveI e2_L0) ?_
    refine WL.va rfl rfl rfl (X.move ((hAL0.eq 0).trans (congrFun hF2 0))) ?_
    refine WL.va rfl rfl rfl (X.len (Row.of_own hrow) rfl Try.underlying22) ?_
    refine WL.va rfl rfl rfl (X.lss rfl rfl) ?_
    refine WL.nil ?_
    refine thn_n ?_
    refine WF.cond rfl (fun h0_3 => ?_) (fun h0_3 => ?_)
    · have gh0_3 := (of_decide_eq_true h0_3)
      have hk : k < E.length := by omega
      obtain ⟨lo, hi, hs1, hs2, _⟩ := hsg _ (List.getElem_mem hk)
      refine WF.skip ?_
      refine thn_n ?_
      refine WF.seq ?_
      refine WF.block ?_
      refine WF.seq ?_
      refine WF.region ?_
      refine WL.va rfl rfl rfl (X.move ((hAL0.eq 0).trans (congrFun hF2 0))) ?_
      refine WL.va rfl rfl rfl (X.moveI e2_L0) ?_
      refine WL.va rfl rfl rfl (X.idx (Row.of_own hrow) rfl rfl (by omega) Try.underlying22 Try.sizeOf57) ?_
      refine WL.va rfl rfl rfl (X.fieldAddrA rfl Try.underlying57 rfl rfl Try.sizeOf23) ?_
      refine WL.va rfl rfl rfl (X.loadE (Row.of_own hrow) (Ext.refl _) rfl (by omega) (ecell hk hdr) Try.isAgg23) ?_
      refine WL.c rfl rfl rfl (X.call Try.call19 (evl_cons rfl evl_nil)) (spoilSeg_ok D (E[k]'hk).2 L lo hi _ B hoD hs1 (by omega)) ?_
      rintro v6 w5 ⟨⟨L2, oD2, hL2, _⟩, hx7⟩
      have hr2 := hrow.kept hx7 hap.ne
      have hg1 := Chg.of hx7 (B := B) (T := T) (fun g hg => ⟨(hoD.lt g hg).1, hT.2 g hg⟩)
      refine WL.nil ?_
      refine thn_n ?_
      refine WF.region ?_
      refine WL.va rfl rfl rfl (X.move ((hAL0.eq 0).trans (congrFun hF2 0))) ?_
      refine WL.va rfl rfl rfl (X.moveI e2_L0) ?_
      refine WL.va rfl rfl rfl (X.buildL (P := Try.prog) (t := 57) (cs := [i64 (-77), i64 0, (.slice none 0 0)]) (evp_cons rfl evp_nil) Try.type57 Try.underlying57 rfl rfl ⟨rfl, trivial⟩ rfl) ?_
      refine WL.va rfl rfl rfl (X.idx (Row.of_own hr2) rfl rfl hk Try.underlying22 Try.sizeOf57) ?_
      refine WL.op rfl (OW.storeEl (ds := [i64 (-77), i64 0, (.slice none 0 0)]) hr2 hk rfl rfl rfl (by simp [Value.oneCell']) Try.sizeOf57 ?_)
      intro w8 ho11 hx10
      have ho2 := ho11
      have oD3 := oD2.kept hx10 hap.symm.ne
      have hg2 := Chg.of hx10 (B := B) (T := T) (fun g hg => ⟨(hr2.lt g hg).1, hT.1 g hg⟩)
      refine WL.nil ?_
      refine blk_n ?_
      refine thn_n ?_
      refine WF.region ?_
      refine WL.va rfl rfl rfl (X.moveI e2_L0) ?_
      refine WL.va rfl rfl rfl (X.add rfl rfl (w64 (by omega))) ?_
      refine WL.va rfl rfl rfl (X.assignI rfl) ?_
      refine WL.nil ?_
      exact thn_n ⟨_, (by omega), k + 1, _, _, rfl, rfl, (by repeat (first | exact hAL0 | refine Agree.put ?_ rfl | refine Agree.named hF2 ?_)), ((hwL0.trans hg1).trans hg2), ⟨by omega, by omega, oD3, ho2, enext hk hrow.1 rfl hdr⟩⟩
    · have gh0_3 := (of_decide_eq_false h0_3)
      refine WF.exit ?_
      refine thn_x ?_
      refine thn_x ?_
      refine blk_eq ?_
      refine fin_n ?_
      exact ⟨⟨_, hoD, hLl⟩, hwL0⟩

set_option maxHeartbeats 1600000 in
theorem spoilMsgs_ok (v vE vD D : Value) (m : Mg) (L : List UInt8) (E : List EV) (w0 wl w : World) (B : Nat) (hr : w.ownsRow wl.heap.size 25 17 v 1 (mc m.n m.ok vE vD)) (h : MgG w0 B vE vD m D L E) (g0 : Ext w0 wl) (g : Ext wl w) : FnOk Try.prog 25 [v] w (fun _ w' => Chg B w0.heap.size wl w') := by
  have hz0 := World.grownBy.size g0
  have hzl := World.grownBy.size g
  obtain ⟨lo, hi, hs1, hs2, _⟩ := h.pl.dat
  have tE := fun b hb => (h.row.lt b hb).2
  have tD := fun b hb => (h.own.lt b hb).2
  have tv := hr.lt
  have hvE : Apart vE v := fun b h1 h2 => by have := (tv b h2).1; have := tE b h1; omega
  have hvD : Apart D v := fun b h1 h2 => by have := (tv b h2).1; have := tD b h1; omega
  have oE1 := own_ext (own_ext h.row g0) g
  have oD1 := own_ext (own_ext h.own g0) g
  refine FnOk.enter (rs := []) Try.func25 rfl Try.ntmps25 Try.results25 rfl rfl ?_
  refine WF.seq ?_
  refine WF.region ?_
  refine WL.va rfl rfl rfl (X.assignI rfl) ?_
  refine WL.nil ?_
  refine thn_n ?_
  refine WF.block ?_
  refine WF.named (fun F1 hF2 => ?_)
  refine WF.loopN (fun mL0 f' w' => ∃ (k : Nat) (cs : List Value), mL0 = 1 - k ∧ f' 2 = .int .i64 (k : Int) ∧ Agree [0] f' F1 ∧ Chg B w0.heap.size wl w' ∧ k ≤ 1 ∧ w'.ownsRow wl.heap.size 25 17 v 1 cs ∧ (k = 0 → cs = (mc m.n m.ok vE vD) ∧ EOwnR w' B vE E ∧ OwnB w' B 5 D L)) ?_ ?_
  · exact ⟨_, 0, _, rfl, (congrFun hF2 2), (Agree.refl _ _), (Chg.of g fun q hq => by cases hq), ⟨Nat.zero_le _, hr, fun _ => ⟨rfl, oE1, oD1⟩⟩⟩
  · rintro mL0 fL0 wL0 ⟨k, cs, hmL0, e2_L0, hAL0, hwL0, ⟨hk0, hrow, hcs⟩⟩
    refine WF.seq ?_
    refine WF.seq ?_
    refine WF.region ?_
    refine WL.va rfl rfl rfl (X.moveI e2_L0) ?_
    refine WL.va rfl rfl rfl (X.move ((hAL0.eq 0).trans (congrFun hF2 0))) ?_
    refine WL.va rfl rfl rfl (X.len (Row.of_own hrow) rfl Try.underlying40) ?_
    refine WL.va rfl rfl rfl (X.lss rfl rfl) ?_
    refine WL.nil ?_
    refine thn_n ?_
    refine WF.cond rfl (fun h0_3 => ?_) (fun h0_3 => ?_)
    · have gh0_3 := (of_decide_eq_true h0_3)
      have hk : k < 1 := by omega
      obtain ⟨rfl, hoE, hoD⟩ := hcs (by omega)
      refine WF.skip ?_
      refine thn_n ?_
      refine WF.seq ?_
      refine WF.block ?_
      refine WF.seq ?_
      refine WF.region ?_
      refine WL.va rfl rfl rfl (X.move ((hAL0.eq 0).trans (congrFun hF2 0))) ?_
      refine WL.va rfl rfl rfl (X.moveI e2_L0) ?_
      refine WL.va rfl rfl rfl (X.idx (Row.of_own hrow) rfl rfl (by omega) Try.underlying40 Try.sizeOf25) ?_
      refine WL.va rfl rfl rfl (X.fieldAddrA rfl Try.underlying25 rfl rfl Try.sizeOf22) ?_
      refine WL.va rfl rfl rfl (X.loadE (Row.of_own hrow) (Ext.refl _) rfl (by omega) (by rw [show k = 0 by omega]; rfl) Try.isAgg22) ?_
      refine WL.c rfl rfl rfl (X.call Try.call60 (evl_cons rfl evl_nil)) (spoilEsD_ok vE D E L _ B w0.heap.size hoE hoD h.pl.seg h.ap ⟨tE, tD⟩) ?_
      rintro v6 w5 ⟨⟨L2, oD2, hL2⟩, hc3⟩
      have hr3 : World.ownsRow w5 wl.heap.size 25 17 v 1 (mc m.n m.ok vE vD) := own_chg hrow hc3 (fun b hb => by have := tv b hb; omega)
      refine WL.nil ?_
      refine thn_n ?_
      refine WF.seq ?_
      refine WF.region ?_
      refine WL.va rfl rfl rfl (X.move ((hAL0.eq 0).trans (congrFun hF2 0))) ?_
      refine WL.va rfl rfl rfl (X.moveI e2_L0) ?_
      refine WL.va rfl rfl rfl (X.idx (Row.of_own hr3) rfl rfl (by omega) Try.underlying40 Try.sizeOf25) ?_
      refine WL.va rfl rfl rfl (X.fieldAddrA rfl Try.underlying25 rfl rfl Try.sizeOf23) ?_
      refine WL.va rfl rfl rfl (X.loadE (Row.of_own hr3) (Ext.refl _) rfl (by omega) (by rw [show k = 0 by omega]; rfl) Try.isAgg23) ?_
      refine WL.c rfl rfl rfl (X.call Try.call19 (evl_cons rfl evl_nil)) (spoilSeg_ok D vD L2 lo hi _ B oD2 hs1 (by omega)) ?_
      rintro v9 w8 ⟨_, hx10⟩
      have hr4 := hr3.kept hx10 hvD.symm.ne
      have hg1 := Chg.of hx10 (B := B) (T := w0.heap.size) (fun g hg => ⟨(oD2.lt g hg).1, tD g hg⟩)
      refine WL.nil ?_
      refine thn_n ?_
      refine WF.region ?_
      refine WL.va rfl rfl rfl (X.move ((hAL0.eq 0).trans (congrFun hF2 0))) ?_
      refine WL.va rfl rfl rfl (X.moveI e2_L0) ?_
      refine WL.va rfl rfl rfl (X.buildT (P := Try.prog) (t := 25) (cs := [i64 (-77), i64 0, i64 0, i64 0, i64 0, i64 0, i64 0, i64 0, i64 0, i64 0, i64 0, i64 0, i64 0, i64 0, .bool false, (.slice none 0 0), (.slice none 0 0)]) (zs := [i64 0, i64 0, i64 0, i64 0, i64 0, i64 0, i64 0, i64 0, i64 0, i64 0, i64 0, i64 0, i64 0, i64 0, .bool false, .slice none 0 0, .slice none 0 0]) (places := [(0, 1), (1, 1), (2, 1), (3, 1), (4, 1), (5, 1), (6, 1), (7, 1), (8, 1), (9, 1), (10, 1), (11, 1), (12, 1), (13, 1), (14, 1), (15, 1), (16, 1)]) (n := 17) (evp_cons rfl evp_nil) Try.type25 Try.underlying25 rfl rfl ⟨rfl, trivial⟩ rfl rfl rfl) ?_
      refine WL.va rfl rfl rfl (X.idx (Row.of_own hr4) rfl rfl (by omega) Try.underlying40 Try.sizeOf25) ?_
      refine WL.op rfl (OW.storeEl (ds := [i64 (-77), i64 0, i64 0, i64 0, i64 0, i64 0, i64 0, i64 0, i64 0, i64 0, i64 0, i64 0, i64 0, i64 0, .bool false, (.slice none 0 0), (.slice none 0 0)]) hr4 hk rfl rfl rfl (by simp [Value.oneCell']) Try.sizeOf25 ?_)
      intro w11 ho14 hx13
      have ho2 := ho14
      have hg2 := chg_new ((hwL0.trans hc3).trans hg1) hx13 (fun g hg => (tv g hg).1)
      refine WL.nil ?_
      refine blk_n ?_
      refine thn_n ?_
      refine WF.region ?_
      refine WL.va rfl rfl rfl (X.moveI e2_L0) ?_
      refine WL.va rfl rfl rfl (X.add rfl rfl (w64 (by omega))) ?_
      refine WL.va rfl rfl rfl (X.assignI rfl) ?_
      refine WL.nil ?_
      exact thn_n ⟨_, (by omega), k + 1, _, rfl, rfl, (by repeat (first | exact hAL0 | refine Agree.put ?_ rfl | refine Agree.named hF2 ?_)), hg2, ⟨by omega, ho2, fun q => by omega⟩⟩
    · have gh0_3 := (of_decide_eq_false h0_3)
      refine WF.exit ?_
      refine thn_x ?_
      refine thn_x ?_
      refine blk_eq ?_
      refine fin_n ?_
      exact hwL0

end Go.Proofs.Ytccbpfbcaogcnaa
