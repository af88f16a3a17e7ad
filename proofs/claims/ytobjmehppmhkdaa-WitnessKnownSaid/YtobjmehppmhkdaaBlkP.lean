/- The walks of package blocks: finding, copying, getting and setting. -/
import Derived.Test.YtobjmehppmhkdaaBkK
import Derived.Test.YtobjmehppmhkdaaDel
import Derived.Test.YtobjmehppmhkdaaBlkLaw
namespace Go.Proofs.Ytobjmehppmhkdaa
open Go Go.RowKit Kf
set_option maxRecDepth 20000

theorem list4 {b : List UInt8} (h : b.length = 4) : ∃ x0 x1 x2 x3, b = [x0, x1, x2, x3] := by
  match b, h with
  | [a, b, c, d], _ => exact ⟨a, b, c, d, rfl⟩
theorem BOwn.del {w w' : World} {B i : Nat} {v v' : Value} {E : List BV} (h : BOwn w B v E) (hi : i < E.length) (hr : w'.ownsRow B 74 2 v' (E.length - 1) ((E.flatMap BV.c).take (i * 2) ++ (E.flatMap BV.c).drop ((i + 1) * 2))) (k : w.grownBy w' v.ownBlock) (hb : v'.ownBlock = v.ownBlock) : BOwn w' B v' (E.take i ++ E.drop (i + 1)) := by
  have hsub : (E.take i ++ E.drop (i + 1)).Sublist E := by
    have : (E.take i ++ E.drop (i + 1)).Sublist (E.take i ++ E.drop i) := (List.Sublist.refl _).append (by rw [← List.drop_drop]; exact List.drop_sublist _ _)
    rwa [List.take_append_drop] at this
  refine ⟨?_, fun e he => (h.data e (hsub.mem he)).kept k (h.off e (hsub.mem he)).ne, fun e he b h1 h2 => h.off e (hsub.mem he) b h1 (hb ▸ h2), h.pair.sublist hsub⟩
  rw [flat_take (fun e => (BV.c_len e).2), flat_drop (fun e => (BV.c_len e).2)] at hr
  rw [show (E.take i ++ E.drop (i + 1)).length = E.length - 1 by simp; omega]
  simpa [List.flatMap_append] using hr
theorem find_has {E : List BV} {no : Int} (h : SortB (E.map Prod.fst)) : decide (cntB (E.map Prod.fst) no < E.length ∧ ((E.map Prod.fst).getD (cntB (E.map Prod.fst) no) default).No - no = 0) = hasB (E.map Prod.fst) no := by
  rw [has_dec h, decide_eq_decide]
  constructor
  · rintro ⟨h1, h2⟩
    refine ⟨by simpa using h1, ?_⟩
    rw [List.getD_eq_getElem?_getD, List.getElem?_eq_getElem (by simpa using h1)] at h2
    simp only [Option.getD_some] at h2
    omega
  · rintro ⟨h1, h2⟩
    refine ⟨by simpa using h1, ?_⟩
    rw [List.getD_eq_getElem?_getD, List.getElem?_eq_getElem h1]
    simp only [Option.getD_some]
    omega
theorem take_cnt {l r : List Bl} {n : Nat} (h : n ≤ l.length) : (l.take n ++ r).take n = l.take n ∧ (l.take n ++ r).drop n = r := by
  have hl : (l.take n).length = n := by simp; omega
  exact ⟨List.take_left' hl, List.drop_left' hl⟩
set_option maxHeartbeats 800000 in
theorem bsearchB_ok (v vf : Value) (tv : Int) (cs : List Value) (n at_ : Nat) (c : Nat → Int) (w : World) (hb : Row w v n 2 cs) (hn : n ≤ 1000000) (hat : at_ ≤ n) (hc : ∀ k, k < n → (c k < 0 ↔ k < at_)) (hf : ∀ k w1, k < n → Ext w w1 → CloOk Try.prog vf [agg (el cs 2 k), i64 tv] w1 (fun r w2 => r = i64 (c k) ∧ Ext w1 w2)) : FnOk Try.prog 69 [v, i64 tv, vf] w (fun r w' => r = .tuple #[i64 (at_ : Int), .bool (decide (at_ < n ∧ c at_ = 0))] ∧ Ext w w') := by
  refine FnOk.enter (rs := [6, 7]) Try.func69 rfl Try.ntmps69 Try.results69 rfl rfl ?_
  refine WF.seq ?_
  refine WF.region ?_
  refine WL.va rfl rfl rfl (X.assignI rfl) ?_
  refine WL.va rfl rfl rfl (X.assignB rfl) ?_
  refine WL.nil ?_
  refine thn_n ?_
  refine WF.seq ?_
  refine WF.region ?_
  refine WL.va rfl rfl rfl (X.move rfl) ?_
  refine WL.va rfl rfl rfl (X.len hb rfl Try.underlying52) ?_
  refine WL.va rfl rfl rfl (X.assignI rfl) ?_
  refine WL.nil ?_
  refine thn_n ?_
  refine WF.seq ?_
  refine WF.region ?_
  refine WL.va rfl rfl rfl (X.moveI rfl) ?_
  refine WL.va rfl rfl rfl (X.assignI rfl) ?_
  refine WL.va rfl rfl rfl (X.assignI rfl) ?_
  refine WL.nil ?_
  refine thn_n ?_
  refine WF.seq ?_
  refine WF.block ?_
  refine WF.named (fun F2 hF3 => ?_)
  refine WF.loopN (fun mL0 f' w' => ∃ (i j : Nat), mL0 = j - i ∧ f' 9 = .int .i64 (i : Int) ∧ f' 10 = .int .i64 (j : Int) ∧ Agree [0, 1, 2, 6, 7, 8, 12, 13, 14] f' F2 ∧ Ext w w' ∧ i ≤ at_ ∧ at_ ≤ j ∧ j ≤ n) ?_ ?_
  · exact ⟨_, 0, n, rfl, (congrFun hF3 9), (congrFun hF3 10), (Agree.refl _ _), (Ext.refl _), ⟨Nat.zero_le _, hat, Nat.le_refl _⟩⟩
  · rintro mL0 fL0 wL0 ⟨i, j, hmL0, e9_L0, e10_L0, hAL0, hwL0, ⟨hi, hj, hjn⟩⟩
    refine WF.seq ?_
    refine WF.seq ?_
    refine WF.region ?_
    refine WL.va rfl rfl rfl (X.moveI e9_L0) ?_
    refine WL.va rfl rfl rfl (X.moveI e10_L0) ?_
    refine WL.va rfl rfl rfl (X.lss rfl rfl) ?_
    refine WL.nil ?_
    refine thn_n ?_
    refine WF.cond rfl (fun h0_4 => ?_) (fun h0_4 => ?_)
    · have gh0_4 := (of_decide_eq_true h0_4)
      have hij : i < j := by omega
      have hh : ((i + j) / 2) < n := by omega
      refine WF.skip ?_
      refine thn_n ?_
      refine WF.block ?_
      refine WF.seq ?_
      refine WF.region ?_
      refine WL.va rfl rfl rfl (X.moveI e9_L0) ?_
      refine WL.va rfl rfl rfl (X.moveI e10_L0) ?_
      refine WL.va rfl rfl rfl (X.add rfl rfl (w64 (by omega))) ?_
      refine WL.va rfl rfl rfl (X.conv rfl (congrArg Option.isSome Try.underlying3) Try.underlying114 (wu64 (by omega))) ?_
      refine WL.va rfl rfl rfl (X.shr rfl rfl (by omega) half_u64) ?_
      refine WL.va rfl rfl rfl (X.conv rfl (congrArg Option.isSome Try.underlying114) Try.underlying3 (w64 (by omega))) ?_
      refine WL.va rfl rfl rfl (X.assignI rfl) ?_
      refine WL.nil ?_
      refine thn_n ?_
      refine WF.seq ?_
      refine WF.region ?_
      refine WL.va rfl rfl rfl (X.move ((hAL0.eq 2).trans (congrFun hF3 2))) ?_
      refine WL.va rfl rfl rfl (X.move ((hAL0.eq 0).trans (congrFun hF3 0))) ?_
      refine WL.va rfl rfl rfl (X.moveI rfl) ?_
      refine WL.va rfl rfl rfl (X.idx hb rfl rfl (by omega) Try.underlying52 Try.sizeOf74) ?_
      refine WL.va rfl rfl rfl (X.loadEl hb hwL0 rfl (by omega) rfl Try.isAgg74 Try.sizeOf74) ?_
      refine WL.va rfl rfl rfl (X.moveI ((hAL0.eq 1).trans (congrFun hF3 1))) ?_
      refine WL.op rfl (OW.callV rfl (evl_cons rfl (evl_cons rfl evl_nil)) (hf ((i + j) / 2) _ hh hwL0) ?_ (by decide))
      rintro v7 w6 ⟨rfl, hx8⟩
      refine WL.va rfl rfl rfl (X.lss rfl rfl) ?_
      refine WL.nil ?_
      refine thn_n ?_
      refine WF.cond rfl (fun h1_9 => ?_) (fun h1_9 => ?_)
      · have gh1_9 := (of_decide_eq_true h1_9)
        have hlt := (hc ((i + j) / 2) hh).1 gh1_9
        have hnxT : ((i + j) / 2) + 1 ≤ at_ ∧ at_ ≤ j ∧ j ≤ n := ⟨by omega, hj, hjn⟩
        refine WF.region ?_
        refine WL.va rfl rfl rfl (X.moveI rfl) ?_
        refine WL.va rfl rfl rfl (X.add rfl rfl (w64 (by omega))) ?_
        refine WL.va rfl rfl rfl (X.assignI rfl) ?_
        refine WL.nil ?_
        refine blk_n ?_
        first | exact thn_n ⟨_, (by omega), ((i + j) / 2) + 1, j, rfl, rfl, e10_L0, (by repeat (first | exact hAL0 | refine Agree.put ?_ rfl | refine Agree.named hF3 ?_)), (Ext.trans hwL0 hx8), hnxT⟩ | exact thn_n ⟨_, (by omega), i, ((i + j) / 2), rfl, rfl, e10_L0, (by repeat (first | exact hAL0 | refine Agree.put ?_ rfl | refine Agree.named hF3 ?_)), (Ext.trans hwL0 hx8), hnxF⟩
      · have gh1_9 := (of_decide_eq_false h1_9)
        have hnl : ¬ ((i + j) / 2) < at_ := fun h => gh1_9 ((hc ((i + j) / 2) hh).2 h)
        have hnxF : i ≤ at_ ∧ at_ ≤ ((i + j) / 2) ∧ ((i + j) / 2) ≤ n := ⟨hi, by omega, by omega⟩
        refine WF.region ?_
        refine WL.va rfl rfl rfl (X.moveI rfl) ?_
        refine WL.va rfl rfl rfl (X.assignI rfl) ?_
        refine WL.nil ?_
        refine blk_n ?_
        first | exact thn_n ⟨_, (by omega), ((i + j) / 2) + 1, j, rfl, e9_L0, rfl, (by repeat (first | exact hAL0 | refine Agree.put ?_ rfl | refine Agree.named hF3 ?_)), (Ext.trans hwL0 hx8), hnxT⟩ | exact thn_n ⟨_, (by omega), i, ((i + j) / 2), rfl, e9_L0, rfl, (by repeat (first | exact hAL0 | refine Agree.put ?_ rfl | refine Agree.named hF3 ?_)), (Ext.trans hwL0 hx8), hnxF⟩
    · have gh0_4 := (of_decide_eq_false h0_4)
      obtain rfl : i = at_ := by omega
      refine WF.exit ?_
      refine thn_x ?_
      refine thn_x ?_
      refine blk_eq ?_
      refine thn_n ?_
      refine WF.seq ?_
      refine WF.region ?_
      refine WL.va rfl rfl rfl (X.moveI e9_L0) ?_
      refine WL.va rfl rfl rfl (X.moveI e9_L0) ?_
      refine WL.va rfl rfl rfl (X.moveI ((hAL0.eq 8).trans (congrFun hF3 8))) ?_
      refine WL.va rfl rfl rfl (X.lss rfl rfl) ?_
      refine WL.va rfl rfl rfl (X.moveB rfl) ?_
      refine WL.split (j := 4) rfl (fun h12 => ?_) (fun h12 => ?_)
      · have gh12 := (of_decide_eq_true h12)
        have hka : i < n := by omega
        refine WL.vg rfl (congrArg some h12) rfl rfl (X.move ((hAL0.eq 2).trans (congrFun hF3 2))) ?_
        refine WL.vg rfl (congrArg some h12) rfl rfl (X.move ((hAL0.eq 0).trans (congrFun hF3 0))) ?_
        refine WL.vg rfl (congrArg some h12) rfl rfl (X.moveI e9_L0) ?_
        refine WL.vg rfl (congrArg some h12) rfl rfl (X.idx hb rfl rfl (by omega) Try.underlying52 Try.sizeOf74) ?_
        refine WL.vg rfl (congrArg some h12) rfl rfl (X.loadEl hb hwL0 rfl (by omega) rfl Try.isAgg74 Try.sizeOf74) ?_
        refine WL.vg rfl (congrArg some h12) rfl rfl (X.moveI ((hAL0.eq 1).trans (congrFun hF3 1))) ?_
        refine WL.opg rfl (congrArg some h12) (OW.callV rfl (evl_cons rfl (evl_cons rfl evl_nil)) (hf i _ hka hwL0) ?_ (by decide))
        rintro v14 w13 ⟨rfl, hx15⟩
        refine WL.vg rfl (congrArg some h12) rfl rfl (X.eql rfl rfl) ?_
        refine WL.va rfl rfl rfl (X.pickT rfl h12 rfl) ?_
        refine WL.va rfl rfl rfl (X.assignI rfl) ?_
        refine WL.va rfl rfl rfl (X.assignB rfl) ?_
        refine WL.nil ?_
        refine thn_n ?_
        refine WF.ret ?_
        refine fin_r ?_
        exact ⟨congrArg (fun z => Value.tuple #[i64 _, .bool z]) (by simp [hka]), (Ext.trans hwL0 hx15)⟩
      · have gh12 := (of_decide_eq_false h12)
        have hka : ¬ i < n := by omega
        refine WL.p rfl rfl rfl (congrArg some h12) ?_
        refine WL.p rfl rfl rfl (congrArg some h12) ?_
        refine WL.p rfl rfl rfl (congrArg some h12) ?_
        refine WL.p rfl rfl rfl (congrArg some h12) ?_
        refine WL.p rfl rfl rfl (congrArg some h12) ?_
        refine WL.p rfl rfl rfl (congrArg some h12) ?_
        refine WL.p rfl rfl rfl (congrArg some h12) ?_
        refine WL.p rfl rfl rfl (congrArg some h12) ?_
        refine WL.va rfl rfl rfl (X.pickF rfl h12 rfl) ?_
        refine WL.va rfl rfl rfl (X.assignI rfl) ?_
        refine WL.va rfl rfl rfl (X.assignB rfl) ?_
        refine WL.nil ?_
        refine thn_n ?_
        refine WF.ret ?_
        refine fin_r ?_
        exact ⟨congrArg (fun z => Value.tuple #[i64 _, .bool z]) (by simp [hka]), hwL0⟩

set_option maxHeartbeats 800000 in
theorem deleteB_ok (v : Value) (xs : List Value) (n i : Nat) (B : Nat) (w : World) (ho : w.ownsRow B 74 2 v n xs) (h1 : ∀ u ∈ xs, u.oneCell' = true) (hi : i < n) (hn : n ≤ 1000000) : FnOk Try.prog 47 [v, i64 (i : Int), i64 ((i + 1 : Nat) : Int)] w (fun r w' => w'.ownsRow B 74 2 r (n - 1) (xs.take (i * 2) ++ xs.drop ((i + 1) * 2)) ∧ w.grownBy w' v.ownBlock ∧ r.ownBlock = v.ownBlock) := by
  have hcap := own_cap ho
  have hpr := Row.part (Row.of_own ho) (i + 1) n (by omega) (by omega)
  refine FnOk.enter (rs := [6]) Try.func47 rfl Try.ntmps47 Try.results47 rfl rfl ?_
  refine WF.seq ?_
  refine WF.region ?_
  refine WL.va rfl rfl rfl (X.assign rfl) ?_
  refine WL.nil ?_
  refine thn_n ?_
  refine WF.seq ?_
  refine WF.region ?_
  refine WL.va rfl rfl rfl (X.move rfl) ?_
  refine WL.va rfl rfl rfl (X.moveI rfl) ?_
  refine WL.va rfl rfl rfl (X.moveI rfl) ?_
  refine WL.va rfl rfl rfl (X.move rfl) ?_
  refine WL.va rfl rfl rfl (X.len (Row.of_own ho) rfl Try.underlying52) ?_
  refine WL.va rfl rfl rfl (X.slM3 (Row.of_own ho) rfl rfl rfl rfl (by omega) (by omega) (by omega) Try.underlying52 Try.sizeOf74) ?_
  refine WL.nil ?_
  refine thn_n ?_
  refine WF.seq ?_
  refine WF.seq ?_
  refine WF.region ?_
  refine WL.va rfl rfl rfl (X.moveI rfl) ?_
  refine WL.va rfl rfl rfl (X.moveI rfl) ?_
  refine WL.va rfl rfl rfl (X.eql rfl rfl) ?_
  refine WL.nil ?_
  refine thn_n ?_
  refine WF.cond rfl (fun h0_1 => ?_) (fun h0_1 => ?_)
  · have gh0_1 := (of_decide_eq_true h0_1)
    exact absurd gh0_1 (by omega)
  · have gh0_1 := (of_decide_eq_false h0_1)
    refine WF.skip ?_
    refine thn_n ?_
    refine WF.seq ?_
    refine WF.region ?_
    refine WL.va rfl rfl rfl (X.move rfl) ?_
    refine WL.va rfl rfl rfl (X.len (Row.of_own ho) rfl Try.underlying52) ?_
    refine WL.va rfl rfl rfl (X.assignI rfl) ?_
    refine WL.nil ?_
    refine thn_n ?_
    refine WF.seq ?_
    refine WF.drawn (.q 0 (.q 1 (.q 2 (.q 3 (.q 4 (.q 5 .nil)))))) (fun w' => Ext w w') 6 (by kernel_rfl) (by kernel_rfl) (Ext.drew _) ?_
    refine WO.q rfl rfl rfl rfl (fun w' hE3 => (X.move rfl)) ?_
    refine WO.q rfl rfl rfl rfl (fun w' hE3 => (X.moveI rfl)) ?_
    refine WO.q rfl rfl rfl rfl (fun w' hE3 => (X.slH (Row.of_own ho) rfl rfl (by omega) Try.underlying52 Try.sizeOf74)) ?_
    refine WO.q rfl rfl rfl rfl (fun w' hE3 => (X.move rfl)) ?_
    refine WO.q rfl rfl rfl rfl (fun w' hE3 => (X.moveI rfl)) ?_
    refine WO.q rfl rfl rfl rfl (fun w' hE3 => (X.slL (Row.of_own ho) rfl rfl (by omega) Try.underlying52 Try.sizeOf74)) ?_
    refine WO.nil ?_
    refine WL.op rfl (OW.appendFit (own_ext ho (Ext.drew _)) (by omega) (by omega) rfl (Row.ext hpr (Ext.drew _)) (fun u hu => h1 u (List.mem_of_mem_drop (List.mem_of_mem_take hu))) rfl (part_some ho (by omega)) Try.underlying52 Try.type74 rfl (by omega) ?_ (by decide))
    intro w4 ho7 hx6
    have ho2 := ho7
    have hg := grown_of (Ext.drew w) hx6
    have hrc : capOf (rel v (i + (n - (i + 1)))) = capOf v := rel_cap
    refine WL.va rfl rfl rfl (X.assign rfl) ?_
    refine WL.nil ?_
    refine thn_n ?_
    refine WF.seq ?_
    refine WF.region ?_
    refine WL.va rfl rfl rfl (X.move rfl) ?_
    refine WL.va rfl rfl rfl (X.move rfl) ?_
    refine WL.va rfl rfl rfl (X.len (Row.of_own ho7) rfl Try.underlying52) ?_
    refine WL.va rfl rfl rfl (X.moveI rfl) ?_
    refine WL.va rfl rfl rfl (X.slB (own_sl ho2) rfl rfl rfl (by omega) (by omega) Try.underlying52 Try.sizeOf74) ?_
    refine WL.op rfl (OW.clearT ho2 (by omega) rfl (by omega) (by omega) Try.underlying52 Try.zeroValue74 rfl (by decide) (by decide) ?_)
    intro w8 ho11 hx10
    have ho3 := ho11
    have hg2 := hx10
    rw [rel_block] at hg2
    refine WL.nil ?_
    refine thn_n ?_
    refine WF.seq ?_
    refine WF.region ?_
    refine WL.va rfl rfl rfl (X.move rfl) ?_
    refine WL.va rfl rfl rfl (X.assign rfl) ?_
    refine WL.nil ?_
    refine thn_n ?_
    refine WF.ret ?_
    refine fin_r ?_
    exact ⟨by rw [show n - 1 = (i + (n - (i + 1))) by omega]; have e : (xs.drop ((i + 1) * 2)).take ((n - (i + 1)) * 2) = xs.drop ((i + 1) * 2) := List.take_of_length_le (by rw [List.length_drop, ho.1, ← Nat.sub_mul]; exact Nat.le_refl _); rw [e] at ho3; exact ho3, grown_tr hg hg2, rel_block⟩

set_option maxHeartbeats 2000000 in
theorem insertB_ok (v va : Value) (xs news : List Value) (n i : Nat) (w : World) (B B2 : Nat) (ho : w.ownsRow B 74 2 v n xs) (hv : w.ownsRow B2 74 2 va 1 news) (hap : Apart va v) (h1x : ∀ u ∈ xs, u.oneCell' = true) (h1n : ∀ u ∈ news, u.oneCell' = true) (hi : i ≤ n) (hn : n ≤ 1000000) (hB : B ≤ w.heap.size) : FnOk Try.prog 49 [v, i64 (i : Int), va] w (fun r w' => w'.ownsRow B 74 2 r (n + 1) (xs.take (i * 2) ++ news ++ xs.drop (i * 2)) ∧ w.grownBy w' v.ownBlock ∧ Moved w v r) := by
  have hxl := ho.1
  have hnl := hv.1
  have hcp := own_cap ho
  unfold maxLen at hcp
  refine FnOk.enter (rs := [6]) Try.func49 rfl Try.ntmps49 Try.results49 rfl rfl ?_
  refine WF.seq ?_
  refine WF.region ?_
  refine WL.va rfl rfl rfl (X.assign rfl) ?_
  refine WL.nil ?_
  refine thn_n ?_
  refine WF.seq ?_
  refine WF.region ?_
  refine WL.va rfl rfl rfl (X.move rfl) ?_
  refine WL.va rfl rfl rfl (X.moveI rfl) ?_
  refine WL.va rfl rfl rfl (X.slL (Row.of_own ho) rfl rfl (by omega) Try.underlying52 Try.sizeOf74) ?_
  refine WL.nil ?_
  refine thn_n ?_
  refine WF.seq ?_
  refine WF.region ?_
  refine WL.va rfl rfl rfl (X.move rfl) ?_
  refine WL.va rfl rfl rfl (X.len (Row.of_own hv) rfl Try.underlying52) ?_
  refine WL.va rfl rfl rfl (X.assignI rfl) ?_
  refine WL.nil ?_
  refine thn_n ?_
  refine WF.seq ?_
  refine WF.seq ?_
  refine WF.region ?_
  refine WL.va rfl rfl rfl (X.moveI rfl) ?_
  refine WL.va rfl rfl rfl (X.eql rfl rfl) ?_
  refine WL.nil ?_
  refine thn_n ?_
  refine WF.cond rfl (fun h0_1 => ?_) (fun h0_1 => ?_)
  · have gh0_1 := (of_decide_eq_true h0_1)
    exact absurd gh0_1 (by omega)
  · have gh0_1 := (of_decide_eq_false h0_1)
    refine WF.skip ?_
    refine thn_n ?_
    refine WF.seq ?_
    refine WF.region ?_
    refine WL.va rfl rfl rfl (X.move rfl) ?_
    refine WL.va rfl rfl rfl (X.len (Row.of_own ho) rfl Try.underlying52) ?_
    refine WL.va rfl rfl rfl (X.assignI rfl) ?_
    refine WL.nil ?_
    refine thn_n ?_
    refine WF.seq ?_
    refine WF.seq ?_
    refine WF.region ?_
    refine WL.va rfl rfl rfl (X.moveI rfl) ?_
    refine WL.va rfl rfl rfl (X.moveI rfl) ?_
    refine WL.va rfl rfl rfl (X.eql rfl rfl) ?_
    refine WL.nil ?_
    refine thn_n ?_
    refine WF.cond rfl (fun h1_3 => ?_) (fun h1_3 => ?_)
    · have gh1_3 := (of_decide_eq_true h1_3)
      refine WF.seq ?_
      refine WF.region ?_
      refine WL.va rfl rfl rfl (X.move rfl) ?_
      refine WL.va rfl rfl rfl (X.move rfl) ?_
      refine WL.op rfl (OW.append (bytes := 32) ho (Row.of_own hv) h1n rfl rfl Try.underlying52 Try.type74 rfl rfl rfl rfl (by decide) (by unfold maxLen; omega) (by omega) hB ?_ (by decide))
      intro v6 w5 ho8 hx7 hmvhx7
      have o7 := ho8
      have g7 := hx7
      have m7 := hmvhx7
      refine WL.va rfl rfl rfl (X.assign rfl) ?_
      refine WL.nil ?_
      refine thn_n ?_
      refine WF.ret ?_
      refine thn_r ?_
      refine fin_r ?_
      obtain rfl : i = n := by omega
      refine ⟨?_, g7, m7⟩
      rw [List.take_of_length_le (by omega), List.drop_of_length_le (by omega), List.append_nil]; exact o7
    · have gh1_3 := (of_decide_eq_false h1_3)
      refine WF.skip ?_
      refine thn_n ?_
      refine WF.seq ?_
      refine WF.seq ?_
      refine WF.region ?_
      refine WL.va rfl rfl rfl (X.moveI rfl) ?_
      refine WL.va rfl rfl rfl (X.moveI rfl) ?_
      refine WL.va rfl rfl rfl (X.add rfl rfl (w64 (by omega))) ?_
      refine WL.va rfl rfl rfl (X.move rfl) ?_
      refine WL.va rfl rfl rfl (X.cap (Row.of_own ho) rfl Try.underlying52) ?_
      refine WL.va rfl rfl rfl (X.gtr rfl rfl) ?_
      refine WL.nil ?_
      refine thn_n ?_
      refine WF.cond rfl (fun h2_9 => ?_) (fun h2_9 => ?_)
      · have gh2_9 := (of_decide_eq_true h2_9)
        have hlt : i < n := by omega
        refine WF.seq ?_
        refine WF.region ?_
        refine WL.va rfl rfl rfl (X.move rfl) ?_
        refine WL.va rfl rfl rfl (X.moveI rfl) ?_
        refine WL.va rfl rfl rfl (X.slH (Row.of_own ho) rfl rfl (by omega) Try.underlying52 Try.sizeOf74) ?_
        refine WL.va rfl rfl rfl (X.moveI rfl) ?_
        refine WL.va rfl rfl rfl (X.moveI rfl) ?_
        refine WL.va rfl rfl rfl (X.add rfl rfl (w64 (by omega))) ?_
        refine WL.va rfl rfl rfl (X.moveI rfl) ?_
        refine WL.va rfl rfl rfl (X.sub rfl rfl (show IntKind.i64.wrap ((n : Int) + ((1 : Nat) : Int) - (i : Int)) = ((n + 1 - i : Nat) : Int) from (w64 (by omega)).trans (by omega))) ?_
        refine WL.op rfl (OW.appendMake (bytes := 32) (m := n + 1 - i) (own_take ho i hi) rfl rfl Try.underlying3 Try.underlying52 Try.type74 rfl rfl rfl rfl (by decide) (by unfold maxLen; omega) (by omega) (by omega) (by rw [cap_part ho]; omega) ?_ (by decide))
        intro v12 w11 ho14 hx13
        obtain ⟨zs, hzl, o9⟩ : ∃ zs : List Value, zs.length = (n + 1 - i) * 2 ∧ World.ownsRow w11 w.heap.size 74 2 v12 (n + 1) (xs.take (i * 2) ++ zs) := ⟨_, (by simp [size_madeCells]), (show i + (n + 1 - i) = n + 1 by omega) ▸ ho14⟩
        have szw := World.grownBy.size hx13
        refine WL.va rfl rfl rfl (X.assign rfl) ?_
        refine WL.nil ?_
        refine thn_n ?_
        refine WF.seq ?_
        refine WF.region ?_
        refine WL.va rfl rfl rfl (X.move rfl) ?_
        refine WL.va rfl rfl rfl (X.moveI rfl) ?_
        refine WL.va rfl rfl rfl (X.slL (Row.of_own o9) rfl rfl (by omega) Try.underlying52 Try.sizeOf74) ?_
        refine WL.va rfl rfl rfl (X.move rfl) ?_
        refine WL.op rfl (OW.copyAt (m := 1) (j := i) (news := news) o9 (by decide) (Row.ext (Row.of_own hv) hx13) (by rw [List.take_of_length_le (by omega)]) h1n rfl (Nat.min_eq_left (by omega)) (by decide) rfl rfl Try.underlying52 Try.type74 rfl ?_ (by decide))
        intro w15 ho18 hx17
        have o10 := ho18
        refine WL.nil ?_
        refine thn_n ?_
        refine WF.seq ?_
        refine WF.drawn (.q 0 (.q 1 (.q 2 (.q 3 (.q 4 (.q 5 (.q 6 (.q 7 .nil)))))))) (fun w' => Ext w15 w') 8 (by kernel_rfl) (by kernel_rfl) (Ext.drew _) ?_
        refine WO.q rfl rfl rfl rfl (fun w' hE19 => (X.move rfl)) ?_
        refine WO.q rfl rfl rfl rfl (fun w' hE19 => (X.moveI rfl)) ?_
        refine WO.q rfl rfl rfl rfl (fun w' hE19 => (X.moveI rfl)) ?_
        refine WO.q rfl rfl rfl rfl (fun w' hE19 => (X.add rfl rfl (show _ = ((i + 1 : Nat) : Int) from w64 (by omega)))) ?_
        refine WO.q rfl rfl rfl rfl (fun w' hE19 => (X.slL (Row.of_own o10) rfl rfl (by omega) Try.underlying52 Try.sizeOf74)) ?_
        refine WO.q rfl rfl rfl rfl (fun w' hE19 => (X.move rfl)) ?_
        refine WO.q rfl rfl rfl rfl (fun w' hE19 => (X.moveI rfl)) ?_
        refine WO.q rfl rfl rfl rfl (fun w' hE19 => (X.slL (Row.of_own ho) rfl rfl (by omega) Try.underlying52 Try.sizeOf74)) ?_
        refine WO.nil ?_
        refine WL.op rfl (OW.copyAt (m := n - i) (j := i + 1) (news := _) (own_ext o10 (Ext.drew _)) (by decide) (Row.ext (Row.part (Row.of_own ho) i n (by omega) (Nat.le_refl _)) (Ext.trans (Ext.own hx13 o9 (Nat.le_refl _) hx17) (Ext.drew _))) (by rw [List.take_take, Nat.min_self]) (fun u hu => h1x u (List.mem_of_mem_drop (List.mem_of_mem_take hu))) rfl (by rw [show n + 1 - (i + 1) = n - i by omega]; exact Nat.min_self _) (by omega) rfl rfl Try.underlying52 Try.type74 rfl ?_ (by decide))
        intro w20 ho23 hx22
        have o11 := ho23
        refine WL.nil ?_
        refine thn_n ?_
        refine WF.seq ?_
        refine WF.region ?_
        refine WL.va rfl rfl rfl (X.move rfl) ?_
        refine WL.va rfl rfl rfl (X.assign rfl) ?_
        refine WL.nil ?_
        refine thn_n ?_
        refine WF.ret ?_
        refine thn_r ?_
        refine fin_r ?_
        refine ⟨?_, grown_of_ext (Ext.own (Ext.trans (Ext.own hx13 o9 (Nat.le_refl _) hx17) (Ext.drew _)) (own_ext o10 (Ext.drew _)) (Nat.le_refl _) hx22), .inr fun k hk => (o11.lt k hk).1⟩
        rw [ins_new hxl hnl hi hzl rfl] at o11; exact own_mono o11 hB
      · have gh2_9 := (of_decide_eq_false h2_9)
        have hlt : i < n := by omega
        obtain ⟨ys, b, c, rfl, hc1, hc0, hyl, hom⟩ := own_more ho 1 (by omega) (by omega)
        have h1xy : ∀ u ∈ xs, u.oneCell' = true := h1x
        refine WF.skip ?_
        refine thn_n ?_
        refine WF.seq ?_
        refine WF.region ?_
        refine WL.va rfl rfl rfl (X.move rfl) ?_
        refine WL.va rfl rfl rfl (X.moveI rfl) ?_
        refine WL.va rfl rfl rfl (X.moveI rfl) ?_
        refine WL.va rfl rfl rfl (X.add rfl rfl (show _ = ((n + 1 : Nat) : Int) from w64 (by omega))) ?_
        refine WL.va rfl rfl rfl (X.slHc rfl rfl (by omega) hc0 Try.underlying52 Try.sizeOf74) ?_
        refine WL.va rfl rfl rfl (X.assign rfl) ?_
        refine WL.nil ?_
        refine thn_n ?_
        refine WF.seq ?_
        refine WF.seq ?_
        refine WF.region ?_
        refine WL.va rfl rfl rfl (X.move rfl) ?_
        refine WL.va rfl rfl rfl (X.move rfl) ?_
        refine WL.va rfl rfl rfl (X.moveI rfl) ?_
        refine WL.va rfl rfl rfl (X.moveI rfl) ?_
        refine WL.va rfl rfl rfl (X.add rfl rfl (show _ = ((i + 1 : Nat) : Int) from w64 (by omega))) ?_
        refine WL.va rfl rfl rfl (X.slL (Row.of_own hom) rfl rfl (by omega) Try.underlying52 Try.sizeOf74) ?_
        refine WL.va rfl rfl rfl (X.overlapsF (tR := 4) (fun q => run_callFunc_extern Try.func71 (by kernel_rfl) (by kernel_rfl) (by kernel_rfl) (e := Extern.SlicesOverlaps.overlaps #[52, 52] #[4]) (by kernel_rfl) q _) Try.underlying52 Try.sizeOf74 hv hom hap (by decide) (by omega) (by decide) rfl rfl rfl) ?_
        refine WL.va rfl rfl rfl (X.not rfl) ?_
        refine WL.nil ?_
        refine thn_n ?_
        refine WF.cond_t rfl ?_
        refine WF.seq ?_
        refine WF.drawn (.q 0 (.q 1 (.q 2 (.q 3 (.q 4 (.q 5 (.q 6 (.q 7 .nil)))))))) (fun w' => Ext w w') 8 (by kernel_rfl) (by kernel_rfl) (Ext.drew _) ?_
        refine WO.q rfl rfl rfl rfl (fun w' hE26 => (X.move rfl)) ?_
        refine WO.q rfl rfl rfl rfl (fun w' hE26 => (X.moveI rfl)) ?_
        refine WO.q rfl rfl rfl rfl (fun w' hE26 => (X.moveI rfl)) ?_
        refine WO.q rfl rfl rfl rfl (fun w' hE26 => (X.add rfl rfl (show _ = ((i + 1 : Nat) : Int) from w64 (by omega)))) ?_
        refine WO.q rfl rfl rfl rfl (fun w' hE26 => (X.slL (Row.of_own hom) rfl rfl (by omega) Try.underlying52 Try.sizeOf74)) ?_
        refine WO.q rfl rfl rfl rfl (fun w' hE26 => (X.move rfl)) ?_
        refine WO.q rfl rfl rfl rfl (fun w' hE26 => (X.moveI rfl)) ?_
        refine WO.q rfl rfl rfl rfl (fun w' hE26 => (X.slL (Row.of_own hom) rfl rfl (by omega) Try.underlying52 Try.sizeOf74)) ?_
        refine WO.nil ?_
        refine WL.op rfl (OW.copyAt (m := n - i) (j := i + 1) (news := _) (own_ext hom (Ext.drew _)) (by decide) (Row.ext (Row.part (Row.of_own hom) i (n + 1) (by omega) (Nat.le_refl _)) (Ext.drew _)) rfl (fun u hu => h1x u (List.mem_of_mem_drop ((place_src hxl hyl hlt) ▸ hu))) rfl (by rw [show n + 1 - (i + 1) = n - i by omega]; exact Nat.min_eq_right (by omega)) (by omega) rfl rfl Try.underlying52 Try.type74 rfl ?_ (by decide))
        intro w27 ho30 hx29
        have o15 := ho30
        have g15 := ext_grown (Ext.drew w) hx29
        have hv15 := World.ownsRow.kept (own_ext hv (Ext.drew _)) hx29 hap.ne
        refine WL.nil ?_
        refine thn_n ?_
        refine WF.seq ?_
        refine WF.region ?_
        refine WL.va rfl rfl rfl (X.move rfl) ?_
        refine WL.va rfl rfl rfl (X.moveI rfl) ?_
        refine WL.va rfl rfl rfl (X.slL (Row.of_own o15) rfl rfl (by omega) Try.underlying52 Try.sizeOf74) ?_
        refine WL.va rfl rfl rfl (X.move rfl) ?_
        refine WL.op rfl (OW.copyAt (m := 1) (j := i) (news := news) o15 (by decide) (Row.of_own hv15) (by rw [List.take_of_length_le (by omega)]) h1n rfl (Nat.min_eq_left (by omega)) (by decide) rfl rfl Try.underlying52 Try.type74 rfl ?_ (by decide))
        intro w31 ho34 hx33
        have o16 := ho34
        have g16 := grown2 g15 hx33
        refine WL.nil ?_
        refine thn_n ?_
        refine WF.seq ?_
        refine WF.region ?_
        refine WL.va rfl rfl rfl (X.move rfl) ?_
        refine WL.va rfl rfl rfl (X.assign rfl) ?_
        refine WL.nil ?_
        refine thn_n ?_
        refine WF.ret ?_
        refine thn_r ?_
        refine fin_r ?_
        refine ⟨?_, g16, .inl rfl⟩
        rw [ins_place hxl hyl hnl hlt rfl] at o16; exact o16

theorem findLit_ok (e : BV) (n : Int) (w : World) (he : 0 ≤ e.1.No ∧ e.1.No < 64) (hn : 0 ≤ n ∧ n < 64) : FnOk Try.prog 70 [agg (BV.c e), i64 n] w (fun r w' => r = i64 (e.1.No - n) ∧ Ext w w') := by
  refine FnOk.enter (rs := [4]) Try.func70 rfl Try.ntmps70 Try.results70 rfl rfl ?_
  refine WF.seq ?_
  refine WF.region ?_
  refine WL.op rfl (OW.boxA (cs := (BV.c e)) rfl ?_ (by decide))
  intro g2 w1 heg2 hlg2 hO2 hx3
  have := World.grownBy.size hx3
  refine WL.va rfl rfl rfl (X.assignI rfl) ?_
  refine WL.nil ?_
  refine thn_n ?_
  refine WF.seq ?_
  refine WF.region ?_
  refine WL.va rfl rfl rfl (X.fieldAddrO (off := 0) rfl Try.underlying74 rfl rfl Try.sizeOf3) ?_
  refine WL.va rfl rfl rfl (X.loadO hO2 (Ext.refl _) rfl rfl Try.isAgg3) ?_
  refine WL.va rfl rfl rfl (X.moveI rfl) ?_
  refine WL.va rfl rfl rfl (X.sub rfl rfl (w64 (by omega))) ?_
  refine WL.va rfl rfl rfl (X.assignI rfl) ?_
  refine WL.nil ?_
  refine thn_n ?_
  refine WF.ret ?_
  refine fin_r ?_
  exact ⟨rfl, hx3⟩

theorem find_ok (v : Value) (E : List BV) (no : Int) (w : World) (hv : BRow w v E) (hm : E.length ≤ 1000000) (hs : SortB (E.map Prod.fst)) (he : ∀ x ∈ E.map Prod.fst, 0 ≤ x.No ∧ x.No < 64) (hn : 0 ≤ no ∧ no < 64) : FnOk Try.prog 46 [v, i64 no] w (fun r w' => r = .tuple #[i64 (cntB (E.map Prod.fst) no : Int), .bool (hasB (E.map Prod.fst) no)] ∧ Ext w w') := by
  refine FnOk.enter (rs := [4, 5]) Try.func46 rfl Try.ntmps46 Try.results46 rfl rfl ?_
  refine WF.seq ?_
  refine WF.region ?_
  refine WL.va rfl rfl rfl (X.assignI rfl) ?_
  refine WL.va rfl rfl rfl (X.assignB rfl) ?_
  refine WL.nil ?_
  refine thn_n ?_
  refine WF.seq ?_
  refine WF.region ?_
  refine WL.va rfl rfl rfl (X.move rfl) ?_
  refine WL.va rfl rfl rfl (X.moveI rfl) ?_
  have hclo : ∀ k wq, k < E.length → Ext w wq → CloOk Try.prog (.func (.func 70) #[] ([] : List Value).toArray) [agg (el (E.flatMap BV.c) 2 k), i64 no] wq (fun r w2 => r = i64 (((E.map Prod.fst).getD k default).No - no) ∧ Ext wq w2) := fun k wq hk hx => ⟨_, _, rfl, Try.call70, (by rw [show el (E.flatMap BV.c) 2 k = BV.c (E[k]'hk) from BRow.el hk, show (E.map Prod.fst).getD k default = (E[k]'hk).1 from by simp [hk]]; exact findLit_ok _ _ _ (he _ (List.mem_map.2 ⟨_, List.getElem_mem hk, rfl⟩)) hn)⟩
  refine WL.c rfl rfl rfl (X.call Try.call69 (evl_cons rfl (evl_cons rfl (evl_cons rfl evl_nil)))) (bsearchB_ok _ _ _ _ E.length (cntB (E.map Prod.fst) no) (fun k => ((E.map Prod.fst).getD k default).No - no) _ (Row.ext hv (Ext.refl w)) hm (by have := cnt_le (l := E.map Prod.fst) (no := no); simpa using this) (fun k hk => by rw [← cnt_lt (no := no) hs (by simpa using hk)]; simp only [List.getD_eq_getElem?_getD, List.getElem?_eq_getElem (show k < (E.map Prod.fst).length by simpa using hk), Option.getD_some]; omega) hclo) ?_
  rintro v3 w2 ⟨rfl, hx4⟩
  refine WL.va rfl rfl rfl (X.extract rfl rfl) ?_
  refine WL.va rfl rfl rfl (X.extract rfl rfl) ?_
  refine WL.va rfl rfl rfl (X.assignI rfl) ?_
  refine WL.va rfl rfl rfl (X.assignB rfl) ?_
  refine WL.nil ?_
  refine thn_n ?_
  refine WF.ret ?_
  refine fin_r ?_
  exact ⟨congrArg (fun z => Value.tuple #[_, .bool z]) (find_has hs), hx4⟩

set_option maxHeartbeats 1600000 in
theorem fresh_ok (v : Value) (l : List Bl) (w : World) (h : Bls w v l) (hm : l.length ≤ 1000000) (hd : ∀ s ∈ l, s.Data.length ≤ 1000000) : FnOk Try.prog 45 [v] w (fun r w' => (∃ F, F.map Prod.fst = l ∧ BOwn w' w.heap.size r F) ∧ Ext w w') := by
  obtain ⟨E, rfl, re, de⟩ := h
  simp only [List.length_map] at hm
  refine FnOk.enter (rs := [2]) Try.func45 rfl Try.ntmps45 Try.results45 rfl rfl ?_
  refine WF.seq ?_
  refine WF.region ?_
  refine WL.va rfl rfl rfl (X.assign rfl) ?_
  refine WL.nil ?_
  refine thn_n ?_
  refine WF.seq ?_
  refine WF.region ?_
  refine WL.va rfl rfl rfl (X.assign rfl) ?_
  refine WL.nil ?_
  refine thn_n ?_
  refine WF.seq ?_
  refine WF.seq ?_
  refine WF.region ?_
  refine WL.va rfl rfl rfl (X.move rfl) ?_
  refine WL.va rfl rfl rfl (X.len re rfl Try.underlying52) ?_
  refine WL.va rfl rfl rfl (X.moveI rfl) ?_
  refine WL.nil ?_
  refine thn_n ?_
  refine WF.block ?_
  refine WF.named (fun F1 hF2 => ?_)
  refine WF.loopN (fun mL0 f' w' => ∃ (k : Nat) (vo : Value) (O : List BV), mL0 = E.length - k ∧ f' 8 = .int .i64 (k : Int) ∧ f' 3 = vo ∧ Agree [0, 2, 6, 7] f' F1 ∧ Ext w w' ∧ k ≤ E.length ∧ O.length = k ∧ BOwn w' w.heap.size vo O ∧ O.map Prod.fst = (E.map Prod.fst).take k) ?_ ?_
  · exact ⟨_, 0, (.slice none 0 0), [], rfl, (congrFun hF2 8), (congrFun hF2 3), (Agree.refl _ _), (Ext.refl _), ⟨Nat.zero_le _, rfl, BOwn.nil _ _, rfl⟩⟩
  · rintro mL0 fL0 wL0 ⟨k, vo, O, hmL0, e8_L0, e3_L0, hAL0, hwL0, ⟨hk0, hOl, ho, hO⟩⟩
    refine WF.seq ?_
    refine WF.region ?_
    refine WL.va rfl rfl rfl (X.lss e8_L0 ((hAL0.eq 7).trans (congrFun hF2 7))) ?_
    refine WL.nil ?_
    refine thn_n ?_
    refine WF.seq ?_
    refine WF.cond rfl (fun h0_3 => ?_) (fun h0_3 => ?_)
    · have gh0_3 := (of_decide_eq_true h0_3)
      have hk : k < E.length := by omega
      refine WF.skip ?_
      refine thn_n ?_
      refine WF.seq ?_
      refine WF.block ?_
      refine WF.seq ?_
      refine WF.region ?_
      refine WL.va rfl rfl rfl (X.idx re ((hAL0.eq 6).trans (congrFun hF2 6)) e8_L0 (by omega) Try.underlying52 Try.sizeOf74) ?_
      refine WL.va rfl rfl rfl (X.loadEl re hwL0 rfl (by omega) (BRow.el hk) Try.isAgg74 Try.sizeOf74) ?_
      refine WL.op rfl (OW.allocO (cs := [i64 0, .slice none 0 0]) Try.zeroValue74 rfl ?_ (by decide))
      intro g5 w5 heg5 hlg5 hO5 hx7
      have := World.grownBy.size hx7
      refine WL.op rfl (OW.storeOA hO5 rfl rfl rfl (BDat.one1 de hk) Try.sizeOf74 ?_)
      intro w9 hO5 hx11
      have := World.grownBy.size hx11
      replace hO5 : Blk _ _ _ (BV.c (E[k]'hk)) := hO5
      refine WL.nil ?_
      refine thn_n ?_
      refine WF.drawn (.q 0 (.q 1 (.q 2 (.q 3 (.q 4 (.l 5 (.q 6 (.l 7 .nil)))))))) (fun w' => Ext w9 w') 8 (by kernel_rfl) (by kernel_rfl) (Ext.drew _) ?_
      have := World.grownBy.size (Ext.drew w9)
      refine WO.q rfl rfl rfl rfl (fun w' hE13 => (X.move e3_L0)) ?_
      refine WO.q rfl rfl rfl rfl (fun w' hE13 => (X.fieldAddrO (off := 0) rfl Try.underlying74 rfl rfl Try.sizeOf3)) ?_
      refine WO.q rfl rfl rfl rfl (fun w' hE13 => (X.loadO hO5 hE13 rfl rfl Try.isAgg3)) ?_
      refine WO.q rfl rfl rfl rfl (fun w' hE13 => (X.fieldAddrO (off := 1) rfl Try.underlying74 rfl rfl Try.sizeOf36)) ?_
      refine WO.q rfl rfl rfl rfl (fun w' hE13 => (X.loadO hO5 hE13 rfl rfl Try.isAgg36)) ?_
      refine WO.l ?_
      have hoA := ho.ext (Ext.trans (Ext.store hx7 hx11 (by omega)) (Ext.drew _))
      have hBz := World.grownBy.size (show Ext w w9.drew from (Ext.trans (Ext.trans hwL0 (Ext.store hx7 hx11 (by omega))) (Ext.drew _)))
      refine LO.go rfl rfl (OW.enter rfl (by decide) (X.call Try.call50 (evl_cons rfl evl_nil)) (cloneB_ok _ (E[k]'hk).1.Data _ (Row.ext (de _ (List.getElem_mem hk)) (Ext.trans (Ext.trans hwL0 (Ext.store hx7 hx11 (by omega))) (Ext.drew _))) (hd _ (List.mem_map.2 ⟨_, List.getElem_mem hk, rfl⟩))) ?_)
      rintro dv w14 ⟨od, hx15⟩
      have := World.grownBy.size hx15
      refine ⟨(Ext.trans (Ext.drew _) hx15), ?_⟩
      have gq1 := hx15
      refine WO.q rfl rfl rfl rfl (fun w' hE13 => (X.buildL (P := Try.prog) (t := 74) (cs := (BV.c ((E[k]'hk).1, dv))) (evp_cons rfl (evp_cons rfl evp_nil)) Try.type74 Try.underlying74 rfl rfl ⟨rfl, own_one od, trivial⟩ rfl)) ?_
      refine WO.l ?_
      refine LO.go rfl rfl (OW.lits (vs := [agg (BV.c ((E[k]'hk).1, dv))]) (evp_cons rfl evp_nil) Try.underlying52 Try.sizeOf74 Try.zeroValue74 ⟨rfl, trivial⟩ rfl rfl rfl ?_ (by decide))
      intro v17 w16 ho19 hx18
      have := World.grownBy.size hx18
      have o1 : World.ownsRow w16 _ 74 2 v17 1 (BV.c ((E[k]'hk).1, dv)) := ho19
      have gq2 := hx18
      refine ⟨(Ext.trans (Ext.trans (Ext.drew _) hx15) hx18), ?_⟩
      refine WO.nil ?_
      refine WL.op rfl (OW.append (bytes := 32) (own_ext (own_ext hoA.row gq1) gq2) (Row.of_own o1) (BV.c_one (e := ((E[k]'hk).1, dv)) (Bytes.of_own od)) rfl rfl Try.underlying52 Try.type74 rfl rfl rfl rfl (by decide) (by unfold maxLen; omega) (by omega) (Nat.le_trans hBz (Nat.le_trans (World.grownBy.size gq1) (World.grownBy.size gq2))) ?_ (by decide))
      intro v21 w20 ho23 hx22 hmvhx22
      have ho2 := hoA.app (s := (E[k]'hk).1) od gq1 gq2 ho23 hx22 hmvhx22 hBz
      refine WL.va rfl rfl rfl (X.assign rfl) ?_
      refine WL.nil ?_
      refine blk_n ?_
      refine thn_n ?_
      refine WF.region ?_
      refine WL.va rfl rfl rfl (X.add e8_L0 rfl (w64 (by omega))) ?_
      refine WL.va rfl rfl rfl (X.moveI rfl) ?_
      refine WL.nil ?_
      exact thn_n ⟨_, (by omega), k + 1, _, _, rfl, rfl, rfl, (by repeat (first | exact hAL0 | refine Agree.put ?_ rfl | refine Agree.named hF2 ?_)), (Ext.own (Ext.trans (Ext.trans (Ext.trans (Ext.trans hwL0 (Ext.store hx7 hx11 (by omega))) (Ext.drew _)) hx15) hx18) (own_ext (own_ext hoA.row gq1) gq2) (Nat.le_refl _) hx22), ⟨by omega, by simp [hOl], ho2, by rw [take_map hk, List.map_append, hO]; rfl⟩⟩
    · have gh0_3 := (of_decide_eq_false h0_3)
      refine WF.exit ?_
      refine thn_x ?_
      refine thn_x ?_
      refine blk_eq ?_
      refine thn_n ?_
      refine WF.seq ?_
      refine WF.region ?_
      refine WL.va rfl rfl rfl (X.move e3_L0) ?_
      refine WL.va rfl rfl rfl (X.assign rfl) ?_
      refine WL.nil ?_
      refine thn_n ?_
      refine WF.ret ?_
      refine fin_r ?_
      exact ⟨⟨_, by rw [hO, List.take_of_length_le (by simp; omega)], ho⟩, hwL0⟩

theorem of_ok (v : Value) (b : List UInt8) (w : World) (hb : Bytes w v b) (h4 : b.length = 4) : FnOk Try.prog 48 [v] w (fun r w' => r = agg (b.map u8) ∧ Ext w w') := by
  obtain ⟨x0, x1, x2, x3, rfl⟩ := list4 h4
  refine FnOk.enterC (rs := [.cell 2 76]) Try.func48 rfl Try.ntmps48 Try.results48 rfl rfl ?_
  refine WF.seq ?_
  refine WF.region ?_
  refine WL.op rfl (OW.allocO (cs := [.int .u8 0, .int .u8 0, .int .u8 0, .int .u8 0]) Try.zeroValue76 rfl ?_ (by decide))
  intro g2 w1 heg2 hlg2 hO2 hx3
  have := World.grownBy.size hx3
  refine WL.nil ?_
  refine thn_n ?_
  refine WF.seq ?_
  refine WF.region ?_
  refine WL.va rfl rfl rfl (X.move rfl) ?_
  refine WL.va rfl rfl rfl (X.arrPtr hb rfl Try.underlying76 (by omega) (by omega)) ?_
  refine WL.va rfl rfl rfl (X.loadArr hb hx3 rfl (by omega) Try.isAgg76 Try.sizeOf76) ?_
  refine WL.op rfl (OW.storeOA hO2 rfl rfl rfl (show ∀ u ∈ [x0, x1, x2, x3].map u8, u.oneCell' = true from bytes_one _) Try.sizeOf76 ?_)
  intro w5 hO2 hx7
  have := World.grownBy.size hx7
  replace hO2 : Blk _ _ _ ([x0, x1, x2, x3].map u8) := hO2
  refine WL.nil ?_
  refine thn_n ?_
  refine WF.ret ?_
  refine finC_r (vs := [_]) ⟨⟨_, rfl, readO hO2 Try.isAgg76 Try.sizeOf76⟩, trivial⟩ ?_
  exact ⟨rfl, (Ext.store hx3 hx7 (by omega))⟩

set_option maxHeartbeats 800000 in
theorem get_ok (v : Value) (l : List Bl) (no : Int) (w : World) (h : Bls w v l) (hr : RightB l) : FnOk Try.prog 26 [v, i64 no] w (fun r w' => OwnB w' w.heap.size 5 r (getB l no) ∧ Ext w w') := by
  obtain ⟨E, rfl, re, de⟩ := h
  refine FnOk.enter (rs := [4]) Try.func26 rfl Try.ntmps26 Try.results26 rfl rfl ?_
  refine WF.seq ?_
  refine WF.region ?_
  refine WL.va rfl rfl rfl (X.assign rfl) ?_
  refine WL.nil ?_
  refine thn_n ?_
  refine WF.seq ?_
  refine WF.seq ?_
  refine WF.region ?_
  refine WL.va rfl rfl rfl (X.moveI rfl) ?_
  refine WL.va rfl rfl rfl (X.geq rfl rfl) ?_
  refine WL.va rfl rfl rfl (X.moveB rfl) ?_
  refine WL.split (j := 2) rfl (fun h2 => ?_) (fun h2 => ?_)
  · have gh2 := (of_decide_eq_true h2)
    have h0 := gh2
    refine WL.vg rfl (congrArg some h2) rfl rfl (X.moveI rfl) ?_
    refine WL.vg rfl (congrArg some h2) rfl rfl (X.lss rfl rfl) ?_
    refine WL.va rfl rfl rfl (X.pickT rfl h2 rfl) ?_
    refine WL.nil ?_
    refine thn_n ?_
    refine WF.cond rfl (fun h0_3 => ?_) (fun h0_3 => ?_)
    · have gh0_3 := (of_decide_eq_true h0_3)
      have h1 := gh0_3
      refine WF.seq ?_
      refine WF.region ?_
      refine WL.va rfl rfl rfl (X.move rfl) ?_
      refine WL.va rfl rfl rfl (X.moveI rfl) ?_
      refine WL.c rfl rfl rfl (X.call Try.call46 (evl_cons rfl (evl_cons rfl evl_nil))) (find_ok _ E no _ (Row.ext re (Ext.refl w)) (by have := right_len hr; rw [List.length_map] at this; omega) hr.sort (fun x hx => ⟨(hr.each x hx).1, (hr.each x hx).2.1⟩) ⟨h0, h1⟩) ?_
      rintro v6 w5 ⟨rfl, hx7⟩
      refine WL.va rfl rfl rfl (X.move rfl) ?_
      refine WL.va rfl rfl rfl (X.extract rfl rfl) ?_
      refine WL.va rfl rfl rfl (X.extract rfl rfl) ?_
      refine WL.va rfl rfl rfl (X.assignI rfl) ?_
      refine WL.va rfl rfl rfl (X.assignB rfl) ?_
      refine WL.nil ?_
      refine thn_n ?_
      refine WF.seq ?_
      refine WF.region ?_
      refine WL.va rfl rfl rfl (X.moveB rfl) ?_
      refine WL.nil ?_
      refine thn_n ?_
      refine WF.cond rfl (fun h1_8 => ?_) (fun h1_8 => ?_)
      · have gh1_8 := h1_8
        obtain ⟨hk, he⟩ := (has_iff hr.sort).1 gh1_8
        have hk2 : cntB (E.map Prod.fst) no < E.length := by simpa using hk
        have hgb : getB (E.map Prod.fst) no = (E[cntB (E.map Prod.fst) no]'hk2).1.Data := by have := getB_of hr.sort (List.getElem_mem hk); rw [he] at this; rw [this, List.getElem_map]
        refine WF.seq ?_
        refine WF.region ?_
        refine WL.va rfl rfl rfl (X.move rfl) ?_
        refine WL.va rfl rfl rfl (X.moveI rfl) ?_
        refine WL.va rfl rfl rfl (X.idx re rfl rfl (by omega) Try.underlying52 Try.sizeOf74) ?_
        refine WL.va rfl rfl rfl (X.fieldAddrA rfl Try.underlying74 rfl rfl Try.sizeOf36) ?_
        refine WL.va rfl rfl rfl (X.loadE re hx7 rfl (by omega) ((BRow.get hk2 (by decide)).trans rfl) Try.isAgg36) ?_
        have szq := World.grownBy.size (show Ext w w5 from hx7)
        refine WL.c rfl rfl rfl (X.call Try.call50 (evl_cons rfl evl_nil)) (cloneB_ok _ _ _ (Row.ext (de _ (List.getElem_mem hk2)) hx7) (by have := (hr.each _ (List.mem_map.2 ⟨_, List.getElem_mem hk2, rfl⟩)).2.2.1; omega)) ?_
        rintro dv w10 ⟨od, hx11⟩
        refine WL.va rfl rfl rfl (X.assign rfl) ?_
        refine WL.nil ?_
        refine thn_n ?_
        refine WF.ret ?_
        refine thn_r ?_
        refine fin_r ?_
        exact ⟨by rw [hgb]; exact own_mono od szq, (Ext.trans hx7 hx11)⟩
      · have gh1_8 := h1_8
        have hout := has_none gh1_8
        refine WF.skip ?_
        refine thn_n ?_
        refine WF.seq ?_
        refine WF.region ?_
        have szm := World.grownBy.size (show Ext w w5 from hx7)
        refine WL.op rfl (OW.makeB (n := 4) rfl rfl Try.underlying36 Try.type5 rfl rfl rfl (by omega) ?_ (by decide))
        intro v13 w12 ho15 hx14
        have om := ho15
        refine WL.va rfl rfl rfl (X.assign rfl) ?_
        refine WL.nil ?_
        refine thn_n ?_
        refine WF.ret ?_
        refine fin_r ?_
        exact ⟨by rw [hout]; exact own_mono om szm, (Ext.trans hx7 hx14)⟩
    · have gh0_3 := (of_decide_eq_false h0_3)
      have hout := getB_out (n := no) hr (by omega)
      refine WF.skip ?_
      refine thn_n ?_
      refine WF.seq ?_
      refine WF.region ?_
      have szm := World.grownBy.size (show Ext w w from (Ext.refl _))
      refine WL.op rfl (OW.makeB (n := 4) rfl rfl Try.underlying36 Try.type5 rfl rfl rfl (by omega) ?_ (by decide))
      intro v17 w16 ho19 hx18
      have om := ho19
      refine WL.va rfl rfl rfl (X.assign rfl) ?_
      refine WL.nil ?_
      refine thn_n ?_
      refine WF.ret ?_
      refine fin_r ?_
      exact ⟨by rw [hout]; exact own_mono om szm, hx18⟩
  · have gh2 := (of_decide_eq_false h2)
    have hout := getB_out (n := no) hr (by omega)
    refine WL.p rfl rfl rfl (congrArg some h2) ?_
    refine WL.p rfl rfl rfl (congrArg some h2) ?_
    refine WL.va rfl rfl rfl (X.pickF rfl h2 rfl) ?_
    refine WL.nil ?_
    refine thn_n ?_
    refine WF.cond_f rfl ?_
    refine WF.skip ?_
    refine thn_n ?_
    refine WF.seq ?_
    refine WF.region ?_
    have szm := World.grownBy.size (show Ext w w from (Ext.refl _))
    refine WL.op rfl (OW.makeB (n := 4) rfl rfl Try.underlying36 Try.type5 rfl rfl rfl (by omega) ?_ (by decide))
    intro v22 w21 ho24 hx23
    have om := ho24
    refine WL.va rfl rfl rfl (X.assign rfl) ?_
    refine WL.nil ?_
    refine thn_n ?_
    refine WF.ret ?_
    refine fin_r ?_
    exact ⟨by rw [hout]; exact own_mono om szm, hx23⟩

end Go.Proofs.Ytobjmehppmhkdaa
