/- The walks of the kit's functions over operations and results. -/
import Derived.Test.YthaojdpeimlngaaOpY
namespace Go.Proofs.Ythaojdpeimlngaa
open Go Go.RowKit Kf
set_option maxRecDepth 20000

theorem WOwn.keptO {w w' : World} {B g : Nat} {v : Value} {E : List WV} (h : WOwn w B v E) (k : w.grownBy w' (some g)) (hne : g < B ∨ w.heap.size ≤ g) : WOwn w' B v E :=
  ⟨own_keptO h.row k hne, fun e he => own_keptO (h.data e he) k hne, h.off, h.pair⟩
theorem wcell {E : List WV} {cs : List Value} {k : Nat} (hk : k < E.length) (h : cs.drop (k * 2) = (E.flatMap WV.c).drop (k * 2)) : cs[k * 2 + 1]? = some E[k].2 := by
  have e : (cs.drop (k * 2))[1]? = ((E.flatMap WV.c).drop (k * 2))[1]? := by rw [h]
  rw [List.getElem?_drop, List.getElem?_drop] at e
  rw [e, WRow.get hk (by decide)]
  rfl
theorem wnext {E : List WV} {cs ds : List Value} {k : Nat} (hk : k < E.length) (hl : cs.length = E.length * 2) (hd : ds.length = 2) (h : cs.drop (k * 2) = (E.flatMap WV.c).drop (k * 2)) : (cs.take (k * 2) ++ ds ++ cs.drop (k * 2 + 2)).drop ((k + 1) * 2) = (E.flatMap WV.c).drop ((k + 1) * 2) := by
  have h2 : cs.drop (k * 2 + 2) = (E.flatMap WV.c).drop (k * 2 + 2) := by rw [← List.drop_drop, ← List.drop_drop, h]
  rw [show (k + 1) * 2 = k * 2 + 2 by omega, ← h2]
  exact List.drop_left' (by simp; omega)
set_option maxHeartbeats 2000000 in
theorem bigOp_ok (vP vR vW vD : Value) (o : Od) (w : World) (h : OpAt w vP vR vW vD o) : FnOk Try.prog 9 [agg (oc o.n vP vR vW vD), i64 1000, i64 131072] w (fun r w' => (∃ b, r = .bool b ∧ (b = false → o.P.length ≤ 1000 ∧ o.R.length ≤ 1000 ∧ o.W.length ≤ 1000 ∧ o.D.length ≤ 131072 ∧ ∀ x ∈ o.W, x.Data.length ≤ 131072)) ∧ Ext w w') := by
  obtain ⟨E, hE, rE, dE⟩ := h.W
  have hEl : E.length = o.W.length := by rw [← hE]; simp
  have lP := Ints.le64 h.P
  have lR := Ints.le64 h.R
  have lW := h.W.le
  have lD := Bytes.le64 h.D
  refine FnOk.enter (rs := [6]) Try.func9 rfl Try.ntmps9 Try.results9 rfl rfl ?_
  refine WF.seq ?_
  refine WF.region ?_
  refine WL.op rfl (OW.boxA (cs := (oc o.n vP vR vW vD)) rfl ?_ (by decide))
  intro g3 w1 heg3 hlg3 hO3 hx2
  have := World.grownBy.size hx2
  refine WL.va rfl rfl rfl (X.assignB rfl) ?_
  refine WL.nil ?_
  refine thn_n ?_
  refine WF.seq ?_
  refine WF.seq ?_
  refine WF.region ?_
  refine WL.va rfl rfl rfl (X.fieldAddrO (off := 13) rfl Try.underlying26 rfl rfl Try.sizeOf22) ?_
  refine WL.va rfl rfl rfl (X.loadO hO3 (Ext.refl _) rfl rfl Try.isAgg22) ?_
  refine WL.va rfl rfl rfl (X.len h.P rfl Try.underlying22) ?_
  refine WL.va rfl rfl rfl (X.moveI rfl) ?_
  refine WL.va rfl rfl rfl (X.gtr rfl rfl) ?_
  refine WL.va rfl rfl rfl (X.moveB rfl) ?_
  refine WL.split (j := 5) rfl (fun h6 => ?_) (fun h6 => ?_)
  · have gh6 := (of_decide_eq_true h6)
    refine WL.p rfl rfl rfl (congrArg some h6) ?_
    refine WL.p rfl rfl rfl (congrArg some h6) ?_
    refine WL.p rfl rfl rfl (congrArg some h6) ?_
    refine WL.p rfl rfl rfl (congrArg some h6) ?_
    refine WL.p rfl rfl rfl (congrArg some h6) ?_
    refine WL.va rfl rfl rfl (X.pickT rfl h6 rfl) ?_
    refine WL.va rfl rfl rfl (X.moveB rfl) ?_
    refine WL.p rfl rfl rfl rfl ?_
    refine WL.p rfl rfl rfl rfl ?_
    refine WL.p rfl rfl rfl rfl ?_
    refine WL.p rfl rfl rfl rfl ?_
    refine WL.p rfl rfl rfl rfl ?_
    refine WL.va rfl rfl rfl (X.pickT rfl rfl rfl) ?_
    refine WL.va rfl rfl rfl (X.moveB rfl) ?_
    refine WL.p rfl rfl rfl rfl ?_
    refine WL.p rfl rfl rfl rfl ?_
    refine WL.p rfl rfl rfl rfl ?_
    refine WL.p rfl rfl rfl rfl ?_
    refine WL.p rfl rfl rfl rfl ?_
    refine WL.va rfl rfl rfl (X.pickT rfl rfl rfl) ?_
    refine WL.nil ?_
    refine thn_n ?_
    refine WF.cond_t rfl ?_
    refine WF.seq ?_
    refine WF.region ?_
    refine WL.va rfl rfl rfl (X.assignB rfl) ?_
    refine WL.nil ?_
    refine thn_n ?_
    refine WF.ret ?_
    refine thn_r ?_
    refine fin_r ?_
    exact ⟨⟨_, rfl, fun q => (by cases q)⟩, hx2⟩
  · have gh6 := (of_decide_eq_false h6)
    refine WL.vg rfl (congrArg some h6) rfl rfl (X.fieldAddrO (off := 14) rfl Try.underlying26 rfl rfl Try.sizeOf22) ?_
    refine WL.vg rfl (congrArg some h6) rfl rfl (X.loadO hO3 (Ext.refl _) rfl rfl Try.isAgg22) ?_
    refine WL.vg rfl (congrArg some h6) rfl rfl (X.len h.R rfl Try.underlying22) ?_
    refine WL.vg rfl (congrArg some h6) rfl rfl (X.moveI rfl) ?_
    refine WL.vg rfl (congrArg some h6) rfl rfl (X.gtr rfl rfl) ?_
    refine WL.va rfl rfl rfl (X.pickF rfl h6 rfl) ?_
    refine WL.va rfl rfl rfl (X.moveB rfl) ?_
    refine WL.split (j := 12) rfl (fun h12 => ?_) (fun h12 => ?_)
    · have gh12 := (of_decide_eq_true h12)
      refine WL.p rfl rfl rfl (congrArg some h12) ?_
      refine WL.p rfl rfl rfl (congrArg some h12) ?_
      refine WL.p rfl rfl rfl (congrArg some h12) ?_
      refine WL.p rfl rfl rfl (congrArg some h12) ?_
      refine WL.p rfl rfl rfl (congrArg some h12) ?_
      refine WL.va rfl rfl rfl (X.pickT rfl h12 rfl) ?_
      refine WL.va rfl rfl rfl (X.moveB rfl) ?_
      refine WL.p rfl rfl rfl rfl ?_
      refine WL.p rfl rfl rfl rfl ?_
      refine WL.p rfl rfl rfl rfl ?_
      refine WL.p rfl rfl rfl rfl ?_
      refine WL.p rfl rfl rfl rfl ?_
      refine WL.va rfl rfl rfl (X.pickT rfl rfl rfl) ?_
      refine WL.nil ?_
      refine thn_n ?_
      refine WF.cond_t rfl ?_
      refine WF.seq ?_
      refine WF.region ?_
      refine WL.va rfl rfl rfl (X.assignB rfl) ?_
      refine WL.nil ?_
      refine thn_n ?_
      refine WF.ret ?_
      refine thn_r ?_
      refine fin_r ?_
      exact ⟨⟨_, rfl, fun q => (by cases q)⟩, hx2⟩
    · have gh12 := (of_decide_eq_false h12)
      refine WL.vg rfl (congrArg some h12) rfl rfl (X.fieldAddrO (off := 15) rfl Try.underlying26 rfl rfl Try.sizeOf23) ?_
      refine WL.vg rfl (congrArg some h12) rfl rfl (X.loadO hO3 (Ext.refl _) rfl rfl Try.isAgg23) ?_
      refine WL.vg rfl (congrArg some h12) rfl rfl (X.len rE rfl Try.underlying23) ?_
      refine WL.vg rfl (congrArg some h12) rfl rfl (X.moveI rfl) ?_
      refine WL.vg rfl (congrArg some h12) rfl rfl (X.gtr rfl rfl) ?_
      refine WL.va rfl rfl rfl (X.pickF rfl h12 rfl) ?_
      refine WL.va rfl rfl rfl (X.moveB rfl) ?_
      refine WL.split (j := 19) rfl (fun h17 => ?_) (fun h17 => ?_)
      · have gh17 := (of_decide_eq_true h17)
        refine WL.p rfl rfl rfl (congrArg some h17) ?_
        refine WL.p rfl rfl rfl (congrArg some h17) ?_
        refine WL.p rfl rfl rfl (congrArg some h17) ?_
        refine WL.p rfl rfl rfl (congrArg some h17) ?_
        refine WL.p rfl rfl rfl (congrArg some h17) ?_
        refine WL.va rfl rfl rfl (X.pickT rfl h17 rfl) ?_
        refine WL.nil ?_
        refine thn_n ?_
        refine WF.cond_t rfl ?_
        refine WF.seq ?_
        refine WF.region ?_
        refine WL.va rfl rfl rfl (X.assignB rfl) ?_
        refine WL.nil ?_
        refine thn_n ?_
        refine WF.ret ?_
        refine thn_r ?_
        refine fin_r ?_
        exact ⟨⟨_, rfl, fun q => (by cases q)⟩, hx2⟩
      · have gh17 := (of_decide_eq_false h17)
        refine WL.vg rfl (congrArg some h17) rfl rfl (X.fieldAddrO (off := 16) rfl Try.underlying26 rfl rfl Try.sizeOf24) ?_
        refine WL.vg rfl (congrArg some h17) rfl rfl (X.loadO hO3 (Ext.refl _) rfl rfl Try.isAgg24) ?_
        refine WL.vg rfl (congrArg some h17) rfl rfl (X.len h.D rfl Try.underlying24) ?_
        refine WL.vg rfl (congrArg some h17) rfl rfl (X.moveI rfl) ?_
        refine WL.vg rfl (congrArg some h17) rfl rfl (X.gtr rfl rfl) ?_
        refine WL.va rfl rfl rfl (X.pickF rfl h17 rfl) ?_
        refine WL.nil ?_
        refine thn_n ?_
        refine WF.cond rfl (fun h0_20 => ?_) (fun h0_20 => ?_)
        · have gh0_20 := (of_decide_eq_true h0_20)
          refine WF.seq ?_
          refine WF.region ?_
          refine WL.va rfl rfl rfl (X.assignB rfl) ?_
          refine WL.nil ?_
          refine thn_n ?_
          refine WF.ret ?_
          refine thn_r ?_
          refine fin_r ?_
          exact ⟨⟨_, rfl, fun q => (by cases q)⟩, hx2⟩
        · have gh0_20 := (of_decide_eq_false h0_20)
          refine WF.skip ?_
          refine thn_n ?_
          refine WF.seq ?_
          refine WF.region ?_
          refine WL.va rfl rfl rfl (X.assignI rfl) ?_
          refine WL.nil ?_
          refine thn_n ?_
          refine WF.seq ?_
          refine WF.seq ?_
          refine WF.region ?_
          refine WL.va rfl rfl rfl (X.assignI rfl) ?_
          refine WL.nil ?_
          refine thn_n ?_
          refine WF.block ?_
          refine WF.named (fun F23 hF24 => ?_)
          refine WF.loopN (fun mL0 f' w' => ∃ (k : Nat) (n : Int), mL0 = E.length - k ∧ f' 8 = .int .i64 (k : Int) ∧ f' 7 = .int .i64 n ∧ Agree [0, 1, 2, 3, 9, 10, 11, 12, 13, 14, 15, 16, 17, 18, 19, 20, 21, 22, 23, 24, 25, 26, 27, 28, 29, 30, 31, 32, 33, 34] f' F23 ∧ Ext w1 w' ∧ k ≤ E.length ∧ 0 ≤ n ∧ n ≤ 131072 ∧ ∀ j (hj : j < E.length), j < k → E[j].1.Data.length ≤ 131072) ?_ ?_
          · exact ⟨_, 0, 0, rfl, (congrFun hF24 8), (congrFun hF24 7), (Agree.refl _ _), (Ext.refl _), ⟨Nat.zero_le _, by omega, by omega, fun j _ hj => by omega⟩⟩
          · rintro mL0 fL0 wL0 ⟨k, n, hmL0, e8_L0, e7_L0, hAL0, hwL0, ⟨hk0, hn0, hn1, hall⟩⟩
            have := World.grownBy.size hwL0
            refine WF.seq ?_
            refine WF.seq ?_
            refine WF.region ?_
            refine WL.va rfl rfl rfl (X.moveI e8_L0) ?_
            refine WL.va rfl rfl rfl (X.fieldAddrO (off := 15) ((hAL0.eq 3).trans (congrFun hF24 3)) Try.underlying26 rfl rfl Try.sizeOf23) ?_
            refine WL.va rfl rfl rfl (X.loadO hO3 hwL0 rfl rfl Try.isAgg23) ?_
            refine WL.va rfl rfl rfl (X.len rE rfl Try.underlying23) ?_
            refine WL.va rfl rfl rfl (X.lss rfl rfl) ?_
            refine WL.nil ?_
            refine thn_n ?_
            refine WF.cond rfl (fun h1_25 => ?_) (fun h1_25 => ?_)
            · have gh1_25 := (of_decide_eq_true h1_25)
              have hk : k < E.length := by omega
              refine WF.skip ?_
              refine thn_n ?_
              refine WF.seq ?_
              refine WF.block ?_
              refine WF.seq ?_
              refine WF.region ?_
              refine WL.va rfl rfl rfl (X.moveI e7_L0) ?_
              refine WL.va rfl rfl rfl (X.fieldAddrO (off := 15) ((hAL0.eq 3).trans (congrFun hF24 3)) Try.underlying26 rfl rfl Try.sizeOf23) ?_
              refine WL.va rfl rfl rfl (X.loadO hO3 hwL0 rfl rfl Try.isAgg23) ?_
              refine WL.va rfl rfl rfl (X.moveI e8_L0) ?_
              refine WL.va rfl rfl rfl (X.idx rE rfl rfl hk Try.underlying23 Try.sizeOf52) ?_
              refine WL.va rfl rfl rfl (X.fieldAddrA rfl Try.underlying52 rfl rfl Try.sizeOf24) ?_
              refine WL.va rfl rfl rfl (X.loadE rE (Ext.trans hx2 hwL0) rfl hk ((WRow.get hk (by decide)).trans rfl) Try.isAgg24) ?_
              refine WL.va rfl rfl rfl (X.len (dE _ (List.getElem_mem hk)) rfl Try.underlying24) ?_
              refine WL.va rfl rfl rfl (X.moveI ((hAL0.eq 2).trans (congrFun hF24 2))) ?_
              refine WL.va rfl rfl rfl (X.add rfl rfl (w64 (by omega))) ?_
              refine WL.va rfl rfl rfl (X.min2 rfl rfl) ?_
              refine WL.va rfl rfl rfl (X.add rfl rfl (w64 (by omega))) ?_
              refine WL.va rfl rfl rfl (X.assignI rfl) ?_
              refine WL.nil ?_
              refine thn_n ?_
              refine WF.seq ?_
              refine WF.region ?_
              refine WL.va rfl rfl rfl (X.moveI rfl) ?_
              refine WL.va rfl rfl rfl (X.moveI ((hAL0.eq 2).trans (congrFun hF24 2))) ?_
              refine WL.va rfl rfl rfl (X.gtr rfl rfl) ?_
              refine WL.nil ?_
              refine thn_n ?_
              refine WF.cond rfl (fun h2_27 => ?_) (fun h2_27 => ?_)
              · have gh2_27 := (of_decide_eq_true h2_27)
                refine WF.seq ?_
                refine WF.region ?_
                refine WL.va rfl rfl rfl (X.assignB rfl) ?_
                refine WL.nil ?_
                refine thn_n ?_
                refine WF.ret ?_
                refine blk_r ?_
                refine thn_r ?_
                refine thn_r ?_
                refine blk_r ?_
                refine thn_r ?_
                refine fin_r ?_
                exact ⟨⟨_, rfl, fun q => (by cases q)⟩, (Ext.trans hx2 hwL0)⟩
              · have gh2_27 := (of_decide_eq_false h2_27)
                have hkl : (E[k]'hk).1.Data.length ≤ 131072 := by omega
                refine WF.skip ?_
                refine blk_n ?_
                refine thn_n ?_
                refine WF.region ?_
                refine WL.va rfl rfl rfl (X.moveI e8_L0) ?_
                refine WL.va rfl rfl rfl (X.add rfl rfl (w64 (by omega))) ?_
                refine WL.va rfl rfl rfl (X.assignI rfl) ?_
                refine WL.nil ?_
                exact thn_n ⟨_, (by omega), k + 1, _, rfl, rfl, rfl, (by repeat (first | exact hAL0 | refine Agree.put ?_ rfl | refine Agree.named hF24 ?_)), hwL0, ⟨by omega, by omega, by omega, fun j hj hj2 => by
        rcases Nat.lt_succ_iff_lt_or_eq.1 hj2 with hq | rfl
        · exact hall j hj hq
        · exact hkl⟩⟩
            · have gh1_25 := (of_decide_eq_false h1_25)
              refine WF.exit ?_
              refine thn_x ?_
              refine thn_x ?_
              refine blk_eq ?_
              refine thn_n ?_
              refine WF.seq ?_
              refine WF.region ?_
              refine WL.va rfl rfl rfl (X.assignB rfl) ?_
              refine WL.nil ?_
              refine thn_n ?_
              refine WF.ret ?_
              refine fin_r ?_
              refine ⟨⟨_, rfl, fun _ => ⟨by omega, by omega, by omega, by omega, fun x hx => ?_⟩⟩, (Ext.trans hx2 hwL0)⟩
              rw [← hE] at hx
              obtain ⟨e, he, rfl⟩ := List.mem_map.1 hx
              obtain ⟨j, hj, rfl⟩ := List.getElem_of_mem he
              exact hall j hj (by omega)

set_option maxHeartbeats 2000000 in
theorem copyOp_ok (vP vR vW vD : Value) (o : Od) (w : World) (h : OpAt w vP vR vW vD o) (hm : o.small) : FnOk Try.prog 11 [agg (oc o.n vP vR vW vD)] w (fun r w' => (∃ v1 v2 v3 v4, r = agg (oc o.n v1 v2 v3 v4) ∧ OpAt w' v1 v2 v3 v4 o) ∧ Ext w w') := by
  obtain ⟨hmP, hmR, hmW, hmD, hmWD⟩ := hm
  refine FnOk.enterC (rs := [.cell 2 26]) Try.func11 rfl Try.ntmps11 Try.results11 rfl rfl ?_
  refine WF.seq ?_
  refine WF.region ?_
  refine WL.op rfl (OW.boxA (cs := (oc o.n vP vR vW vD)) rfl ?_ (by decide))
  intro g1 w1 heg1 hlg1 hO1 hx3
  have := World.grownBy.size hx3
  refine WL.op rfl (OW.allocO (cs := [i64 0, i64 0, i64 0, i64 0, i64 0, i64 0, i64 0, i64 0, i64 0, i64 0, i64 0, i64 0, i64 0, .slice none 0 0, .slice none 0 0, .slice none 0 0, .slice none 0 0]) Try.zeroValue26 rfl ?_ (by decide))
  intro g2 w5 heg2 hlg2 hO2 hx7
  have := World.grownBy.size hx7
  refine WL.nil ?_
  refine thn_n ?_
  refine WF.seq ?_
  refine WF.region ?_
  refine WL.va rfl rfl rfl (X.fieldAddrO (off := 13) rfl Try.underlying26 rfl rfl Try.sizeOf22) ?_
  refine WL.va rfl rfl rfl (X.loadO hO1 hx7 rfl rfl Try.isAgg22) ?_
  refine WL.c rfl rfl rfl (X.call Try.call31 (evl_cons rfl evl_nil)) (copyInts_ok _ _ _ (Row.ext h.P (Ext.trans hx3 hx7)) hmP) ?_
  rintro v1 w9 ⟨oP, hx10⟩
  have := World.grownBy.size hx10
  refine WL.va rfl rfl rfl (X.fieldAddrO (off := 13) rfl Try.underlying26 rfl rfl Try.sizeOf22) ?_
  refine WL.op rfl (OW.storeO (hO1.ext (Ext.trans hx7 hx10)) (Nat.le_of_ble_eq_true rfl) rfl rfl (own_one oP) Try.sizeOf22 ?_)
  intro w11 hO1 hx13
  have := World.grownBy.size hx13
  replace hO2 := (hO2.ext hx10).keptO hx13 (by omega)
  replace oP := own_keptO oP hx13 (by omega)
  replace hO1 : Blk _ _ _ (oc o.n v1 vR vW vD) := hO1
  refine WL.nil ?_
  refine thn_n ?_
  refine WF.seq ?_
  refine WF.region ?_
  refine WL.va rfl rfl rfl (X.fieldAddrO (off := 14) rfl Try.underlying26 rfl rfl Try.sizeOf22) ?_
  refine WL.va rfl rfl rfl (X.loadO hO1 (Ext.refl _) rfl rfl Try.isAgg22) ?_
  refine WL.c rfl rfl rfl (X.call Try.call31 (evl_cons rfl evl_nil)) (copyInts_ok _ _ _ (Row.ext h.R (Ext.store (Ext.trans (Ext.trans hx3 hx7) hx10) hx13 (by omega))) hmR) ?_
  rintro v2 w15 ⟨oR, hx16⟩
  have := World.grownBy.size hx16
  refine WL.va rfl rfl rfl (X.fieldAddrO (off := 14) rfl Try.underlying26 rfl rfl Try.sizeOf22) ?_
  refine WL.op rfl (OW.storeO (hO1.ext hx16) (Nat.le_of_ble_eq_true rfl) rfl rfl (own_one oR) Try.sizeOf22 ?_)
  intro w17 hO1 hx19
  have := World.grownBy.size hx19
  replace hO2 := (hO2.ext hx16).keptO hx19 (by omega)
  replace oP := own_keptO (own_ext oP hx16) hx19 (by omega)
  replace oR := own_keptO oR hx19 (by omega)
  replace hO1 : Blk _ _ _ (oc o.n v1 v2 vW vD) := hO1
  refine WL.nil ?_
  refine thn_n ?_
  refine WF.seq ?_
  refine WF.region ?_
  refine WL.va rfl rfl rfl (X.fieldAddrO (off := 15) rfl Try.underlying26 rfl rfl Try.sizeOf23) ?_
  refine WL.va rfl rfl rfl (X.loadO hO1 (Ext.refl _) rfl rfl Try.isAgg23) ?_
  refine WL.c rfl rfl rfl (X.call Try.call32 (evl_cons rfl evl_nil)) (copyWs_ok _ _ _ (h.W.ext (Ext.store (Ext.trans (Ext.store (Ext.trans (Ext.trans hx3 hx7) hx10) hx13 (by omega)) hx16) hx19 (by omega))) hmW hmWD) ?_
  rintro v3 w21 ⟨⟨F, hF, oW⟩, hx22⟩
  have := World.grownBy.size hx22
  refine WL.va rfl rfl rfl (X.fieldAddrO (off := 15) rfl Try.underlying26 rfl rfl Try.sizeOf23) ?_
  refine WL.op rfl (OW.storeO (hO1.ext hx22) (Nat.le_of_ble_eq_true rfl) rfl rfl (own_one oW.row) Try.sizeOf23 ?_)
  intro w23 hO1 hx25
  have := World.grownBy.size hx25
  replace hO2 := (hO2.ext hx22).keptO hx25 (by omega)
  replace oP := own_keptO (own_ext oP hx22) hx25 (by omega)
  replace oR := own_keptO (own_ext oR hx22) hx25 (by omega)
  replace oW := oW.keptO hx25 (by omega)
  replace hO1 : Blk _ _ _ (oc o.n v1 v2 v3 vD) := hO1
  refine WL.nil ?_
  refine thn_n ?_
  refine WF.seq ?_
  refine WF.region ?_
  refine WL.va rfl rfl rfl (X.fieldAddrO (off := 16) rfl Try.underlying26 rfl rfl Try.sizeOf24) ?_
  refine WL.va rfl rfl rfl (X.loadO hO1 (Ext.refl _) rfl rfl Try.isAgg24) ?_
  refine WL.c rfl rfl rfl (X.call Try.call20 (evl_cons rfl evl_nil)) (copyBytes_ok _ _ _ (Row.ext h.D (Ext.store (Ext.trans (Ext.store (Ext.trans (Ext.store (Ext.trans (Ext.trans hx3 hx7) hx10) hx13 (by omega)) hx16) hx19 (by omega)) hx22) hx25 (by omega))) (by omega)) ?_
  rintro v4 w27 ⟨oD, hx28⟩
  have := World.grownBy.size hx28
  refine WL.va rfl rfl rfl (X.fieldAddrO (off := 16) rfl Try.underlying26 rfl rfl Try.sizeOf24) ?_
  refine WL.op rfl (OW.storeO (hO1.ext hx28) (Nat.le_of_ble_eq_true rfl) rfl rfl (own_one oD) Try.sizeOf24 ?_)
  intro w29 hO1 hx31
  have := World.grownBy.size hx31
  replace hO2 := (hO2.ext hx28).keptO hx31 (by omega)
  replace oP := own_keptO (own_ext oP hx28) hx31 (by omega)
  replace oR := own_keptO (own_ext oR hx28) hx31 (by omega)
  replace oW := (oW.ext hx28).keptO hx31 (by omega)
  replace oD := own_keptO oD hx31 (by omega)
  replace hO1 : Blk _ _ _ (oc o.n v1 v2 v3 v4) := hO1
  refine WL.nil ?_
  refine thn_n ?_
  refine WF.seq ?_
  refine WF.region ?_
  refine WL.va rfl rfl rfl (X.loadOA hO1 (Ext.refl _) rfl rfl Try.isAgg26 Try.sizeOf26) ?_
  have hA : OpAt w29 v1 v2 v3 v4 o := ⟨h.len, h.inn, Row.of_own oP, Row.of_own oR, oW.sessE hF, Row.of_own oD⟩
  refine WL.op rfl (OW.storeOA hO2 rfl rfl rfl (hA.ones _) Try.sizeOf26 ?_)
  intro w33 hO2 hx35
  have := World.grownBy.size hx35
  replace hO1 := hO1.keptO hx35 (by omega)
  replace oP := own_keptO oP hx35 (by omega)
  replace oR := own_keptO oR hx35 (by omega)
  replace oW := oW.keptO hx35 (by omega)
  replace oD := own_keptO oD hx35 (by omega)
  refine WL.nil ?_
  refine thn_n ?_
  refine WF.ret ?_
  refine finC_r (vs := [_]) ⟨⟨_, rfl, readO hO2 Try.isAgg26 Try.sizeOf26⟩, trivial⟩ ?_
  exact ⟨⟨v1, v2, v3, v4, rfl, ⟨h.len, h.inn, Row.of_own oP, Row.of_own oR, oW.sessE hF, Row.of_own oD⟩⟩, (Ext.store (Ext.store (Ext.trans (Ext.store (Ext.trans (Ext.store (Ext.trans (Ext.store (Ext.trans (Ext.trans hx3 hx7) hx10) hx13 (by omega)) hx16) hx19 (by omega)) hx22) hx25 (by omega)) hx28) hx31 (by omega)) hx35 (by omega))⟩

set_option maxHeartbeats 1000000 in
theorem sameRes_ok (c d : Int) (v u : Value) (l m : List UInt8) (w : World) (hv : Bytes w v l) (hu : Bytes w u m) : FnOk Try.prog 25 [agg [i64 c, v], agg [i64 d, u]] w (fun r w' => r = .bool (decide (c = d ∧ l = m)) ∧ Ext w w') := by
  refine FnOk.enter (rs := [4]) Try.func25 rfl Try.ntmps25 Try.results25 rfl rfl ?_
  refine WF.seq ?_
  refine WF.region ?_
  refine WL.op rfl (OW.boxA (cs := [i64 c, v]) rfl ?_ (by decide))
  intro g2 w1 heg2 hlg2 hO2 hx3
  have := World.grownBy.size hx3
  refine WL.op rfl (OW.boxA (cs := [i64 d, u]) rfl ?_ (by decide))
  intro g3 w5 heg3 hlg3 hO3 hx7
  have := World.grownBy.size hx7
  refine WL.va rfl rfl rfl (X.assignB rfl) ?_
  refine WL.nil ?_
  refine thn_n ?_
  refine WF.seq ?_
  refine WF.region ?_
  refine WL.va rfl rfl rfl (X.fieldAddrO (off := 0) rfl Try.underlying44 rfl rfl Try.sizeOf30) ?_
  refine WL.va rfl rfl rfl (X.loadO hO2 hx7 rfl rfl Try.isAgg30) ?_
  refine WL.va rfl rfl rfl (X.fieldAddrO (off := 0) rfl Try.underlying44 rfl rfl Try.sizeOf30) ?_
  refine WL.va rfl rfl rfl (X.loadO hO3 (Ext.refl _) rfl rfl Try.isAgg30) ?_
  refine WL.va rfl rfl rfl (X.eql rfl rfl) ?_
  refine WL.va rfl rfl rfl (X.moveB rfl) ?_
  refine WL.split (j := 5) rfl (fun h11 => ?_) (fun h11 => ?_)
  · have gh11 := (of_decide_eq_true h11)
    refine WL.vg rfl (congrArg some h11) rfl rfl (X.fieldAddrO (off := 1) rfl Try.underlying44 rfl rfl Try.sizeOf24) ?_
    refine WL.vg rfl (congrArg some h11) rfl rfl (X.loadO hO2 hx7 rfl rfl Try.isAgg24) ?_
    refine WL.vg rfl (congrArg some h11) rfl rfl (X.fieldAddrO (off := 1) rfl Try.underlying44 rfl rfl Try.sizeOf24) ?_
    refine WL.vg rfl (congrArg some h11) rfl rfl (X.loadO hO3 (Ext.refl _) rfl rfl Try.isAgg24) ?_
    refine WL.cg rfl (congrArg some h11) rfl rfl (X.call Try.call16 (evl_cons rfl (evl_cons rfl evl_nil))) (sameBytes_ok _ _ l m _ (Row.ext hv (Ext.trans hx3 hx7)) (Row.ext hu (Ext.trans hx3 hx7))) ?_
    rintro v13 w12 ⟨rfl, hx14⟩
    have := World.grownBy.size hx14
    refine WL.va rfl rfl rfl (X.pickT rfl h11 rfl) ?_
    refine WL.va rfl rfl rfl (X.assignB rfl) ?_
    refine WL.nil ?_
    refine thn_n ?_
    refine WF.ret ?_
    refine fin_r ?_
    refine ⟨congrArg Value.bool ?_, (Ext.trans (Ext.trans hx3 hx7) hx14)⟩
    first | exact dec_f (fun e => absurd e.1 (by assumption)) | exact dec_iff ⟨fun q => ⟨by assumption, q⟩, fun q => q.2⟩
  · have gh11 := (of_decide_eq_false h11)
    refine WL.p rfl rfl rfl (congrArg some h11) ?_
    refine WL.p rfl rfl rfl (congrArg some h11) ?_
    refine WL.p rfl rfl rfl (congrArg some h11) ?_
    refine WL.p rfl rfl rfl (congrArg some h11) ?_
    refine WL.p rfl rfl rfl (congrArg some h11) ?_
    refine WL.va rfl rfl rfl (X.pickF rfl h11 rfl) ?_
    refine WL.va rfl rfl rfl (X.assignB rfl) ?_
    refine WL.nil ?_
    refine thn_n ?_
    refine WF.ret ?_
    refine fin_r ?_
    refine ⟨congrArg Value.bool ?_, (Ext.trans hx3 hx7)⟩
    first | exact dec_f (fun e => absurd e.1 (by assumption)) | exact dec_iff ⟨fun q => ⟨by assumption, q⟩, fun q => q.2⟩

set_option maxHeartbeats 1600000 in
theorem spoilWsD_ok (v D : Value) (E : List WV) (L0 : List UInt8) (w : World) (B T : Nat) (h : WOwnR w B v E) (hD : OwnB w B 5 D L0) (hsg : SegD D L0 E) (hap : Apart v D) (hT : (∀ b, v.ownBlock = some b → b < T) ∧ ∀ b, D.ownBlock = some b → b < T) : FnOk Try.prog 73 [v] w (fun _ w' => (∃ L, OwnB w' B 5 D L ∧ L.length = L0.length) ∧ Chg B T w w') := by
  have hle : (E.length : Int) ≤ 9223372036854775807 := by obtain ⟨_, c, _, h1, h2, _⟩ := (Row.of_own h).shape; unfold maxLen at h2; omega
  refine FnOk.enter (rs := []) Try.func73 rfl Try.ntmps73 Try.results73 rfl rfl ?_
  refine WF.seq ?_
  refine WF.region ?_
  refine WL.va rfl rfl rfl (X.assignI rfl) ?_
  refine WL.nil ?_
  refine thn_n ?_
  refine WF.block ?_
  refine WF.named (fun F1 hF2 => ?_)
  refine WF.loopN (fun mL0 f' w' => ∃ (k : Nat) (cs : List Value) (L : List UInt8), mL0 = E.length - k ∧ f' 2 = .int .i64 (k : Int) ∧ Agree [0] f' F1 ∧ Chg B T w w' ∧ k ≤ E.length ∧ L.length = L0.length ∧ OwnB w' B 5 D L ∧ w'.ownsRow B 52 2 v E.length cs ∧ cs.drop (k * 2) = (E.flatMap WV.c).drop (k * 2)) ?_ ?_
  · exact ⟨_, 0, _, _, rfl, (congrFun hF2 2), (Agree.refl _ _), (Chg.refl _ _ _), ⟨Nat.zero_le _, rfl, hD, h, rfl⟩⟩
  · rintro mL0 fL0 wL0 ⟨k, cs, L, hmL0, e2_L0, hAL0, hwL0, ⟨hk0, hLl, hoD, hrow, hdr⟩⟩
    refine WF.seq ?_
    refine WF.seq ?_
    refine WF.region ?_
    refine WL.va rfl rfl rfl (X.moveI e2_L0) ?_
    refine WL.va rfl rfl rfl (X.move ((hAL0.eq 0).trans (congrFun hF2 0))) ?_
    refine WL.va rfl rfl rfl (X.len (Row.of_own hrow) rfl Try.underlying23) ?_
    refine WL.va rfl rfl rfl (X.lss rfl rfl) ?_
    refine WL.nil ?_
    refine thn_n ?_
    refine WF.cond rfl (fun h0_3 => ?_) (fun h0_3 => ?_)
    · have gh0_3 := (of_decide_eq_true h0_3)
      have hk : k < E.length := by omega
      obtain ⟨lo, hi, hs1, hs2, _⟩ := hsg _ (List.getElem_mem hk)
      refine WF.skip ?_
      refine thn_n ?_
      refine WF.seq ?_
      refine WF.block ?_
      refine WF.seq ?_
      refine WF.region ?_
      refine WL.va rfl rfl rfl (X.move ((hAL0.eq 0).trans (congrFun hF2 0))) ?_
      refine WL.va rfl rfl rfl (X.moveI e2_L0) ?_
      refine WL.va rfl rfl rfl (X.idx (Row.of_own hrow) rfl rfl (by omega) Try.underlying23 Try.sizeOf52) ?_
      refine WL.va rfl rfl rfl (X.fieldAddrA rfl Try.underlying52 rfl rfl Try.sizeOf24) ?_
      refine WL.va rfl rfl rfl (X.loadE (Row.of_own hrow) (Ext.refl _) rfl (by omega) (wcell hk hdr) Try.isAgg24) ?_
      refine WL.c rfl rfl rfl (X.call Try.call27 (evl_cons rfl evl_nil)) (spoilSeg_ok D (E[k]'hk).2 L lo hi _ B hoD hs1 (by omega)) ?_
      rintro v6 w5 ⟨⟨L2, oD2, hL2, _⟩, hx7⟩
      have hr2 := hrow.kept hx7 hap.ne
      have hg1 := Chg.of hx7 (B := B) (T := T) (fun g hg => ⟨(hoD.lt g hg).1, hT.2 g hg⟩)
      refine WL.nil ?_
      refine thn_n ?_
      refine WF.region ?_
      refine WL.va rfl rfl rfl (X.move ((hAL0.eq 0).trans (congrFun hF2 0))) ?_
      refine WL.va rfl rfl rfl (X.moveI e2_L0) ?_
      refine WL.va rfl rfl rfl (X.buildL (P := Try.prog) (t := 52) (cs := [i64 (-77), (.slice none 0 0)]) (evp_cons rfl evp_nil) Try.type52 Try.underlying52 rfl rfl ⟨rfl, trivial⟩ rfl) ?_
      refine WL.va rfl rfl rfl (X.idx (Row.of_own hr2) rfl rfl hk Try.underlying23 Try.sizeOf52) ?_
      refine WL.op rfl (OW.storeEl (ds := [i64 (-77), (.slice none 0 0)]) hr2 hk rfl rfl rfl (by simp [Value.oneCell']) Try.sizeOf52 ?_)
      intro w8 ho11 hx10
      have ho2 := ho11
      have oD3 := oD2.kept hx10 hap.symm.ne
      have hg2 := Chg.of hx10 (B := B) (T := T) (fun g hg => ⟨(hr2.lt g hg).1, hT.1 g hg⟩)
      refine WL.nil ?_
      refine blk_n ?_
      refine thn_n ?_
      refine WF.region ?_
      refine WL.va rfl rfl rfl (X.moveI e2_L0) ?_
      refine WL.va rfl rfl rfl (X.add rfl rfl (w64 (by omega))) ?_
      refine WL.va rfl rfl rfl (X.assignI rfl) ?_
      refine WL.nil ?_
      exact thn_n ⟨_, (by omega), k + 1, _, _, rfl, rfl, (by repeat (first | exact hAL0 | refine Agree.put ?_ rfl | refine Agree.named hF2 ?_)), ((hwL0.trans hg1).trans hg2), ⟨by omega, by omega, oD3, ho2, wnext hk hrow.1 rfl hdr⟩⟩
    · have gh0_3 := (of_decide_eq_false h0_3)
      refine WF.exit ?_
      refine thn_x ?_
      refine thn_x ?_
      refine blk_eq ?_
      refine fin_n ?_
      exact ⟨⟨_, hoD, hLl⟩, hwL0⟩

set_option maxHeartbeats 1600000 in
theorem spoilOp_ok (vP vR vW vD : Value) (o : Od) (w0 w : World) (B : Nat) (h : OpG w0 B vP vR vW vD o) (g : Ext w0 w) : FnOk Try.prog 26 [agg (oc o.n vP vR vW vD)] w (fun _ w' => Chg B w0.heap.size w w') := by
  obtain ⟨D, L, E, hE, oW0, hsg, oD0, ⟨lo, hi, hs1, hs2, hs3⟩, apP, apR, apW⟩ := h.W
  have hz0 := World.grownBy.size g
  have tP := fun b hb => (h.P.lt b hb).2
  have tR := fun b hb => (h.R.lt b hb).2
  have tW := fun b hb => (oW0.lt b hb).2
  have tD := fun b hb => (oD0.lt b hb).2
  have oP1 := own_ext h.P g
  have oR1 := own_ext h.R g
  have oW1 := own_ext oW0 g
  have oD1 := own_ext oD0 g
  refine FnOk.enter (rs := []) Try.func26 rfl Try.ntmps26 Try.results26 rfl rfl ?_
  refine WF.seq ?_
  refine WF.region ?_
  refine WL.op rfl (OW.boxA (cs := (oc o.n vP vR vW vD)) rfl ?_ (by decide))
  intro g1 w1 heg1 hlg1 hO1 hx3
  have := World.grownBy.size hx3
  have hc0 := Chg.of hx3 (B := B) (T := w0.heap.size) (fun g hg => by cases hg)
  replace oP1 := own_ext oP1 hx3
  replace oR1 := own_ext oR1 hx3
  replace oW1 := own_ext oW1 hx3
  replace oD1 := own_ext oD1 hx3
  refine WL.nil ?_
  refine thn_n ?_
  refine WF.seq ?_
  refine WF.region ?_
  refine WL.va rfl rfl rfl (X.fieldAddrO (off := 13) rfl Try.underlying26 rfl rfl Try.sizeOf22) ?_
  refine WL.va rfl rfl rfl (X.loadO hO1 (Ext.refl _) rfl rfl Try.isAgg22) ?_
  refine WL.c rfl rfl rfl (X.call Try.call72 (evl_cons rfl evl_nil)) (spoilInts_ok _ _ _ _ oP1) ?_
  rintro v6 w5 ⟨_, hx7⟩
  have := World.grownBy.size hx7
  replace hO1 := hO1.keptR hx7 (fun b hb => by have := tP b hb; omega)
  have hc1 := Chg.of hx7 (B := B) (T := w0.heap.size) (fun q hq => ⟨(h.P.lt q hq).1, tP q hq⟩)
  replace oR1 := oR1.kept hx7 h.ap.1.symm.ne
  replace oW1 := World.ownsRow.kept oW1 hx7 h.ap.2.1.symm.ne
  replace oD1 := oD1.kept hx7 apP.symm.ne
  refine WL.nil ?_
  refine thn_n ?_
  refine WF.seq ?_
  refine WF.region ?_
  refine WL.va rfl rfl rfl (X.fieldAddrO (off := 14) rfl Try.underlying26 rfl rfl Try.sizeOf22) ?_
  refine WL.va rfl rfl rfl (X.loadO hO1 (Ext.refl _) rfl rfl Try.isAgg22) ?_
  refine WL.c rfl rfl rfl (X.call Try.call72 (evl_cons rfl evl_nil)) (spoilInts_ok _ _ _ _ oR1) ?_
  rintro v9 w8 ⟨_, hx10⟩
  have := World.grownBy.size hx10
  replace hO1 := hO1.keptR hx10 (fun b hb => by have := tR b hb; omega)
  have hc2 := Chg.of hx10 (B := B) (T := w0.heap.size) (fun q hq => ⟨(h.R.lt q hq).1, tR q hq⟩)
  replace oW1 := World.ownsRow.kept oW1 hx10 h.ap.2.2.symm.ne
  replace oD1 := oD1.kept hx10 apR.symm.ne
  refine WL.nil ?_
  refine thn_n ?_
  refine WF.seq ?_
  refine WF.region ?_
  refine WL.va rfl rfl rfl (X.fieldAddrO (off := 15) rfl Try.underlying26 rfl rfl Try.sizeOf23) ?_
  refine WL.va rfl rfl rfl (X.loadO hO1 (Ext.refl _) rfl rfl Try.isAgg23) ?_
  refine WL.c rfl rfl rfl (X.call Try.call73 (evl_cons rfl evl_nil)) (spoilWsD_ok _ _ _ _ _ _ w0.heap.size oW1 oD1 hsg apW ⟨tW, tD⟩) ?_
  rintro v12 w11 ⟨⟨L2, oD2, hL2⟩, hc3⟩
  have := hc3.size
  have hO1 := hO1.chg hc3 (.inr (by omega))
  refine WL.nil ?_
  refine thn_n ?_
  refine WF.region ?_
  refine WL.va rfl rfl rfl (X.fieldAddrO (off := 16) rfl Try.underlying26 rfl rfl Try.sizeOf24) ?_
  refine WL.va rfl rfl rfl (X.loadO hO1 (Ext.refl _) rfl rfl Try.isAgg24) ?_
  refine WL.c rfl rfl rfl (X.call Try.call27 (evl_cons rfl evl_nil)) (spoilSeg_ok D _ L2 lo hi _ B oD2 hs1 (by omega)) ?_
  rintro v15 w14 ⟨_, hx16⟩
  have := World.grownBy.size hx16
  replace hO1 := hO1.keptR hx16 (fun b hb => by have := tD b hb; omega)
  have hc4 := Chg.of hx16 (B := B) (T := w0.heap.size) (fun q hq => ⟨(oD0.lt q hq).1, tD q hq⟩)
  refine WL.nil ?_
  refine fin_n ?_
  exact (((hc0.trans hc1).trans hc2).trans hc3).trans hc4

end Go.Proofs.Ythaojdpeimlngaa
