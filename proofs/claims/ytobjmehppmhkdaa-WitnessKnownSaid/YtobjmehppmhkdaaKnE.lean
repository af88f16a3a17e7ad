/- The walk of turned. -/
import Derived.Test.YtobjmehppmhkdaaTrn
namespace Go.Proofs.Ytobjmehppmhkdaa
open Go Go.RowKit Kf
set_option maxRecDepth 20000

section
variable {E E2 : List EvV} {l : List Ev} {a b i : Nat} {w w' w2 : World} {D B : Nat} {v dv : Value} {d : List UInt8} {n : Nat} {xs : List Value}
theorem cut_flat (ha : a ≤ E.length) : (E.flatMap EvV.c).take (a * 19) ++ ((E2.flatMap EvV.c).drop (b * 19)).take ((E2.length - b) * 19) = (E.take a ++ E2.drop b).flatMap EvV.c := by
  have h2 : (E2.flatMap EvV.c).length = E2.length * 19 := flat_len EvV.c_len E2
  have h3 : ((E2.flatMap EvV.c).drop (b * 19)).take ((E2.length - b) * 19) = (E2.flatMap EvV.c).drop (b * 19) := List.take_of_length_le (by rw [List.length_drop, h2, Nat.sub_mul]; exact Nat.le_refl _)
  rw [h3, flat_take EvV.c_len, List.flatMap_append, flat_drop EvV.c_len]
theorem turn_0 (h : E.map Prod.fst = l) : (E.take i ++ E.drop (i + 1)).map Prod.fst = turnL l i 0 := by
  show _ = l.take i ++ l.drop (i + 1)
  rw [List.map_append, List.map_take, List.map_drop, h]
theorem turn_1 (h : E.map Prod.fst = l) (h2 : E2.map Prod.fst = l) : (E.take (i + 1) ++ E2.drop i).map Prod.fst = turnL l i 1 := by
  show _ = l.take (i + 1) ++ l.drop i
  rw [List.map_append, List.map_take, List.map_drop, h, h2]
theorem turn_2 (h : E.map Prod.fst = l) (hi : i < E.length) (hj : i + 1 < E.length) : ((E.set i E[i + 1]).set (i + 1) E[i]).map Prod.fst = turnL l i 2 := by
  have hl : i + 1 < l.length := by rw [← h, List.length_map]; exact hj
  show _ = if i + 1 < l.length then (l.set i (l.getD (i + 1) Ev.zero)).set (i + 1) (l.getD i Ev.zero) else l
  rw [if_pos hl, List.map_set, List.map_set, h, getD_fst hi h, getD_fst hj h]
theorem turn_2n (h : ¬ i + 1 < l.length) : l = turnL l i 2 := by
  show _ = if i + 1 < l.length then (l.set i (l.getD (i + 1) Ev.zero)).set (i + 1) (l.getD i Ev.zero) else l
  rw [if_neg h]
theorem turn_s {e : EvV} {m : List Ev} (h : E.map Prod.fst = l) (hm : m = l.set i e.1) : (E.set i e).map Prod.fst = m := by rw [List.map_set, h, hm]
theorem ap_new (ho : w.ownsRow B 42 19 v n xs) (hd : OwnB w2 w.heap.size 5 dv d) : Apart dv v := fun b h1 h2 => by have := (hd.lt b h1).1; have := (ho.lt b h2).2; omega
end
set_option maxHeartbeats 16000000 in
theorem turned_ok (v : Value) (l : List Ev) (i hw : Nat) (w : World) (hv : Evs w v l) (hi : i < l.length) (hh : hw < 9) (hl : l.length ≤ 1000) (hd : ∀ e ∈ l, e.Call.Data.length ≤ 1024 ∧ e.Answer.Data.length ≤ 1024) (ht : ∀ e ∈ l, 0 ≤ e.Txn ∧ e.Txn ≤ 10000000) : FnOk Try.prog 22 [v, i64 (i : Int), i64 (hw : Int)] w (fun r w' => Evs w' r (turnL l i hw) ∧ Ext w w') := by
  refine FnOk.enter (rs := [6]) Try.func22 rfl Try.ntmps22 Try.results22 rfl rfl ?_
  refine WF.seq ?_
  refine WF.region ?_
  refine WL.va rfl rfl rfl (X.assign rfl) ?_
  refine WL.nil ?_
  refine thn_n ?_
  refine WF.seq ?_
  refine WF.region ?_
  refine WL.va rfl rfl rfl (X.move rfl) ?_
  refine WL.c rfl rfl rfl (X.call Try.call35 (evl_cons rfl evl_nil)) (copied_ok _ l _ (hv.ext (Ext.refl w)) hl hd) ?_
  rintro vM wM ⟨⟨EM, hM, oM⟩, hx1⟩
  have hML : EM.length = l.length := map_len hM
  have hiM : i < EM.length := by omega
  have hti := ht (EM[i]'hiM).1 (by rw [← hM]; exact List.mem_map.2 ⟨_, (List.getElem_mem hiM), rfl⟩)
  have hwM : Ext w wM := hx1
  refine WL.va rfl rfl rfl (X.assign rfl) ?_
  refine WL.nil ?_
  refine thn_n ?_
  refine WF.seq ?_
  refine WF.seq ?_
  refine WF.region ?_
  refine WL.va rfl rfl rfl (X.moveI rfl) ?_
  refine WL.nil ?_
  refine thn_n ?_
  refine WF.block ?_
  refine WF.seq ?_
  refine WF.region ?_
  refine WL.va rfl rfl rfl (X.eql rfl rfl) ?_
  refine WL.va rfl rfl rfl (X.assignB rfl) ?_
  refine WL.nil ?_
  refine thn_n ?_
  refine WF.cond rfl (fun h0_2 => ?_) (fun h0_2 => ?_)
  · have gh0_2 := (of_decide_eq_true h0_2)
    obtain rfl : hw = 0 := by have := gh0_2; omega
    refine WF.seq ?_
    refine WF.drawn (.q 0 (.q 1 (.q 2 (.q 3 (.q 4 (.q 5 (.q 6 (.q 7 .nil)))))))) (fun w' => Ext wM w') 8 (by kernel_rfl) (by kernel_rfl) (Ext.drew _) ?_
    refine WO.q rfl rfl rfl rfl (fun w' hE4 => (X.move rfl)) ?_
    refine WO.q rfl rfl rfl rfl (fun w' hE4 => (X.moveI rfl)) ?_
    refine WO.q rfl rfl rfl rfl (fun w' hE4 => (X.moveI rfl)) ?_
    refine WO.q rfl rfl rfl rfl (fun w' hE4 => (X.slHM (Row.of_own oM.row) rfl rfl rfl (by omega) Try.underlying26 Try.sizeOf42)) ?_
    refine WO.q rfl rfl rfl rfl (fun w' hE4 => (X.move rfl)) ?_
    refine WO.q rfl rfl rfl rfl (fun w' hE4 => (X.moveI rfl)) ?_
    refine WO.q rfl rfl rfl rfl (fun w' hE4 => (X.add rfl rfl (show _ = ((i + 1 : Nat) : Int) from (w64 (by omega)).trans (by omega)))) ?_
    refine WO.q rfl rfl rfl rfl (fun w' hE4 => (X.slL (Row.of_own oM.row) rfl rfl (by omega) Try.underlying26 Try.sizeOf42)) ?_
    refine WO.nil ?_
    have oMx := oM.ext (show Ext wM wM.drew from (Ext.drew _))
    have hMw := (show Ext w wM.drew from (Ext.trans hx1 (Ext.drew _)))
    refine WL.op rfl (OW.appendCut (bytes := 184) oMx.row (by omega) (by omega) (Row.ext (Row.part (Row.of_own oM.row) (i + 1) EM.length (by omega) (Nat.le_refl _)) (Ext.drew _)) rfl rfl Try.underlying26 Try.type42 rfl rfl rfl rfl (by decide) (by unfold maxLen; omega) (by omega) ?_ (by decide))
    intro v6 w5 ho8 hx7
    have hT : Evs w5 v6 (turnL l i 0) := by
      have hr := ho8
      rw [cut_flat (by omega)] at hr
      have h2 := (oMx.ext hx7).mix (F := EM.take i ++ EM.drop (i + 1)) (by rw [show (EM.take i ++ EM.drop (i + 1)).length = i + (EM.length - (i + 1)) from by simp; omega]; exact hr) (fun e he => by rcases List.mem_append.1 he with q | q; exact List.mem_of_mem_take q; exact List.mem_of_mem_drop q)
      rwa [turn_0 hM] at h2
    refine WL.va rfl rfl rfl (X.assign rfl) ?_
    refine WL.nil ?_
    refine thn_n ?_
    refine WF.ret ?_
    refine blk_r ?_
    refine thn_r ?_
    refine fin_r ?_
    exact ⟨hT, (Ext.trans (Ext.trans hx1 (Ext.drew _)) hx7)⟩
  · have gh0_2 := (of_decide_eq_false h0_2)
    refine WF.seq ?_
    refine WF.region ?_
    refine WL.va rfl rfl rfl (X.eql rfl rfl) ?_
    refine WL.va rfl rfl rfl (X.assignB rfl) ?_
    refine WL.nil ?_
    refine thn_n ?_
    refine WF.cond rfl (fun h1_9 => ?_) (fun h1_9 => ?_)
    · have gh1_9 := (of_decide_eq_true h1_9)
      obtain rfl : hw = 1 := by have := gh1_9; omega
      refine WF.seq ?_
      refine WF.drawn (.q 0 (.q 1 (.q 2 (.q 3 (.q 4 (.q 5 (.q 6 (.q 8 (.l 7 (.q 9 .nil)))))))))) (fun w' => Ext wM w') 10 (by kernel_rfl) (by kernel_rfl) (Ext.drew _) ?_
      refine WO.q rfl rfl rfl rfl (fun w' hE11 => (X.move rfl)) ?_
      refine WO.q rfl rfl rfl rfl (fun w' hE11 => (X.moveI rfl)) ?_
      refine WO.q rfl rfl rfl rfl (fun w' hE11 => (X.add rfl rfl (show _ = ((i + 1 : Nat) : Int) from (w64 (by omega)).trans (by omega)))) ?_
      refine WO.q rfl rfl rfl rfl (fun w' hE11 => (X.moveI rfl)) ?_
      refine WO.q rfl rfl rfl rfl (fun w' hE11 => (X.add rfl rfl (show _ = ((i + 1 : Nat) : Int) from (w64 (by omega)).trans (by omega)))) ?_
      refine WO.q rfl rfl rfl rfl (fun w' hE11 => (X.slHM (Row.of_own oM.row) rfl rfl rfl (by omega) Try.underlying26 Try.sizeOf42)) ?_
      refine WO.q rfl rfl rfl rfl (fun w' hE11 => (X.move rfl)) ?_
      refine WO.q rfl rfl rfl rfl (fun w' hE11 => (X.moveI rfl)) ?_
      refine WO.l ?_
      have hz9 := World.grownBy.size (show Ext w wM.drew from (Ext.trans hx1 (Ext.drew _)))
      refine LO.go rfl rfl (OW.enter rfl (by decide) (X.call Try.call35 (evl_cons rfl evl_nil)) (copied_ok _ l _ (hv.ext (Ext.trans hx1 (Ext.drew _))) hl hd) ?_)
      rintro vM9 wM9 ⟨⟨EM9, hM9, oM9⟩, hx12⟩
      refine ⟨(Ext.trans (Ext.drew _) hx12), ?_⟩
      have hML9 : EM9.length = l.length := map_len hM9
      have hzx := World.grownBy.size hx12
      refine WO.q rfl rfl rfl rfl (fun w' hE11 => (X.slL (Row.of_own oM9.row) rfl rfl (by omega) Try.underlying26 Try.sizeOf42)) ?_
      refine WO.nil ?_
      have oMx := oM.ext (show Ext wM wM9 from (Ext.trans (Ext.drew _) hx12))
      have hMw := (show Ext w wM9 from (Ext.trans (Ext.trans hx1 (Ext.drew _)) hx12))
      have oM9x := oM9.ext (show Ext wM9 wM9 from (Ext.refl _))
      refine WL.op rfl (OW.appendCut (bytes := 184) oMx.row (by omega) (by omega) (Row.ext (Row.part (Row.of_own oM9.row) i EM9.length (by omega) (Nat.le_refl _)) (Ext.refl _)) rfl rfl Try.underlying26 Try.type42 rfl rfl rfl rfl (by decide) (by unfold maxLen; omega) (by omega) ?_ (by decide))
      intro v14 w13 ho16 hx15
      have hT : Evs w13 v14 (turnL l i 1) := by
        have hr := ho16
        rw [cut_flat (by omega)] at hr
        have h2 := (oMx.ext hx15).mix2 ((oM9x.ext hx15).mono (by omega) (Nat.le_refl _)) (F := EM.take (i + 1) ++ EM9.drop i) (by rw [show (EM.take (i + 1) ++ EM9.drop i).length = (i + 1) + (EM9.length - i) from by simp; omega]; exact hr) (fun e he => by rcases List.mem_append.1 he with q | q; exact .inl (List.mem_of_mem_take q); exact .inr (List.mem_of_mem_drop q))
        rwa [turn_1 hM hM9] at h2
      refine WL.va rfl rfl rfl (X.assign rfl) ?_
      refine WL.nil ?_
      refine thn_n ?_
      refine WF.ret ?_
      refine blk_r ?_
      refine thn_r ?_
      refine fin_r ?_
      exact ⟨hT, (Ext.trans (Ext.trans (Ext.trans hx1 (Ext.drew _)) hx12) hx15)⟩
    · have gh1_9 := (of_decide_eq_false h1_9)
      refine WF.seq ?_
      refine WF.region ?_
      refine WL.va rfl rfl rfl (X.eql rfl rfl) ?_
      refine WL.va rfl rfl rfl (X.assignB rfl) ?_
      refine WL.nil ?_
      refine thn_n ?_
      refine WF.cond rfl (fun h2_17 => ?_) (fun h2_17 => ?_)
      · have gh2_17 := (of_decide_eq_true h2_17)
        obtain rfl : hw = 2 := by have := gh2_17; omega
        refine WF.seq ?_
        refine WF.region ?_
        refine WL.va rfl rfl rfl (X.moveI rfl) ?_
        refine WL.va rfl rfl rfl (X.add rfl rfl (show _ = ((i + 1 : Nat) : Int) from (w64 (by omega)).trans (by omega))) ?_
        refine WL.va rfl rfl rfl (X.move rfl) ?_
        refine WL.va rfl rfl rfl (X.len (Row.of_own oM.row) rfl Try.underlying26) ?_
        refine WL.va rfl rfl rfl (X.lss rfl rfl) ?_
        refine WL.nil ?_
        refine thn_n ?_
        refine WF.cond rfl (fun h3_19 => ?_) (fun h3_19 => ?_)
        · have gh3_19 := (of_decide_eq_true h3_19)
          have hjM : i + 1 < EM.length := by have := gh3_19; omega
          refine WF.seq ?_
          refine WF.region ?_
          refine WL.va rfl rfl rfl (X.move rfl) ?_
          refine WL.va rfl rfl rfl (X.moveI rfl) ?_
          refine WL.va rfl rfl rfl (X.idx (Row.of_own oM.row) rfl rfl hiM Try.underlying26 Try.sizeOf42) ?_
          refine WL.va rfl rfl rfl (X.loadEl (Row.of_own oM.row) (Ext.refl _) rfl hiM (flat_el EvV.c_len hiM) Try.isAgg42 Try.sizeOf42) ?_
          refine WL.op rfl (OW.allocO (cs := [i64 0, i64 0, i64 0, i64 0, i64 0, i64 0, i64 0, i64 0, i64 0, i64 0, i64 0, i64 0, i64 0, i64 0, i64 0, .slice none 0 0, i64 0, i64 0, .slice none 0 0]) Try.zeroValue42 rfl ?_ (by decide))
          intro g8 w21 heg8 hlg8 hO8 hx23
          have := World.grownBy.size hx23
          refine WL.op rfl (OW.storeOA hO8 rfl rfl rfl (ev_cells_one (oM.dc _ (List.getElem_mem hiM)) (oM.da _ (List.getElem_mem hiM))) Try.sizeOf42 ?_)
          intro w25 hO8 hx27
          have := World.grownBy.size hx27
          replace hO8 : Blk _ _ _ (EvV.c (EM[i]'hiM)) := hO8
          refine WL.nil ?_
          refine thn_n ?_
          refine WF.seq ?_
          refine WF.region ?_
          refine WL.va rfl rfl rfl (X.move rfl) ?_
          refine WL.va rfl rfl rfl (X.moveI rfl) ?_
          refine WL.va rfl rfl rfl (X.move rfl) ?_
          refine WL.va rfl rfl rfl (X.moveI rfl) ?_
          refine WL.va rfl rfl rfl (X.add rfl rfl (show _ = ((i + 1 : Nat) : Int) from (w64 (by omega)).trans (by omega))) ?_
          refine WL.va rfl rfl rfl (X.idx (Row.of_own oM.row) rfl rfl hjM Try.underlying26 Try.sizeOf42) ?_
          refine WL.va rfl rfl rfl (X.loadEl (Row.of_own oM.row) (Ext.store hx23 hx27 (by omega)) rfl hjM (flat_el EvV.c_len hjM) Try.isAgg42 Try.sizeOf42) ?_
          refine WL.va rfl rfl rfl (X.idx (Row.of_own oM.row) rfl rfl hiM Try.underlying26 Try.sizeOf42) ?_
          have oMx := oM.ext (show Ext wM w25 from (Ext.store hx23 hx27 (by omega)))
          have hMw := (show Ext w w25 from (Ext.trans hx1 (Ext.store hx23 hx27 (by omega))))
          refine WL.op rfl (OW.storeEl (ds := (EvV.c (EM[i + 1]'hjM))) oMx.row hiM rfl rfl rfl (ev_cells_one (oM.dc _ (List.getElem_mem hjM)) (oM.da _ (List.getElem_mem hjM))) Try.sizeOf42 ?_)
          intro w10 ho31 hx30
          have := World.grownBy.size hx30
          replace hO8 := hO8.keptR hx30 (fun b hb => by have := oM.top b hb; omega)
          have oM2 := oMx.set (e := (EM[i + 1]'hjM)) hiM (oMx.dc _ (List.getElem_mem hjM)) (oMx.da _ (List.getElem_mem hjM)) (oMx.offc _ (List.getElem_mem hjM)) (oMx.offa _ (List.getElem_mem hjM)) (by rw [← flat_set EvV.c_len hiM]; exact ho31) hx30
          have oMd := (oMx.dc _ (List.getElem_mem hiM)).kept hx30 (oMx.offc _ (List.getElem_mem hiM)).ne
          have oMa := (oMx.da _ (List.getElem_mem hiM)).kept hx30 (oMx.offa _ (List.getElem_mem hiM)).ne
          refine WL.nil ?_
          refine thn_n ?_
          refine WF.region ?_
          refine WL.va rfl rfl rfl (X.move rfl) ?_
          refine WL.va rfl rfl rfl (X.moveI rfl) ?_
          refine WL.va rfl rfl rfl (X.add rfl rfl (show _ = ((i + 1 : Nat) : Int) from (w64 (by omega)).trans (by omega))) ?_
          refine WL.va rfl rfl rfl (X.loadOA hO8 (Ext.refl _) rfl rfl Try.isAgg42 Try.sizeOf42) ?_
          refine WL.va rfl rfl rfl (X.idx (Row.of_own oM2.row) rfl rfl (by rw [List.length_set]; exact hjM) Try.underlying26 Try.sizeOf42) ?_
          have oM2x := oM2.ext (show Ext w10 w10 from (Ext.refl _))
          have hMw2 := (show Ext w w10 from (Ext.own hMw oMx.row (Nat.le_refl _) hx30))
          have oM2dc := own_ext oMd (show Ext w10 w10 from (Ext.refl _))
          have oM2da := own_ext oMa (show Ext w10 w10 from (Ext.refl _))
          refine WL.op rfl (OW.storeEl (ds := (EvV.c (EM[i]'hiM))) oM2x.row (by rw [List.length_set]; exact hjM) rfl rfl rfl (ev_cells_one (oM.dc _ (List.getElem_mem hiM)) (oM.da _ (List.getElem_mem hiM))) Try.sizeOf42 ?_)
          intro w32 ho35 hx34
          have hiM2 : i + 1 < (EM.set i (EM[i + 1]'hjM)).length := by rw [List.length_set]; exact hjM
          have oM3 := oM2x.set (e := (EM[i]'hiM)) hiM2 (oM2dc) (oM2da) (oM.offc _ (List.getElem_mem hiM)) (oM.offa _ (List.getElem_mem hiM)) (by rw [← flat_set EvV.c_len hiM2]; exact ho35) hx34
          have hT := oM3.evsE (turn_2 hM hiM hjM)
          refine WL.nil ?_
          refine blk_n ?_
          refine thn_n ?_
          refine WF.seq ?_
          refine WF.region ?_
          refine WL.va rfl rfl rfl (X.move rfl) ?_
          refine WL.va rfl rfl rfl (X.assign rfl) ?_
          refine WL.nil ?_
          refine thn_n ?_
          refine WF.ret ?_
          refine fin_r ?_
          exact ⟨hT, (Ext.own hMw2 oM2x.row (Nat.le_refl _) hx34)⟩
        · have gh3_19 := (of_decide_eq_false h3_19)
          have hT : Evs wM vM (turnL l i 2) := by
            rw [← turn_2n (show ¬ i + 1 < l.length from by have := gh3_19; omega)]
            exact (oM.evsE hM).ext (Ext.refl wM)
          refine WF.skip ?_
          refine blk_n ?_
          refine thn_n ?_
          refine WF.seq ?_
          refine WF.region ?_
          refine WL.va rfl rfl rfl (X.move rfl) ?_
          refine WL.va rfl rfl rfl (X.assign rfl) ?_
          refine WL.nil ?_
          refine thn_n ?_
          refine WF.ret ?_
          refine fin_r ?_
          exact ⟨hT, hx1⟩
      · have gh2_17 := (of_decide_eq_false h2_17)
        refine WF.seq ?_
        refine WF.region ?_
        refine WL.va rfl rfl rfl (X.eql rfl rfl) ?_
        refine WL.va rfl rfl rfl (X.assignB rfl) ?_
        refine WL.nil ?_
        refine thn_n ?_
        refine WF.cond rfl (fun h4_36 => ?_) (fun h4_36 => ?_)
        · have gh4_36 := (of_decide_eq_true h4_36)
          obtain rfl : hw = 3 := by have := gh4_36; omega
          refine WF.region ?_
          refine WL.va rfl rfl rfl (X.move rfl) ?_
          refine WL.va rfl rfl rfl (X.moveI rfl) ?_
          refine WL.va rfl rfl rfl (X.move rfl) ?_
          refine WL.va rfl rfl rfl (X.moveI rfl) ?_
          refine WL.va rfl rfl rfl (X.idx (Row.of_own oM.row) rfl rfl hiM Try.underlying26 Try.sizeOf42) ?_
          refine WL.va rfl rfl rfl (X.fieldAddrA rfl Try.underlying42 rfl rfl Try.sizeOf3) ?_
          refine WL.va rfl rfl rfl (X.loadE (Row.of_own oM.row) (Ext.refl _) rfl hiM ((flat_get EvV.c_len hiM (by decide)).trans rfl) Try.isAgg3) ?_
          refine WL.va rfl rfl rfl (X.add rfl rfl (show _ = (EM[i]'hiM).1.Txn + 1 from w64 (by have := hti; omega))) ?_
          refine WL.va rfl rfl rfl (X.idx (Row.of_own oM.row) rfl rfl hiM Try.underlying26 Try.sizeOf42) ?_
          refine WL.va rfl rfl rfl (X.fieldAddrA rfl Try.underlying42 rfl rfl Try.sizeOf3) ?_
          have oMx := oM.ext (show Ext wM wM from (Ext.refl _))
          have hMw := (show Ext w wM from hx1)
          refine WL.op rfl (OW.storeIF (i := i) (off := 2) oMx.row hiM (by decide) rfl rfl rfl Try.sizeOf3 ?_)
          intro w38 ho41 hx40
          have hrw : World.ownsRow w38 w.heap.size 42 19 vM EM.length ((EM.set i (({ (EM[i]'hiM).1 with Txn := (EM[i]'hiM).1.Txn + 1 } : Ev), (EM[i]'hiM).2.1, (EM[i]'hiM).2.2)).flatMap EvV.c) := by rw [← flat_setf (E := EM) (off := 2) (u := (i64 ((EM[i]'hiM).1.Txn + 1))) hiM (by decide) rfl]; exact ho41
          have oM2 := oMx.set (e := (({ (EM[i]'hiM).1 with Txn := (EM[i]'hiM).1.Txn + 1 } : Ev), (EM[i]'hiM).2.1, (EM[i]'hiM).2.2)) hiM (oMx.dc (EM[i]'hiM) (List.getElem_mem hiM)) (oMx.da (EM[i]'hiM) (List.getElem_mem hiM)) (oMx.offc (EM[i]'hiM) (List.getElem_mem hiM)) (oMx.offa (EM[i]'hiM) (List.getElem_mem hiM)) hrw hx40
          have hT := oM2.evsE (turn_s (m := turnL l i 3) hM (by rw [← getD_fst hiM hM]; rfl))
          refine WL.nil ?_
          refine blk_n ?_
          refine thn_n ?_
          refine WF.seq ?_
          refine WF.region ?_
          refine WL.va rfl rfl rfl (X.move rfl) ?_
          refine WL.va rfl rfl rfl (X.assign rfl) ?_
          refine WL.nil ?_
          refine thn_n ?_
          refine WF.ret ?_
          refine fin_r ?_
          exact ⟨hT, (Ext.own hMw oMx.row (Nat.le_refl _) hx40)⟩
        · have gh4_36 := (of_decide_eq_false h4_36)
          refine WF.seq ?_
          refine WF.region ?_
          refine WL.va rfl rfl rfl (X.eql rfl rfl) ?_
          refine WL.va rfl rfl rfl (X.assignB rfl) ?_
          refine WL.nil ?_
          refine thn_n ?_
          refine WF.cond rfl (fun h5_42 => ?_) (fun h5_42 => ?_)
          · have gh5_42 := (of_decide_eq_true h5_42)
            obtain rfl : hw = 4 := by have := gh5_42; omega
            refine WF.region ?_
            refine WL.va rfl rfl rfl (X.move rfl) ?_
            refine WL.va rfl rfl rfl (X.moveI rfl) ?_
            refine WL.va rfl rfl rfl (X.idx (Row.of_own oM.row) rfl rfl hiM Try.underlying26 Try.sizeOf42) ?_
            refine WL.va rfl rfl rfl (X.fieldAddrA rfl Try.underlying42 rfl rfl Try.sizeOf40) ?_
            refine WL.va rfl rfl rfl (X.fieldAddrAA (off := 0) rfl Try.underlying40 rfl rfl Try.sizeOf29) ?_
            have oMx := oM.ext (show Ext wM wM from (Ext.refl _))
            have hMw := (show Ext w wM from hx1)
            refine WL.op rfl (OW.storeIF (i := i) (off := 16) oMx.row hiM (by decide) rfl rfl rfl Try.sizeOf29 ?_)
            intro w44 ho47 hx46
            have hrw : World.ownsRow w44 w.heap.size 42 19 vM EM.length ((EM.set i (({ (EM[i]'hiM).1 with Answer := { (EM[i]'hiM).1.Answer with Code := 24 } } : Ev), (EM[i]'hiM).2.1, (EM[i]'hiM).2.2)).flatMap EvV.c) := by rw [← flat_setf (E := EM) (off := 16) (u := (i64 24)) hiM (by decide) rfl]; exact ho47
            have oM2 := oMx.set (e := (({ (EM[i]'hiM).1 with Answer := { (EM[i]'hiM).1.Answer with Code := 24 } } : Ev), (EM[i]'hiM).2.1, (EM[i]'hiM).2.2)) hiM (oMx.dc (EM[i]'hiM) (List.getElem_mem hiM)) (oMx.da (EM[i]'hiM) (List.getElem_mem hiM)) (oMx.offc (EM[i]'hiM) (List.getElem_mem hiM)) (oMx.offa (EM[i]'hiM) (List.getElem_mem hiM)) hrw hx46
            have hT := oM2.evsE (turn_s (m := turnL l i 4) hM (by rw [← getD_fst hiM hM]; rfl))
            refine WL.nil ?_
            refine blk_n ?_
            refine thn_n ?_
            refine WF.seq ?_
            refine WF.region ?_
            refine WL.va rfl rfl rfl (X.move rfl) ?_
            refine WL.va rfl rfl rfl (X.assign rfl) ?_
            refine WL.nil ?_
            refine thn_n ?_
            refine WF.ret ?_
            refine fin_r ?_
            exact ⟨hT, (Ext.own hMw oMx.row (Nat.le_refl _) hx46)⟩
          · have gh5_42 := (of_decide_eq_false h5_42)
            refine WF.seq ?_
            refine WF.region ?_
            refine WL.va rfl rfl rfl (X.eql rfl rfl) ?_
            refine WL.va rfl rfl rfl (X.assignB rfl) ?_
            refine WL.nil ?_
            refine thn_n ?_
            refine WF.cond rfl (fun h6_48 => ?_) (fun h6_48 => ?_)
            · have gh6_48 := (of_decide_eq_true h6_48)
              obtain rfl : hw = 5 := by have := gh6_48; omega
              refine WF.region ?_
              refine WL.va rfl rfl rfl (X.move rfl) ?_
              refine WL.va rfl rfl rfl (X.moveI rfl) ?_
              refine WL.op rfl (OW.lits (vs := [u8 1, u8 0, u8 0, u8 1]) (evp_cons rfl (evp_cons rfl (evp_cons rfl (evp_cons rfl evp_nil)))) Try.underlying36 Try.sizeOf5 Try.zeroValue5 ⟨rfl, rfl, rfl, rfl, trivial⟩ rfl rfl rfl ?_ (by decide))
              intro v17 w17 ho51 hx50
              have od : OwnB w17 wM.heap.size 5 v17 [1, 0, 0, 1] := ho51
              refine WL.va rfl rfl rfl (X.idx (Row.of_own oM.row) rfl rfl hiM Try.underlying26 Try.sizeOf42) ?_
              refine WL.va rfl rfl rfl (X.fieldAddrA rfl Try.underlying42 rfl rfl Try.sizeOf40) ?_
              refine WL.va rfl rfl rfl (X.fieldAddrAA (off := 2) rfl Try.underlying40 rfl rfl Try.sizeOf36) ?_
              have oMx := oM.ext (show Ext wM w17 from hx50)
              have hMw := (show Ext w w17 from (Ext.trans hx1 hx50))
              have odx := own_ext od (show Ext w17 w17 from (Ext.refl _))
              have hzM := World.grownBy.size (show Ext w wM from hwM)
              refine WL.op rfl (OW.storeIF (i := i) (off := 18) oMx.row hiM (by decide) rfl rfl (own_one od) Try.sizeOf36 ?_)
              intro w52 ho55 hx54
              have hrw : World.ownsRow w52 w.heap.size 42 19 vM EM.length ((EM.set i (({ (EM[i]'hiM).1 with Answer := { (EM[i]'hiM).1.Answer with Data := [1, 0, 0, 1] } } : Ev), (EM[i]'hiM).2.1, v17)).flatMap EvV.c) := by rw [← flat_setf (E := EM) (off := 18) (u := v17) hiM (by decide) rfl]; exact ho55
              have oM2 := oMx.set (e := (({ (EM[i]'hiM).1 with Answer := { (EM[i]'hiM).1.Answer with Data := [1, 0, 0, 1] } } : Ev), (EM[i]'hiM).2.1, v17)) hiM (oMx.dc (EM[i]'hiM) (List.getElem_mem hiM)) (own_mono odx hzM) (oMx.offc (EM[i]'hiM) (List.getElem_mem hiM)) (ap_new oM.row odx) hrw hx54
              have hT := oM2.evsE (turn_s (m := turnL l i 5) hM (by rw [← getD_fst hiM hM]; rfl))
              refine WL.nil ?_
              refine blk_n ?_
              refine thn_n ?_
              refine WF.seq ?_
              refine WF.region ?_
              refine WL.va rfl rfl rfl (X.move rfl) ?_
              refine WL.va rfl rfl rfl (X.assign rfl) ?_
              refine WL.nil ?_
              refine thn_n ?_
              refine WF.ret ?_
              refine fin_r ?_
              exact ⟨hT, (Ext.own hMw oMx.row (Nat.le_refl _) hx54)⟩
            · have gh6_48 := (of_decide_eq_false h6_48)
              refine WF.seq ?_
              refine WF.region ?_
              refine WL.va rfl rfl rfl (X.eql rfl rfl) ?_
              refine WL.va rfl rfl rfl (X.assignB rfl) ?_
              refine WL.nil ?_
              refine thn_n ?_
              refine WF.cond rfl (fun h7_56 => ?_) (fun h7_56 => ?_)
              · have gh7_56 := (of_decide_eq_true h7_56)
                obtain rfl : hw = 6 := by have := gh7_56; omega
                refine WF.region ?_
                refine WL.va rfl rfl rfl (X.move rfl) ?_
                refine WL.va rfl rfl rfl (X.moveI rfl) ?_
                refine WL.op rfl (OW.lits (vs := [u8 1]) (evp_cons rfl evp_nil) Try.underlying36 Try.sizeOf5 Try.zeroValue5 ⟨rfl, trivial⟩ rfl rfl rfl ?_ (by decide))
                intro v19 w19 ho59 hx58
                have od : OwnB w19 wM.heap.size 5 v19 [1] := ho59
                refine WL.va rfl rfl rfl (X.idx (Row.of_own oM.row) rfl rfl hiM Try.underlying26 Try.sizeOf42) ?_
                refine WL.va rfl rfl rfl (X.fieldAddrA rfl Try.underlying42 rfl rfl Try.sizeOf38) ?_
                refine WL.va rfl rfl rfl (X.fieldAddrAA (off := 12) rfl Try.underlying38 rfl rfl Try.sizeOf36) ?_
                have oMx := oM.ext (show Ext wM w19 from hx58)
                have hMw := (show Ext w w19 from (Ext.trans hx1 hx58))
                have odx := own_ext od (show Ext w19 w19 from (Ext.refl _))
                have hzM := World.grownBy.size (show Ext w wM from hwM)
                refine WL.op rfl (OW.storeIF (i := i) (off := 15) oMx.row hiM (by decide) rfl rfl (own_one od) Try.sizeOf36 ?_)
                intro w60 ho63 hx62
                have hrw : World.ownsRow w60 w.heap.size 42 19 vM EM.length ((EM.set i (({ (EM[i]'hiM).1 with Call := { (EM[i]'hiM).1.Call with Data := [1] } } : Ev), v19, (EM[i]'hiM).2.2)).flatMap EvV.c) := by rw [← flat_setf (E := EM) (off := 15) (u := v19) hiM (by decide) rfl]; exact ho63
                have oM2 := oMx.set (e := (({ (EM[i]'hiM).1 with Call := { (EM[i]'hiM).1.Call with Data := [1] } } : Ev), v19, (EM[i]'hiM).2.2)) hiM (own_mono odx hzM) (oMx.da (EM[i]'hiM) (List.getElem_mem hiM)) (ap_new oM.row odx) (oMx.offa (EM[i]'hiM) (List.getElem_mem hiM)) hrw hx62
                have hT := oM2.evsE (turn_s (m := turnL l i 6) hM (by rw [← getD_fst hiM hM]; rfl))
                refine WL.nil ?_
                refine blk_n ?_
                refine thn_n ?_
                refine WF.seq ?_
                refine WF.region ?_
                refine WL.va rfl rfl rfl (X.move rfl) ?_
                refine WL.va rfl rfl rfl (X.assign rfl) ?_
                refine WL.nil ?_
                refine thn_n ?_
                refine WF.ret ?_
                refine fin_r ?_
                exact ⟨hT, (Ext.own hMw oMx.row (Nat.le_refl _) hx62)⟩
              · have gh7_56 := (of_decide_eq_false h7_56)
                refine WF.seq ?_
                refine WF.region ?_
                refine WL.va rfl rfl rfl (X.eql rfl rfl) ?_
                refine WL.va rfl rfl rfl (X.assignB rfl) ?_
                refine WL.nil ?_
                refine thn_n ?_
                refine WF.cond rfl (fun h8_65 => ?_) (fun h8_65 => ?_)
                · have gh8_65 := (of_decide_eq_true h8_65)
                  obtain rfl : hw = 7 := by have := gh8_65; omega
                  refine WF.region ?_
                  refine WL.va rfl rfl rfl (X.move rfl) ?_
                  refine WL.va rfl rfl rfl (X.moveI rfl) ?_
                  refine WL.va rfl rfl rfl (X.idx (Row.of_own oM.row) rfl rfl hiM Try.underlying26 Try.sizeOf42) ?_
                  refine WL.va rfl rfl rfl (X.fieldAddrA rfl Try.underlying42 rfl rfl Try.sizeOf3) ?_
                  have oMx := oM.ext (show Ext wM wM from (Ext.refl _))
                  have hMw := (show Ext w wM from hx1)
                  refine WL.op rfl (OW.storeIF (i := i) (off := 1) oMx.row hiM (by decide) rfl rfl rfl Try.sizeOf3 ?_)
                  intro w67 ho70 hx69
                  have hrw : World.ownsRow w67 w.heap.size 42 19 vM EM.length ((EM.set i (({ (EM[i]'hiM).1 with Client := 2 } : Ev), (EM[i]'hiM).2.1, (EM[i]'hiM).2.2)).flatMap EvV.c) := by rw [← flat_setf (E := EM) (off := 1) (u := (i64 2)) hiM (by decide) rfl]; exact ho70
                  have oM2 := oMx.set (e := (({ (EM[i]'hiM).1 with Client := 2 } : Ev), (EM[i]'hiM).2.1, (EM[i]'hiM).2.2)) hiM (oMx.dc (EM[i]'hiM) (List.getElem_mem hiM)) (oMx.da (EM[i]'hiM) (List.getElem_mem hiM)) (oMx.offc (EM[i]'hiM) (List.getElem_mem hiM)) (oMx.offa (EM[i]'hiM) (List.getElem_mem hiM)) hrw hx69
                  have hT := oM2.evsE (turn_s (m := turnL l i 7) hM (by rw [← getD_fst hiM hM]; rfl))
                  refine WL.nil ?_
                  refine blk_n ?_
                  refine thn_n ?_
                  refine WF.seq ?_
                  refine WF.region ?_
                  refine WL.va rfl rfl rfl (X.move rfl) ?_
                  refine WL.va rfl rfl rfl (X.assign rfl) ?_
                  refine WL.nil ?_
                  refine thn_n ?_
                  refine WF.ret ?_
                  refine fin_r ?_
                  exact ⟨hT, (Ext.own hMw oMx.row (Nat.le_refl _) hx69)⟩
                · have gh8_65 := (of_decide_eq_false h8_65)
                  refine WF.seq ?_
                  refine WF.region ?_
                  refine WL.va rfl rfl rfl (X.eql rfl rfl) ?_
                  refine WL.va rfl rfl rfl (X.assignB rfl) ?_
                  refine WL.nil ?_
                  refine thn_n ?_
                  refine WF.cond rfl (fun h9_71 => ?_) (fun h9_71 => ?_)
                  · have gh9_71 := (of_decide_eq_true h9_71)
                    obtain rfl : hw = 8 := by have := gh9_71; omega
                    refine WF.region ?_
                    refine WL.va rfl rfl rfl (X.move rfl) ?_
                    refine WL.va rfl rfl rfl (X.moveI rfl) ?_
                    refine WL.va rfl rfl rfl (X.idx (Row.of_own oM.row) rfl rfl hiM Try.underlying26 Try.sizeOf42) ?_
                    refine WL.va rfl rfl rfl (X.fieldAddrA rfl Try.underlying42 rfl rfl Try.sizeOf38) ?_
                    refine WL.va rfl rfl rfl (X.fieldAddrAA (off := 0) rfl Try.underlying38 rfl rfl Try.sizeOf3) ?_
                    have oMx := oM.ext (show Ext wM wM from (Ext.refl _))
                    have hMw := (show Ext w wM from hx1)
                    refine WL.op rfl (OW.storeIF (i := i) (off := 3) oMx.row hiM (by decide) rfl rfl rfl Try.sizeOf3 ?_)
                    intro w73 ho76 hx75
                    have hrw : World.ownsRow w73 w.heap.size 42 19 vM EM.length ((EM.set i (({ (EM[i]'hiM).1 with Call := { (EM[i]'hiM).1.Call with Kind := 5 } } : Ev), (EM[i]'hiM).2.1, (EM[i]'hiM).2.2)).flatMap EvV.c) := by rw [← flat_setf (E := EM) (off := 3) (u := (i64 5)) hiM (by decide) rfl]; exact ho76
                    have oM2 := oMx.set (e := (({ (EM[i]'hiM).1 with Call := { (EM[i]'hiM).1.Call with Kind := 5 } } : Ev), (EM[i]'hiM).2.1, (EM[i]'hiM).2.2)) hiM (oMx.dc (EM[i]'hiM) (List.getElem_mem hiM)) (oMx.da (EM[i]'hiM) (List.getElem_mem hiM)) (oMx.offc (EM[i]'hiM) (List.getElem_mem hiM)) (oMx.offa (EM[i]'hiM) (List.getElem_mem hiM)) hrw hx75
                    have hT := oM2.evsE (turn_s (m := turnL l i 8) hM (by rw [← getD_fst hiM hM]; rfl))
                    refine WL.nil ?_
                    refine blk_n ?_
                    refine thn_n ?_
                    refine WF.seq ?_
                    refine WF.region ?_
                    refine WL.va rfl rfl rfl (X.move rfl) ?_
                    refine WL.va rfl rfl rfl (X.assign rfl) ?_
                    refine WL.nil ?_
                    refine thn_n ?_
                    refine WF.ret ?_
                    refine fin_r ?_
                    exact ⟨hT, (Ext.own hMw oMx.row (Nat.le_refl _) hx75)⟩
                  · have gh9_71 := (of_decide_eq_false h9_71)
                    exact absurd gh9_71 (by omega)

end Go.Proofs.Ytobjmehppmhkdaa
