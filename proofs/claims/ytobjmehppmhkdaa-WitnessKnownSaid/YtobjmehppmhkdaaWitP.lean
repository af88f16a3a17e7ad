/- The walk of works. -/
import Derived.Test.YtobjmehppmhkdaaWitO
namespace Go.Proofs.Ytobjmehppmhkdaa
open Go Go.RowKit Kf
set_option maxRecDepth 20000

def lW : List Ev := wroteL 1048577 4 7 ++ endedL 1048577 true
def mW : List Ev := wroteL 1048577 4 7 ++ endedL 1048577 false
def goodW : List Ev := lW ++ readL 1048578 4 [7, 0, 0, 1] ++ endedL 1048578 true
def badW : List Ev := lW ++ readL 1048578 4 [0, 0, 0, 0] ++ endedL 1048578 true
theorem chk_nil : checkL [] = 0 := by kernel_rfl
theorem chk_l : checkL lW = 0 := by kernel_rfl
theorem chk_m : checkL mW = 6 := by kernel_rfl
theorem chk_good : checkL goodW = 0 := by kernel_rfl
theorem chk_bad : checkL badW = 12 := by kernel_rfl
theorem ord_good : (orderL goodW).length = 2 := by kernel_rfl
theorem map_len {E : List EvV} {l : List Ev} (h : E.map Prod.fst = l) : E.length = l.length := by rw [← h, List.length_map]
theorem EvO.apart_old {w : World} {D B : Nat} {v v2 : Value} {F : List EvV} (hF : EvO w D B v2 F) (hv : ∀ b, v.ownBlock = some b → b < D) : ∀ e ∈ F, Apart e.2.1 v ∧ Apart e.2.2 v := fun e he =>
  ⟨fun b h1 h2 => by have := ((hF.dc e he).lt b h1).1; have := hv b h2; omega, fun b h1 h2 => by have := ((hF.da e he).lt b h1).1; have := hv b h2; omega⟩
theorem EvO.top {w : World} {D B : Nat} {v : Value} {E : List EvV} (h : EvO w D B v E) : ∀ b, v.ownBlock = some b → b < w.heap.size := fun b hb => (h.row.lt b hb).2
set_option maxHeartbeats 8000000 in
theorem works_ok (w : World) : FnOk Try.prog 7 [] w (fun r w' => r = .bool true ∧ Ext w w') := by
  refine FnOk.enter (rs := [0]) Try.func7 rfl Try.ntmps7 Try.results7 rfl rfl ?_
  refine WF.seq ?_
  refine WF.region ?_
  refine WL.va rfl rfl rfl (X.assignB rfl) ?_
  refine WL.nil ?_
  refine thn_n ?_
  refine WF.seq ?_
  refine WF.region ?_
  refine WL.va rfl rfl rfl (X.assignI rfl) ?_
  refine WL.va rfl rfl rfl (X.assignI rfl) ?_
  refine WL.nil ?_
  refine thn_n ?_
  refine WF.seq ?_
  refine WF.region ?_
  refine WL.va rfl rfl rfl (X.moveI rfl) ?_
  refine WL.c rfl rfl rfl (X.call Try.call16 (evl_cons rfl (evl_cons rfl (evl_cons rfl evl_nil)))) (wrote_ok 1048577 4 7 _) ?_
  rintro vA wA ⟨⟨EA, hA, oA⟩, hx2⟩
  have zA := World.grownBy.size hx2
  have lA := map_len hA
  change EA.length = 2 at lA
  refine WL.va rfl rfl rfl (X.moveI rfl) ?_
  refine WL.c rfl rfl rfl (X.call Try.call18 (evl_cons rfl (evl_cons rfl evl_nil))) (ended_ok 1048577 true _) ?_
  rintro vB wB ⟨⟨EB, hB, oB⟩, hx3⟩
  have zB := World.grownBy.size hx3
  have lB := map_len hB
  change EB.length = 3 at lB
  have oaL := oA.ext (show Ext wA wB from hx3)
  have obL := oB.ext (show Ext wB wB from (Ext.refl _))
  refine WL.op rfl (OW.append (bytes := 184) oaL.row (Row.of_own obL.row) oB.ones rfl rfl Try.underlying26 Try.type42 rfl rfl rfl rfl (by decide) (by unfold maxLen; omega) (by omega) (by omega) ?_ (by decide))
  intro vL wL ho5 hx4 hmvhx4
  have oL := oaL.app (F := EB) (fun e he => own_mono (obL.dc e he) (by omega)) (fun e he => own_mono (obL.da e he) (by omega)) (oB.apart_old oA.top) ho5 hx4 hmvhx4
  have hL : (EA ++ EB).map Prod.fst = lW := by rw [List.map_append, hA, hB] <;> rfl
  have lL : (EA ++ EB).length = EA.length + EB.length := List.length_append
  have zL := World.grownBy.size hx4
  refine WL.va rfl rfl rfl (X.assign rfl) ?_
  refine WL.nil ?_
  refine thn_n ?_
  refine WF.seq ?_
  refine WF.region ?_
  refine WL.va rfl rfl rfl (X.moveI rfl) ?_
  refine WL.c rfl rfl rfl (X.call Try.call16 (evl_cons rfl (evl_cons rfl (evl_cons rfl evl_nil)))) (wrote_ok 1048577 4 7 _) ?_
  rintro vC wC ⟨⟨EC, hC, oC⟩, hx6⟩
  have zC := World.grownBy.size hx6
  have lC := map_len hC
  change EC.length = 2 at lC
  refine WL.va rfl rfl rfl (X.moveI rfl) ?_
  refine WL.c rfl rfl rfl (X.call Try.call18 (evl_cons rfl (evl_cons rfl evl_nil))) (ended_ok 1048577 false _) ?_
  rintro vD wD ⟨⟨ED, hD, oD⟩, hx7⟩
  have zD := World.grownBy.size hx7
  have lD := map_len hD
  change ED.length = 2 at lD
  have oaM := oC.ext (show Ext wC wD from hx7)
  have obM := oD.ext (show Ext wD wD from (Ext.refl _))
  refine WL.op rfl (OW.append (bytes := 184) oaM.row (Row.of_own obM.row) oD.ones rfl rfl Try.underlying26 Try.type42 rfl rfl rfl rfl (by decide) (by unfold maxLen; omega) (by omega) (by omega) ?_ (by decide))
  intro vM wM ho9 hx8 hmvhx8
  have oM := oaM.app (F := ED) (fun e he => own_mono (obM.dc e he) (by omega)) (fun e he => own_mono (obM.da e he) (by omega)) (oD.apart_old oC.top) ho9 hx8 hmvhx8
  have hM : (EC ++ ED).map Prod.fst = mW := by rw [List.map_append, hC, hD] <;> rfl
  have lM : (EC ++ ED).length = EC.length + ED.length := List.length_append
  have zM := World.grownBy.size hx8
  refine WL.va rfl rfl rfl (X.assign rfl) ?_
  refine WL.nil ?_
  refine thn_n ?_
  refine WF.seq ?_
  refine WF.region ?_
  have xLM := (show Ext wL wM from (Ext.own (Ext.trans hx6 hx7) oaM.row (Nat.le_refl _) hx8))
  refine WL.op rfl (OW.lit0 Try.underlying26 Try.sizeOf42 ?_ (by decide))
  intro vG0 wG0 ho11 hx10
  have oG0 : EvO wG0 w.heap.size wM.heap.size vG0 [] := ⟨ho11, (fun e he => by cases he), (fun e he => by cases he), (fun e he => by cases he), (fun e he => by cases he)⟩
  have hG0 : ([] : List EvV).map Prod.fst = [] := rfl
  have lG0 : ([] : List EvV).length = 0 := rfl
  have zG0 := World.grownBy.size hx10
  refine WL.va rfl rfl rfl (X.move rfl) ?_
  have oaG1 := oG0.ext (show Ext wG0 wG0 from (Ext.refl _))
  have obG1 := oL.ext (show Ext wL wG0 from (Ext.trans (Ext.own (Ext.trans hx6 hx7) oaM.row (Nat.le_refl _) hx8) hx10))
  refine WL.op rfl (OW.append (bytes := 184) oaG1.row (Row.of_own obG1.row) oL.ones rfl rfl Try.underlying26 Try.type42 rfl rfl rfl rfl (by decide) (by unfold maxLen; omega) (by omega) (by omega) ?_ (by decide))
  intro vG1 wG1 ho13 hx12 hmvhx12
  have oG1 := oaG1.app (F := (EA ++ EB)) (fun e he => own_mono (obG1.dc e he) (by omega)) (fun e he => own_mono (obG1.da e he) (by omega)) ((oL.ext xLM).apart_new oG0.row) ho13 hx12 hmvhx12
  have hG1 : (([] : List EvV) ++ (EA ++ EB)).map Prod.fst = lW := by rw [List.map_append, hG0, hL] <;> rfl
  have lG1 : (([] : List EvV) ++ (EA ++ EB)).length = ([] : List EvV).length + (EA ++ EB).length := List.length_append
  have zG1 := World.grownBy.size hx12
  refine WL.va rfl rfl rfl (X.moveI rfl) ?_
  refine WL.op rfl (OW.lits (vs := [u8 7, u8 0, u8 0, u8 1]) (evp_cons rfl (evp_cons rfl (evp_cons rfl (evp_cons rfl evp_nil)))) Try.underlying36 Try.sizeOf5 Try.zeroValue5 ⟨rfl, rfl, rfl, rfl, trivial⟩ rfl rfl rfl ?_ (by decide))
  intro vGl wGl ho15 hx14
  have hLitG : OwnB wGl wG1.heap.size 5 vGl [7, 0, 0, 1] := ho15
  have zGl := World.grownBy.size hx14
  refine WL.c rfl rfl rfl (X.call Try.call17 (evl_cons rfl (evl_cons rfl (evl_cons rfl evl_nil)))) (read_ok 1048578 4 _ [7, 0, 0, 1] _ _ hLitG) ?_
  rintro vR wR ⟨⟨ER, hR, oR⟩, hx16⟩
  have zR := World.grownBy.size hx16
  have lR := map_len hR
  change ER.length = 2 at lR
  have oaG2 := oG1.ext (show Ext wG1 wR from (Ext.trans hx14 hx16))
  have obG2 := oR.ext (show Ext wR wR from (Ext.refl _))
  refine WL.op rfl (OW.append (bytes := 184) oaG2.row (Row.of_own obG2.row) oR.ones rfl rfl Try.underlying26 Try.type42 rfl rfl rfl rfl (by decide) (by unfold maxLen; omega) (by omega) (by omega) ?_ (by decide))
  intro vG2 wG2 ho18 hx17 hmvhx17
  have oG2 := oaG2.app (F := ER) (fun e he => own_mono (obG2.dc e he) (by omega)) (fun e he => own_mono (obG2.da e he) (by omega)) (oR.apart_old oG1.top) ho18 hx17 hmvhx17
  have hG2 : (([] ++ (EA ++ EB)) ++ ER).map Prod.fst = (lW ++ readL 1048578 4 [7, 0, 0, 1]) := by rw [List.map_append, hG1, hR] <;> rfl
  have lG2 : (([] ++ (EA ++ EB)) ++ ER).length = ([] ++ (EA ++ EB)).length + ER.length := List.length_append
  have zG2 := World.grownBy.size hx17
  refine WL.va rfl rfl rfl (X.moveI rfl) ?_
  refine WL.c rfl rfl rfl (X.call Try.call18 (evl_cons rfl (evl_cons rfl evl_nil))) (ended_ok 1048578 true _) ?_
  rintro vS wS ⟨⟨ES, hS, oS⟩, hx19⟩
  have zS := World.grownBy.size hx19
  have lS := map_len hS
  change ES.length = 3 at lS
  have oaG3 := oG2.ext (show Ext wG2 wS from hx19)
  have obG3 := oS.ext (show Ext wS wS from (Ext.refl _))
  refine WL.op rfl (OW.append (bytes := 184) oaG3.row (Row.of_own obG3.row) oS.ones rfl rfl Try.underlying26 Try.type42 rfl rfl rfl rfl (by decide) (by unfold maxLen; omega) (by omega) (by omega) ?_ (by decide))
  intro vG3 wG3 ho21 hx20 hmvhx20
  have oG3 := oaG3.app (F := ES) (fun e he => own_mono (obG3.dc e he) (by omega)) (fun e he => own_mono (obG3.da e he) (by omega)) (oS.apart_old oG2.top) ho21 hx20 hmvhx20
  have hG3 : (([] ++ (EA ++ EB) ++ ER) ++ ES).map Prod.fst = goodW := by rw [List.map_append, hG2, hS] <;> rfl
  have lG3 : (([] ++ (EA ++ EB) ++ ER) ++ ES).length = ([] ++ (EA ++ EB) ++ ER).length + ES.length := List.length_append
  have zG3 := World.grownBy.size hx20
  refine WL.va rfl rfl rfl (X.assign rfl) ?_
  refine WL.nil ?_
  refine thn_n ?_
  refine WF.seq ?_
  refine WF.region ?_
  have xLG := (show Ext wL wG3 from (Ext.trans (Ext.own (Ext.trans hx6 hx7) oaM.row (Nat.le_refl _) hx8) (Ext.own (Ext.trans (Ext.own (Ext.trans (Ext.trans (Ext.own hx10 oaG1.row (Nat.le_refl _) hx12) hx14) hx16) oaG2.row (Nat.le_refl _) hx17) hx19) oaG3.row (Nat.le_refl _) hx20)))
  refine WL.op rfl (OW.lit0 Try.underlying26 Try.sizeOf42 ?_ (by decide))
  intro vH0 wH0 ho23 hx22
  have oH0 : EvO wH0 w.heap.size wG3.heap.size vH0 [] := ⟨ho23, (fun e he => by cases he), (fun e he => by cases he), (fun e he => by cases he), (fun e he => by cases he)⟩
  have hH0 : ([] : List EvV).map Prod.fst = [] := rfl
  have lH0 : ([] : List EvV).length = 0 := rfl
  have zH0 := World.grownBy.size hx22
  refine WL.va rfl rfl rfl (X.move rfl) ?_
  have oaH1 := oH0.ext (show Ext wH0 wH0 from (Ext.refl _))
  have obH1 := oL.ext (show Ext wL wH0 from (Ext.trans (Ext.trans (Ext.own (Ext.trans hx6 hx7) oaM.row (Nat.le_refl _) hx8) (Ext.own (Ext.trans (Ext.own (Ext.trans (Ext.trans (Ext.own hx10 oaG1.row (Nat.le_refl _) hx12) hx14) hx16) oaG2.row (Nat.le_refl _) hx17) hx19) oaG3.row (Nat.le_refl _) hx20)) hx22))
  refine WL.op rfl (OW.append (bytes := 184) oaH1.row (Row.of_own obH1.row) oL.ones rfl rfl Try.underlying26 Try.type42 rfl rfl rfl rfl (by decide) (by unfold maxLen; omega) (by omega) (by omega) ?_ (by decide))
  intro vH1 wH1 ho25 hx24 hmvhx24
  have oH1 := oaH1.app (F := (EA ++ EB)) (fun e he => own_mono (obH1.dc e he) (by omega)) (fun e he => own_mono (obH1.da e he) (by omega)) ((oL.ext xLG).apart_new oH0.row) ho25 hx24 hmvhx24
  have hH1 : (([] : List EvV) ++ (EA ++ EB)).map Prod.fst = lW := by rw [List.map_append, hH0, hL] <;> rfl
  have lH1 : (([] : List EvV) ++ (EA ++ EB)).length = ([] : List EvV).length + (EA ++ EB).length := List.length_append
  have zH1 := World.grownBy.size hx24
  refine WL.va rfl rfl rfl (X.moveI rfl) ?_
  refine WL.op rfl (OW.lits (vs := [u8 0, u8 0, u8 0, u8 0]) (evp_cons rfl (evp_cons rfl (evp_cons rfl (evp_cons rfl evp_nil)))) Try.underlying36 Try.sizeOf5 Try.zeroValue5 ⟨rfl, rfl, rfl, rfl, trivial⟩ rfl rfl rfl ?_ (by decide))
  intro vHl wHl ho27 hx26
  have hLitB : OwnB wHl wH1.heap.size 5 vHl [0, 0, 0, 0] := ho27
  have zHl := World.grownBy.size hx26
  refine WL.c rfl rfl rfl (X.call Try.call17 (evl_cons rfl (evl_cons rfl (evl_cons rfl evl_nil)))) (read_ok 1048578 4 _ [0, 0, 0, 0] _ _ hLitB) ?_
  rintro vR2 wR2 ⟨⟨ER2, hR2, oR2⟩, hx28⟩
  have zR2 := World.grownBy.size hx28
  have lR2 := map_len hR2
  change ER2.length = 2 at lR2
  have oaH2 := oH1.ext (show Ext wH1 wR2 from (Ext.trans hx26 hx28))
  have obH2 := oR2.ext (show Ext wR2 wR2 from (Ext.refl _))
  refine WL.op rfl (OW.append (bytes := 184) oaH2.row (Row.of_own obH2.row) oR2.ones rfl rfl Try.underlying26 Try.type42 rfl rfl rfl rfl (by decide) (by unfold maxLen; omega) (by omega) (by omega) ?_ (by decide))
  intro vH2 wH2 ho30 hx29 hmvhx29
  have oH2 := oaH2.app (F := ER2) (fun e he => own_mono (obH2.dc e he) (by omega)) (fun e he => own_mono (obH2.da e he) (by omega)) (oR2.apart_old oH1.top) ho30 hx29 hmvhx29
  have hH2 : (([] ++ (EA ++ EB)) ++ ER2).map Prod.fst = (lW ++ readL 1048578 4 [0, 0, 0, 0]) := by rw [List.map_append, hH1, hR2] <;> rfl
  have lH2 : (([] ++ (EA ++ EB)) ++ ER2).length = ([] ++ (EA ++ EB)).length + ER2.length := List.length_append
  have zH2 := World.grownBy.size hx29
  refine WL.va rfl rfl rfl (X.moveI rfl) ?_
  refine WL.c rfl rfl rfl (X.call Try.call18 (evl_cons rfl (evl_cons rfl evl_nil))) (ended_ok 1048578 true _) ?_
  rintro vS2 wS2 ⟨⟨ES2, hS2, oS2⟩, hx31⟩
  have zS2 := World.grownBy.size hx31
  have lS2 := map_len hS2
  change ES2.length = 3 at lS2
  have oaH3 := oH2.ext (show Ext wH2 wS2 from hx31)
  have obH3 := oS2.ext (show Ext wS2 wS2 from (Ext.refl _))
  refine WL.op rfl (OW.append (bytes := 184) oaH3.row (Row.of_own obH3.row) oS2.ones rfl rfl Try.underlying26 Try.type42 rfl rfl rfl rfl (by decide) (by unfold maxLen; omega) (by omega) (by omega) ?_ (by decide))
  intro vH3 wH3 ho33 hx32 hmvhx32
  have oH3 := oaH3.app (F := ES2) (fun e he => own_mono (obH3.dc e he) (by omega)) (fun e he => own_mono (obH3.da e he) (by omega)) (oS2.apart_old oH2.top) ho33 hx32 hmvhx32
  have hH3 : (([] ++ (EA ++ EB) ++ ER2) ++ ES2).map Prod.fst = badW := by rw [List.map_append, hH2, hS2] <;> rfl
  have lH3 : (([] ++ (EA ++ EB) ++ ER2) ++ ES2).length = ([] ++ (EA ++ EB) ++ ER2).length + ES2.length := List.length_append
  have zH3 := World.grownBy.size hx32
  refine WL.va rfl rfl rfl (X.assign rfl) ?_
  refine WL.nil ?_
  refine thn_n ?_
  refine WF.seq ?_
  refine WF.region ?_
  refine WL.c rfl rfl rfl (X.call Try.call9 (evl_cons rfl evl_nil)) (check_ok (.slice none 0 0) [] _ Recs.nil (by decide)) ?_
  rintro v35 w34 ⟨rfl, hx36⟩
  refine WL.va rfl rfl rfl (X.eql rfl rfl) ?_
  refine WL.va rfl rfl rfl (X.moveB rfl) ?_
  refine WL.split (j := 2) rfl (fun h38 => ?_) (fun h38 => ?_)
  · have gh38 := (of_decide_eq_true h38)
    refine WL.vg rfl (congrArg some h38) rfl rfl (X.move rfl) ?_
    refine WL.cg rfl (congrArg some h38) rfl rfl (X.call Try.call9 (evl_cons rfl evl_nil)) (check_ok _ lW _ ((oL.evsE hL).ext (Ext.trans (Ext.trans (Ext.trans (Ext.own (Ext.trans hx6 hx7) oaM.row (Nat.le_refl _) hx8) (Ext.own (Ext.trans (Ext.own (Ext.trans (Ext.trans (Ext.own hx10 oaG1.row (Nat.le_refl _) hx12) hx14) hx16) oaG2.row (Nat.le_refl _) hx17) hx19) oaG3.row (Nat.le_refl _) hx20)) (Ext.own (Ext.trans (Ext.own (Ext.trans (Ext.trans (Ext.own hx22 oaH1.row (Nat.le_refl _) hx24) hx26) hx28) oaH2.row (Nat.le_refl _) hx29) hx31) oaH3.row (Nat.le_refl _) hx32)) hx36)) (by decide)) ?_
    rintro v40 w39 ⟨rfl, hx41⟩
    refine WL.vg rfl (congrArg some h38) rfl rfl (X.eql rfl rfl) ?_
    refine WL.va rfl rfl rfl (X.pickT rfl h38 rfl) ?_
    refine WL.va rfl rfl rfl (X.moveB rfl) ?_
    refine WL.split (j := 7) rfl (fun h43 => ?_) (fun h43 => ?_)
    · have gh43 := (of_decide_eq_true h43)
      refine WL.vg rfl (congrArg some h43) rfl rfl (X.move rfl) ?_
      refine WL.cg rfl (congrArg some h43) rfl rfl (X.call Try.call9 (evl_cons rfl evl_nil)) (check_ok _ mW _ ((oM.evsE hM).ext (Ext.trans (Ext.trans (Ext.trans (Ext.own (Ext.trans (Ext.own (Ext.trans (Ext.trans (Ext.own hx10 oaG1.row (Nat.le_refl _) hx12) hx14) hx16) oaG2.row (Nat.le_refl _) hx17) hx19) oaG3.row (Nat.le_refl _) hx20) (Ext.own (Ext.trans (Ext.own (Ext.trans (Ext.trans (Ext.own hx22 oaH1.row (Nat.le_refl _) hx24) hx26) hx28) oaH2.row (Nat.le_refl _) hx29) hx31) oaH3.row (Nat.le_refl _) hx32)) hx36) hx41)) (by decide)) ?_
      rintro v45 w44 ⟨rfl, hx46⟩
      refine WL.vg rfl (congrArg some h43) rfl rfl (X.eql rfl rfl) ?_
      refine WL.va rfl rfl rfl (X.pickT rfl h43 rfl) ?_
      refine WL.va rfl rfl rfl (X.moveB rfl) ?_
      refine WL.split (j := 12) rfl (fun h48 => ?_) (fun h48 => ?_)
      · have gh48 := (of_decide_eq_true h48)
        refine WL.vg rfl (congrArg some h48) rfl rfl (X.move rfl) ?_
        refine WL.cg rfl (congrArg some h48) rfl rfl (X.call Try.call9 (evl_cons rfl evl_nil)) (check_ok _ goodW _ ((oG3.evsE hG3).ext (Ext.trans (Ext.trans (Ext.trans (Ext.own (Ext.trans (Ext.own (Ext.trans (Ext.trans (Ext.own hx22 oaH1.row (Nat.le_refl _) hx24) hx26) hx28) oaH2.row (Nat.le_refl _) hx29) hx31) oaH3.row (Nat.le_refl _) hx32) hx36) hx41) hx46)) (by decide)) ?_
        rintro v50 w49 ⟨rfl, hx51⟩
        refine WL.vg rfl (congrArg some h48) rfl rfl (X.eql rfl rfl) ?_
        refine WL.va rfl rfl rfl (X.pickT rfl h48 rfl) ?_
        refine WL.va rfl rfl rfl (X.moveB rfl) ?_
        refine WL.split (j := 17) rfl (fun h53 => ?_) (fun h53 => ?_)
        · have gh53 := (of_decide_eq_true h53)
          refine WL.vg rfl (congrArg some h53) rfl rfl (X.move rfl) ?_
          refine WL.cg rfl (congrArg some h53) rfl rfl (X.call Try.call9 (evl_cons rfl evl_nil)) (check_ok _ badW _ ((oH3.evsE hH3).ext (Ext.trans (Ext.trans (Ext.trans hx36 hx41) hx46) hx51)) (by decide)) ?_
          rintro v55 w54 ⟨rfl, hx56⟩
          refine WL.vg rfl (congrArg some h53) rfl rfl (X.eql rfl rfl) ?_
          refine WL.va rfl rfl rfl (X.pickT rfl h53 rfl) ?_
          refine WL.va rfl rfl rfl (X.moveB rfl) ?_
          refine WL.split (j := 22) rfl (fun h58 => ?_) (fun h58 => ?_)
          · have gh58 := (of_decide_eq_true h58)
            refine WL.vg rfl (congrArg some h58) rfl rfl (X.move rfl) ?_
            refine WL.cg rfl (congrArg some h58) rfl rfl (X.call Try.call12 (evl_cons rfl evl_nil)) (order_ok _ goodW _ ((oG3.evsE hG3).ext (Ext.trans (Ext.trans (Ext.trans (Ext.trans (Ext.trans (Ext.own (Ext.trans (Ext.own (Ext.trans (Ext.trans (Ext.own hx22 oaH1.row (Nat.le_refl _) hx24) hx26) hx28) oaH2.row (Nat.le_refl _) hx29) hx31) oaH3.row (Nat.le_refl _) hx32) hx36) hx41) hx46) hx51) hx56)) (by decide)) ?_
            rintro v60 w59 ⟨hov, hx61⟩
            refine WL.vg rfl (congrArg some h58) rfl rfl (X.len (show Ints _ _ (orderL goodW) from Row.of_own hov) rfl Try.underlying34) ?_
            refine WL.vg rfl (congrArg some h58) rfl rfl (X.eql rfl rfl) ?_
            refine WL.va rfl rfl rfl (X.pickT rfl h58 rfl) ?_
            refine WL.va rfl rfl rfl (X.assignB rfl) ?_
            refine WL.nil ?_
            refine thn_n ?_
            refine WF.ret ?_
            refine fin_r ?_
            exact ⟨congrArg Value.bool (decide_eq_true (show (((orderL goodW).length : Nat) : Int) = 2 by rw [ord_good]; rfl)), (Ext.trans (Ext.trans (Ext.trans (Ext.trans (Ext.trans (Ext.trans (Ext.trans (Ext.trans (Ext.trans (Ext.own (Ext.trans hx2 hx3) oaL.row (Nat.le_refl _) hx4) (Ext.own (Ext.trans hx6 hx7) oaM.row (Nat.le_refl _) hx8)) (Ext.own (Ext.trans (Ext.own (Ext.trans (Ext.trans (Ext.own hx10 oaG1.row (Nat.le_refl _) hx12) hx14) hx16) oaG2.row (Nat.le_refl _) hx17) hx19) oaG3.row (Nat.le_refl _) hx20)) (Ext.own (Ext.trans (Ext.own (Ext.trans (Ext.trans (Ext.own hx22 oaH1.row (Nat.le_refl _) hx24) hx26) hx28) oaH2.row (Nat.le_refl _) hx29) hx31) oaH3.row (Nat.le_refl _) hx32)) hx36) hx41) hx46) hx51) hx56) hx61)⟩
          · have gh58 := (of_decide_eq_false h58)
            exact absurd chk_bad gh58
        · have gh53 := (of_decide_eq_false h53)
          exact absurd chk_good gh53
      · have gh48 := (of_decide_eq_false h48)
        exact absurd chk_m gh48
    · have gh43 := (of_decide_eq_false h43)
      exact absurd chk_l gh43
  · have gh38 := (of_decide_eq_false h38)
    exact absurd chk_nil gh38

end Go.Proofs.Ytobjmehppmhkdaa
