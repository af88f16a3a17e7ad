/- The walk of WitnessKnown. -/
import Derived.Test.YtobjmehppmhkdaaKnE
namespace Go.Proofs.Ytobjmehppmhkdaa
open Go Go.RowKit Kf
set_option maxRecDepth 20000

section
variable {l : List Ev} {w w' : World} {v : Value}
theorem checksT_ok (hv : Evs w v l) (h : eqR l = true) : FnOk Try.prog 20 [v] w (fun r w' => r = .bool true ∧ Ext w w') :=
  (checks_ok v l w hv).mono fun r w' q => ⟨q.1.trans (by rw [h, Bool.or_true]), q.2⟩
theorem kn_turn {i h : Nat} (hi : i < 23) (hh : h < 9) : eqR (turnL knL i h) = true := by
  have := List.all_eq_true.1 kn_turn0 i (List.mem_range.2 hi)
  exact List.all_eq_true.1 this h (List.mem_range.2 hh)
theorem kn_data : ∀ e ∈ knL, e.Call.Data.length ≤ 1024 ∧ e.Answer.Data.length ≤ 1024 := by
  have h : (knL.all fun e => decide (e.Call.Data.length ≤ 1024) && decide (e.Answer.Data.length ≤ 1024)) = true := by kernel_rfl
  intro e he
  have := List.all_eq_true.1 h e he
  simpa using this
theorem kn_txn : ∀ e ∈ knL, 0 ≤ e.Txn ∧ e.Txn ≤ 10000000 := by
  have h : (knL.all fun e => decide (0 ≤ e.Txn) && decide (e.Txn ≤ 10000000)) = true := by kernel_rfl
  intro e he
  have := List.all_eq_true.1 h e he
  simpa using this
theorem one_evs {B : Nat} {e : Ev} (hc : e.Call.Data = []) (ha : e.Answer.Data = []) (hr : w.ownsRow B 42 19 v 1 (EvV.c (e, .slice none 0 0, .slice none 0 0))) : Evs w v [e] := by
  refine ⟨EvV.c (e, .slice none 0 0, .slice none 0 0), Row.of_own hr, fun k hk => ?_⟩
  obtain rfl : k = 0 := by simpa using hk
  exact ⟨.slice none 0 0, .slice none 0 0, rfl, (by show Bytes w _ e.Call.Data; rw [hc]; exact Row.nil w 1), (by show Bytes w _ e.Answer.Data; rw [ha]; exact Row.nil w 1)⟩
end
set_option maxHeartbeats 16000000 in
theorem witnessKnown_walk (w : World) : FnOk Try.prog 5 [] w (fun r w' => r = .bool true ∧ Ext w w') := by
  refine FnOk.enter (rs := [0]) Try.func5 rfl Try.ntmps5 Try.results5 rfl rfl ?_
  refine WF.seq ?_
  refine WF.region ?_
  refine WL.va rfl rfl rfl (X.assignB rfl) ?_
  refine WL.nil ?_
  refine thn_n ?_
  refine WF.seq ?_
  refine WF.region ?_
  refine WL.va rfl rfl rfl (X.assignI rfl) ?_
  refine WL.va rfl rfl rfl (X.assignI rfl) ?_
  refine WL.va rfl rfl rfl (X.assignI rfl) ?_
  refine WL.nil ?_
  refine thn_n ?_
  refine WF.seq ?_
  refine WF.region ?_
  refine WL.va rfl rfl rfl (X.moveI rfl) ?_
  refine WL.c rfl rfl rfl (X.call Try.call16 (evl_cons rfl (evl_cons rfl (evl_cons rfl evl_nil)))) (wrote_ok 1048577 4 7 _) ?_
  rintro vA wA ⟨⟨EA, hA, oA⟩, hx2⟩
  have zA := World.grownBy.size hx2
  have lA := map_len hA
  change EA.length = 2 at lA
  refine WL.va rfl rfl rfl (X.moveI rfl) ?_
  refine WL.c rfl rfl rfl (X.call Try.call16 (evl_cons rfl (evl_cons rfl (evl_cons rfl evl_nil)))) (wrote_ok 1048577 5 8 _) ?_
  rintro vB wB ⟨⟨EB, hB, oB⟩, hx3⟩
  have zB := World.grownBy.size hx3
  have lB := map_len hB
  change EB.length = 2 at lB
  have oaK1 := oA.ext (show Ext wA wB from hx3)
  have obK1 := oB.ext (show Ext wB wB from (Ext.refl _))
  have hwK1 := (show Ext w wB from (Ext.trans hx2 hx3))
  refine WL.op rfl (OW.append (bytes := 184) oaK1.row (Row.of_own obK1.row) oB.ones rfl rfl Try.underlying26 Try.type42 rfl rfl rfl rfl (by decide) (by unfold maxLen; omega) (by omega) (by omega) ?_ (by decide))
  intro vK1 wK1 ho5 hx4 hmvhx4
  have zK1 := World.grownBy.size hx4
  obtain ⟨EK1, oK1, hK1, lK1⟩ : ∃ E : List EvV, EvO wK1 w.heap.size w.heap.size vK1 E ∧ E.map Prod.fst = kn1 ∧ E.length = 4 := ⟨_, oaK1.app (F := EB) (fun e he => own_mono (obK1.dc e he) (by omega)) (fun e he => own_mono (obK1.da e he) (by omega)) (oB.apart_old oA.top) ho5 hx4 hmvhx4, (by rw [List.map_append, hA, hB] <;> rfl), (by rw [List.length_append]; omega)⟩
  refine WL.va rfl rfl rfl (X.assign rfl) ?_
  refine WL.nil ?_
  refine thn_n ?_
  refine WF.seq ?_
  refine WF.region ?_
  refine WL.va rfl rfl rfl (X.move rfl) ?_
  refine WL.va rfl rfl rfl (X.moveI rfl) ?_
  refine WL.op rfl (OW.lits (vs := [u8 7, u8 0, u8 0, u8 1]) (evp_cons rfl (evp_cons rfl (evp_cons rfl (evp_cons rfl evp_nil)))) Try.underlying36 Try.sizeOf5 Try.zeroValue5 ⟨rfl, rfl, rfl, rfl, trivial⟩ rfl rfl rfl ?_ (by decide))
  intro vLr wLr ho7 hx6
  have hLr : OwnB wLr wK1.heap.size 5 vLr [7, 0, 0, 1] := ho7
  have zLr := World.grownBy.size hx6
  refine WL.c rfl rfl rfl (X.call Try.call17 (evl_cons rfl (evl_cons rfl (evl_cons rfl evl_nil)))) (read_ok 1048577 4 _ [7, 0, 0, 1] _ _ hLr) ?_
  rintro vR wR ⟨⟨ER, hR, oR⟩, hx8⟩
  have zR := World.grownBy.size hx8
  have lR := map_len hR
  change ER.length = 2 at lR
  have oaK2 := oK1.ext (show Ext wK1 wR from (Ext.trans hx6 hx8))
  have obK2 := oR.ext (show Ext wR wR from (Ext.refl _))
  have hwK2 := (show Ext w wR from (Ext.trans (Ext.trans (Ext.own hwK1 oaK1.row (Nat.le_refl _) hx4) hx6) hx8))
  refine WL.op rfl (OW.append (bytes := 184) oaK2.row (Row.of_own obK2.row) oR.ones rfl rfl Try.underlying26 Try.type42 rfl rfl rfl rfl (by decide) (by unfold maxLen; omega) (by omega) (by omega) ?_ (by decide))
  intro vK2 wK2 ho10 hx9 hmvhx9
  have zK2 := World.grownBy.size hx9
  obtain ⟨EK2, oK2, hK2, lK2⟩ : ∃ E : List EvV, EvO wK2 w.heap.size w.heap.size vK2 E ∧ E.map Prod.fst = kn2 ∧ E.length = 6 := ⟨_, oaK2.app (F := ER) (fun e he => own_mono (obK2.dc e he) (by omega)) (fun e he => own_mono (obK2.da e he) (by omega)) (oR.apart_old oK1.top) ho10 hx9 hmvhx9, (by rw [List.map_append, hK1, hR] <;> rfl), (by rw [List.length_append]; omega)⟩
  refine WL.va rfl rfl rfl (X.assign rfl) ?_
  refine WL.nil ?_
  refine thn_n ?_
  refine WF.seq ?_
  refine WF.region ?_
  refine WL.va rfl rfl rfl (X.move rfl) ?_
  refine WL.va rfl rfl rfl (X.moveI rfl) ?_
  refine WL.c rfl rfl rfl (X.call Try.call18 (evl_cons rfl (evl_cons rfl evl_nil))) (ended_ok 1048577 true _) ?_
  rintro vF wF ⟨⟨EF, hF, oF⟩, hx11⟩
  have zF := World.grownBy.size hx11
  have lF := map_len hF
  change EF.length = 3 at lF
  have oaK3 := oK2.ext (show Ext wK2 wF from hx11)
  have obK3 := oF.ext (show Ext wF wF from (Ext.refl _))
  have hwK3 := (show Ext w wF from (Ext.trans (Ext.own hwK2 oaK2.row (Nat.le_refl _) hx9) hx11))
  refine WL.op rfl (OW.append (bytes := 184) oaK3.row (Row.of_own obK3.row) oF.ones rfl rfl Try.underlying26 Try.type42 rfl rfl rfl rfl (by decide) (by unfold maxLen; omega) (by omega) (by omega) ?_ (by decide))
  intro vK3 wK3 ho13 hx12 hmvhx12
  have zK3 := World.grownBy.size hx12
  obtain ⟨EK3, oK3, hK3, lK3⟩ : ∃ E : List EvV, EvO wK3 w.heap.size w.heap.size vK3 E ∧ E.map Prod.fst = kn3 ∧ E.length = 9 := ⟨_, oaK3.app (F := EF) (fun e he => own_mono (obK3.dc e he) (by omega)) (fun e he => own_mono (obK3.da e he) (by omega)) (oF.apart_old oK2.top) ho13 hx12 hmvhx12, (by rw [List.map_append, hK2, hF] <;> rfl), (by rw [List.length_append]; omega)⟩
  refine WL.va rfl rfl rfl (X.assign rfl) ?_
  refine WL.nil ?_
  refine thn_n ?_
  refine WF.seq ?_
  refine WF.region ?_
  refine WL.va rfl rfl rfl (X.move rfl) ?_
  refine WL.va rfl rfl rfl (X.moveI rfl) ?_
  refine WL.op rfl (OW.lits (vs := [u8 7, u8 0, u8 0, u8 1]) (evp_cons rfl (evp_cons rfl (evp_cons rfl (evp_cons rfl evp_nil)))) Try.underlying36 Try.sizeOf5 Try.zeroValue5 ⟨rfl, rfl, rfl, rfl, trivial⟩ rfl rfl rfl ?_ (by decide))
  intro vLs wLs ho15 hx14
  have hLs : OwnB wLs wK3.heap.size 5 vLs [7, 0, 0, 1] := ho15
  have zLs := World.grownBy.size hx14
  refine WL.c rfl rfl rfl (X.call Try.call17 (evl_cons rfl (evl_cons rfl (evl_cons rfl evl_nil)))) (read_ok 1048578 4 _ [7, 0, 0, 1] _ _ hLs) ?_
  rintro vR2 wR2 ⟨⟨ER2, hR2, oR2⟩, hx16⟩
  have zR2 := World.grownBy.size hx16
  have lR2 := map_len hR2
  change ER2.length = 2 at lR2
  have oaK4 := oK3.ext (show Ext wK3 wR2 from (Ext.trans hx14 hx16))
  have obK4 := oR2.ext (show Ext wR2 wR2 from (Ext.refl _))
  have hwK4 := (show Ext w wR2 from (Ext.trans (Ext.trans (Ext.own hwK3 oaK3.row (Nat.le_refl _) hx12) hx14) hx16))
  refine WL.op rfl (OW.append (bytes := 184) oaK4.row (Row.of_own obK4.row) oR2.ones rfl rfl Try.underlying26 Try.type42 rfl rfl rfl rfl (by decide) (by unfold maxLen; omega) (by omega) (by omega) ?_ (by decide))
  intro vK4 wK4 ho18 hx17 hmvhx17
  have zK4 := World.grownBy.size hx17
  obtain ⟨EK4, oK4, hK4, lK4⟩ : ∃ E : List EvV, EvO wK4 w.heap.size w.heap.size vK4 E ∧ E.map Prod.fst = kn4 ∧ E.length = 11 := ⟨_, oaK4.app (F := ER2) (fun e he => own_mono (obK4.dc e he) (by omega)) (fun e he => own_mono (obK4.da e he) (by omega)) (oR2.apart_old oK3.top) ho18 hx17 hmvhx17, (by rw [List.map_append, hK3, hR2] <;> rfl), (by rw [List.length_append]; omega)⟩
  refine WL.va rfl rfl rfl (X.assign rfl) ?_
  refine WL.nil ?_
  refine thn_n ?_
  refine WF.seq ?_
  refine WF.region ?_
  refine WL.va rfl rfl rfl (X.move rfl) ?_
  refine WL.va rfl rfl rfl (X.moveI rfl) ?_
  refine WL.c rfl rfl rfl (X.call Try.call16 (evl_cons rfl (evl_cons rfl (evl_cons rfl evl_nil)))) (wrote_ok 1048578 4 9 _) ?_
  rintro vG wG ⟨⟨EG, hG, oG⟩, hx19⟩
  have zG := World.grownBy.size hx19
  have lG := map_len hG
  change EG.length = 2 at lG
  have oaK5 := oK4.ext (show Ext wK4 wG from hx19)
  have obK5 := oG.ext (show Ext wG wG from (Ext.refl _))
  have hwK5 := (show Ext w wG from (Ext.trans (Ext.own hwK4 oaK4.row (Nat.le_refl _) hx17) hx19))
  refine WL.op rfl (OW.append (bytes := 184) oaK5.row (Row.of_own obK5.row) oG.ones rfl rfl Try.underlying26 Try.type42 rfl rfl rfl rfl (by decide) (by unfold maxLen; omega) (by omega) (by omega) ?_ (by decide))
  intro vK5 wK5 ho21 hx20 hmvhx20
  have zK5 := World.grownBy.size hx20
  obtain ⟨EK5, oK5, hK5, lK5⟩ : ∃ E : List EvV, EvO wK5 w.heap.size w.heap.size vK5 E ∧ E.map Prod.fst = kn5 ∧ E.length = 13 := ⟨_, oaK5.app (F := EG) (fun e he => own_mono (obK5.dc e he) (by omega)) (fun e he => own_mono (obK5.da e he) (by omega)) (oG.apart_old oK4.top) ho21 hx20 hmvhx20, (by rw [List.map_append, hK4, hG] <;> rfl), (by rw [List.length_append]; omega)⟩
  refine WL.va rfl rfl rfl (X.assign rfl) ?_
  refine WL.nil ?_
  refine thn_n ?_
  refine WF.seq ?_
  refine WF.region ?_
  refine WL.va rfl rfl rfl (X.move rfl) ?_
  refine WL.va rfl rfl rfl (X.moveI rfl) ?_
  refine WL.va rfl rfl rfl (X.buildL (P := Try.prog) (t := 38) (cs := (commitC.c (.slice none 0 0))) (evp_cons rfl evp_nil) Try.type38 Try.underlying38 rfl rfl ⟨rfl, trivial⟩ rfl) ?_
  refine WL.va rfl rfl rfl (X.buildL (P := Try.prog) (t := 40) (cs := (unkAn.c (.slice none 0 0))) (evp_cons rfl evp_nil) Try.type40 Try.underlying40 rfl rfl ⟨rfl, trivial⟩ rfl) ?_
  refine WL.c rfl rfl rfl (X.call Try.call19 (evl_cons rfl (evl_cons rfl (evl_cons rfl evl_nil)))) (done_ok 1048578 commitC unkAn (.slice none 0 0) (.slice none 0 0) wK5.heap.size _ (nilO _ _) (nilO _ _)) ?_
  rintro vH wH ⟨⟨EH, hH, oH⟩, hx22⟩
  have zH := World.grownBy.size hx22
  have lH := map_len hH
  change EH.length = 2 at lH
  have oaK6 := oK5.ext (show Ext wK5 wH from hx22)
  have obK6 := oH.ext (show Ext wH wH from (Ext.refl _))
  have hwK6 := (show Ext w wH from (Ext.trans (Ext.own hwK5 oaK5.row (Nat.le_refl _) hx20) hx22))
  refine WL.op rfl (OW.append (bytes := 184) oaK6.row (Row.of_own obK6.row) oH.ones rfl rfl Try.underlying26 Try.type42 rfl rfl rfl rfl (by decide) (by unfold maxLen; omega) (by omega) (by omega) ?_ (by decide))
  intro vK6 wK6 ho24 hx23 hmvhx23
  have zK6 := World.grownBy.size hx23
  obtain ⟨EK6, oK6, hK6, lK6⟩ : ∃ E : List EvV, EvO wK6 w.heap.size w.heap.size vK6 E ∧ E.map Prod.fst = kn6 ∧ E.length = 15 := ⟨_, oaK6.app (F := EH) (fun e he => own_mono (obK6.dc e he) (by omega)) (fun e he => own_mono (obK6.da e he) (by omega)) (oH.apart_old oK5.top) ho24 hx23 hmvhx23, (by rw [List.map_append, hK5, hH] <;> rfl), (by rw [List.length_append]; omega)⟩
  refine WL.va rfl rfl rfl (X.assign rfl) ?_
  refine WL.nil ?_
  refine thn_n ?_
  refine WF.seq ?_
  refine WF.region ?_
  refine WL.va rfl rfl rfl (X.move rfl) ?_
  refine WL.va rfl rfl rfl (X.moveI rfl) ?_
  refine WL.va rfl rfl rfl (X.buildL (P := Try.prog) (t := 42) (cs := (EvV.c ((chosenE 1048579, (.slice none 0 0), (.slice none 0 0)) : EvV))) (evp_cons rfl (evp_cons rfl evp_nil)) Try.type42 Try.underlying42 rfl rfl ⟨rfl, rfl, trivial⟩ rfl) ?_
  refine WL.va rfl rfl rfl (X.moveI rfl) ?_
  refine WL.va rfl rfl rfl (X.buildL (P := Try.prog) (t := 42) (cs := (EvV.c ((chosenE 1048578, (.slice none 0 0), (.slice none 0 0)) : EvV))) (evp_cons rfl (evp_cons rfl evp_nil)) Try.type42 Try.underlying42 rfl rfl ⟨rfl, rfl, trivial⟩ rfl) ?_
  refine WL.op rfl (OW.lits (vs := [agg (EvV.c ((chosenE 1048579, (.slice none 0 0), (.slice none 0 0)) : EvV)), agg (EvV.c ((chosenE 1048578, (.slice none 0 0), (.slice none 0 0)) : EvV))]) (evp_cons rfl (evp_cons rfl evp_nil)) Try.underlying26 Try.sizeOf42 Try.zeroValue42 ⟨rfl, rfl, trivial⟩ rfl rfl rfl ?_ (by decide))
  intro vJ wJ ho26 hx25
  have zJ := World.grownBy.size hx25
  obtain ⟨EJ, hJ, oJ, lJ⟩ : ∃ E : List EvV, E.map Prod.fst = [chosenE 1048579, chosenE 1048578] ∧ EvO wJ wK6.heap.size wK6.heap.size vJ E ∧ E.length = 2 := ⟨[((chosenE 1048579, (.slice none 0 0), (.slice none 0 0)) : EvV), ((chosenE 1048578, (.slice none 0 0), (.slice none 0 0)) : EvV)], rfl, EvO.new (w := wK6) (fun e he => by simp only [List.mem_cons, List.not_mem_nil, or_false] at he; rcases he with rfl | rfl <;> exact nilO _ _) (fun e he => by simp only [List.mem_cons, List.not_mem_nil, or_false] at he; rcases he with rfl | rfl <;> exact nilO _ _) (show World.ownsRow wJ wK6.heap.size 42 19 vJ 2 (EvV.c ((chosenE 1048579, (.slice none 0 0), (.slice none 0 0)) : EvV) ++ (EvV.c ((chosenE 1048578, (.slice none 0 0), (.slice none 0 0)) : EvV) ++ [])) from ho26) hx25 (Nat.le_refl _), rfl⟩
  have oaK7 := oK6.ext (show Ext wK6 wJ from hx25)
  have obK7 := oJ.ext (show Ext wJ wJ from (Ext.refl _))
  have hwK7 := (show Ext w wJ from (Ext.trans (Ext.own hwK6 oaK6.row (Nat.le_refl _) hx23) hx25))
  refine WL.op rfl (OW.append (bytes := 184) oaK7.row (Row.of_own obK7.row) oJ.ones rfl rfl Try.underlying26 Try.type42 rfl rfl rfl rfl (by decide) (by unfold maxLen; omega) (by omega) (by omega) ?_ (by decide))
  intro vK7 wK7 ho28 hx27 hmvhx27
  have zK7 := World.grownBy.size hx27
  obtain ⟨EK7, oK7, hK7, lK7⟩ : ∃ E : List EvV, EvO wK7 w.heap.size w.heap.size vK7 E ∧ E.map Prod.fst = kn7 ∧ E.length = 17 := ⟨_, oaK7.app (F := EJ) (fun e he => own_mono (obK7.dc e he) (by omega)) (fun e he => own_mono (obK7.da e he) (by omega)) (oJ.apart_old oK6.top) ho28 hx27 hmvhx27, (by rw [List.map_append, hK6, hJ] <;> rfl), (by rw [List.length_append]; omega)⟩
  refine WL.va rfl rfl rfl (X.assign rfl) ?_
  refine WL.nil ?_
  refine thn_n ?_
  refine WF.seq ?_
  refine WF.region ?_
  refine WL.va rfl rfl rfl (X.move rfl) ?_
  refine WL.va rfl rfl rfl (X.moveI rfl) ?_
  refine WL.va rfl rfl rfl (X.moveI rfl) ?_
  refine WL.va rfl rfl rfl (X.buildL (P := Try.prog) (t := 38) (cs := ((statC 1048578).c (.slice none 0 0))) (evp_cons rfl (evp_cons rfl evp_nil)) Try.type38 Try.underlying38 rfl rfl ⟨rfl, rfl, trivial⟩ rfl) ?_
  refine WL.va rfl rfl rfl (X.buildL (P := Try.prog) (t := 40) (cs := (An.zero.c (.slice none 0 0))) evp_nil Try.type40 Try.underlying40 rfl rfl trivial rfl) ?_
  refine WL.c rfl rfl rfl (X.call Try.call19 (evl_cons rfl (evl_cons rfl (evl_cons rfl evl_nil)))) (done_ok 1048578 (statC 1048578) An.zero (.slice none 0 0) (.slice none 0 0) wK7.heap.size _ (nilO _ _) (nilO _ _)) ?_
  rintro vI wI ⟨⟨EI, hI, oI⟩, hx29⟩
  have zI := World.grownBy.size hx29
  have lI := map_len hI
  change EI.length = 2 at lI
  have oaK8 := oK7.ext (show Ext wK7 wI from hx29)
  have obK8 := oI.ext (show Ext wI wI from (Ext.refl _))
  have hwK8 := (show Ext w wI from (Ext.trans (Ext.own hwK7 oaK7.row (Nat.le_refl _) hx27) hx29))
  refine WL.op rfl (OW.append (bytes := 184) oaK8.row (Row.of_own obK8.row) oI.ones rfl rfl Try.underlying26 Try.type42 rfl rfl rfl rfl (by decide) (by unfold maxLen; omega) (by omega) (by omega) ?_ (by decide))
  intro vK8 wK8 ho31 hx30 hmvhx30
  have zK8 := World.grownBy.size hx30
  obtain ⟨EK8, oK8, hK8, lK8⟩ : ∃ E : List EvV, EvO wK8 w.heap.size w.heap.size vK8 E ∧ E.map Prod.fst = kn8 ∧ E.length = 19 := ⟨_, oaK8.app (F := EI) (fun e he => own_mono (obK8.dc e he) (by omega)) (fun e he => own_mono (obK8.da e he) (by omega)) (oI.apart_old oK7.top) ho31 hx30 hmvhx30, (by rw [List.map_append, hK7, hI] <;> rfl), (by rw [List.length_append]; omega)⟩
  refine WL.va rfl rfl rfl (X.assign rfl) ?_
  refine WL.nil ?_
  refine thn_n ?_
  refine WF.seq ?_
  refine WF.region ?_
  refine WL.va rfl rfl rfl (X.move rfl) ?_
  refine WL.va rfl rfl rfl (X.moveI rfl) ?_
  refine WL.va rfl rfl rfl (X.buildL (P := Try.prog) (t := 38) (cs := ((snapC 1048579).c (.slice none 0 0))) (evp_cons rfl (evp_cons rfl (evp_cons rfl evp_nil))) Try.type38 Try.underlying38 rfl rfl ⟨rfl, rfl, rfl, trivial⟩ rfl) ?_
  refine WL.op rfl (OW.lits (vs := [u8 7, u8 0, u8 0, u8 1]) (evp_cons rfl (evp_cons rfl (evp_cons rfl (evp_cons rfl evp_nil)))) Try.underlying36 Try.sizeOf5 Try.zeroValue5 ⟨rfl, rfl, rfl, rfl, trivial⟩ rfl rfl rfl ?_ (by decide))
  intro vLt wLt ho33 hx32
  have hLt : OwnB wLt wK8.heap.size 5 vLt [7, 0, 0, 1] := ho33
  have zLt := World.grownBy.size hx32
  refine WL.va rfl rfl rfl (X.buildL (P := Try.prog) (t := 40) (cs := ((⟨0, 0, [7, 0, 0, 1]⟩ : An).c vLt)) (evp_cons rfl evp_nil) Try.type40 Try.underlying40 rfl rfl ⟨own_one hLt, trivial⟩ rfl) ?_
  refine WL.c rfl rfl rfl (X.call Try.call19 (evl_cons rfl (evl_cons rfl (evl_cons rfl evl_nil)))) (done_ok 0 (snapC 1048579) ⟨0, 0, [7, 0, 0, 1]⟩ (.slice none 0 0) vLt wK8.heap.size _ (nilO _ _) hLt) ?_
  rintro vM wM ⟨⟨EM, hM, oM⟩, hx34⟩
  have zM := World.grownBy.size hx34
  have lM := map_len hM
  change EM.length = 2 at lM
  have oaK9 := oK8.ext (show Ext wK8 wM from (Ext.trans hx32 hx34))
  have obK9 := oM.ext (show Ext wM wM from (Ext.refl _))
  have hwK9 := (show Ext w wM from (Ext.trans (Ext.trans (Ext.own hwK8 oaK8.row (Nat.le_refl _) hx30) hx32) hx34))
  refine WL.op rfl (OW.append (bytes := 184) oaK9.row (Row.of_own obK9.row) oM.ones rfl rfl Try.underlying26 Try.type42 rfl rfl rfl rfl (by decide) (by unfold maxLen; omega) (by omega) (by omega) ?_ (by decide))
  intro vK9 wK9 ho36 hx35 hmvhx35
  have zK9 := World.grownBy.size hx35
  obtain ⟨EK9, oK9, hK9, lK9⟩ : ∃ E : List EvV, EvO wK9 w.heap.size w.heap.size vK9 E ∧ E.map Prod.fst = kn9 ∧ E.length = 21 := ⟨_, oaK9.app (F := EM) (fun e he => own_mono (obK9.dc e he) (by omega)) (fun e he => own_mono (obK9.da e he) (by omega)) (oM.apart_old oK8.top) ho36 hx35 hmvhx35, (by rw [List.map_append, hK8, hM] <;> rfl), (by rw [List.length_append]; omega)⟩
  refine WL.va rfl rfl rfl (X.assign rfl) ?_
  refine WL.nil ?_
  refine thn_n ?_
  refine WF.seq ?_
  refine WF.region ?_
  refine WL.va rfl rfl rfl (X.move rfl) ?_
  refine WL.va rfl rfl rfl (X.moveI rfl) ?_
  refine WL.va rfl rfl rfl (X.buildL (P := Try.prog) (t := 38) (cs := ((snapC 1048578).c (.slice none 0 0))) (evp_cons rfl (evp_cons rfl (evp_cons rfl evp_nil))) Try.type38 Try.underlying38 rfl rfl ⟨rfl, rfl, rfl, trivial⟩ rfl) ?_
  refine WL.op rfl (OW.lits (vs := [u8 9, u8 0, u8 0, u8 1]) (evp_cons rfl (evp_cons rfl (evp_cons rfl (evp_cons rfl evp_nil)))) Try.underlying36 Try.sizeOf5 Try.zeroValue5 ⟨rfl, rfl, rfl, rfl, trivial⟩ rfl rfl rfl ?_ (by decide))
  intro vLu wLu ho38 hx37
  have hLu : OwnB wLu wK9.heap.size 5 vLu [9, 0, 0, 1] := ho38
  have zLu := World.grownBy.size hx37
  refine WL.va rfl rfl rfl (X.buildL (P := Try.prog) (t := 40) (cs := ((⟨0, 0, [9, 0, 0, 1]⟩ : An).c vLu)) (evp_cons rfl evp_nil) Try.type40 Try.underlying40 rfl rfl ⟨own_one hLu, trivial⟩ rfl) ?_
  refine WL.c rfl rfl rfl (X.call Try.call19 (evl_cons rfl (evl_cons rfl (evl_cons rfl evl_nil)))) (done_ok 0 (snapC 1048578) ⟨0, 0, [9, 0, 0, 1]⟩ (.slice none 0 0) vLu wK9.heap.size _ (nilO _ _) hLu) ?_
  rintro vN wN ⟨⟨EN, hN, oN⟩, hx39⟩
  have zN := World.grownBy.size hx39
  have lN := map_len hN
  change EN.length = 2 at lN
  have oaKL := oK9.ext (show Ext wK9 wN from (Ext.trans hx37 hx39))
  have obKL := oN.ext (show Ext wN wN from (Ext.refl _))
  have hwKL := (show Ext w wN from (Ext.trans (Ext.trans (Ext.own hwK9 oaK9.row (Nat.le_refl _) hx35) hx37) hx39))
  refine WL.op rfl (OW.append (bytes := 184) oaKL.row (Row.of_own obKL.row) oN.ones rfl rfl Try.underlying26 Try.type42 rfl rfl rfl rfl (by decide) (by unfold maxLen; omega) (by omega) (by omega) ?_ (by decide))
  intro vKL wKL ho41 hx40 hmvhx40
  have zKL := World.grownBy.size hx40
  obtain ⟨EKL, oKL, hKL, lKL⟩ : ∃ E : List EvV, EvO wKL w.heap.size w.heap.size vKL E ∧ E.map Prod.fst = knL ∧ E.length = 23 := ⟨_, oaKL.app (F := EN) (fun e he => own_mono (obKL.dc e he) (by omega)) (fun e he => own_mono (obKL.da e he) (by omega)) (oN.apart_old oK9.top) ho41 hx40 hmvhx40, (by rw [List.map_append, hK9, hN] <;> rfl), (by rw [List.length_append]; omega)⟩
  refine WL.va rfl rfl rfl (X.assign rfl) ?_
  refine WL.nil ?_
  refine thn_n ?_
  refine WF.seq ?_
  refine WF.seq ?_
  refine WF.region ?_
  have hL := oKL.evsE hKL
  refine WL.va rfl rfl rfl (X.move rfl) ?_
  refine WL.c rfl rfl rfl (X.call Try.call9 (evl_cons rfl evl_nil)) (check_ok _ knL _ (hL.ext (Ext.refl wKL)) (by rw [kn_len]; decide)) ?_
  rintro v43 w42 ⟨rfl, hx44⟩
  refine WL.va rfl rfl rfl (X.neq rfl rfl) ?_
  refine WL.va rfl rfl rfl (X.moveB rfl) ?_
  refine WL.split (j := 3) rfl (fun h46 => ?_) (fun h46 => ?_)
  · have gh46 := (of_decide_eq_true h46)
    exact absurd kn_chk gh46
  · have gh46 := (Decidable.of_not_not (of_decide_eq_false h46))
    refine WL.vg rfl (congrArg some h46) rfl rfl (X.move rfl) ?_
    refine WL.cg rfl (congrArg some h46) rfl rfl (X.call Try.call20 (evl_cons rfl evl_nil)) (checksT_ok (hL.ext hx44) kn_eq) ?_
    rintro v48 w47 ⟨rfl, hx49⟩
    refine WL.vg rfl (congrArg some h46) rfl rfl (X.not rfl) ?_
    refine WL.va rfl rfl rfl (X.pickF rfl h46 rfl) ?_
    refine WL.va rfl rfl rfl (X.moveB rfl) ?_
    refine WL.vg rfl rfl rfl rfl (X.move rfl) ?_
    refine WL.cg rfl rfl rfl rfl (X.call Try.call4 (evl_cons rfl evl_nil)) (witnessReal_walk _ knL _ (hL.ext (Ext.trans hx44 hx49))) ?_
    rintro v53 w52 ⟨rfl, hx54⟩
    refine WL.vg rfl rfl rfl rfl (X.not rfl) ?_
    refine WL.va rfl rfl rfl (X.pickF rfl rfl rfl) ?_
    refine WL.va rfl rfl rfl (X.moveB rfl) ?_
    refine WL.vg rfl rfl rfl rfl (X.move rfl) ?_
    refine WL.cg rfl rfl rfl rfl (X.call Try.call21 (evl_cons rfl evl_nil)) (steps_ok _ knL _ (hL.ext (Ext.trans (Ext.trans hx44 hx49) hx54))) ?_
    rintro v58 w57 ⟨rfl, hx59⟩
    refine WL.vg rfl rfl rfl rfl (X.not rfl) ?_
    refine WL.va rfl rfl rfl (X.pickF rfl rfl rfl) ?_
    refine WL.nil ?_
    refine thn_n ?_
    refine WF.cond_f rfl ?_
    refine WF.skip ?_
    refine thn_n ?_
    refine WF.seq ?_
    refine WF.seq ?_
    refine WF.region ?_
    refine WL.va rfl rfl rfl (X.assignI rfl) ?_
    refine WL.nil ?_
    refine thn_n ?_
    refine WF.block ?_
    refine WF.named (fun F62 hF63 => ?_)
    refine WF.loopN (fun mL0 f' w' => ∃ (i : Nat), mL0 = 23 - i ∧ f' 5 = .int .i64 (i : Int) ∧ Agree [1, 2, 3, 4, 8, 9, 10, 11, 12, 13, 14, 15, 16, 17, 18, 19, 20, 21, 22, 23, 24, 25, 26, 27, 28, 29, 30, 31, 32, 33, 34, 35, 36, 37, 38, 39, 40, 41, 42, 43, 44, 45, 46, 47, 48, 49, 50, 51, 52, 53, 54, 55, 56, 57, 58, 59, 60, 61, 62, 63, 64, 65, 66, 67, 68, 69, 70, 71, 72, 73, 74, 75, 76, 77, 78, 79, 80, 81, 82] f' F62 ∧ Ext wKL w' ∧ i ≤ 23) ?_ ?_
    · exact ⟨_, 0, rfl, (congrFun hF63 5), (Agree.refl _ _), (Ext.trans (Ext.trans (Ext.trans hx44 hx49) hx54) hx59), (by omega)⟩
    · rintro mL0 fL0 wL0 ⟨i, hmL0, e5_L0, hAL0, hwL0, hi0⟩
      refine WF.seq ?_
      refine WF.seq ?_
      refine WF.region ?_
      refine WL.va rfl rfl rfl (X.moveI e5_L0) ?_
      refine WL.va rfl rfl rfl (X.move ((hAL0.eq 4).trans (congrFun hF63 4))) ?_
      refine WL.va rfl rfl rfl (X.len (Row.of_own oKL.row) rfl Try.underlying26) ?_
      refine WL.va rfl rfl rfl (X.lss rfl rfl) ?_
      refine WL.nil ?_
      refine thn_n ?_
      refine WF.cond rfl (fun h1_65 => ?_) (fun h1_65 => ?_)
      · have gh1_65 := (of_decide_eq_true h1_65)
        have hi : i < 23 := by have := gh1_65; omega
        refine WF.skip ?_
        refine thn_n ?_
        refine WF.seq ?_
        refine WF.block ?_
        refine WF.seq ?_
        refine WF.region ?_
        refine WL.va rfl rfl rfl (X.assignI rfl) ?_
        refine WL.nil ?_
        refine thn_n ?_
        refine WF.block ?_
        refine WF.named (fun F67 hF68 => ?_)
        refine WF.loopN (fun mL1 f' w' => ∃ (h : Nat), mL1 = 9 - h ∧ f' 6 = .int .i64 (h : Int) ∧ Agree [1, 2, 3, 4, 5, 8, 9, 10, 11, 12, 13, 14, 15, 16, 17, 18, 19, 20, 21, 22, 23, 24, 25, 26, 27, 28, 29, 30, 31, 32, 33, 34, 35, 36, 37, 38, 39, 40, 41, 42, 43, 44, 45, 46, 47, 48, 49, 50, 51, 52, 53, 54, 55, 56, 57, 58, 59, 60, 61, 62, 63, 64, 65, 66, 67, 68, 69, 70, 71, 72, 73, 74, 75, 76, 77, 78, 79, 80, 81, 82, 83, 84, 85, 86] f' F67 ∧ Ext wKL w' ∧ h ≤ 9) ?_ ?_
        · exact ⟨_, 0, rfl, (congrFun hF68 6), (Agree.refl _ _), hwL0, (by omega)⟩
        · rintro mL1 fL1 wL1 ⟨h, hmL1, e6_L1, hAL1, hwL1, hh0⟩
          refine WF.seq ?_
          refine WF.seq ?_
          refine WF.region ?_
          refine WL.va rfl rfl rfl (X.moveI e6_L1) ?_
          refine WL.va rfl rfl rfl (X.lss rfl rfl) ?_
          refine WL.nil ?_
          refine thn_n ?_
          refine WF.cond rfl (fun h2_69 => ?_) (fun h2_69 => ?_)
          · have gh2_69 := (of_decide_eq_true h2_69)
            have hh : h < 9 := by have := gh2_69; omega
            refine WF.skip ?_
            refine thn_n ?_
            refine WF.seq ?_
            refine WF.block ?_
            refine WF.seq ?_
            refine WF.region ?_
            refine WL.va rfl rfl rfl (X.move ((hAL1.eq 4).trans ((congrFun hF68 4).trans ((hAL0.eq 4).trans (congrFun hF63 4))))) ?_
            refine WL.va rfl rfl rfl (X.moveI ((hAL1.eq 5).trans ((congrFun hF68 5).trans e5_L0))) ?_
            refine WL.va rfl rfl rfl (X.moveI e6_L1) ?_
            refine WL.c rfl rfl rfl (X.call Try.call22 (evl_cons rfl (evl_cons rfl (evl_cons rfl evl_nil)))) (turned_ok _ knL i h _ (hL.ext hwL1) (by rw [kn_len]; omega) hh (by rw [kn_len]; decide) kn_data kn_txn) ?_
            rintro v71 wT ⟨hT, hx72⟩
            refine WL.va rfl rfl rfl (X.assign rfl) ?_
            refine WL.nil ?_
            refine thn_n ?_
            refine WF.seq ?_
            refine WF.region ?_
            refine WL.va rfl rfl rfl (X.move rfl) ?_
            refine WL.c rfl rfl rfl (X.call Try.call20 (evl_cons rfl evl_nil)) (checksT_ok (hT.ext (Ext.refl wT)) (kn_turn hi hh)) ?_
            rintro v74 w73 ⟨rfl, hx75⟩
            refine WL.va rfl rfl rfl (X.not rfl) ?_
            refine WL.va rfl rfl rfl (X.moveB rfl) ?_
            refine WL.vg rfl rfl rfl rfl (X.move rfl) ?_
            refine WL.vg rfl rfl rfl rfl (X.moveI e6_L1) ?_
            refine WL.cg rfl rfl rfl rfl (X.call Try.call23 (evl_cons rfl (evl_cons rfl evl_nil))) (plays_ok _ _ (h : Int) _ (hT.ext hx75)) ?_
            rintro v79 w78 ⟨rfl, hx80⟩
            refine WL.vg rfl rfl rfl rfl (X.not rfl) ?_
            refine WL.va rfl rfl rfl (X.pickF rfl rfl rfl) ?_
            refine WL.va rfl rfl rfl (X.moveB rfl) ?_
            refine WL.vg rfl rfl rfl rfl (X.move rfl) ?_
            refine WL.cg rfl rfl rfl rfl (X.call Try.call21 (evl_cons rfl evl_nil)) (steps_ok _ _ _ (hT.ext (Ext.trans hx75 hx80))) ?_
            rintro v84 w83 ⟨rfl, hx85⟩
            refine WL.vg rfl rfl rfl rfl (X.not rfl) ?_
            refine WL.va rfl rfl rfl (X.pickF rfl rfl rfl) ?_
            refine WL.va rfl rfl rfl (X.moveB rfl) ?_
            refine WL.vg rfl rfl rfl rfl (X.move rfl) ?_
            refine WL.cg rfl rfl rfl rfl (X.call Try.call4 (evl_cons rfl evl_nil)) (witnessReal_walk _ _ _ (hT.ext (Ext.trans (Ext.trans hx75 hx80) hx85))) ?_
            rintro v89 w88 ⟨rfl, hx90⟩
            refine WL.vg rfl rfl rfl rfl (X.not rfl) ?_
            refine WL.va rfl rfl rfl (X.pickF rfl rfl rfl) ?_
            refine WL.nil ?_
            refine thn_n ?_
            refine WF.cond_f rfl ?_
            refine WF.skip ?_
            refine blk_n ?_
            refine thn_n ?_
            refine WF.region ?_
            refine WL.va rfl rfl rfl (X.moveI e6_L1) ?_
            refine WL.va rfl rfl rfl (X.add rfl rfl (w64 (by omega))) ?_
            refine WL.va rfl rfl rfl (X.assignI rfl) ?_
            refine WL.nil ?_
            exact thn_n ⟨_, (by omega), h + 1, rfl, rfl, (by repeat (first | exact hAL1 | refine Agree.put ?_ rfl | refine Agree.sub hAL0 rfl ?_ | refine Agree.named hF68 ?_ | refine Agree.named hF63 ?_)), (Ext.trans (Ext.trans (Ext.trans (Ext.trans (Ext.trans hwL1 hx72) hx75) hx80) hx85) hx90), (by omega)⟩
          · have gh2_69 := (of_decide_eq_false h2_69)
            refine WF.exit ?_
            refine thn_x ?_
            refine thn_x ?_
            refine blk_eq ?_
            refine blk_n ?_
            refine thn_n ?_
            refine WF.region ?_
            refine WL.va rfl rfl rfl (X.moveI ((hAL1.eq 5).trans ((congrFun hF68 5).trans e5_L0))) ?_
            refine WL.va rfl rfl rfl (X.add rfl rfl (w64 (by omega))) ?_
            refine WL.va rfl rfl rfl (X.assignI rfl) ?_
            refine WL.nil ?_
            exact thn_n ⟨_, (by omega), i + 1, rfl, rfl, (by repeat (first | exact hAL0 | refine Agree.put ?_ rfl | refine Agree.sub hAL1 rfl ?_ | refine Agree.named hF68 ?_ | refine Agree.named hF63 ?_)), hwL1, (by omega)⟩
      · have gh1_65 := (of_decide_eq_false h1_65)
        refine WF.exit ?_
        refine thn_x ?_
        refine thn_x ?_
        refine blk_eq ?_
        refine thn_n ?_
        refine WF.seq ?_
        refine WF.region ?_
        refine WL.va rfl rfl rfl (X.buildL (P := Try.prog) (t := 42) (cs := (EvV.c ((⟨2, 1, 0, Ca.zero, An.zero⟩ : Ev), (.slice none 0 0), (.slice none 0 0)))) (evp_cons rfl (evp_cons rfl evp_nil)) Try.type42 Try.underlying42 rfl rfl ⟨rfl, rfl, trivial⟩ rfl) ?_
        refine WL.op rfl (OW.lits (vs := [agg (EvV.c ((⟨2, 1, 0, Ca.zero, An.zero⟩ : Ev), (.slice none 0 0), (.slice none 0 0)))]) (evp_cons rfl evp_nil) Try.underlying26 Try.sizeOf42 Try.zeroValue42 ⟨rfl, trivial⟩ rfl rfl rfl ?_ (by decide))
        intro v94 w93 ho96 hx95
        have hO1 : Evs w93 v94 [⟨2, 1, 0, Ca.zero, An.zero⟩] := one_evs rfl rfl (show World.ownsRow w93 _ 42 19 v94 1 (EvV.c ((⟨2, 1, 0, Ca.zero, An.zero⟩ : Ev), (.slice none 0 0), (.slice none 0 0))) from ho96)
        refine WL.c rfl rfl rfl (X.call Try.call20 (evl_cons rfl evl_nil)) (checksT_ok hO1 kn_a) ?_
        rintro v98 w97 ⟨rfl, hx99⟩
        refine WL.va rfl rfl rfl (X.moveB rfl) ?_
        refine WL.vg rfl rfl rfl rfl (X.buildL (P := Try.prog) (t := 42) (cs := (EvV.c ((Ev.zero : Ev), (.slice none 0 0), (.slice none 0 0)))) evp_nil Try.type42 Try.underlying42 rfl rfl trivial rfl) ?_
        refine WL.opg rfl rfl (OW.lits (vs := [agg (EvV.c ((Ev.zero : Ev), (.slice none 0 0), (.slice none 0 0)))]) (evp_cons rfl evp_nil) Try.underlying26 Try.sizeOf42 Try.zeroValue42 ⟨rfl, trivial⟩ rfl rfl rfl ?_ (by decide))
        intro v102 w101 ho104 hx103
        have hO2 : Evs w101 v102 [Ev.zero] := one_evs rfl rfl (show World.ownsRow w101 _ 42 19 v102 1 (EvV.c ((Ev.zero : Ev), (.slice none 0 0), (.slice none 0 0))) from ho104)
        refine WL.cg rfl rfl rfl rfl (X.call Try.call20 (evl_cons rfl evl_nil)) (checksT_ok hO2 kn_b) ?_
        rintro v106 w105 ⟨rfl, hx107⟩
        refine WL.va rfl rfl rfl (X.pickT rfl rfl rfl) ?_
        refine WL.va rfl rfl rfl (X.moveB rfl) ?_
        refine WL.vg rfl rfl rfl rfl (X.buildL (P := Try.prog) (t := 42) (cs := (EvV.c ((⟨1, 5, 0, Ca.zero, An.zero⟩ : Ev), (.slice none 0 0), (.slice none 0 0)))) (evp_cons rfl (evp_cons rfl evp_nil)) Try.type42 Try.underlying42 rfl rfl ⟨rfl, rfl, trivial⟩ rfl) ?_
        refine WL.opg rfl rfl (OW.lits (vs := [agg (EvV.c ((⟨1, 5, 0, Ca.zero, An.zero⟩ : Ev), (.slice none 0 0), (.slice none 0 0)))]) (evp_cons rfl evp_nil) Try.underlying26 Try.sizeOf42 Try.zeroValue42 ⟨rfl, trivial⟩ rfl rfl rfl ?_ (by decide))
        intro v110 w109 ho112 hx111
        have hO3 : Evs w109 v110 [⟨1, 5, 0, Ca.zero, An.zero⟩] := one_evs rfl rfl (show World.ownsRow w109 _ 42 19 v110 1 (EvV.c ((⟨1, 5, 0, Ca.zero, An.zero⟩ : Ev), (.slice none 0 0), (.slice none 0 0))) from ho112)
        refine WL.cg rfl rfl rfl rfl (X.call Try.call20 (evl_cons rfl evl_nil)) (checksT_ok hO3 kn_c) ?_
        rintro v114 w113 ⟨rfl, hx115⟩
        refine WL.va rfl rfl rfl (X.pickT rfl rfl rfl) ?_
        refine WL.va rfl rfl rfl (X.moveB rfl) ?_
        refine WL.cg rfl rfl rfl rfl (X.call Try.call7 evl_nil) (works_ok _) ?_
        rintro v118 w117 ⟨rfl, hx119⟩
        refine WL.va rfl rfl rfl (X.pickT rfl rfl rfl) ?_
        refine WL.va rfl rfl rfl (X.assignB rfl) ?_
        refine WL.nil ?_
        refine thn_n ?_
        refine WF.ret ?_
        refine fin_r ?_
        exact ⟨rfl, (Ext.trans (Ext.trans (Ext.trans (Ext.trans (Ext.trans (Ext.trans (Ext.trans (Ext.trans (Ext.own hwKL oaKL.row (Nat.le_refl _) hx40) hwL0) hx95) hx99) hx103) hx107) hx111) hx115) hx119)⟩

end Go.Proofs.Ytobjmehppmhkdaa
