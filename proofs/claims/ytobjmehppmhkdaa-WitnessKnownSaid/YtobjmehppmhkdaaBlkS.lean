/- The walks of blocks.Set, In, Without and Join. -/
import Derived.Test.YtobjmehppmhkdaaBlkP
namespace Go.Proofs.Ytobjmehppmhkdaa
open Go Go.RowKit Kf
set_option maxRecDepth 20000

theorem put_eq {l : List Bl} {G : List BV} {no : Int} {b : List UInt8} {dv : Value} (hs : SortB l) (hok : okB no b = true) (hz : ¬ b = zero4) (h : G.map Prod.fst = l.take (cntB l no) ++ l.drop (if hasB l no then cntB l no + 1 else cntB l no)) : (G.take (cntB l no) ++ [((⟨no, b⟩ : Bl), dv)] ++ G.drop (cntB l no)).map Prod.fst = setB l no b := by
  have tc := take_cnt (l := l) (r := l.drop (if hasB l no then cntB l no + 1 else cntB l no)) (n := cntB l no) cnt_le
  rw [set_put hs hok hz, List.map_append, List.map_append, List.map_take, List.map_drop, h, tc.1, tc.2]; rfl
theorem len_eq {l : List Bl} {G : List BV} {no : Int} (hs : SortB l) (h : G.map Prod.fst = l.take (cntB l no) ++ l.drop (if hasB l no then cntB l no + 1 else cntB l no)) : G.length ≤ l.length ∧ cntB l no ≤ G.length := by
  have h1 := congrArg List.length h
  have h2 := cnt_le (l := l) (no := no)
  simp only [List.length_map, List.length_append, List.length_take, List.length_drop] at h1
  by_cases hh : hasB l no = true
  · rw [if_pos hh] at h1; omega
  · rw [if_neg hh] at h1; omega
set_option maxHeartbeats 4000000 in
theorem set_ok (v : Value) (l : List Bl) (no : Int) (vb : Value) (b : List UInt8) (w : World) (h : Bls w v l) (hr : RightB l) (hb : Bytes w vb b) : FnOk Try.prog 24 [v, i64 no, vb] w (fun r w' => (∃ F, F.map Prod.fst = setB l no b ∧ BOwn w' w.heap.size r F) ∧ Ext w w') := by
  refine FnOk.enter (rs := [6]) Try.func24 rfl Try.ntmps24 Try.results24 rfl rfl ?_
  refine WF.seq ?_
  refine WF.region ?_
  refine WL.va rfl rfl rfl (X.assign rfl) ?_
  refine WL.nil ?_
  refine thn_n ?_
  refine WF.seq ?_
  refine WF.region ?_
  refine WL.va rfl rfl rfl (X.move rfl) ?_
  refine WL.c rfl rfl rfl (X.call Try.call45 (evl_cons rfl evl_nil)) (fresh_ok _ l _ h (by have := right_len hr; omega) (fun s hs => by have := (hr.each s hs).2.2.1; omega)) ?_
  rintro vf wf ⟨⟨F, rfl, oF⟩, hx1⟩
  have hFl := right_len hr
  rw [List.length_map] at hFl
  refine WL.va rfl rfl rfl (X.assign rfl) ?_
  refine WL.nil ?_
  refine thn_n ?_
  refine WF.seq ?_
  refine WF.seq ?_
  refine WF.region ?_
  refine WL.va rfl rfl rfl (X.moveI rfl) ?_
  refine WL.va rfl rfl rfl (X.lss rfl rfl) ?_
  refine WL.va rfl rfl rfl (X.moveB rfl) ?_
  refine WL.split (j := 2) rfl (fun h3 => ?_) (fun h3 => ?_)
  · have gh3 := (of_decide_eq_true h3)
    have hbad : okB no b = false := decide_eq_false (by omega)
    refine WL.p rfl rfl rfl (congrArg some h3) ?_
    refine WL.p rfl rfl rfl (congrArg some h3) ?_
    refine WL.va rfl rfl rfl (X.pickT rfl h3 rfl) ?_
    refine WL.va rfl rfl rfl (X.moveB rfl) ?_
    refine WL.p rfl rfl rfl rfl ?_
    refine WL.p rfl rfl rfl rfl ?_
    refine WL.p rfl rfl rfl rfl ?_
    refine WL.va rfl rfl rfl (X.pickT rfl rfl rfl) ?_
    refine WL.nil ?_
    refine thn_n ?_
    refine WF.cond_t rfl ?_
    refine WF.seq ?_
    refine WF.region ?_
    refine WL.va rfl rfl rfl (X.move rfl) ?_
    refine WL.va rfl rfl rfl (X.assign rfl) ?_
    refine WL.nil ?_
    refine thn_n ?_
    refine WF.ret ?_
    refine thn_r ?_
    refine fin_r ?_
    exact ⟨⟨F, by rw [set_no hbad], oF⟩, hx1⟩
  · have gh3 := (of_decide_eq_false h3)
    have h0 := gh3
    refine WL.vg rfl (congrArg some h3) rfl rfl (X.moveI rfl) ?_
    refine WL.vg rfl (congrArg some h3) rfl rfl (X.geq rfl rfl) ?_
    refine WL.va rfl rfl rfl (X.pickF rfl h3 rfl) ?_
    refine WL.va rfl rfl rfl (X.moveB rfl) ?_
    refine WL.split (j := 6) rfl (fun h7 => ?_) (fun h7 => ?_)
    · have gh7 := (of_decide_eq_true h7)
      have hbad : okB no b = false := decide_eq_false (by omega)
      refine WL.p rfl rfl rfl (congrArg some h7) ?_
      refine WL.p rfl rfl rfl (congrArg some h7) ?_
      refine WL.p rfl rfl rfl (congrArg some h7) ?_
      refine WL.va rfl rfl rfl (X.pickT rfl h7 rfl) ?_
      refine WL.nil ?_
      refine thn_n ?_
      refine WF.cond_t rfl ?_
      refine WF.seq ?_
      refine WF.region ?_
      refine WL.va rfl rfl rfl (X.move rfl) ?_
      refine WL.va rfl rfl rfl (X.assign rfl) ?_
      refine WL.nil ?_
      refine thn_n ?_
      refine WF.ret ?_
      refine thn_r ?_
      refine fin_r ?_
      exact ⟨⟨F, by rw [set_no hbad], oF⟩, hx1⟩
    · have gh7 := (of_decide_eq_false h7)
      have h1 := gh7
      refine WL.vg rfl (congrArg some h7) rfl rfl (X.move rfl) ?_
      refine WL.vg rfl (congrArg some h7) rfl rfl (X.len hb rfl Try.underlying36) ?_
      refine WL.vg rfl (congrArg some h7) rfl rfl (X.neq rfl rfl) ?_
      refine WL.va rfl rfl rfl (X.pickF rfl h7 rfl) ?_
      refine WL.nil ?_
      refine thn_n ?_
      refine WF.cond rfl (fun h0_9 => ?_) (fun h0_9 => ?_)
      · have gh0_9 := (of_decide_eq_true h0_9)
        have hbad : okB no b = false := decide_eq_false (by omega)
        refine WF.seq ?_
        refine WF.region ?_
        refine WL.va rfl rfl rfl (X.move rfl) ?_
        refine WL.va rfl rfl rfl (X.assign rfl) ?_
        refine WL.nil ?_
        refine thn_n ?_
        refine WF.ret ?_
        refine thn_r ?_
        refine fin_r ?_
        exact ⟨⟨F, by rw [set_no hbad], oF⟩, hx1⟩
      · have gh0_9 := (Decidable.of_not_not (of_decide_eq_false h0_9))
        have hb4 : b.length = 4 := by omega
        have hok : okB no b = true := decide_eq_true ⟨by omega, by omega, hb4⟩
        refine WF.skip ?_
        refine thn_n ?_
        refine WF.seq ?_
        refine WF.region ?_
        refine WL.va rfl rfl rfl (X.move rfl) ?_
        refine WL.va rfl rfl rfl (X.moveI rfl) ?_
        refine WL.c rfl rfl rfl (X.call Try.call46 (evl_cons rfl (evl_cons rfl evl_nil))) (find_ok _ F no _ (Row.ext oF.srow (Ext.refl wf)) (by omega) hr.sort (fun x hx => ⟨(hr.each x hx).1, (hr.each x hx).2.1⟩) ⟨by omega, by omega⟩) ?_
        rintro v12 w11 ⟨rfl, hx13⟩
        refine WL.va rfl rfl rfl (X.move rfl) ?_
        refine WL.va rfl rfl rfl (X.extract rfl rfl) ?_
        refine WL.va rfl rfl rfl (X.extract rfl rfl) ?_
        refine WL.va rfl rfl rfl (X.assignI rfl) ?_
        refine WL.va rfl rfl rfl (X.assignB rfl) ?_
        refine WL.nil ?_
        refine thn_n ?_
        refine WF.named (fun F15 hF16 => ?_)
        refine WF.cut (fun f' w' => ∃ (v0 : Value) (G : List BV), f' 0 = v0 ∧ Agree [1, 2, 6, 7, 8, 9, 10, 11, 12, 13, 14, 15, 16, 17, 18, 19, 20, 21, 23, 24, 25, 26, 27, 28] f' F15 ∧ Ext w w' ∧ BOwn w' w.heap.size v0 G ∧ G.map Prod.fst = (F.map Prod.fst).take (cntB (F.map Prod.fst) no) ++ (F.map Prod.fst).drop (if hasB (F.map Prod.fst) no then (cntB (F.map Prod.fst) no) + 1 else (cntB (F.map Prod.fst) no))) ?_ ?_
        · refine WF.seq ?_
          refine WF.region ?_
          refine WL.va rfl rfl rfl (X.moveB (congrFun hF16 8)) ?_
          refine WL.nil ?_
          refine thn_n ?_
          refine WF.cond rfl (fun h1_16 => ?_) (fun h1_16 => ?_)
          · have gh1_16 := h1_16
            have hth := gh1_16
            obtain ⟨hk, he⟩ := (has_iff hr.sort).1 gh1_16
            have hk2 : (cntB (F.map Prod.fst) no) < F.length := by simpa using hk
            refine WF.region ?_
            refine WL.va rfl rfl rfl (X.move (congrFun hF16 0)) ?_
            refine WL.va rfl rfl rfl (X.moveI (congrFun hF16 7)) ?_
            refine WL.va rfl rfl rfl (X.moveI (congrFun hF16 7)) ?_
            refine WL.va rfl rfl rfl (X.add rfl rfl (show _ = (((cntB (F.map Prod.fst) no) + 1 : Nat) : Int) from w64 (by omega))) ?_
            have hxD := (show Ext wf w11 from hx13)
            refine WL.c rfl rfl rfl (X.call Try.call47 (evl_cons rfl (evl_cons rfl (evl_cons rfl evl_nil)))) (deleteB_ok _ _ F.length (cntB (F.map Prod.fst) no) _ _ (own_ext oF.row hxD) oF.sdat.one hk2 (by omega)) ?_
            rintro v19 w18 ⟨od, gd, bd⟩
            have oG0 := BOwn.del (oF.ext hxD) hk2 od gd bd
            have hG := And.intro oG0 (show List.map Prod.fst (F.take (cntB (F.map Prod.fst) no) ++ F.drop ((cntB (F.map Prod.fst) no) + 1)) = (F.map Prod.fst).take (cntB (F.map Prod.fst) no) ++ (F.map Prod.fst).drop (if hasB (F.map Prod.fst) no then (cntB (F.map Prod.fst) no) + 1 else (cntB (F.map Prod.fst) no)) from by rw [hth, if_pos rfl, List.map_append, List.map_take, List.map_drop])
            refine WL.va rfl rfl rfl (X.assign rfl) ?_
            refine WL.nil ?_
            refine thn_n ?_
            exact ⟨_, _, rfl, (by repeat (first | exact (Agree.refl _ F15) | refine Agree.put ?_ rfl | refine Agree.named hF16 ?_)), (Ext.own (Ext.trans hx1 hx13) (own_ext oF.row hxD) (Nat.le_refl _) gd), hG⟩
          · have gh1_16 := h1_16
            have hG := And.intro (oF.ext (show Ext wf w11 from hx13)) (show F.map Prod.fst = (F.map Prod.fst).take (cntB (F.map Prod.fst) no) ++ (F.map Prod.fst).drop (if hasB (F.map Prod.fst) no then (cntB (F.map Prod.fst) no) + 1 else (cntB (F.map Prod.fst) no)) from by rw [gh1_16, if_neg (by simp), List.take_append_drop])
            refine WF.skip ?_
            refine thn_n ?_
            exact ⟨_, _, (congrFun hF16 0), (by repeat (first | exact (Agree.refl _ F15) | refine Agree.put ?_ rfl | refine Agree.named hF16 ?_)), (Ext.trans hx1 hx13), hG⟩
        · rintro fCs5 wCs5 ⟨v0, G, e0_Cs5, hACs5, hwCs5, ⟨oG, hGm⟩⟩
          have hlG := len_eq hr.sort hGm
          rw [List.length_map] at hlG
          refine WF.seq ?_
          refine WF.seq ?_
          refine WF.region ?_
          refine WL.va rfl rfl rfl (X.move ((hACs5.eq 2).trans (congrFun hF16 2))) ?_
          refine WL.c rfl rfl rfl (X.call Try.call48 (evl_cons rfl evl_nil)) (of_ok _ b _ (Row.ext hb hwCs5) hb4) ?_
          rintro v22 w21 ⟨rfl, hx23⟩
          refine WL.va rfl rfl rfl (X.buildArr0 Try.underlying76 Try.zeroValue76 Try.sizeOf5) ?_
          refine WL.va rfl rfl rfl (X.eqlBy (la := b) (lb := zero4) (by kernel_rfl) Try.underlying76 Try.underlying5 Try.sizeOf5 rfl rfl hb4 rfl) ?_
          refine WL.nil ?_
          refine thn_n ?_
          refine WF.cond rfl (fun h2_24 => ?_) (fun h2_24 => ?_)
          · have gh2_24 := h2_24
            have hz := of_decide_eq_true gh2_24
            refine WF.seq ?_
            refine WF.region ?_
            refine WL.va rfl rfl rfl (X.move e0_Cs5) ?_
            refine WL.va rfl rfl rfl (X.assign rfl) ?_
            refine WL.nil ?_
            refine thn_n ?_
            refine WF.ret ?_
            refine thn_r ?_
            refine fin_r ?_
            exact ⟨⟨G, by rw [hGm, set_zero hr.sort hok hz], oG.ext hx23⟩, (Ext.trans hwCs5 hx23)⟩
          · have gh2_24 := h2_24
            have hz := of_decide_eq_false gh2_24
            refine WF.skip ?_
            refine thn_n ?_
            refine WF.seq ?_
            refine WF.region ?_
            refine WL.va rfl rfl rfl (X.move e0_Cs5) ?_
            refine WL.va rfl rfl rfl (X.moveI ((hACs5.eq 7).trans (congrFun hF16 7))) ?_
            refine WL.va rfl rfl rfl (X.moveI ((hACs5.eq 1).trans (congrFun hF16 1))) ?_
            refine WL.va rfl rfl rfl (X.move ((hACs5.eq 2).trans (congrFun hF16 2))) ?_
            have oGN := oG.ext (show Ext wCs5 w21 from hx23)
            have hBn := World.grownBy.size (show Ext w w21 from (Ext.trans hwCs5 hx23))
            refine WL.c rfl rfl rfl (X.call Try.call50 (evl_cons rfl evl_nil)) (cloneB_ok _ b _ (Row.ext hb (Ext.trans hwCs5 hx23)) (by omega)) ?_
            rintro dv wn1 ⟨od, hx26⟩
            have gq1 := hx26
            have hsz1 := World.grownBy.size gq1
            refine WL.va rfl rfl rfl (X.buildL (P := Try.prog) (t := 74) (cs := (BV.c ((⟨no, b⟩ : Bl), dv))) (evp_cons rfl (evp_cons rfl evp_nil)) Try.type74 Try.underlying74 rfl rfl ⟨rfl, own_one od, trivial⟩ rfl) ?_
            refine WL.op rfl (OW.lits (vs := [agg (BV.c ((⟨no, b⟩ : Bl), dv))]) (evp_cons rfl evp_nil) Try.underlying52 Try.sizeOf74 Try.zeroValue74 ⟨rfl, trivial⟩ rfl rfl rfl ?_ (by decide))
            intro v28 w27 ho30 hx29
            have o1 : World.ownsRow w27 _ 74 2 v28 1 (BV.c ((⟨no, b⟩ : Bl), dv)) := ho30
            have hw2 := (show Ext wn1 w27 from hx29)
            have hsz2 := World.grownBy.size (Ext.trans gq1 hw2)
            refine WL.c rfl rfl rfl (X.call Try.call49 (evl_cons rfl (evl_cons rfl (evl_cons rfl evl_nil)))) (insertB_ok _ _ _ _ G.length (cntB (F.map Prod.fst) no) _ _ _ (own_ext oGN.row (Ext.trans gq1 hw2)) o1 (fun b h1 h2 => by have := (o1.lt b h1).1; have := (oGN.row.lt b h2).2; omega) oGN.sdat.one (BV.c_one (e := ((⟨no, b⟩ : Bl), dv)) (Bytes.of_own od)) (by omega) (by omega) (by omega)) ?_
            rintro v32 w31 ⟨oi, hx33, hmv⟩
            have oR := oGN.ins (s := (⟨no, b⟩ : Bl)) od gq1 hw2 (by omega) oi hx33 hmv hBn
            refine WL.va rfl rfl rfl (X.assign rfl) ?_
            refine WL.nil ?_
            refine thn_n ?_
            refine WF.ret ?_
            refine fin_r ?_
            exact ⟨⟨_, put_eq hr.sort hok hz hGm, oR⟩, (Ext.own (Ext.trans (Ext.trans (Ext.trans hwCs5 hx23) hx26) hx29) (own_ext oGN.row (Ext.trans gq1 hw2)) (Nat.le_refl _) hx33)⟩

end Go.Proofs.Ytobjmehppmhkdaa
