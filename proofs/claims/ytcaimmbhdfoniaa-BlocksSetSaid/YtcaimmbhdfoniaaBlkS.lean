/- The walks of blocks.Set, In, Without and Join. -/
import Derived.Test.YtcaimmbhdfoniaaBlkP
namespace Go.Proofs.Ytcaimmbhdfoniaa
open Go Go.RowKit Kf

theorem put_eq {l : List Bl} {G : List BV} {no : Int} {b : List UInt8} {dv : Value} (hs : SortB l) (hok : okB no b = true) (hz : ¬ b = zero4) (h : G.map Prod.fst = l.take (cntB l no) ++ l.drop (if hasB l no then cntB l no + 1 else cntB l no)) : (G.take (cntB l no) ++ [((⟨no, b⟩ : Bl), dv)] ++ G.drop (cntB l no)).map Prod.fst = setB l no b := by
  have tc := take_cnt (l := l) (r := l.drop (if hasB l no then cntB l no + 1 else cntB l no)) (n := cntB l no) cnt_le
  rw [set_put hs hok hz, List.map_append, List.map_append, List.map_take, List.map_drop, h, tc.1, tc.2]; rfl
theorem len_eq {l : List Bl} {G : List BV} {no : Int} (hs : SortB l) (h : G.map Prod.fst = l.take (cntB l no) ++ l.drop (if hasB l no then cntB l no + 1 else cntB l no)) : G.length ≤ l.length ∧ cntB l no ≤ G.length := by
  have h1 := congrArg List.length h
  have h2 := cnt_le (l := l) (no := no)
  simp only [List.length_map, List.length_append, List.length_take, List.length_drop] at h1
  by_cases hh : hasB l no = true
  · rw [if_pos hh] at h1; omega
  · rw [if_neg hh] at h1; omega
set_option maxHeartbeats 4000000 in
theorem set_ok (v : Value) (l : List Bl) (no : Int) (vb : Value) (b : List UInt8) (w : World) (h : Bls w v l) (hr : RightB l) (hb : Bytes w vb b) : FnOk Try.prog 24 [v, i64 no, vb] w (fun r w' => (∃ F, F.map Prod.fst = setB l no b ∧ BOwn w' w.heap.size r F) ∧ Ext w w') := by
  refine FnOk.enter (rs := [6]) Try.func24 rfl Try.ntmps24 Try.results24 rfl rfl ?_
  refine WF.seq ?_
  refine WF.region ?_
  refine WL.va rfl rfl rfl (X.assign rfl) ?_
  refine WL.nil ?_
  refine thn_n ?_
  refine WF.seq ?_
  refine WF.region ?_
  refine WL.va rfl rfl rfl (X.move rfl) ?_
  refine WL.c rfl rfl rfl (X.call Try.call44 (evl_cons rfl evl_nil)) (fresh_ok _ l _ h (by have := right_len hr; omega) (fun s hs => by have := (hr.each s hs).2.2.1; omega)) ?_
  rintro vf wf ⟨⟨F, rfl, oF⟩, hx1⟩
  have hFl := right_len hr
  rw [List.length_map] at hFl
  refine WL.va rfl rfl rfl (X.assign rfl) ?_
  refine WL.nil ?_
  refine thn_n ?_
  refine WF.seq ?_
  refine WF.seq ?_
  refine WF.region ?_
  refine WL.va rfl rfl rfl (X.moveI rfl) ?_
  refine WL.va rfl rfl rfl (X.lss rfl rfl) ?_
  refine WL.va rfl rfl rfl (X.moveB rfl) ?_
  refine WL.split (j := 2) rfl (fun h3 => ?_) (fun h3 => ?_)
  · have gh3 := (of_decide_eq_true h3)
    have hbad : okB no b = false := decide_eq_false (by omega)
    refine WL.p rfl rfl rfl (congrArg some h3) ?_
    refine WL.p rfl rfl rfl (congrArg some h3) ?_
    refine WL.va rfl rfl rfl (X.pickT rfl h3 rfl) ?_
    refine WL.va rfl rfl rfl (X.moveB rfl) ?_
    refine WL.p rfl rfl rfl rfl ?_
    refine WL.p rfl rfl rfl rfl ?_
    refine WL.p rfl rfl rfl rfl ?_
    refine WL.va rfl rfl rfl (X.pickT rfl rfl rfl) ?_
    refine WL.nil ?_
    refine thn_n ?_
    refine WF.cond_t rfl ?_
    refine WF.seq ?_
    refine WF.region ?_
    refine WL.va rfl rfl rfl (X.move rfl) ?_
    refine WL.va rfl rfl rfl (X.assign rfl) ?_
    refine WL.nil ?_
    refine thn_n ?_
    refine WF.ret ?_
    refine thn_r ?_
    refine fin_r ?_
    exact ⟨⟨F, by rw [set_no hbad], oF⟩, hx1⟩
  · have gh3 := (of_decide_eq_false h3)
    have h0 := gh3
    refine WL.vg rfl (congrArg some h3) rfl rfl (X.moveI rfl) ?_
    refine WL.vg rfl (congrArg some h3) rfl rfl (X.geq rfl rfl) ?_
    refine WL.va rfl rfl rfl (X.pickF rfl h3 rfl) ?_
    refine WL.va rfl rfl rfl (X.moveB rfl) ?_
    refine WL.split (j := 6) rfl (fun h7 => ?_) (fun h7 => ?_)
    · have gh7 := (of_decide_eq_true h7)
      have hbad : okB no b = false := decide_eq_false (by omega)
      refine WL.p rfl rfl rfl (congrArg some h7) ?_
      refine WL.p rfl rfl rfl (congrArg some h7) ?_
      refine WL.p rfl rfl rfl (congrArg some h7) ?_
      refine WL.va rfl rfl rfl (X.pickT rfl h7 rfl) ?_
      refine WL.nil ?_
      refine thn_n ?_
      refine WF.cond_t rfl ?_
      refine WF.seq ?_
      refine WF.region ?_
      refine WL.va rfl rfl rfl (X.move rfl) ?_
      refine WL.va rfl rfl rfl (X.assign rfl) ?_
      refine WL.nil ?_
      refine thn_n ?_
      refine WF.ret ?_
      refine thn_r ?_
      refine fin_r ?_
      exact ⟨⟨F, by rw [set_no hbad], oF⟩, hx1⟩
    · have gh7 := (of_decide_eq_false h7)
      have h1 := gh7
      refine WL.vg rfl (congrArg some h7) rfl rfl (X.move rfl) ?_
      refine WL.vg rfl (congrArg some h7) rfl rfl (X.len hb rfl Try.underlying34) ?_
      refine WL.vg rfl (congrArg some h7) rfl rfl (X.neq rfl rfl) ?_
      refine WL.va rfl rfl rfl (X.pickF rfl h7 rfl) ?_
      refine WL.nil ?_
      refine thn_n ?_
      refine WF.cond rfl (fun h0_9 => ?_) (fun h0_9 => ?_)
      · have gh0_9 := (of_decide_eq_true h0_9)
        have hbad : okB no b = false := decide_eq_false (by omega)
        refine WF.seq ?_
        refine WF.region ?_
        refine WL.va rfl rfl rfl (X.move rfl) ?_
        refine WL.va rfl rfl rfl (X.assign rfl) ?_
        refine WL.nil ?_
        refine thn_n ?_
        refine WF.ret ?_
        refine thn_r ?_
        refine fin_r ?_
        exact ⟨⟨F, by rw [set_no hbad], oF⟩, hx1⟩
      · have gh0_9 := (Decidable.of_not_not (of_decide_eq_false h0_9))
        have hb4 : b.length = 4 := by omega
        have hok : okB no b = true := decide_eq_true ⟨by omega, by omega, hb4⟩
        refine WF.skip ?_
        refine thn_n ?_
        refine WF.seq ?_
        refine WF.region ?_
        refine WL.va rfl rfl rfl (X.move rfl) ?_
        refine WL.va rfl rfl rfl (X.moveI rfl) ?_
        refine WL.c rfl rfl rfl (X.call Try.call45 (evl_cons rfl (evl_cons rfl evl_nil))) (find_ok _ F no _ (Row.ext oF.srow (Ext.refl wf)) (by omega) hr.sort (fun x hx => ⟨(hr.each x hx).1, (hr.each x hx).2.1⟩) ⟨by omega, by omega⟩) ?_
        rintro v12 w11 ⟨rfl, hx13⟩
        refine WL.va rfl rfl rfl (X.move rfl) ?_
        refine WL.va rfl rfl rfl (X.extract rfl rfl) ?_
        refine WL.va rfl rfl rfl (X.extract rfl rfl) ?_
        refine WL.va rfl rfl rfl (X.assignI rfl) ?_
        refine WL.va rfl rfl rfl (X.assignB rfl) ?_
        refine WL.nil ?_
        refine thn_n ?_
        refine WF.named (fun F15 hF16 => ?_)
        refine WF.cut (fun f' w' => ∃ (v0 : Value) (G : List BV), f' 0 = v0 ∧ Agree [1, 2, 6, 7, 8, 9, 10, 11, 12, 13, 14, 15, 16, 17, 18, 19, 20, 21, 23, 24, 25, 26, 27, 28] f' F15 ∧ Ext w w' ∧ BOwn w' w.heap.size v0 G ∧ G.map Prod.fst = (F.map Prod.fst).take (cntB (F.map Prod.fst) no) ++ (F.map Prod.fst).drop (if hasB (F.map Prod.fst) no then (cntB (F.map Prod.fst) no) + 1 else (cntB (F.map Prod.fst) no))) ?_ ?_
        · refine WF.seq ?_
          refine WF.region ?_
          refine WL.va rfl rfl rfl (X.moveB (congrFun hF16 8)) ?_
          refine WL.nil ?_
          refine thn_n ?_
          refine WF.cond rfl (fun h1_16 => ?_) (fun h1_16 => ?_)
          · have gh1_16 := h1_16
            have hth := gh1_16
            obtain ⟨hk, he⟩ := (has_iff hr.sort).1 gh1_16
            have hk2 : (cntB (F.map Prod.fst) no) < F.length := by simpa using hk
            refine WF.region ?_
            refine WL.va rfl rfl rfl (X.move (congrFun hF16 0)) ?_
            refine WL.va rfl rfl rfl (X.moveI (congrFun hF16 7)) ?_
            refine WL.va rfl rfl rfl (X.moveI (congrFun hF16 7)) ?_
            refine WL.va rfl rfl rfl (X.add rfl rfl (show _ = (((cntB (F.map Prod.fst) no) + 1 : Nat) : Int) from w64 (by omega))) ?_
            have hxD := (show Ext wf w11 from hx13)
            refine WL.c rfl rfl rfl (X.call Try.call46 (evl_cons rfl (evl_cons rfl (evl_cons rfl evl_nil)))) (deleteB_ok _ _ F.length (cntB (F.map Prod.fst) no) _ _ (own_ext oF.row hxD) oF.sdat.one hk2 (by omega)) ?_
            rintro v19 w18 ⟨od, gd, bd⟩
            have oG0 := BOwn.del (oF.ext hxD) hk2 od gd bd
            have hG := And.intro oG0 (show List.map Prod.fst (F.take (cntB (F.map Prod.fst) no) ++ F.drop ((cntB (F.map Prod.fst) no) + 1)) = (F.map Prod.fst).take (cntB (F.map Prod.fst) no) ++ (F.map Prod.fst).drop (if hasB (F.map Prod.fst) no then (cntB (F.map Prod.fst) no) + 1 else (cntB (F.map Prod.fst) no)) from by rw [hth, if_pos rfl, List.map_append, List.map_take, List.map_drop])
            refine WL.va rfl rfl rfl (X.assign rfl) ?_
            refine WL.nil ?_
            refine thn_n ?_
            exact ⟨_, _, rfl, (by repeat (first | exact (Agree.refl _ F15) | refine Agree.put ?_ rfl | refine Agree.named hF16 ?_)), (Ext.own (Ext.trans hx1 hx13) (own_ext oF.row hxD) (Nat.le_refl _) gd), hG⟩
          · have gh1_16 := h1_16
            have hG := And.intro (oF.ext (show Ext wf w11 from hx13)) (show F.map Prod.fst = (F.map Prod.fst).take (cntB (F.map Prod.fst) no) ++ (F.map Prod.fst).drop (if hasB (F.map Prod.fst) no then (cntB (F.map Prod.fst) no) + 1 else (cntB (F.map Prod.fst) no)) from by rw [gh1_16, if_neg (by simp), List.take_append_drop])
            refine WF.skip ?_
            refine thn_n ?_
            exact ⟨_, _, (congrFun hF16 0), (by repeat (first | exact (Agree.refl _ F15) | refine Agree.put ?_ rfl | refine Agree.named hF16 ?_)), (Ext.trans hx1 hx13), hG⟩
        · rintro fCs5 wCs5 ⟨v0, G, e0_Cs5, hACs5, hwCs5, ⟨oG, hGm⟩⟩
          have hlG := len_eq hr.sort hGm
          rw [List.length_map] at hlG
          refine WF.seq ?_
          refine WF.seq ?_
          refine WF.region ?_
          refine WL.va rfl rfl rfl (X.move ((hACs5.eq 2).trans (congrFun hF16 2))) ?_
          refine WL.c rfl rfl rfl (X.call Try.call47 (evl_cons rfl evl_nil)) (of_ok _ b _ (Row.ext hb hwCs5) hb4) ?_
          rintro v22 w21 ⟨rfl, hx23⟩
          refine WL.va rfl rfl rfl (X.buildArr0 Try.underlying71 Try.zeroValue71 Try.sizeOf5) ?_
          refine WL.va rfl rfl rfl (X.eqlBy (la := b) (lb := zero4) (by kernel_rfl) Try.underlying71 Try.underlying5 Try.sizeOf5 rfl rfl hb4 rfl) ?_
          refine WL.nil ?_
          refine thn_n ?_
          refine WF.cond rfl (fun h2_24 => ?_) (fun h2_24 => ?_)
          · have gh2_24 := h2_24
            have hz := of_decide_eq_true gh2_24
            refine WF.seq ?_
            refine WF.region ?_
            refine WL.va rfl rfl rfl (X.move e0_Cs5) ?_
            refine WL.va rfl rfl rfl (X.assign rfl) ?_
            refine WL.nil ?_
            refine thn_n ?_
            refine WF.ret ?_
            refine thn_r ?_
            refine fin_r ?_
            exact ⟨⟨G, by rw [hGm, set_zero hr.sort hok hz], oG.ext hx23⟩, (Ext.trans hwCs5 hx23)⟩
          · have gh2_24 := h2_24
            have hz := of_decide_eq_false gh2_24
            refine WF.skip ?_
            refine thn_n ?_
            refine WF.seq ?_
            refine WF.region ?_
            refine WL.va rfl rfl rfl (X.move e0_Cs5) ?_
            refine WL.va rfl rfl rfl (X.moveI ((hACs5.eq 7).trans (congrFun hF16 7))) ?_
            refine WL.va rfl rfl rfl (X.moveI ((hACs5.eq 1).trans (congrFun hF16 1))) ?_
            refine WL.va rfl rfl rfl (X.move ((hACs5.eq 2).trans (congrFun hF16 2))) ?_
            have oGN := oG.ext (show Ext wCs5 w21 from hx23)
            have hBn := World.grownBy.size (show Ext w w21 from (Ext.trans hwCs5 hx23))
            refine WL.c rfl rfl rfl (X.call Try.call38 (evl_cons rfl evl_nil)) (cloneB_ok _ b _ (Row.ext hb (Ext.trans hwCs5 hx23)) (by omega)) ?_
            rintro dv wn1 ⟨od, hx26⟩
            have gq1 := hx26
            have hsz1 := World.grownBy.size gq1
            refine WL.va rfl rfl rfl (X.buildL (P := Try.prog) (t := 58) (cs := (BV.c ((⟨no, b⟩ : Bl), dv))) (evp_cons rfl (evp_cons rfl evp_nil)) Try.type58 Try.underlying58 rfl rfl ⟨rfl, own_one od, trivial⟩ rfl) ?_
            refine WL.op rfl (OW.lits (vs := [agg (BV.c ((⟨no, b⟩ : Bl), dv))]) (evp_cons rfl evp_nil) Try.underlying25 Try.sizeOf58 Try.zeroValue58 ⟨rfl, trivial⟩ rfl rfl rfl ?_ (by decide))
            intro v28 w27 ho30 hx29
            have o1 : World.ownsRow w27 _ 58 2 v28 1 (BV.c ((⟨no, b⟩ : Bl), dv)) := ho30
            have hw2 := (show Ext wn1 w27 from hx29)
            have hsz2 := World.grownBy.size (Ext.trans gq1 hw2)
            refine WL.c rfl rfl rfl (X.call Try.call48 (evl_cons rfl (evl_cons rfl (evl_cons rfl evl_nil)))) (insertB_ok _ _ _ _ G.length (cntB (F.map Prod.fst) no) _ _ _ (own_ext oGN.row (Ext.trans gq1 hw2)) o1 (fun b h1 h2 => by have := (o1.lt b h1).1; have := (oGN.row.lt b h2).2; omega) oGN.sdat.one (BV.c_one (e := ((⟨no, b⟩ : Bl), dv)) (Bytes.of_own od)) (by omega) (by omega) (by omega)) ?_
            rintro v32 w31 ⟨oi, hx33, hmv⟩
            have oR := oGN.ins (s := (⟨no, b⟩ : Bl)) od gq1 hw2 (by omega) oi hx33 hmv hBn
            refine WL.va rfl rfl rfl (X.assign rfl) ?_
            refine WL.nil ?_
            refine thn_n ?_
            refine WF.ret ?_
            refine fin_r ?_
            exact ⟨⟨_, put_eq hr.sort hok hz hGm, oR⟩, (Ext.own (Ext.trans (Ext.trans (Ext.trans hwCs5 hx23) hx26) hx29) (own_ext oGN.row (Ext.trans gq1 hw2)) (Nat.le_refl _) hx33)⟩

theorem inLit_ok (n lo hi : Int) (g : Nat) (w : World) (h : Blk w g 30 [i64 lo, i64 hi]) : FnOk Try.prog 62 [i64 n, at_ g] w (fun r w' => r = .bool (inSp lo hi n) ∧ Ext w w') := by
  refine FnOk.enter (rs := [3]) Try.func62 rfl Try.ntmps62 Try.results62 rfl rfl ?_
  refine WF.seq ?_
  refine WF.region ?_
  refine WL.va rfl rfl rfl (X.assignB rfl) ?_
  refine WL.nil ?_
  refine thn_n ?_
  refine WF.seq ?_
  refine WF.region ?_
  refine WL.va rfl rfl rfl (X.moveI rfl) ?_
  refine WL.va rfl rfl rfl (X.fieldAddrO (off := 0) rfl Try.underlying30 rfl rfl Try.sizeOf3) ?_
  refine WL.va rfl rfl rfl (X.loadO h (Ext.refl _) rfl rfl Try.isAgg3) ?_
  refine WL.va rfl rfl rfl (X.geq rfl rfl) ?_
  refine WL.va rfl rfl rfl (X.moveB rfl) ?_
  refine WL.split (j := 4) rfl (fun h3 => ?_) (fun h3 => ?_)
  · have gh3 := (of_decide_eq_true h3)
    have h1 := gh3
    refine WL.vg rfl (congrArg some h3) rfl rfl (X.moveI rfl) ?_
    refine WL.vg rfl (congrArg some h3) rfl rfl (X.fieldAddrO (off := 1) rfl Try.underlying30 rfl rfl Try.sizeOf3) ?_
    refine WL.vg rfl (congrArg some h3) rfl rfl (X.loadO h (Ext.refl _) rfl rfl Try.isAgg3) ?_
    refine WL.vg rfl (congrArg some h3) rfl rfl (X.lss rfl rfl) ?_
    refine WL.va rfl rfl rfl (X.pickT rfl h3 rfl) ?_
    refine WL.va rfl rfl rfl (X.assignB rfl) ?_
    refine WL.nil ?_
    refine thn_n ?_
    refine WF.ret ?_
    refine fin_r ?_
    exact ⟨congrArg Value.bool (by unfold inSp; first | exact (decide_eq_false (fun e => h1 e.1)).symm | (rw [decide_eq_decide]; exact ⟨fun h => ⟨h1, h⟩, fun h => h.2⟩)), (Ext.refl _)⟩
  · have gh3 := (of_decide_eq_false h3)
    have h1 := gh3
    refine WL.p rfl rfl rfl (congrArg some h3) ?_
    refine WL.p rfl rfl rfl (congrArg some h3) ?_
    refine WL.p rfl rfl rfl (congrArg some h3) ?_
    refine WL.p rfl rfl rfl (congrArg some h3) ?_
    refine WL.va rfl rfl rfl (X.pickF rfl h3 rfl) ?_
    refine WL.va rfl rfl rfl (X.assignB rfl) ?_
    refine WL.nil ?_
    refine thn_n ?_
    refine WF.ret ?_
    refine fin_r ?_
    exact ⟨congrArg Value.bool (by unfold inSp; first | exact (decide_eq_false (fun e => h1 e.1)).symm | (rw [decide_eq_decide]; exact ⟨fun h => ⟨h1, h⟩, fun h => h.2⟩)), (Ext.refl _)⟩

theorem inside_ok (lo hi : Int) (w : World) : FnOk Try.prog 53 [agg [i64 lo, i64 hi]] w (fun r w' => (∃ g, r = .func (.func 62) #[] [at_ g].toArray ∧ Blk w' g 30 [i64 lo, i64 hi]) ∧ Ext w w') := by
  refine FnOk.enter (rs := [2]) Try.func53 rfl Try.ntmps53 Try.results53 rfl rfl ?_
  refine WF.seq ?_
  refine WF.region ?_
  refine WL.op rfl (OW.boxA (cs := [i64 lo, i64 hi]) rfl ?_ (by decide))
  intro g1 w1 heg1 hlg1 hO1 hx3
  have := World.grownBy.size hx3
  refine WL.va rfl rfl rfl (X.assign rfl) ?_
  refine WL.nil ?_
  refine thn_n ?_
  refine WF.seq ?_
  refine WF.region ?_
  refine WL.va rfl rfl rfl (X.makeFunc (evl_cons rfl evl_nil)) ?_
  refine WL.va rfl rfl rfl (X.assign rfl) ?_
  refine WL.nil ?_
  refine thn_n ?_
  refine WF.ret ?_
  refine fin_r ?_
  exact ⟨⟨_, rfl, hO1⟩, hx3⟩

set_option maxHeartbeats 1600000 in
theorem part_ok (v vf : Value) (l : List Bl) (p : Int → Bool) (w : World) (h : Bls w v l) (hm : l.length ≤ 1000000) (hd : ∀ s ∈ l, s.Data.length ≤ 1000000) (hf : ∀ n w1, Ext w w1 → CloOk Try.prog vf [i64 n] w1 (fun r w2 => r = .bool (p n) ∧ Ext w1 w2)) : FnOk Try.prog 52 [v, vf] w (fun r w' => (∃ F, F.map Prod.fst = l.filter (fun x => p x.No) ∧ BOwn w' w.heap.size r F) ∧ Ext w w') := by
  obtain ⟨E, rfl, re, de⟩ := h
  simp only [List.length_map] at hm
  refine FnOk.enter (rs := [4]) Try.func52 rfl Try.ntmps52 Try.results52 rfl rfl ?_
  refine WF.seq ?_
  refine WF.region ?_
  refine WL.va rfl rfl rfl (X.assign rfl) ?_
  refine WL.nil ?_
  refine thn_n ?_
  refine WF.seq ?_
  refine WF.region ?_
  refine WL.va rfl rfl rfl (X.assign rfl) ?_
  refine WL.nil ?_
  refine thn_n ?_
  refine WF.seq ?_
  refine WF.seq ?_
  refine WF.region ?_
  refine WL.va rfl rfl rfl (X.move rfl) ?_
  refine WL.va rfl rfl rfl (X.len re rfl Try.underlying25) ?_
  refine WL.va rfl rfl rfl (X.moveI rfl) ?_
  refine WL.nil ?_
  refine thn_n ?_
  refine WF.block ?_
  refine WF.named (fun F1 hF2 => ?_)
  refine WF.loopN (fun mL0 f' w' => ∃ (k : Nat) (vo : Value) (O : List BV), mL0 = E.length - k ∧ f' 10 = .int .i64 (k : Int) ∧ f' 5 = vo ∧ Agree [0, 1, 4, 8, 9] f' F1 ∧ Ext w w' ∧ k ≤ E.length ∧ O.length ≤ k ∧ BOwnR w' w.heap.size vo O ∧ BDat w O ∧ O.map Prod.fst = ((E.map Prod.fst).take k).filter (fun x => p x.No)) ?_ ?_
  · exact ⟨_, 0, (.slice none 0 0), [], rfl, (congrFun hF2 10), (congrFun hF2 5), (Agree.refl _ _), (Ext.refl _), ⟨Nat.zero_le _, Nat.le_refl _, BOwnR.nil _ _, (fun e he => by cases he), rfl⟩⟩
  · rintro mL0 fL0 wL0 ⟨k, vo, O, hmL0, e10_L0, e5_L0, hAL0, hwL0, ⟨hk0, hOl, ho, hD, hO⟩⟩
    refine WF.seq ?_
    refine WF.region ?_
    refine WL.va rfl rfl rfl (X.lss e10_L0 ((hAL0.eq 9).trans (congrFun hF2 9))) ?_
    refine WL.nil ?_
    refine thn_n ?_
    refine WF.seq ?_
    refine WF.cond rfl (fun h0_3 => ?_) (fun h0_3 => ?_)
    · have gh0_3 := (of_decide_eq_true h0_3)
      have hk : k < E.length := by omega
      refine WF.skip ?_
      refine thn_n ?_
      refine WF.seq ?_
      refine WF.block ?_
      refine WF.seq ?_
      refine WF.region ?_
      refine WL.va rfl rfl rfl (X.idx re ((hAL0.eq 8).trans (congrFun hF2 8)) e10_L0 (by omega) Try.underlying25 Try.sizeOf58) ?_
      refine WL.va rfl rfl rfl (X.loadEl re hwL0 rfl (by omega) (BRow.el hk) Try.isAgg58 Try.sizeOf58) ?_
      refine WL.op rfl (OW.allocO (cs := [i64 0, .slice none 0 0]) Try.zeroValue58 rfl ?_ (by decide))
      intro g7 w5 heg7 hlg7 hO7 hx7
      have := World.grownBy.size hx7
      refine WL.op rfl (OW.storeOA hO7 rfl rfl rfl (BDat.one1 de hk) Try.sizeOf58 ?_)
      intro w9 hO7 hx11
      have := World.grownBy.size hx11
      replace hO7 : Blk _ _ _ (BV.c (E[k]'hk)) := hO7
      refine WL.nil ?_
      refine thn_n ?_
      refine WF.seq ?_
      refine WF.region ?_
      refine WL.va rfl rfl rfl (X.move ((hAL0.eq 1).trans (congrFun hF2 1))) ?_
      refine WL.va rfl rfl rfl (X.fieldAddrO (off := 0) rfl Try.underlying58 rfl rfl Try.sizeOf3) ?_
      refine WL.va rfl rfl rfl (X.loadO hO7 (Ext.refl _) rfl rfl Try.isAgg3) ?_
      refine WL.op rfl (OW.callV rfl (evl_cons rfl evl_nil) (hf _ _ (Ext.trans hwL0 (Ext.store hx7 hx11 (by omega)))) ?_ (by decide))
      rintro v14 w13 ⟨rfl, hx15⟩
      have := World.grownBy.size hx15
      refine WL.nil ?_
      refine thn_n ?_
      refine WF.cond rfl (fun h1_16 => ?_) (fun h1_16 => ?_)
      · have gh1_16 := h1_16
        have hp := gh1_16
        refine WF.region ?_
        refine WL.va rfl rfl rfl (X.move e5_L0) ?_
        refine WL.va rfl rfl rfl (X.loadOA hO7 hx15 rfl rfl Try.isAgg58 Try.sizeOf58) ?_
        refine WL.op rfl (OW.lits (vs := [agg (BV.c (E[k]'hk))]) (evp_cons rfl evp_nil) Try.underlying25 Try.sizeOf58 Try.zeroValue58 ⟨rfl, trivial⟩ rfl rfl rfl ?_ (by decide))
        intro v19 w18 ho21 hx20
        have := World.grownBy.size hx20
        have o1 : World.ownsRow w18 _ 58 2 v19 1 (BV.c (E[k]'hk)) := ho21
        have hoP := own_ext ho (show Ext wL0 w18 from (Ext.trans (Ext.trans (Ext.store hx7 hx11 (by omega)) hx15) hx20))
        have hwP := (show Ext w w18 from (Ext.trans (Ext.trans (Ext.trans hwL0 (Ext.store hx7 hx11 (by omega))) hx15) hx20))
        refine WL.op rfl (OW.append (bytes := 32) hoP (Row.of_own o1) (BDat.one1 de hk) rfl rfl Try.underlying25 Try.type58 rfl rfl rfl rfl (by decide) (by unfold maxLen; omega) (by omega) (World.grownBy.size hwP) ?_ (by decide))
        intro v23 w22 ho25 hx24 hmvhx24
        have ho2 := BOwnR.app ho25
        have hD2 := BDat.app (e := (E[k]'hk)) hD (de _ (List.getElem_mem hk))
        refine WL.va rfl rfl rfl (X.assign rfl) ?_
        refine WL.nil ?_
        refine blk_n ?_
        refine thn_n ?_
        refine WF.region ?_
        refine WL.va rfl rfl rfl (X.add e10_L0 rfl (w64 (by omega))) ?_
        refine WL.va rfl rfl rfl (X.moveI rfl) ?_
        refine WL.nil ?_
        first | exact thn_n ⟨_, (by omega), k + 1, _, _, rfl, rfl, rfl, (by repeat (first | exact hAL0 | refine Agree.put ?_ rfl | refine Agree.named hF2 ?_)), (Ext.own hwP hoP (Nat.le_refl _) hx24), ⟨by omega, by simp; omega, ho2, hD2, by rw [take_map hk, List.filter_append, List.map_append, hO, List.filter_cons, hp]; rfl⟩⟩ | exact thn_n ⟨_, (by omega), k + 1, _, _, rfl, rfl, rfl, (by repeat (first | exact hAL0 | refine Agree.put ?_ rfl | refine Agree.named hF2 ?_)), (Ext.own hwP hoP (Nat.le_refl _) hx24), ⟨by omega, by omega, ho9, hD, by rw [take_map hk, List.filter_append, hO, List.filter_cons, hp]; simp⟩⟩
      · have gh1_16 := h1_16
        have hp := gh1_16
        have ho9 := own_ext ho (show Ext wL0 w13 from (Ext.trans (Ext.store hx7 hx11 (by omega)) hx15))
        refine WF.skip ?_
        refine blk_n ?_
        refine thn_n ?_
        refine WF.region ?_
        refine WL.va rfl rfl rfl (X.add e10_L0 rfl (w64 (by omega))) ?_
        refine WL.va rfl rfl rfl (X.moveI rfl) ?_
        refine WL.nil ?_
        first | exact thn_n ⟨_, (by omega), k + 1, _, _, rfl, rfl, e5_L0, (by repeat (first | exact hAL0 | refine Agree.put ?_ rfl | refine Agree.named hF2 ?_)), (Ext.trans (Ext.trans hwL0 (Ext.store hx7 hx11 (by omega))) hx15), ⟨by omega, by simp; omega, ho2, hD2, by rw [take_map hk, List.filter_append, List.map_append, hO, List.filter_cons, hp]; rfl⟩⟩ | exact thn_n ⟨_, (by omega), k + 1, _, _, rfl, rfl, e5_L0, (by repeat (first | exact hAL0 | refine Agree.put ?_ rfl | refine Agree.named hF2 ?_)), (Ext.trans (Ext.trans hwL0 (Ext.store hx7 hx11 (by omega))) hx15), ⟨by omega, by omega, ho9, hD, by rw [take_map hk, List.filter_append, hO, List.filter_cons, hp]; simp⟩⟩
    · have gh0_3 := (of_decide_eq_false h0_3)
      refine WF.exit ?_
      refine thn_x ?_
      refine thn_x ?_
      refine blk_eq ?_
      refine thn_n ?_
      refine WF.seq ?_
      refine WF.region ?_
      refine WL.va rfl rfl rfl (X.move e5_L0) ?_
      have szq := World.grownBy.size (show Ext w wL0 from hwL0)
      refine WL.c rfl rfl rfl (X.call Try.call44 (evl_cons rfl evl_nil)) (fresh_ok _ _ _ ⟨O, rfl, Row.of_own (own_ext ho (Ext.refl wL0)), hD.ext hwL0⟩ (by rw [List.length_map]; omega) (fun s hs => by rw [hO, List.mem_filter] at hs; exact hd s (List.mem_of_mem_take hs.1))) ?_
      rintro v27 w26 ⟨⟨G, hG, oG⟩, hx28⟩
      refine WL.va rfl rfl rfl (X.assign rfl) ?_
      refine WL.nil ?_
      refine thn_n ?_
      refine WF.ret ?_
      refine fin_r ?_
      exact ⟨⟨_, by rw [hG, hO, List.take_of_length_le (by simp; omega)], oG.mono szq⟩, (Ext.trans hwL0 hx28)⟩

theorem in_ok (v : Value) (l : List Bl) (lo hi : Int) (w : World) (h : Bls w v l) (hm : l.length ≤ 1000000) (hd : ∀ s ∈ l, s.Data.length ≤ 1000000) : FnOk Try.prog 30 [v, agg [i64 lo, i64 hi]] w (fun r w' => (∃ F, F.map Prod.fst = inB lo hi l ∧ BOwn w' w.heap.size r F) ∧ Ext w w') := by
  refine FnOk.enter (rs := [4]) Try.func30 rfl Try.ntmps30 Try.results30 rfl rfl ?_
  refine WF.seq ?_
  refine WF.region ?_
  refine WL.op rfl (OW.boxA (cs := [i64 lo, i64 hi]) rfl ?_ (by decide))
  intro g3 w1 heg3 hlg3 hO3 hx3
  have := World.grownBy.size hx3
  refine WL.va rfl rfl rfl (X.assign rfl) ?_
  refine WL.nil ?_
  refine thn_n ?_
  refine WF.seq ?_
  refine WF.region ?_
  refine WL.va rfl rfl rfl (X.move rfl) ?_
  refine WL.va rfl rfl rfl (X.loadOA hO3 (Ext.refl _) rfl rfl Try.isAgg30 Try.sizeOf30) ?_
  refine WL.c rfl rfl rfl (X.call Try.call53 (evl_cons rfl evl_nil)) (inside_ok lo hi _) ?_
  rintro v5 wi ⟨⟨g, rfl, hg⟩, hx6⟩
  have := World.grownBy.size hx6
  have szq := World.grownBy.size (show Ext w wi from (Ext.trans hx3 hx6))
  have hgi := (show Ext wi wi from (Ext.refl _))
  refine WL.c rfl rfl rfl (X.call Try.call52 (evl_cons rfl (evl_cons rfl evl_nil))) (part_ok _ _ l (inSp lo hi) _ (h.ext (Ext.trans hx3 hx6)) hm hd (fun n w1 hx => ⟨_, _, rfl, Try.call62, inLit_ok n lo hi g _ (hg.ext (Ext.trans hgi hx))⟩)) ?_
  rintro v8 w7 ⟨⟨F, hF, oF⟩, hx9⟩
  have := World.grownBy.size hx9
  refine WL.va rfl rfl rfl (X.assign rfl) ?_
  refine WL.nil ?_
  refine thn_n ?_
  refine WF.ret ?_
  refine fin_r ?_
  exact ⟨⟨F, hF, oF.mono szq⟩, (Ext.trans (Ext.trans hx3 hx6) hx9)⟩

theorem outLit_ok (n lo hi : Int) (g5 g : Nat) (w : World) (h : Blk w g5 79 [.func (.func 62) #[] [at_ g].toArray]) (hg : Blk w g 30 [i64 lo, i64 hi]) : FnOk Try.prog 54 [i64 n, at_ g5] w (fun r w' => r = .bool (!inSp lo hi n) ∧ Ext w w') := by
  refine FnOk.enter (rs := [3]) Try.func54 rfl Try.ntmps54 Try.results54 rfl rfl ?_
  refine WF.seq ?_
  refine WF.region ?_
  refine WL.va rfl rfl rfl (X.assignB rfl) ?_
  refine WL.nil ?_
  refine thn_n ?_
  refine WF.seq ?_
  refine WF.region ?_
  refine WL.va rfl rfl rfl (X.loadO h (Ext.refl _) rfl rfl Try.isAgg79) ?_
  refine WL.va rfl rfl rfl (X.moveI rfl) ?_
  refine WL.op rfl (OW.callV rfl (evl_cons rfl evl_nil) (show CloOk Try.prog (.func (.func 62) #[] [at_ g].toArray) [i64 n] w (fun r w2 => r = .bool (inSp lo hi n) ∧ Ext w w2) from ⟨_, _, rfl, Try.call62, inLit_ok n lo hi g _ hg⟩) ?_ (by decide))
  rintro v3 w2 ⟨rfl, hx4⟩
  have := World.grownBy.size hx4
  refine WL.va rfl rfl rfl (X.not rfl) ?_
  refine WL.va rfl rfl rfl (X.assignB rfl) ?_
  refine WL.nil ?_
  refine thn_n ?_
  refine WF.ret ?_
  refine fin_r ?_
  exact ⟨rfl, hx4⟩

theorem without_ok (v : Value) (l : List Bl) (lo hi : Int) (w : World) (h : Bls w v l) (hm : l.length ≤ 1000000) (hd : ∀ s ∈ l, s.Data.length ≤ 1000000) : FnOk Try.prog 31 [v, agg [i64 lo, i64 hi]] w (fun r w' => (∃ F, F.map Prod.fst = outB lo hi l ∧ BOwn w' w.heap.size r F) ∧ Ext w w') := by
  refine FnOk.enter (rs := [4]) Try.func31 rfl Try.ntmps31 Try.results31 rfl rfl ?_
  refine WF.seq ?_
  refine WF.region ?_
  refine WL.op rfl (OW.boxA (cs := [i64 lo, i64 hi]) rfl ?_ (by decide))
  intro g3 w1 heg3 hlg3 hO3 hx3
  have := World.grownBy.size hx3
  refine WL.va rfl rfl rfl (X.assign rfl) ?_
  refine WL.nil ?_
  refine thn_n ?_
  refine WF.seq ?_
  refine WF.region ?_
  refine WL.va rfl rfl rfl (X.loadOA hO3 (Ext.refl _) rfl rfl Try.isAgg30 Try.sizeOf30) ?_
  refine WL.c rfl rfl rfl (X.call Try.call53 (evl_cons rfl evl_nil)) (inside_ok lo hi _) ?_
  rintro v5 wi ⟨⟨g, rfl, hg⟩, hx6⟩
  have := World.grownBy.size hx6
  refine WL.op rfl (OW.allocO (cs := [.nilFunc]) Try.zeroValue79 rfl ?_ (by decide))
  intro g5 w7 heg5 hlg5 hO5 hx9
  have := World.grownBy.size hx9
  refine WL.op rfl (OW.storeO hO5 (Nat.le_of_ble_eq_true rfl) rfl rfl rfl Try.sizeOf79 ?_)
  intro ws hO5 hx12
  have := World.grownBy.size hx12
  replace hO3 := (hO3.ext (Ext.trans hx6 hx9)).keptO hx12 (by omega)
  replace hO5 : Blk _ _ _ [.func (.func 62) #[] [at_ g].toArray] := hO5
  refine WL.nil ?_
  refine thn_n ?_
  refine WF.seq ?_
  refine WF.region ?_
  refine WL.va rfl rfl rfl (X.move rfl) ?_
  refine WL.va rfl rfl rfl (X.makeFunc (evl_cons rfl evl_nil)) ?_
  have szq := World.grownBy.size (show Ext w ws from (Ext.trans (Ext.trans hx3 hx6) (Ext.store hx9 hx12 (by omega))))
  have hgi := (show Ext wi ws from (Ext.store hx9 hx12 (by omega)))
  have h5 := hO5
  refine WL.c rfl rfl rfl (X.call Try.call52 (evl_cons rfl (evl_cons rfl evl_nil))) (part_ok _ _ l (fun n => !inSp lo hi n) _ (h.ext (Ext.trans (Ext.trans hx3 hx6) (Ext.store hx9 hx12 (by omega)))) hm hd (fun n w1 hx => ⟨_, _, rfl, Try.call54, outLit_ok n lo hi g5 g _ (h5.ext hx) (hg.ext (Ext.trans hgi hx))⟩)) ?_
  rintro v15 w14 ⟨⟨F, hF, oF⟩, hx16⟩
  have := World.grownBy.size hx16
  refine WL.va rfl rfl rfl (X.assign rfl) ?_
  refine WL.nil ?_
  refine thn_n ?_
  refine WF.ret ?_
  refine fin_r ?_
  exact ⟨⟨F, hF, oF.mono szq⟩, (Ext.trans (Ext.trans (Ext.trans hx3 hx6) (Ext.store hx9 hx12 (by omega))) hx16)⟩

set_option maxHeartbeats 1600000 in
theorem join_ok (va vb : Value) (a b : List Bl) (w : World) (ha : Bls w va a) (hb : Bls w vb b) (hra : RightB a) (hrb : RightB b) : FnOk Try.prog 26 [va, vb] w (fun r w' => (∃ F, F.map Prod.fst = joinB a b ∧ BOwn w' w.heap.size r F) ∧ Ext w w') := by
  obtain ⟨E, rfl, re, de⟩ := hb
  have hEl := right_len hrb
  rw [List.length_map] at hEl
  refine FnOk.enter (rs := [4]) Try.func26 rfl Try.ntmps26 Try.results26 rfl rfl ?_
  refine WF.seq ?_
  refine WF.region ?_
  refine WL.va rfl rfl rfl (X.assign rfl) ?_
  refine WL.nil ?_
  refine thn_n ?_
  refine WF.seq ?_
  refine WF.region ?_
  refine WL.va rfl rfl rfl (X.move rfl) ?_
  refine WL.c rfl rfl rfl (X.call Try.call44 (evl_cons rfl evl_nil)) (fresh_ok _ a _ ha (by have := right_len hra; omega) (fun s hs => by have := (hra.each s hs).2.2.1; omega)) ?_
  rintro v2 w1 ⟨⟨F0, hF0, oF0⟩, hx3⟩
  refine WL.va rfl rfl rfl (X.assign rfl) ?_
  refine WL.nil ?_
  refine thn_n ?_
  refine WF.seq ?_
  refine WF.seq ?_
  refine WF.region ?_
  refine WL.va rfl rfl rfl (X.move rfl) ?_
  refine WL.va rfl rfl rfl (X.len re rfl Try.underlying25) ?_
  refine WL.va rfl rfl rfl (X.moveI rfl) ?_
  refine WL.nil ?_
  refine thn_n ?_
  refine WF.block ?_
  refine WF.named (fun F4 hF5 => ?_)
  refine WF.loopN (fun mL0 f' w' => ∃ (k : Nat) (vs : Value) (F : List BV), mL0 = E.length - k ∧ f' 12 = .int .i64 (k : Int) ∧ f' 5 = vs ∧ Agree [0, 1, 4, 8, 9, 10, 11] f' F4 ∧ Ext w w' ∧ k ≤ E.length ∧ BOwn w' w.heap.size vs F ∧ F.map Prod.fst = joinB a ((E.map Prod.fst).take k)) ?_ ?_
  · exact ⟨_, 0, _, F0, rfl, (congrFun hF5 12), (congrFun hF5 5), (Agree.refl _ _), hx3, ⟨Nat.zero_le _, oF0, hF0⟩⟩
  · rintro mL0 fL0 wL0 ⟨k, vs, F, hmL0, e12_L0, e5_L0, hAL0, hwL0, ⟨hk0, oF, hF⟩⟩
    refine WF.seq ?_
    refine WF.region ?_
    refine WL.va rfl rfl rfl (X.lss e12_L0 ((hAL0.eq 11).trans (congrFun hF5 11))) ?_
    refine WL.nil ?_
    refine thn_n ?_
    refine WF.seq ?_
    refine WF.cond rfl (fun h0_6 => ?_) (fun h0_6 => ?_)
    · have gh0_6 := (of_decide_eq_true h0_6)
      have hk : k < E.length := by omega
      refine WF.skip ?_
      refine thn_n ?_
      refine WF.seq ?_
      refine WF.block ?_
      refine WF.seq ?_
      refine WF.region ?_
      refine WL.va rfl rfl rfl (X.idx re ((hAL0.eq 10).trans (congrFun hF5 10)) e12_L0 (by omega) Try.underlying25 Try.sizeOf58) ?_
      refine WL.va rfl rfl rfl (X.loadEl re hwL0 rfl (by omega) (BRow.el hk) Try.isAgg58 Try.sizeOf58) ?_
      refine WL.op rfl (OW.allocO (cs := [i64 0, .slice none 0 0]) Try.zeroValue58 rfl ?_ (by decide))
      intro g7 w8 heg7 hlg7 hO7 hx10
      have := World.grownBy.size hx10
      refine WL.op rfl (OW.storeOA hO7 rfl rfl rfl (BDat.one1 de hk) Try.sizeOf58 ?_)
      intro w12 hO7 hx14
      have := World.grownBy.size hx14
      replace hO7 : Blk _ _ _ (BV.c (E[k]'hk)) := hO7
      refine WL.nil ?_
      refine thn_n ?_
      refine WF.region ?_
      refine WL.va rfl rfl rfl (X.move e5_L0) ?_
      refine WL.va rfl rfl rfl (X.fieldAddrO (off := 0) rfl Try.underlying58 rfl rfl Try.sizeOf3) ?_
      refine WL.va rfl rfl rfl (X.loadO hO7 (Ext.refl _) rfl rfl Try.isAgg3) ?_
      refine WL.va rfl rfl rfl (X.fieldAddrO (off := 1) rfl Try.underlying58 rfl rfl Try.sizeOf34) ?_
      refine WL.va rfl rfl rfl (X.loadO hO7 (Ext.refl _) rfl rfl Try.isAgg34) ?_
      have szq := World.grownBy.size (show Ext w w12 from (Ext.trans hwL0 (Ext.store hx10 hx14 (by omega))))
      refine WL.c rfl rfl rfl (X.call Try.call24 (evl_cons rfl (evl_cons rfl (evl_cons rfl evl_nil)))) (set_ok _ (F.map Prod.fst) (E[k]'hk).1.No _ (E[k]'hk).1.Data _ (oF.sess.ext (Ext.store hx10 hx14 (by omega))) (by rw [hF]; exact join_right hra _) (Row.ext (de _ (List.getElem_mem hk)) (Ext.trans hwL0 (Ext.store hx10 hx14 (by omega))))) ?_
      rintro v17 w16 ⟨⟨G, hG, oG⟩, hx18⟩
      have := World.grownBy.size hx18
      have oG2 := oG.mono szq
      refine WL.va rfl rfl rfl (X.assign rfl) ?_
      refine WL.nil ?_
      refine blk_n ?_
      refine thn_n ?_
      refine WF.region ?_
      refine WL.va rfl rfl rfl (X.add e12_L0 rfl (w64 (by omega))) ?_
      refine WL.va rfl rfl rfl (X.moveI rfl) ?_
      refine WL.nil ?_
      exact thn_n ⟨_, (by omega), k + 1, _, _, rfl, rfl, rfl, (by repeat (first | exact hAL0 | refine Agree.put ?_ rfl | refine Agree.named hF5 ?_)), (Ext.trans (Ext.trans hwL0 (Ext.store hx10 hx14 (by omega))) hx18), ⟨by omega, oG2, by rw [hG, hF, take_map hk, join_snoc]⟩⟩
    · have gh0_6 := (of_decide_eq_false h0_6)
      refine WF.exit ?_
      refine thn_x ?_
      refine thn_x ?_
      refine blk_eq ?_
      refine thn_n ?_
      refine WF.seq ?_
      refine WF.region ?_
      refine WL.va rfl rfl rfl (X.move e5_L0) ?_
      refine WL.va rfl rfl rfl (X.assign rfl) ?_
      refine WL.nil ?_
      refine thn_n ?_
      refine WF.ret ?_
      refine fin_r ?_
      exact ⟨⟨F, by rw [hF, List.take_of_length_le (by simp; omega)], oF⟩, hwL0⟩

end Go.Proofs.Ytcaimmbhdfoniaa
