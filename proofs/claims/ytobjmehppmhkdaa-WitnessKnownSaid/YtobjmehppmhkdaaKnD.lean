/- The walks of Play, WitnessChecks, WitnessPlays, WitnessSteps. -/
import Derived.Test.YtobjmehppmhkdaaKnC
namespace Go.Proofs.Ytobjmehppmhkdaa
open Go Go.RowKit Kf
set_option maxRecDepth 20000

section
variable {l : List Ev} {k m n i : Nat} {t z : Int} {d : List Bl} {e : Ev} {w : World} {va vb : Value}
theorem big_no (h : bigB l = false) : l.length ≤ 120 ∧ ∀ e ∈ l, e.Call.Data.length ≤ 1024 ∧ e.Answer.Data.length ≤ 1024 := by
  unfold bigB at h
  have h := Bool.or_eq_false_iff.1 h
  have h1 := of_decide_eq_false h.1
  refine ⟨by omega, fun e he => ?_⟩
  obtain ⟨i, hi, rfl⟩ := List.mem_iff_getElem.1 he
  have h2 := anyI_no h.2 hi
  unfold bgF at h2
  have h2 := Bool.or_eq_false_iff.1 h2
  have h3 := of_decide_eq_false h2.1
  have h4 := of_decide_eq_false h2.2
  omega
theorem sameIntsT_ok (li : List Int) (ha : Ints w va li) (hb : Ints w vb li) : FnOk Try.prog 37 [va, vb] w (fun r w' => r = .bool true ∧ Ext w w') :=
  (sameInts_ok va vb li li w ha hb).mono fun r w' h => ⟨h.1.trans (by rw [decide_eq_true rfl]), h.2⟩
theorem sameBsT_ok (lb : List Bl) (ha : Bls w va lb) (hb : Bls w vb lb) : FnOk Try.prog 42 [va, vb] w (fun r w' => r = .bool true ∧ Ext w w') :=
  (sameBs_ok va vb lb lb w ha hb).mono fun r w' h => ⟨h.1.trans (by rw [decide_eq_true rfl]), h.2⟩
theorem play_part (hk : k < m) (hm : m ≤ (orderL l).length) : playN l (k + 1) = setsL (playN l k) (writesL l (((orderL l).take m).getD k 0)) := by
  rw [play_succ (by omega), List.getD_eq_getElem?_getD, List.getD_eq_getElem?_getD, List.getElem?_take_of_lt hk]
theorem play_min (hm : m = min z.toNat (orderL l).length) : playN l m = playL l z := by
  unfold playL playN
  rcases Nat.le_total z.toNat (orderL l).length with h | h
  · rw [show m = z.toNat by omega]
  · rw [show m = (orderL l).length by omega, List.take_length, List.take_of_length_le h]
theorem play_0 : playL l 0 = [] := rfl
theorem play_m : playL l (-1) = [] := rfl
theorem play_all (h : l.length ≤ 1000000) : playL l ((orderL l).length : Int) = playL l 1099511627776 := by
  have := order_len (l := l)
  unfold playL playN
  rw [List.take_of_length_le (by omega), List.take_of_length_le (by omega)]
theorem wr_n (hk : k < l.length) (h : wrF t l[k] = false) : writesL (l.take (k + 1)) t = writesL (l.take k) t := by
  unfold writesL; rw [List.take_succ_eq_append_getElem hk, List.filter_append, List.map_append]; simp [h]
theorem wr_no0 (h : ¬ e.Txn = t) : wrF t e = false := by simp [wrF, h]
theorem ans_i (h1 : e.Kind = 2) (h2 : e.Call.Kind = 3) (h3 : e.Answer.Code = 0) : ans e 3 0 = true := by simp [ans, h1, h2, h3]
theorem ck_b (h : bigB l = true) : Value.bool true = Value.bool (bigB l || eqR l) := by rw [h]; rfl
theorem ck_n (hb : bigB l = false) (h : ¬ checkL l = refCheckL l) : Value.bool false = Value.bool (bigB l || eqR l) := by simp [hb, eqR, h]
theorem ck_y (hb : bigB l = false) (h : checkL l = refCheckL l) : Value.bool true = Value.bool (bigB l || eqR l) := by simp [hb, eqR, h]
end
set_option maxHeartbeats 2000000 in
theorem wset2_ok (v vw : Value) (F0 : List BV) (B : Nat) (ws : List Wr) (w : World) (h : BOwn w B v F0) (hBw : B ≤ w.heap.size) (hr : RightB (F0.map Prod.fst)) (hw : Wrs w vw ws) (hl : ws.length ≤ 1000000) : FnOk Try.prog 60 [v, vw] w (fun r w' => (∃ G, G.map Prod.fst = setsL (F0.map Prod.fst) ws ∧ BOwn w' B r G) ∧ Ext w w') := by
  obtain ⟨E, rfl, re, de⟩ := hw
  simp only [List.length_map] at hl
  refine FnOk.enter (rs := [4]) Try.func60 rfl Try.ntmps60 Try.results60 rfl rfl ?_
  refine WF.seq ?_
  refine WF.region ?_
  refine WL.va rfl rfl rfl (X.assign rfl) ?_
  refine WL.nil ?_
  refine thn_n ?_
  refine WF.seq ?_
  refine WF.seq ?_
  refine WF.region ?_
  refine WL.va rfl rfl rfl (X.move rfl) ?_
  refine WL.va rfl rfl rfl (X.len re rfl Try.underlying94) ?_
  refine WL.va rfl rfl rfl (X.moveI rfl) ?_
  refine WL.nil ?_
  refine thn_n ?_
  refine WF.block ?_
  refine WF.named (fun F1 hF2 => ?_)
  refine WF.loopN (fun mL0 f' w' => ∃ (k : Nat) (vl : Value) (G : List BV), mL0 = E.length - k ∧ f' 9 = .int .i64 (k : Int) ∧ f' 0 = vl ∧ Agree [1, 4, 7, 8] f' F1 ∧ Ext w w' ∧ k ≤ E.length ∧ BOwn w' B vl G ∧ G.map Prod.fst = setsL (F0.map Prod.fst) ((E.map Prod.fst).take k)) ?_ ?_
  · exact ⟨_, 0, _, F0, rfl, (congrFun hF2 9), (congrFun hF2 0), (Agree.refl _ _), (Ext.refl _), ⟨Nat.zero_le _, h, rfl⟩⟩
  · rintro mL0 fL0 wL0 ⟨k, vl, G, hmL0, e9_L0, e0_L0, hAL0, hwL0, ⟨hk0, hB, hBm⟩⟩
    refine WF.seq ?_
    refine WF.region ?_
    refine WL.va rfl rfl rfl (X.lss e9_L0 ((hAL0.eq 8).trans (congrFun hF2 8))) ?_
    refine WL.nil ?_
    refine thn_n ?_
    refine WF.seq ?_
    refine WF.cond rfl (fun h0_3 => ?_) (fun h0_3 => ?_)
    · have gh0_3 := (of_decide_eq_true h0_3)
      have hk : k < E.length := by have := gh0_3; omega
      refine WF.skip ?_
      refine thn_n ?_
      refine WF.seq ?_
      refine WF.block ?_
      refine WF.seq ?_
      refine WF.region ?_
      refine WL.va rfl rfl rfl (X.idx re ((hAL0.eq 7).trans (congrFun hF2 7)) e9_L0 hk Try.underlying94 Try.sizeOf109) ?_
      refine WL.va rfl rfl rfl (X.loadEl re hwL0 rfl hk (WRow.el hk) Try.isAgg109 Try.sizeOf109) ?_
      refine WL.op rfl (OW.allocO (cs := [i64 0, .slice none 0 0]) Try.zeroValue109 rfl ?_ (by decide))
      intro g6 w5 heg6 hlg6 hO6 hx7
      have := World.grownBy.size hx7
      refine WL.op rfl (OW.storeOA hO6 rfl rfl rfl (WDat.one1 de hk) Try.sizeOf109 ?_)
      intro w9 hO6 hx11
      have := World.grownBy.size hx11
      replace hO6 : Blk _ _ _ (WV.c (E[k]'hk)) := hO6
      refine WL.nil ?_
      refine thn_n ?_
      refine WF.region ?_
      refine WL.va rfl rfl rfl (X.move e0_L0) ?_
      refine WL.va rfl rfl rfl (X.fieldAddrO (off := 0) rfl Try.underlying109 rfl rfl Try.sizeOf3) ?_
      refine WL.va rfl rfl rfl (X.loadO hO6 (Ext.refl _) rfl rfl Try.isAgg3) ?_
      refine WL.va rfl rfl rfl (X.fieldAddrO (off := 1) rfl Try.underlying109 rfl rfl Try.sizeOf36) ?_
      refine WL.va rfl rfl rfl (X.loadO hO6 (Ext.refl _) rfl rfl Try.isAgg36) ?_
      have hzs := World.grownBy.size (show Ext w w9 from (Ext.trans hwL0 (Ext.store hx7 hx11 (by omega))))
      refine WL.c rfl rfl rfl (X.call Try.call24 (evl_cons rfl (evl_cons rfl (evl_cons rfl evl_nil)))) (set_ok _ (setsL (F0.map Prod.fst) ((E.map Prod.fst).take k)) (E[k]'hk).1.Block _ (E[k]'hk).1.Data _ ((hB.sessE hBm).ext (Ext.store hx7 hx11 (by omega))) (sets_right hr _) (Row.ext (de _ (List.getElem_mem hk)) (Ext.trans hwL0 (Ext.store hx7 hx11 (by omega))))) ?_
      rintro v14 w13 ⟨⟨F, hF, oF⟩, hx15⟩
      have := World.grownBy.size hx15
      have oF2 := oF.mono (Nat.le_trans hBw hzs)
      have hst := sets_take (d := F0.map Prod.fst) (ws := E.map Prod.fst) (k := k) (by simpa using hk)
      rw [List.getElem_map] at hst
      refine WL.va rfl rfl rfl (X.assign rfl) ?_
      refine WL.nil ?_
      refine blk_n ?_
      refine thn_n ?_
      refine WF.region ?_
      refine WL.va rfl rfl rfl (X.add e9_L0 rfl (w64 (by omega))) ?_
      refine WL.va rfl rfl rfl (X.moveI rfl) ?_
      refine WL.nil ?_
      exact thn_n ⟨_, (by omega), k + 1, _, F, rfl, rfl, rfl, (by repeat (first | exact hAL0 | refine Agree.put ?_ rfl | refine Agree.named hF2 ?_)), (Ext.trans (Ext.trans hwL0 (Ext.store hx7 hx11 (by omega))) hx15), ⟨by omega, oF2, by rw [hF, hst]⟩⟩
    · have gh0_3 := (of_decide_eq_false h0_3)
      have hk : E.length ≤ k := by have := gh0_3; omega
      refine WF.exit ?_
      refine thn_x ?_
      refine thn_x ?_
      refine blk_eq ?_
      refine thn_n ?_
      refine WF.seq ?_
      refine WF.region ?_
      refine WL.va rfl rfl rfl (X.move e0_L0) ?_
      refine WL.va rfl rfl rfl (X.assign rfl) ?_
      refine WL.nil ?_
      refine thn_n ?_
      refine WF.ret ?_
      refine fin_r ?_
      rw [List.take_of_length_le (by simpa using hk)] at hBm
      exact ⟨⟨G, hBm, hB⟩, hwL0⟩

set_option maxHeartbeats 4000000 in
theorem play_ok (v : Value) (l : List Ev) (z : Int) (w : World) (hv : Evs w v l) (hl : l.length ≤ 1000000) : FnOk Try.prog 41 [v, i64 z] w (fun r w' => (∃ F, F.map Prod.fst = playL l z ∧ BOwn w' w.heap.size r F) ∧ Ext w w') := by
  have hv0 := hv
  obtain ⟨cs, hr, hel⟩ := hv
  have hol := order_len (l := l)
  obtain ⟨m, hm⟩ : ∃ m, m = min z.toNat (orderL l).length := ⟨_, rfl⟩
  have hml : m ≤ (orderL l).length := by omega
  have htl : ((orderL l).take m).length = m := by simp; omega
  refine FnOk.enter (rs := [4]) Try.func41 rfl Try.ntmps41 Try.results41 rfl rfl ?_
  refine WF.seq ?_
  refine WF.region ?_
  refine WL.va rfl rfl rfl (X.assign rfl) ?_
  refine WL.nil ?_
  refine thn_n ?_
  refine WF.seq ?_
  refine WF.region ?_
  refine WL.va rfl rfl rfl (X.move rfl) ?_
  refine WL.c rfl rfl rfl (X.call Try.call27 (evl_cons rfl evl_nil)) (historyOf_ok _ l _ (hv0.ext (Ext.refl w)) hl) ?_
  rintro v1 wH ⟨⟨g, rfl, hH, hge⟩, hx2⟩
  refine WL.va rfl rfl rfl (X.assign rfl) ?_
  refine WL.nil ?_
  refine thn_n ?_
  refine WF.seq ?_
  refine WF.region ?_
  refine WL.va rfl rfl rfl (X.move rfl) ?_
  refine WL.c rfl rfl rfl (X.call Try.call12 (evl_cons rfl evl_nil)) (order_ok _ l _ (hv0.ext hx2) hl) ?_
  rintro vO wO ⟨hov, hx3⟩
  have hwO := (show Ext w wO from (Ext.trans hx2 hx3))
  refine WL.va rfl rfl rfl (X.assign rfl) ?_
  refine WL.nil ?_
  refine thn_n ?_
  refine WF.seq ?_
  refine WF.region ?_
  refine WL.va rfl rfl rfl (X.assign rfl) ?_
  refine WL.nil ?_
  refine thn_n ?_
  refine WF.seq ?_
  refine WF.seq ?_
  refine WF.region ?_
  refine WL.va rfl rfl rfl (X.move rfl) ?_
  refine WL.va rfl rfl rfl (X.moveI rfl) ?_
  refine WL.va rfl rfl rfl (X.move rfl) ?_
  refine WL.va rfl rfl rfl (X.len (show Ints _ _ (orderL l) from Row.of_own hov) rfl Try.underlying34) ?_
  refine WL.va rfl rfl rfl (X.min2 rfl rfl) ?_
  refine WL.va rfl rfl rfl (X.max2 rfl rfl) ?_
  have hpart : Ints wO (Kf.part vO 0 m 1) ((orderL l).take m) := by
    have := Ints.part (show Ints _ _ (orderL l) from Row.of_own (own_ext hov (Ext.refl wO))) 0 m (Nat.zero_le _) hml
    rwa [List.drop_zero, Nat.sub_zero] at this
  refine WL.va rfl rfl rfl (X.slH (show Ints _ _ (orderL l) from Row.of_own hov) rfl (Eq.trans rfl (congrArg i64 (show max (0 : Int) (min z ((orderL l).length : Int)) = (m : Int) from by omega))) hml Try.underlying34 Try.sizeOf3) ?_
  refine WL.va rfl rfl rfl (X.len (show Ints _ _ ((orderL l).take m) from hpart) rfl Try.underlying34) ?_
  refine WL.va rfl rfl rfl (X.moveI rfl) ?_
  refine WL.nil ?_
  refine thn_n ?_
  refine WF.block ?_
  refine WF.named (fun F4 hF5 => ?_)
  refine WF.loopN (fun mL0 f' w' => ∃ (k : Nat) (vo : Value) (F : List BV), mL0 = m - k ∧ f' 22 = .int .i64 (k : Int) ∧ f' 7 = vo ∧ Agree [0, 1, 4, 5, 6, 10, 11, 12, 13, 14, 15, 16, 17, 18, 19, 20, 21] f' F4 ∧ Ext wO w' ∧ k ≤ m ∧ BOwn w' w.heap.size vo F ∧ F.map Prod.fst = playN l k) ?_ ?_
  · exact ⟨_, 0, _, [], rfl, (congrFun hF5 22), (congrFun hF5 7), (Agree.refl _ _), (Ext.refl _), ⟨Nat.zero_le _, BOwn.nil _ _, rfl⟩⟩
  · rintro mL0 fL0 wL0 ⟨k, vo, F, hmL0, e22_L0, e7_L0, hAL0, hwL0, ⟨hk0, hF, hFm⟩⟩
    refine WF.seq ?_
    refine WF.region ?_
    refine WL.va rfl rfl rfl (X.lss e22_L0 ((hAL0.eq 21).trans (congrFun hF5 21))) ?_
    refine WL.nil ?_
    refine thn_n ?_
    refine WF.seq ?_
    refine WF.cond rfl (fun h0_6 => ?_) (fun h0_6 => ?_)
    · have gh0_6 := (of_decide_eq_true h0_6)
      have hk : k < m := by have := gh0_6; rw [htl] at this; omega
      refine WF.skip ?_
      refine thn_n ?_
      refine WF.seq ?_
      refine WF.block ?_
      refine WF.seq ?_
      refine WF.region ?_
      refine WL.va rfl rfl rfl (X.idx (show Ints _ _ ((orderL l).take m) from hpart) ((hAL0.eq 20).trans (congrFun hF5 20)) e22_L0 (by rw [htl]; exact hk) Try.underlying34 Try.sizeOf3) ?_
      refine WL.va rfl rfl rfl (X.loadI (show Ints _ _ ((orderL l).take m) from hpart) hwL0 rfl (by rw [htl]; exact hk) Try.isAgg3) ?_
      refine WL.va rfl rfl rfl (X.assignI rfl) ?_
      refine WL.nil ?_
      refine thn_n ?_
      refine WF.region ?_
      refine WL.va rfl rfl rfl (X.move e7_L0) ?_
      refine WL.va rfl rfl rfl (X.move ((hAL0.eq 5).trans (congrFun hF5 5))) ?_
      refine WL.va rfl rfl rfl (X.moveI rfl) ?_
      refine WL.va rfl rfl rfl (X.move ((hAL0.eq 0).trans (congrFun hF5 0))) ?_
      refine WL.va rfl rfl rfl (X.len hr rfl Try.underlying26) ?_
      refine WL.c rfl rfl rfl (X.call Try.call61 (evl_cons (v := (at_ g)) rfl (evl_cons (v := (i64 (((orderL l).take m).getD k 0))) rfl (evl_cons (v := (i64 (l.length : Int))) rfl evl_nil)))) (writes_ok g l (((orderL l).take m).getD k 0) l.length _ (hH.ext (show Ext wH wL0 from (Ext.trans hx3 hwL0))) (Nat.le_refl _) hl) ?_
      rintro v9 w8 ⟨hwv, hx10⟩
      rw [List.take_length] at hwv
      have hzw := World.grownBy.size hx10
      have hO0 : Ext w wO := hwO
      refine WL.c rfl rfl rfl (X.call Try.call60 (evl_cons rfl (evl_cons rfl evl_nil))) (wset2_ok _ _ F w.heap.size (writesL l (((orderL l).take m).getD k 0)) _ (hF.ext hx10) (by have := World.grownBy.size hwL0; have := World.grownBy.size hO0; omega) (by rw [hFm]; exact play_right) hwv (by have := writes_len (m := l) (t := (((orderL l).take m).getD k 0)); omega)) ?_
      rintro v12 w11 ⟨⟨G, hG, oG⟩, hx13⟩
      rw [hFm, ← play_part hk hml] at hG
      refine WL.va rfl rfl rfl (X.assign rfl) ?_
      refine WL.nil ?_
      refine blk_n ?_
      refine thn_n ?_
      refine WF.region ?_
      refine WL.va rfl rfl rfl (X.add e22_L0 rfl (w64 (by omega))) ?_
      refine WL.va rfl rfl rfl (X.moveI rfl) ?_
      refine WL.nil ?_
      exact thn_n ⟨_, (by omega), k + 1, _, G, rfl, rfl, rfl, (by repeat (first | exact hAL0 | refine Agree.put ?_ rfl | refine Agree.named hF5 ?_)), (Ext.trans (Ext.trans hwL0 hx10) hx13), ⟨by omega, oG, hG⟩⟩
    · have gh0_6 := (of_decide_eq_false h0_6)
      have hk : m ≤ k := by have := gh0_6; rw [htl] at this; omega
      obtain rfl : k = m := by omega
      refine WF.exit ?_
      refine thn_x ?_
      refine thn_x ?_
      refine blk_eq ?_
      refine thn_n ?_
      refine WF.seq ?_
      refine WF.region ?_
      refine WL.va rfl rfl rfl (X.move e7_L0) ?_
      refine WL.va rfl rfl rfl (X.assign rfl) ?_
      refine WL.nil ?_
      refine thn_n ?_
      refine WF.ret ?_
      refine fin_r ?_
      exact ⟨⟨F, hFm.trans (play_min hm), hF⟩, (Ext.trans (Ext.trans hx2 hx3) hwL0)⟩

set_option maxHeartbeats 8000000 in
theorem checks_ok (v : Value) (l : List Ev) (w : World) (hv : Evs w v l) : FnOk Try.prog 20 [v] w (fun r w' => r = .bool (bigB l || eqR l) ∧ Ext w w') := by
  refine FnOk.enter (rs := [2]) Try.func20 rfl Try.ntmps20 Try.results20 rfl rfl ?_
  refine WF.seq ?_
  refine WF.region ?_
  refine WL.va rfl rfl rfl (X.assignB rfl) ?_
  refine WL.nil ?_
  refine thn_n ?_
  refine WF.seq ?_
  refine WF.seq ?_
  refine WF.region ?_
  refine WL.va rfl rfl rfl (X.move rfl) ?_
  refine WL.c rfl rfl rfl (X.call Try.call11 (evl_cons rfl evl_nil)) (big_ok _ l _ (hv.ext (Ext.refl w))) ?_
  rintro v3 w2 ⟨rfl, hx4⟩
  refine WL.nil ?_
  refine thn_n ?_
  refine WF.cond rfl (fun h0_5 => ?_) (fun h0_5 => ?_)
  · have gh0_5 := h0_5
    have hb : bigB l = true := gh0_5
    refine WF.seq ?_
    refine WF.region ?_
    refine WL.c rfl rfl rfl (X.call Try.call7 evl_nil) (works_ok _) ?_
    rintro v8 w7 ⟨rfl, hx9⟩
    refine WL.va rfl rfl rfl (X.assignB rfl) ?_
    refine WL.nil ?_
    refine thn_n ?_
    refine WF.ret ?_
    refine thn_r ?_
    refine fin_r ?_
    exact ⟨ck_b hb, (Ext.trans hx4 hx9)⟩
  · have gh0_5 := h0_5
    have hb : bigB l = false := gh0_5
    have hbd := big_no hb
    refine WF.skip ?_
    refine thn_n ?_
    refine WF.seq ?_
    refine WF.region ?_
    refine WL.va rfl rfl rfl (X.move rfl) ?_
    refine WL.c rfl rfl rfl (X.call Try.call35 (evl_cons rfl evl_nil)) (copied_ok _ l _ (hv.ext hx4) (by omega) hbd.2) ?_
    rintro vX wX ⟨⟨EX, hEX, oX⟩, hx11⟩
    have hX := oX.evsE hEX
    refine WL.va rfl rfl rfl (X.assign rfl) ?_
    refine WL.nil ?_
    refine thn_n ?_
    refine WF.seq ?_
    refine WF.region ?_
    refine WL.va rfl rfl rfl (X.move rfl) ?_
    refine WL.c rfl rfl rfl (X.call Try.call9 (evl_cons rfl evl_nil)) (check_ok _ l _ (hX.ext (Ext.refl wX)) (by omega)) ?_
    rintro v12 wK ⟨rfl, hx13⟩
    refine WL.va rfl rfl rfl (X.assignI rfl) ?_
    refine WL.nil ?_
    refine thn_n ?_
    refine WF.seq ?_
    refine WF.region ?_
    refine WL.va rfl rfl rfl (X.move rfl) ?_
    refine WL.c rfl rfl rfl (X.call Try.call12 (evl_cons rfl evl_nil)) (order_ok _ l _ (hX.ext hx13) (by omega)) ?_
    rintro vA wA ⟨oA, hx14⟩
    refine WL.va rfl rfl rfl (X.assign rfl) ?_
    refine WL.nil ?_
    refine thn_n ?_
    refine WF.seq ?_
    refine WF.region ?_
    refine WL.va rfl rfl rfl (X.move rfl) ?_
    refine WL.c rfl rfl rfl (X.call Try.call12 (evl_cons rfl evl_nil)) (order_ok _ l _ (hX.ext (Ext.trans hx13 hx14)) (by omega)) ?_
    rintro vB wB ⟨oB, hx15⟩
    refine WL.va rfl rfl rfl (X.assign rfl) ?_
    refine WL.nil ?_
    refine thn_n ?_
    refine WF.seq ?_
    refine WF.seq ?_
    refine WF.region ?_
    refine WL.va rfl rfl rfl (X.moveI rfl) ?_
    refine WL.va rfl rfl rfl (X.move rfl) ?_
    refine WL.c rfl rfl rfl (X.call Try.call36 (evl_cons rfl evl_nil)) (rcheck_ok _ l _ (hv.ext (Ext.trans (Ext.trans (Ext.trans (Ext.trans hx4 hx11) hx13) hx14) hx15)) (by omega)) ?_
    rintro v17 w16 ⟨rfl, hx18⟩
    refine WL.va rfl rfl rfl (X.neq rfl rfl) ?_
    refine WL.va rfl rfl rfl (X.moveB rfl) ?_
    refine WL.split (j := 4) rfl (fun h20 => ?_) (fun h20 => ?_)
    · have gh20 := (of_decide_eq_true h20)
      have hq : ¬ checkL l = refCheckL l := gh20
      refine WL.p rfl rfl rfl (congrArg some h20) ?_
      refine WL.p rfl rfl rfl (congrArg some h20) ?_
      refine WL.p rfl rfl rfl (congrArg some h20) ?_
      refine WL.p rfl rfl rfl (congrArg some h20) ?_
      refine WL.p rfl rfl rfl (congrArg some h20) ?_
      refine WL.va rfl rfl rfl (X.pickT rfl h20 rfl) ?_
      refine WL.nil ?_
      refine thn_n ?_
      refine WF.cond_t rfl ?_
      refine WF.seq ?_
      refine WF.region ?_
      refine WL.va rfl rfl rfl (X.assignB rfl) ?_
      refine WL.nil ?_
      refine thn_n ?_
      refine WF.ret ?_
      refine thn_r ?_
      refine fin_r ?_
      exact ⟨ck_n hb hq, (Ext.trans (Ext.trans (Ext.trans (Ext.trans (Ext.trans hx4 hx11) hx13) hx14) hx15) hx18)⟩
    · have gh20 := (Decidable.of_not_not (of_decide_eq_false h20))
      have hq : checkL l = refCheckL l := gh20
      refine WL.vg rfl (congrArg some h20) rfl rfl (X.move rfl) ?_
      refine WL.vg rfl (congrArg some h20) rfl rfl (X.move rfl) ?_
      refine WL.cg rfl (congrArg some h20) rfl rfl (X.call Try.call38 (evl_cons rfl evl_nil)) (rorder_ok _ l _ (hv.ext (Ext.trans (Ext.trans (Ext.trans (Ext.trans (Ext.trans hx4 hx11) hx13) hx14) hx15) hx18)) (by omega)) ?_
      rintro v23 wC ⟨oC, hx24⟩
      refine WL.cg rfl (congrArg some h20) rfl rfl (X.call Try.call37 (evl_cons rfl (evl_cons rfl evl_nil))) (sameIntsT_ok (orderL l) (Ints.of_own (own_ext oA (Ext.trans (Ext.trans hx15 hx18) hx24))) (Ints.of_own oC)) ?_
      rintro v26 w25 ⟨rfl, hx27⟩
      refine WL.vg rfl (congrArg some h20) rfl rfl (X.not rfl) ?_
      refine WL.va rfl rfl rfl (X.pickF rfl h20 rfl) ?_
      refine WL.nil ?_
      refine thn_n ?_
      refine WF.cond_f rfl ?_
      refine WF.skip ?_
      refine thn_n ?_
      refine WF.seq ?_
      refine WF.region ?_
      refine WL.va rfl rfl rfl (X.move rfl) ?_
      have oA9 := own_ext oA (show Ext wA w25 from (Ext.trans (Ext.trans (Ext.trans hx15 hx18) hx24) hx27))
      have oB9 := own_ext oB (show Ext wB w25 from (Ext.trans (Ext.trans hx18 hx24) hx27))
      have hK9 := (show Ext wK w25 from (Ext.trans (Ext.trans (Ext.trans (Ext.trans hx14 hx15) hx18) hx24) hx27))
      refine WL.c rfl rfl rfl (X.call Try.call39 (evl_cons rfl evl_nil)) (spoilInts_ok _ _ _ _ oA9) ?_
      rintro v30 wS ⟨⟨l2, oA2⟩, hx31⟩
      have oB2 := oB9.kept hx31 (own_apart oA oB9 (Nat.le_refl _)).symm.ne
      refine WL.nil ?_
      refine thn_n ?_
      refine WF.seq ?_
      refine WF.region ?_
      refine WL.va rfl rfl rfl (X.move rfl) ?_
      refine WL.va rfl rfl rfl (X.move rfl) ?_
      have oB3 := own_ext oB2 (show Ext wS wS from (Ext.refl _))
      have hX10 := hX.ext (show Ext wX wS from (Ext.trans hx13 (Ext.own hK9 oA9 (Nat.le_refl _) hx31)))
      refine WL.c rfl rfl rfl (X.call Try.call38 (evl_cons rfl evl_nil)) (rorder_ok _ l _ (hv.ext (Ext.trans (Ext.trans (Ext.trans hx4 hx11) hx13) (Ext.own hK9 oA9 (Nat.le_refl _) hx31))) (by omega)) ?_
      rintro v32 wD ⟨oD, hx33⟩
      have oB4 := own_ext oB3 hx33
      refine WL.c rfl rfl rfl (X.call Try.call37 (evl_cons rfl (evl_cons rfl evl_nil))) (sameIntsT_ok (orderL l) (Ints.of_own oB4) (Ints.of_own oD)) ?_
      rintro v35 w34 ⟨rfl, hx36⟩
      refine WL.va rfl rfl rfl (X.moveB rfl) ?_
      refine WL.vg rfl rfl rfl rfl (X.move rfl) ?_
      refine WL.vg rfl rfl rfl rfl (X.move rfl) ?_
      refine WL.cg rfl rfl rfl rfl (X.call Try.call40 (evl_cons rfl (evl_cons rfl evl_nil))) (sameEvents_ok _ _ l _ (hX.ext (Ext.trans (Ext.trans (Ext.trans hx13 (Ext.own hK9 oA9 (Nat.le_refl _) hx31)) hx33) hx36)) (hv.ext (Ext.trans (Ext.trans (Ext.trans (Ext.trans (Ext.trans hx4 hx11) hx13) (Ext.own hK9 oA9 (Nat.le_refl _) hx31)) hx33) hx36))) ?_
      rintro v39 w38 ⟨rfl, hx40⟩
      refine WL.va rfl rfl rfl (X.pickT rfl rfl rfl) ?_
      refine WL.va rfl rfl rfl (X.moveB rfl) ?_
      refine WL.cg rfl rfl rfl rfl (X.call Try.call7 evl_nil) (works_ok _) ?_
      rintro v43 w42 ⟨rfl, hx44⟩
      refine WL.va rfl rfl rfl (X.pickT rfl rfl rfl) ?_
      refine WL.va rfl rfl rfl (X.assignB rfl) ?_
      refine WL.nil ?_
      refine thn_n ?_
      refine WF.ret ?_
      refine fin_r ?_
      exact ⟨ck_y hb hq, (Ext.trans (Ext.trans (Ext.trans (Ext.trans (Ext.trans (Ext.trans (Ext.trans hx4 hx11) hx13) (Ext.own hK9 oA9 (Nat.le_refl _) hx31)) hx33) hx36) hx40) hx44)⟩

set_option maxHeartbeats 8000000 in
theorem plays_ok (v : Value) (l : List Ev) (z : Int) (w : World) (hv : Evs w v l) : FnOk Try.prog 23 [v, i64 z] w (fun r w' => r = .bool true ∧ Ext w w') := by
  refine FnOk.enter (rs := [4]) Try.func23 rfl Try.ntmps23 Try.results23 rfl rfl ?_
  refine WF.seq ?_
  refine WF.region ?_
  refine WL.va rfl rfl rfl (X.assignB rfl) ?_
  refine WL.nil ?_
  refine thn_n ?_
  refine WF.seq ?_
  refine WF.seq ?_
  refine WF.region ?_
  refine WL.va rfl rfl rfl (X.move rfl) ?_
  refine WL.c rfl rfl rfl (X.call Try.call11 (evl_cons rfl evl_nil)) (big_ok _ l _ (hv.ext (Ext.refl w))) ?_
  rintro v3 w2 ⟨rfl, hx4⟩
  refine WL.nil ?_
  refine thn_n ?_
  refine WF.cond rfl (fun h0_5 => ?_) (fun h0_5 => ?_)
  · have gh0_5 := h0_5
    refine WF.seq ?_
    refine WF.region ?_
    refine WL.c rfl rfl rfl (X.call Try.call7 evl_nil) (works_ok _) ?_
    rintro v8 w7 ⟨rfl, hx9⟩
    refine WL.va rfl rfl rfl (X.assignB rfl) ?_
    refine WL.nil ?_
    refine thn_n ?_
    refine WF.ret ?_
    refine thn_r ?_
    refine fin_r ?_
    exact ⟨rfl, (Ext.trans hx4 hx9)⟩
  · have gh0_5 := h0_5
    have hbd := big_no gh0_5
    refine WF.skip ?_
    refine thn_n ?_
    refine WF.seq ?_
    refine WF.region ?_
    refine WL.va rfl rfl rfl (X.move rfl) ?_
    refine WL.c rfl rfl rfl (X.call Try.call35 (evl_cons rfl evl_nil)) (copied_ok _ l _ (hv.ext hx4) (by omega) hbd.2) ?_
    rintro vX wX ⟨⟨EX, hEX, oX⟩, hx11⟩
    have hX := oX.evsE hEX
    refine WL.va rfl rfl rfl (X.assign rfl) ?_
    refine WL.nil ?_
    refine thn_n ?_
    refine WF.seq ?_
    refine WF.region ?_
    refine WL.va rfl rfl rfl (X.move rfl) ?_
    refine WL.va rfl rfl rfl (X.moveI rfl) ?_
    refine WL.c rfl rfl rfl (X.call Try.call41 (evl_cons rfl (evl_cons rfl evl_nil))) (play_ok _ l z _ (hX.ext (Ext.refl wX)) (by omega)) ?_
    rintro vA wA ⟨⟨FA, hFA, oA⟩, hx12⟩
    refine WL.va rfl rfl rfl (X.assign rfl) ?_
    refine WL.nil ?_
    refine thn_n ?_
    refine WF.seq ?_
    refine WF.region ?_
    refine WL.va rfl rfl rfl (X.move rfl) ?_
    refine WL.va rfl rfl rfl (X.moveI rfl) ?_
    refine WL.c rfl rfl rfl (X.call Try.call41 (evl_cons rfl (evl_cons rfl evl_nil))) (play_ok _ l z _ (hX.ext hx12) (by omega)) ?_
    rintro vB wB ⟨⟨FB, hFB, oB⟩, hx13⟩
    have hzb := World.grownBy.size hx13
    refine WL.va rfl rfl rfl (X.assign rfl) ?_
    refine WL.nil ?_
    refine thn_n ?_
    refine WF.seq ?_
    refine WF.region ?_
    refine WL.va rfl rfl rfl (X.move rfl) ?_
    refine WL.va rfl rfl rfl (X.moveI rfl) ?_
    refine WL.c rfl rfl rfl (X.call Try.call43 (evl_cons rfl (evl_cons rfl evl_nil))) (rplay_ok _ l z _ (hv.ext (Ext.trans (Ext.trans (Ext.trans hx4 hx11) hx12) hx13)) (by omega)) ?_
    rintro vC wC ⟨⟨FC, hFC, oC⟩, hx14⟩
    refine WL.va rfl rfl rfl (X.assign rfl) ?_
    refine WL.nil ?_
    refine thn_n ?_
    refine WF.seq ?_
    refine WF.seq ?_
    refine WF.region ?_
    refine WL.va rfl rfl rfl (X.move rfl) ?_
    refine WL.va rfl rfl rfl (X.move rfl) ?_
    refine WL.c rfl rfl rfl (X.call Try.call42 (evl_cons rfl (evl_cons rfl evl_nil))) (sameBsT_ok (playL l z) ((oA.sessE hFA).ext (Ext.trans hx13 hx14)) (oC.blsE hFC)) ?_
    rintro v16 w15 ⟨rfl, hx17⟩
    refine WL.va rfl rfl rfl (X.not rfl) ?_
    refine WL.nil ?_
    refine thn_n ?_
    refine WF.cond_f rfl ?_
    refine WF.skip ?_
    refine thn_n ?_
    refine WF.seq ?_
    refine WF.region ?_
    refine WL.va rfl rfl rfl (X.move rfl) ?_
    have oA9 := oA.ext (show Ext wA w15 from (Ext.trans (Ext.trans hx13 hx14) hx17))
    have oB9 := oB.ext (show Ext wB w15 from (Ext.trans hx14 hx17))
    have oC9 := oC.ext (show Ext wC w15 from hx17)
    have hX9 := (show Ext wX w15 from (Ext.trans (Ext.trans (Ext.trans hx12 hx13) hx14) hx17))
    refine WL.c rfl rfl rfl (X.call Try.call44 (evl_cons rfl evl_nil)) (spoilBs_ok _ FA _ wX.heap.size wA.heap.size oA9 oA.under) ?_
    rintro v20 wS hx21
    have oB2 := oB9.chg hx21 (.inl (Nat.le_refl _))
    have oC2 := oC9.chg hx21 hzb
    refine WL.nil ?_
    refine thn_n ?_
    refine WF.seq ?_
    refine WF.region ?_
    refine WL.va rfl rfl rfl (X.move rfl) ?_
    refine WL.va rfl rfl rfl (X.move rfl) ?_
    refine WL.c rfl rfl rfl (X.call Try.call42 (evl_cons rfl (evl_cons rfl evl_nil))) (sameBsT_ok (playL l z) (oB2.sessE hFB) (oC2.blsE hFC)) ?_
    rintro v23 w22 ⟨rfl, hx24⟩
    refine WL.va rfl rfl rfl (X.moveB rfl) ?_
    refine WL.vg rfl rfl rfl rfl (X.move rfl) ?_
    refine WL.vg rfl rfl rfl rfl (X.move rfl) ?_
    refine WL.cg rfl rfl rfl rfl (X.call Try.call40 (evl_cons rfl (evl_cons rfl evl_nil))) (sameEvents_ok _ _ l _ (hX.ext (Ext.trans (Chg.ext hX9 hx21 (Nat.le_refl _)) hx24)) (hv.ext (Ext.trans (Ext.trans (Ext.trans hx4 hx11) (Chg.ext hX9 hx21 (Nat.le_refl _))) hx24))) ?_
    rintro v27 w26 ⟨rfl, hx28⟩
    refine WL.va rfl rfl rfl (X.pickT rfl rfl rfl) ?_
    refine WL.va rfl rfl rfl (X.moveB rfl) ?_
    refine WL.cg rfl rfl rfl rfl (X.call Try.call7 evl_nil) (works_ok _) ?_
    rintro v31 w30 ⟨rfl, hx32⟩
    refine WL.va rfl rfl rfl (X.pickT rfl rfl rfl) ?_
    refine WL.va rfl rfl rfl (X.assignB rfl) ?_
    refine WL.nil ?_
    refine thn_n ?_
    refine WF.ret ?_
    refine fin_r ?_
    exact ⟨rfl, (Ext.trans (Ext.trans (Ext.trans (Ext.trans (Ext.trans hx4 hx11) (Chg.ext hX9 hx21 (Nat.le_refl _))) hx24) hx28) hx32)⟩

set_option maxHeartbeats 8000000 in
theorem steps_ok (v : Value) (l : List Ev) (w : World) (hv : Evs w v l) : FnOk Try.prog 21 [v] w (fun r w' => r = .bool true ∧ Ext w w') := by
  have hv0 := hv
  have hle := hv.le
  obtain ⟨cs, hr, hel⟩ := hv
  have hol := order_len (l := l)
  refine FnOk.enter (rs := [2]) Try.func21 rfl Try.ntmps21 Try.results21 rfl rfl ?_
  refine WF.seq ?_
  refine WF.region ?_
  refine WL.va rfl rfl rfl (X.assignB rfl) ?_
  refine WL.nil ?_
  refine thn_n ?_
  refine WF.seq ?_
  refine WF.seq ?_
  refine WF.region ?_
  refine WL.va rfl rfl rfl (X.move rfl) ?_
  refine WL.c rfl rfl rfl (X.call Try.call11 (evl_cons rfl evl_nil)) (big_ok _ l _ (hv0.ext (Ext.refl w))) ?_
  rintro v3 w2 ⟨rfl, hx4⟩
  refine WL.nil ?_
  refine thn_n ?_
  refine WF.cond rfl (fun h0_5 => ?_) (fun h0_5 => ?_)
  · have gh0_5 := h0_5
    refine WF.seq ?_
    refine WF.region ?_
    refine WL.c rfl rfl rfl (X.call Try.call7 evl_nil) (works_ok _) ?_
    rintro v8 w7 ⟨rfl, hx9⟩
    refine WL.va rfl rfl rfl (X.assignB rfl) ?_
    refine WL.nil ?_
    refine thn_n ?_
    refine WF.ret ?_
    refine thn_r ?_
    refine fin_r ?_
    exact ⟨rfl, (Ext.trans hx4 hx9)⟩
  · have gh0_5 := h0_5
    have hbd := big_no gh0_5
    refine WF.skip ?_
    refine thn_n ?_
    refine WF.seq ?_
    refine WF.region ?_
    refine WL.va rfl rfl rfl (X.move rfl) ?_
    refine WL.c rfl rfl rfl (X.call Try.call12 (evl_cons rfl evl_nil)) (order_ok _ l _ (hv0.ext hx4) (by omega)) ?_
    rintro v11 wO ⟨hov, hx12⟩
    refine WL.va rfl rfl rfl (X.assign rfl) ?_
    refine WL.nil ?_
    refine thn_n ?_
    refine WF.seq ?_
    refine WF.seq ?_
    refine WF.region ?_
    refine WL.va rfl rfl rfl (X.move rfl) ?_
    refine WL.c rfl rfl rfl (X.call Try.call41 (evl_cons rfl (evl_cons rfl evl_nil))) (play_ok _ l 0 _ (hv0.ext (Ext.trans hx4 hx12)) (by omega)) ?_
    rintro vP0 P0 ⟨⟨FP0, hP0, oP0⟩, hx13⟩
    have h0l : FP0.length = 0 := by have := congrArg List.length hP0; rwa [List.length_map] at this
    refine WL.va rfl rfl rfl (X.len (oP0.srow) rfl Try.underlying52) ?_
    refine WL.va rfl rfl rfl (X.neq rfl rfl) ?_
    refine WL.va rfl rfl rfl (X.moveB rfl) ?_
    refine WL.split (j := 4) rfl (fun h15 => ?_) (fun h15 => ?_)
    · have gh15 := (of_decide_eq_true h15)
      exact absurd (by rw [h0l]; rfl) gh15
    · have gh15 := (Decidable.of_not_not (of_decide_eq_false h15))
      refine WL.vg rfl (congrArg some h15) rfl rfl (X.move rfl) ?_
      refine WL.cg rfl (congrArg some h15) rfl rfl (X.call Try.call41 (evl_cons rfl (evl_cons rfl evl_nil))) (play_ok _ l (-1) _ (hv0.ext (Ext.trans (Ext.trans hx4 hx12) hx13)) (by omega)) ?_
      rintro vP1 P1 ⟨⟨FP1, hP1, oP1⟩, hx16⟩
      have h1l : FP1.length = 0 := by have := congrArg List.length hP1; rwa [List.length_map] at this
      refine WL.vg rfl (congrArg some h15) rfl rfl (X.len (oP1.srow) rfl Try.underlying52) ?_
      refine WL.vg rfl (congrArg some h15) rfl rfl (X.neq rfl rfl) ?_
      refine WL.va rfl rfl rfl (X.pickF rfl h15 rfl) ?_
      refine WL.va rfl rfl rfl (X.moveB rfl) ?_
      refine WL.split (j := 10) rfl (fun h18 => ?_) (fun h18 => ?_)
      · have gh18 := (of_decide_eq_true h18)
        exact absurd (by rw [h1l]; rfl) gh18
      · have gh18 := (Decidable.of_not_not (of_decide_eq_false h18))
        refine WL.vg rfl (congrArg some h18) rfl rfl (X.move rfl) ?_
        refine WL.vg rfl (congrArg some h18) rfl rfl (X.move rfl) ?_
        refine WL.vg rfl (congrArg some h18) rfl rfl (X.len (show Ints _ _ (orderL l) from Row.of_own hov) rfl Try.underlying34) ?_
        refine WL.cg rfl (congrArg some h18) rfl rfl (X.call Try.call41 (evl_cons rfl (evl_cons rfl evl_nil))) (play_ok _ l ((orderL l).length : Int) _ (hv0.ext (Ext.trans (Ext.trans (Ext.trans hx4 hx12) hx13) hx16)) (by omega)) ?_
        rintro vP2 P2 ⟨⟨FP2, hP2, oP2⟩, hx19⟩
        refine WL.vg rfl (congrArg some h18) rfl rfl (X.move rfl) ?_
        refine WL.cg rfl (congrArg some h18) rfl rfl (X.call Try.call41 (evl_cons rfl (evl_cons rfl evl_nil))) (play_ok _ l 1099511627776 _ (hv0.ext (Ext.trans (Ext.trans (Ext.trans (Ext.trans hx4 hx12) hx13) hx16) hx19)) (by omega)) ?_
        rintro vP3 P3 ⟨⟨FP3, hP3, oP3⟩, hx20⟩
        refine WL.cg rfl (congrArg some h18) rfl rfl (X.call Try.call42 (evl_cons rfl (evl_cons rfl evl_nil))) (sameBsT_ok (playL l 1099511627776) ((oP2.sessE (hP2.trans (play_all (by omega)))).ext hx20) (oP3.sessE hP3)) ?_
        rintro v22 w21 ⟨rfl, hx23⟩
        refine WL.vg rfl (congrArg some h18) rfl rfl (X.not rfl) ?_
        refine WL.va rfl rfl rfl (X.pickF rfl h18 rfl) ?_
        refine WL.nil ?_
        refine thn_n ?_
        refine WF.cond_f rfl ?_
        refine WF.skip ?_
        refine thn_n ?_
        refine WF.seq ?_
        refine WF.seq ?_
        refine WF.region ?_
        refine WL.va rfl rfl rfl (X.assignI rfl) ?_
        refine WL.nil ?_
        refine thn_n ?_
        refine WF.block ?_
        refine WF.named (fun F26 hF27 => ?_)
        refine WF.loopN (fun mL0 f' w' => ∃ (n : Nat), mL0 = (orderL l).length - n ∧ f' 4 = .int .i64 (n : Int) ∧ Agree [0, 3, 8, 9, 11, 12, 13, 14, 15, 16, 17, 18, 19, 20, 21, 22, 23, 24, 25, 26, 27, 28, 29, 30, 31, 32] f' F26 ∧ Ext wO w' ∧ n ≤ (orderL l).length) ?_ ?_
        · exact ⟨_, 0, rfl, (congrFun hF27 4), (Agree.refl _ _), (Ext.trans (Ext.trans (Ext.trans (Ext.trans hx13 hx16) hx19) hx20) hx23), Nat.zero_le _⟩
        · rintro mL0 fL0 wL0 ⟨n, hmL0, e4_L0, hAL0, hwL0, hn0⟩
          refine WF.seq ?_
          refine WF.seq ?_
          refine WF.region ?_
          refine WL.va rfl rfl rfl (X.moveI e4_L0) ?_
          refine WL.va rfl rfl rfl (X.move ((hAL0.eq 3).trans (congrFun hF27 3))) ?_
          refine WL.va rfl rfl rfl (X.len (show Ints _ _ (orderL l) from Row.of_own hov) rfl Try.underlying34) ?_
          refine WL.va rfl rfl rfl (X.lss rfl rfl) ?_
          refine WL.nil ?_
          refine thn_n ?_
          refine WF.cond rfl (fun h2_28 => ?_) (fun h2_28 => ?_)
          · have gh2_28 := (of_decide_eq_true h2_28)
            have hn : n < (orderL l).length := by have := gh2_28; omega
            refine WF.skip ?_
            refine thn_n ?_
            refine WF.seq ?_
            refine WF.block ?_
            refine WF.seq ?_
            refine WF.region ?_
            refine WL.va rfl rfl rfl (X.move ((hAL0.eq 0).trans (congrFun hF27 0))) ?_
            refine WL.va rfl rfl rfl (X.moveI e4_L0) ?_
            refine WL.c rfl rfl rfl (X.call Try.call41 (evl_cons rfl (evl_cons rfl evl_nil))) (play_ok _ l (n : Int) _ (hv0.ext (Ext.trans (Ext.trans hx4 hx12) hwL0)) (by omega)) ?_
            rintro vN wN ⟨⟨FN, hN, oN⟩, hx30⟩
            have hB0 := oN.sessE hN
            rw [play_nat] at hB0
            refine WL.va rfl rfl rfl (X.assign rfl) ?_
            refine WL.nil ?_
            refine thn_n ?_
            refine WF.seq ?_
            refine WF.seq ?_
            refine WF.region ?_
            refine WL.va rfl rfl rfl (X.assignI rfl) ?_
            refine WL.nil ?_
            refine thn_n ?_
            refine WF.block ?_
            refine WF.named (fun F31 hF32 => ?_)
            refine WF.loopN (fun mL1 f' w' => ∃ (i : Nat) (vd : Value), mL1 = l.length - i ∧ f' 6 = .int .i64 (i : Int) ∧ f' 5 = vd ∧ Agree [0, 3, 4, 8, 9, 11, 12, 13, 14, 15, 16, 17, 18, 19, 20, 21, 22, 23, 24, 25, 26, 27, 28, 29, 30, 31, 32, 33, 34, 35, 36, 39, 40, 41] f' F31 ∧ Ext wO w' ∧ i ≤ l.length ∧ Bls w' vd (setsL (playN l n) (writesL (l.take i) ((orderL l).getD n 0)))) ?_ ?_
            · exact ⟨_, 0, vN, rfl, (congrFun hF32 6), (congrFun hF32 5), (Agree.refl _ _), (Ext.trans hwL0 hx30), ⟨Nat.zero_le _, hB0⟩⟩
            · rintro mL1 fL1 wL1 ⟨i, vd, hmL1, e6_L1, e5_L1, hAL1, hwL1, ⟨hi0, hB⟩⟩
              refine WF.seq ?_
              refine WF.seq ?_
              refine WF.region ?_
              refine WL.va rfl rfl rfl (X.moveI e6_L1) ?_
              refine WL.va rfl rfl rfl (X.move ((hAL1.eq 0).trans ((congrFun hF32 0).trans ((hAL0.eq 0).trans (congrFun hF27 0))))) ?_
              refine WL.va rfl rfl rfl (X.len hr rfl Try.underlying26) ?_
              refine WL.va rfl rfl rfl (X.lss rfl rfl) ?_
              refine WL.nil ?_
              refine thn_n ?_
              refine WF.cond rfl (fun h3_33 => ?_) (fun h3_33 => ?_)
              · have gh3_33 := (of_decide_eq_true h3_33)
                have hi : i < l.length := by have := gh3_33; omega
                obtain ⟨d1, d2, hcs, hd1, hd2⟩ := hel i hi
                refine WF.skip ?_
                refine thn_n ?_
                refine WF.seq ?_
                refine WF.block ?_
                refine WF.seq ?_
                refine WF.region ?_
                refine WL.va rfl rfl rfl (X.move ((hAL1.eq 0).trans ((congrFun hF32 0).trans ((hAL0.eq 0).trans (congrFun hF27 0))))) ?_
                refine WL.va rfl rfl rfl (X.moveI e6_L1) ?_
                refine WL.va rfl rfl rfl (X.idx hr rfl rfl hi Try.underlying26 Try.sizeOf42) ?_
                refine WL.va rfl rfl rfl (X.loadEl hr (Ext.trans (Ext.trans hx4 hx12) hwL1) rfl hi hcs Try.isAgg42 Try.sizeOf42) ?_
                refine WL.op rfl (OW.allocO (cs := [i64 0, i64 0, i64 0, i64 0, i64 0, i64 0, i64 0, i64 0, i64 0, i64 0, i64 0, i64 0, i64 0, i64 0, i64 0, .slice none 0 0, i64 0, i64 0, .slice none 0 0]) Try.zeroValue42 rfl ?_ (by decide))
                intro g7 w35 heg7 hlg7 hO7 hx37
                have := World.grownBy.size hx37
                refine WL.op rfl (OW.storeOA hO7 rfl rfl rfl (ev_ones hd1 hd2) Try.sizeOf42 ?_)
                intro w39 hO7 hx41
                have := World.grownBy.size hx41
                replace hO7 : Blk _ _ _ (Ev.c (l[i]'hi) d1 d2) := hO7
                refine WL.nil ?_
                refine thn_n ?_
                refine WF.seq ?_
                refine WF.drawn (.q 0 (.q 1 (.q 2 (.q 3 (.q 4 (.q 5 (.q 6 (.q 7 (.q 8 (.q 9 (.q 10 (.q 11 (.q 12 (.q 13 (.q 14 (.q 15 (.q 16 (.q 17 (.q 18 (.q 19 (.q 20 (.q 21 (.q 22 (.q 23 .nil)))))))))))))))))))))))) (fun w' => Ext w39 w') 24 (by kernel_rfl) (by kernel_rfl) (Ext.drew _) ?_
                have := World.grownBy.size (Ext.drew w39)
                refine WO.q rfl rfl rfl rfl (fun w' hE43 => (X.fieldAddrO (off := 0) rfl Try.underlying42 rfl rfl Try.sizeOf3)) ?_
                refine WO.q rfl rfl rfl rfl (fun w' hE43 => (X.loadO hO7 hE43 rfl rfl Try.isAgg3)) ?_
                refine WO.q rfl rfl rfl rfl (fun w' hE43 => (X.eql rfl rfl)) ?_
                refine WO.q rfl rfl rfl rfl (fun w' hE43 => (X.moveB rfl)) ?_
                refine WO.split (j := 3) rfl (fun h45 => ?_) (fun h45 => ?_)
                · have gh45 := (of_decide_eq_true h45)
                  have c1 : (l[i]'hi).Kind = 2 := gh45
                  refine WO.qg rfl rfl (congrArg some h45) rfl rfl (fun w' hE43 => (X.fieldAddrO (off := 2) rfl Try.underlying42 rfl rfl Try.sizeOf3)) ?_
                  refine WO.qg rfl rfl (congrArg some h45) rfl rfl (fun w' hE43 => (X.loadO hO7 hE43 rfl rfl Try.isAgg3)) ?_
                  refine WO.qg rfl rfl (congrArg some h45) rfl rfl (fun w' hE43 => (X.move ((hAL1.eq 3).trans ((congrFun hF32 3).trans ((hAL0.eq 3).trans (congrFun hF27 3)))))) ?_
                  refine WO.qg rfl rfl (congrArg some h45) rfl rfl (fun w' hE43 => (X.moveI ((hAL1.eq 4).trans ((congrFun hF32 4).trans e4_L0)))) ?_
                  refine WO.qg rfl rfl (congrArg some h45) rfl rfl (fun w' hE43 => (X.idx (show Ints _ _ (orderL l) from Row.of_own hov) rfl rfl hn Try.underlying34 Try.sizeOf3)) ?_
                  refine WO.qg rfl rfl (congrArg some h45) rfl rfl (fun w' hE43 => (X.loadI (show Ints _ _ (orderL l) from Row.of_own hov) (Ext.trans (Ext.trans hwL1 (Ext.store hx37 hx41 (by omega))) hE43) rfl hn Try.isAgg3)) ?_
                  refine WO.qg rfl rfl (congrArg some h45) rfl rfl (fun w' hE43 => (X.eql rfl rfl)) ?_
                  refine WO.q rfl rfl rfl rfl (fun w' hE43 => (X.pickT rfl h45 rfl)) ?_
                  refine WO.q rfl rfl rfl rfl (fun w' hE43 => (X.moveB rfl)) ?_
                  refine WO.split (j := 12) rfl (fun h47 => ?_) (fun h47 => ?_)
                  · have gh47 := (of_decide_eq_true h47)
                    have c2 : (l[i]'hi).Txn = ((orderL l).getD n 0) := gh47
                    refine WO.qg rfl rfl (congrArg some h47) rfl rfl (fun w' hE43 => (X.fieldAddrO (off := 3) rfl Try.underlying42 rfl rfl Try.sizeOf38)) ?_
                    refine WO.qg rfl rfl (congrArg some h47) rfl rfl (fun w' hE43 => (X.fieldAddrP (off := 0) rfl Try.underlying38 rfl rfl Try.sizeOf3)) ?_
                    refine WO.qg rfl rfl (congrArg some h47) rfl rfl (fun w' hE43 => (X.loadO hO7 hE43 rfl rfl Try.isAgg3)) ?_
                    refine WO.qg rfl rfl (congrArg some h47) rfl rfl (fun w' hE43 => (X.eql rfl rfl)) ?_
                    refine WO.q rfl rfl rfl rfl (fun w' hE43 => (X.pickT rfl h47 rfl)) ?_
                    refine WO.q rfl rfl rfl rfl (fun w' hE43 => (X.moveB rfl)) ?_
                    refine WO.split (j := 18) rfl (fun h49 => ?_) (fun h49 => ?_)
                    · have gh49 := (of_decide_eq_true h49)
                      have c3 : (l[i]'hi).Call.Kind = 3 := gh49
                      refine WO.qg rfl rfl (congrArg some h49) rfl rfl (fun w' hE43 => (X.fieldAddrO (off := 16) rfl Try.underlying42 rfl rfl Try.sizeOf40)) ?_
                      refine WO.qg rfl rfl (congrArg some h49) rfl rfl (fun w' hE43 => (X.fieldAddrP (off := 0) rfl Try.underlying40 rfl rfl Try.sizeOf29)) ?_
                      refine WO.qg rfl rfl (congrArg some h49) rfl rfl (fun w' hE43 => (X.loadO hO7 hE43 rfl rfl Try.isAgg29)) ?_
                      refine WO.qg rfl rfl (congrArg some h49) rfl rfl (fun w' hE43 => (X.eql rfl rfl)) ?_
                      refine WO.q rfl rfl rfl rfl (fun w' hE43 => (X.pickT rfl h49 rfl)) ?_
                      refine WO.nil ?_
                      refine WL.nil ?_
                      refine thn_n ?_
                      refine WF.cond rfl (fun h4_50 => ?_) (fun h4_50 => ?_)
                      · have gh4_50 := (of_decide_eq_true h4_50)
                        have hst := sw_t (d := playN l n) hi c2 (ans_i c1 c3 gh4_50)
                        refine WF.region ?_
                        refine WL.va rfl rfl rfl (X.move e5_L1) ?_
                        refine WL.va rfl rfl rfl (X.fieldAddrO (off := 3) rfl Try.underlying42 rfl rfl Try.sizeOf38) ?_
                        refine WL.va rfl rfl rfl (X.fieldAddrP (off := 1) rfl Try.underlying38 rfl rfl Try.sizeOf3) ?_
                        refine WL.va rfl rfl rfl (X.loadO hO7 (Ext.drew _) rfl rfl Try.isAgg3) ?_
                        refine WL.va rfl rfl rfl (X.fieldAddrO (off := 3) rfl Try.underlying42 rfl rfl Try.sizeOf38) ?_
                        refine WL.va rfl rfl rfl (X.fieldAddrP (off := 12) rfl Try.underlying38 rfl rfl Try.sizeOf36) ?_
                        refine WL.va rfl rfl rfl (X.loadO hO7 (Ext.drew _) rfl rfl Try.isAgg36) ?_
                        refine WL.c rfl rfl rfl (X.call Try.call24 (evl_cons rfl (evl_cons (v := (i64 (l[i]'hi).Call.Block)) rfl (evl_cons rfl evl_nil)))) (set_ok _ (setsL (playN l n) (writesL (l.take i) ((orderL l).getD n 0))) (l[i]'hi).Call.Block _ (l[i]'hi).Call.Data _ (hB.ext (Ext.trans (Ext.store hx37 hx41 (by omega)) (Ext.drew _))) (sets_right play_right _) (Row.ext hd1 (Ext.trans (Ext.trans (Ext.trans (Ext.trans hx4 hx12) hwL1) (Ext.store hx37 hx41 (by omega))) (Ext.drew _)))) ?_
                        rintro vS w52 ⟨⟨G, hG, oG⟩, hx53⟩
                        have := World.grownBy.size hx53
                        have hB2 := oG.sessE hG
                        rw [← hst] at hB2
                        refine WL.va rfl rfl rfl (X.assign rfl) ?_
                        refine WL.nil ?_
                        refine blk_n ?_
                        refine thn_n ?_
                        refine WF.region ?_
                        refine WL.va rfl rfl rfl (X.moveI e6_L1) ?_
                        refine WL.va rfl rfl rfl (X.add rfl rfl (w64 (by omega))) ?_
                        refine WL.va rfl rfl rfl (X.assignI rfl) ?_
                        refine WL.nil ?_
                        first | exact thn_n ⟨_, (by omega), i + 1, vS, rfl, rfl, rfl, (by repeat (first | exact hAL1 | refine Agree.put ?_ rfl | refine Agree.sub hAL0 rfl ?_ | refine Agree.named hF32 ?_ | refine Agree.named hF27 ?_)), (Ext.trans (Ext.trans (Ext.trans hwL1 (Ext.store hx37 hx41 (by omega))) (Ext.drew _)) hx53), ⟨by omega, hB2⟩⟩ | exact thn_n ⟨_, (by omega), i + 1, vd, rfl, rfl, rfl, (by repeat (first | exact hAL1 | refine Agree.put ?_ rfl | refine Agree.sub hAL0 rfl ?_ | refine Agree.named hF32 ?_ | refine Agree.named hF27 ?_)), (Ext.trans (Ext.trans (Ext.trans hwL1 (Ext.store hx37 hx41 (by omega))) (Ext.drew _)) hx53), ⟨by omega, by rw [wr_n hi hno]; exact hB9⟩⟩
                      · have gh4_50 := (of_decide_eq_false h4_50)
                        have hno : wrF ((orderL l).getD n 0) (l[i]'hi) = false := by simp [wrF, ans, gh4_50]
                        have hB9 := hB.ext (show Ext wL1 w39.drew from (Ext.trans (Ext.store hx37 hx41 (by omega)) (Ext.drew _)))
                        refine WF.skip ?_
                        refine blk_n ?_
                        refine thn_n ?_
                        refine WF.region ?_
                        refine WL.va rfl rfl rfl (X.moveI e6_L1) ?_
                        refine WL.va rfl rfl rfl (X.add rfl rfl (w64 (by omega))) ?_
                        refine WL.va rfl rfl rfl (X.assignI rfl) ?_
                        refine WL.nil ?_
                        first | exact thn_n ⟨_, (by omega), i + 1, vS, rfl, rfl, e5_L1, (by repeat (first | exact hAL1 | refine Agree.put ?_ rfl | refine Agree.sub hAL0 rfl ?_ | refine Agree.named hF32 ?_ | refine Agree.named hF27 ?_)), (Ext.trans (Ext.trans hwL1 (Ext.store hx37 hx41 (by omega))) (Ext.drew _)), ⟨by omega, hB2⟩⟩ | exact thn_n ⟨_, (by omega), i + 1, vd, rfl, rfl, e5_L1, (by repeat (first | exact hAL1 | refine Agree.put ?_ rfl | refine Agree.sub hAL0 rfl ?_ | refine Agree.named hF32 ?_ | refine Agree.named hF27 ?_)), (Ext.trans (Ext.trans hwL1 (Ext.store hx37 hx41 (by omega))) (Ext.drew _)), ⟨by omega, by rw [wr_n hi hno]; exact hB9⟩⟩
                    · have gh49 := (of_decide_eq_false h49)
                      have hno : wrF ((orderL l).getD n 0) (l[i]'hi) = false := by simp [wrF, ans, gh49]
                      have hB9 := hB.ext (show Ext wL1 w39.drew from (Ext.trans (Ext.store hx37 hx41 (by omega)) (Ext.drew _)))
                      refine WO.qp rfl rfl rfl rfl (congrArg some h49) ?_
                      refine WO.qp rfl rfl rfl rfl (congrArg some h49) ?_
                      refine WO.qp rfl rfl rfl rfl (congrArg some h49) ?_
                      refine WO.qp rfl rfl rfl rfl (congrArg some h49) ?_
                      refine WO.q rfl rfl rfl rfl (fun w' hE43 => (X.pickF rfl h49 rfl)) ?_
                      refine WO.nil ?_
                      refine WL.nil ?_
                      refine thn_n ?_
                      refine WF.cond_f rfl ?_
                      refine WF.skip ?_
                      refine blk_n ?_
                      refine thn_n ?_
                      refine WF.region ?_
                      refine WL.va rfl rfl rfl (X.moveI e6_L1) ?_
                      refine WL.va rfl rfl rfl (X.add rfl rfl (w64 (by omega))) ?_
                      refine WL.va rfl rfl rfl (X.assignI rfl) ?_
                      refine WL.nil ?_
                      first | exact thn_n ⟨_, (by omega), i + 1, vS, rfl, rfl, e5_L1, (by repeat (first | exact hAL1 | refine Agree.put ?_ rfl | refine Agree.sub hAL0 rfl ?_ | refine Agree.named hF32 ?_ | refine Agree.named hF27 ?_)), (Ext.trans (Ext.trans hwL1 (Ext.store hx37 hx41 (by omega))) (Ext.drew _)), ⟨by omega, hB2⟩⟩ | exact thn_n ⟨_, (by omega), i + 1, vd, rfl, rfl, e5_L1, (by repeat (first | exact hAL1 | refine Agree.put ?_ rfl | refine Agree.sub hAL0 rfl ?_ | refine Agree.named hF32 ?_ | refine Agree.named hF27 ?_)), (Ext.trans (Ext.trans hwL1 (Ext.store hx37 hx41 (by omega))) (Ext.drew _)), ⟨by omega, by rw [wr_n hi hno]; exact hB9⟩⟩
                  · have gh47 := (of_decide_eq_false h47)
                    have hno : wrF ((orderL l).getD n 0) (l[i]'hi) = false := wr_no0 gh47
                    have hB9 := hB.ext (show Ext wL1 w39.drew from (Ext.trans (Ext.store hx37 hx41 (by omega)) (Ext.drew _)))
                    refine WO.qp rfl rfl rfl rfl (congrArg some h47) ?_
                    refine WO.qp rfl rfl rfl rfl (congrArg some h47) ?_
                    refine WO.qp rfl rfl rfl rfl (congrArg some h47) ?_
                    refine WO.qp rfl rfl rfl rfl (congrArg some h47) ?_
                    refine WO.q rfl rfl rfl rfl (fun w' hE43 => (X.pickF rfl h47 rfl)) ?_
                    refine WO.q rfl rfl rfl rfl (fun w' hE43 => (X.moveB rfl)) ?_
                    refine WO.qp rfl rfl rfl rfl rfl ?_
                    refine WO.qp rfl rfl rfl rfl rfl ?_
                    refine WO.qp rfl rfl rfl rfl rfl ?_
                    refine WO.qp rfl rfl rfl rfl rfl ?_
                    refine WO.q rfl rfl rfl rfl (fun w' hE43 => (X.pickF rfl rfl rfl)) ?_
                    refine WO.nil ?_
                    refine WL.nil ?_
                    refine thn_n ?_
                    refine WF.cond_f rfl ?_
                    refine WF.skip ?_
                    refine blk_n ?_
                    refine thn_n ?_
                    refine WF.region ?_
                    refine WL.va rfl rfl rfl (X.moveI e6_L1) ?_
                    refine WL.va rfl rfl rfl (X.add rfl rfl (w64 (by omega))) ?_
                    refine WL.va rfl rfl rfl (X.assignI rfl) ?_
                    refine WL.nil ?_
                    first | exact thn_n ⟨_, (by omega), i + 1, vS, rfl, rfl, e5_L1, (by repeat (first | exact hAL1 | refine Agree.put ?_ rfl | refine Agree.sub hAL0 rfl ?_ | refine Agree.named hF32 ?_ | refine Agree.named hF27 ?_)), (Ext.trans (Ext.trans hwL1 (Ext.store hx37 hx41 (by omega))) (Ext.drew _)), ⟨by omega, hB2⟩⟩ | exact thn_n ⟨_, (by omega), i + 1, vd, rfl, rfl, e5_L1, (by repeat (first | exact hAL1 | refine Agree.put ?_ rfl | refine Agree.sub hAL0 rfl ?_ | refine Agree.named hF32 ?_ | refine Agree.named hF27 ?_)), (Ext.trans (Ext.trans hwL1 (Ext.store hx37 hx41 (by omega))) (Ext.drew _)), ⟨by omega, by rw [wr_n hi hno]; exact hB9⟩⟩
                · have gh45 := (of_decide_eq_false h45)
                  have hno : wrF ((orderL l).getD n 0) (l[i]'hi) = false := by simp [wrF, ans, gh45]
                  have hB9 := hB.ext (show Ext wL1 w39.drew from (Ext.trans (Ext.store hx37 hx41 (by omega)) (Ext.drew _)))
                  refine WO.qp rfl rfl rfl rfl (congrArg some h45) ?_
                  refine WO.qp rfl rfl rfl rfl (congrArg some h45) ?_
                  refine WO.qp rfl rfl rfl rfl (congrArg some h45) ?_
                  refine WO.qp rfl rfl rfl rfl (congrArg some h45) ?_
                  refine WO.qp rfl rfl rfl rfl (congrArg some h45) ?_
                  refine WO.qp rfl rfl rfl rfl (congrArg some h45) ?_
                  refine WO.qp rfl rfl rfl rfl (congrArg some h45) ?_
                  refine WO.q rfl rfl rfl rfl (fun w' hE43 => (X.pickF rfl h45 rfl)) ?_
                  refine WO.q rfl rfl rfl rfl (fun w' hE43 => (X.moveB rfl)) ?_
                  refine WO.qp rfl rfl rfl rfl rfl ?_
                  refine WO.qp rfl rfl rfl rfl rfl ?_
                  refine WO.qp rfl rfl rfl rfl rfl ?_
                  refine WO.qp rfl rfl rfl rfl rfl ?_
                  refine WO.q rfl rfl rfl rfl (fun w' hE43 => (X.pickF rfl rfl rfl)) ?_
                  refine WO.q rfl rfl rfl rfl (fun w' hE43 => (X.moveB rfl)) ?_
                  refine WO.qp rfl rfl rfl rfl rfl ?_
                  refine WO.qp rfl rfl rfl rfl rfl ?_
                  refine WO.qp rfl rfl rfl rfl rfl ?_
                  refine WO.qp rfl rfl rfl rfl rfl ?_
                  refine WO.q rfl rfl rfl rfl (fun w' hE43 => (X.pickF rfl rfl rfl)) ?_
                  refine WO.nil ?_
                  refine WL.nil ?_
                  refine thn_n ?_
                  refine WF.cond_f rfl ?_
                  refine WF.skip ?_
                  refine blk_n ?_
                  refine thn_n ?_
                  refine WF.region ?_
                  refine WL.va rfl rfl rfl (X.moveI e6_L1) ?_
                  refine WL.va rfl rfl rfl (X.add rfl rfl (w64 (by omega))) ?_
                  refine WL.va rfl rfl rfl (X.assignI rfl) ?_
                  refine WL.nil ?_
                  first | exact thn_n ⟨_, (by omega), i + 1, vS, rfl, rfl, e5_L1, (by repeat (first | exact hAL1 | refine Agree.put ?_ rfl | refine Agree.sub hAL0 rfl ?_ | refine Agree.named hF32 ?_ | refine Agree.named hF27 ?_)), (Ext.trans (Ext.trans hwL1 (Ext.store hx37 hx41 (by omega))) (Ext.drew _)), ⟨by omega, hB2⟩⟩ | exact thn_n ⟨_, (by omega), i + 1, vd, rfl, rfl, e5_L1, (by repeat (first | exact hAL1 | refine Agree.put ?_ rfl | refine Agree.sub hAL0 rfl ?_ | refine Agree.named hF32 ?_ | refine Agree.named hF27 ?_)), (Ext.trans (Ext.trans hwL1 (Ext.store hx37 hx41 (by omega))) (Ext.drew _)), ⟨by omega, by rw [wr_n hi hno]; exact hB9⟩⟩
              · have gh3_33 := (of_decide_eq_false h3_33)
                have hi : l.length ≤ i := by have := gh3_33; omega
                have hBe := hB
                rw [List.take_of_length_le hi] at hBe
                refine WF.exit ?_
                refine thn_x ?_
                refine thn_x ?_
                refine blk_eq ?_
                refine thn_n ?_
                refine WF.seq ?_
                refine WF.region ?_
                refine WL.va rfl rfl rfl (X.move e5_L1) ?_
                refine WL.va rfl rfl rfl (X.move ((hAL1.eq 0).trans ((congrFun hF32 0).trans ((hAL0.eq 0).trans (congrFun hF27 0))))) ?_
                refine WL.va rfl rfl rfl (X.moveI ((hAL1.eq 4).trans ((congrFun hF32 4).trans e4_L0))) ?_
                refine WL.va rfl rfl rfl (X.add rfl rfl (show _ = ((n + 1 : Nat) : Int) from (w64 (by omega)).trans (by omega))) ?_
                refine WL.c rfl rfl rfl (X.call Try.call41 (evl_cons rfl (evl_cons rfl evl_nil))) (play_ok _ l ((n + 1 : Nat) : Int) _ (hv0.ext (Ext.trans (Ext.trans hx4 hx12) hwL1)) (by omega)) ?_
                rintro v60 wM ⟨⟨FM, hM, oM⟩, hx61⟩
                rw [play_nat, play_succ hn] at hM
                refine WL.c rfl rfl rfl (X.call Try.call42 (evl_cons rfl (evl_cons rfl evl_nil))) (sameBsT_ok (setsL (playN l n) (writesL l ((orderL l).getD n 0))) (hBe.ext hx61) (oM.sessE hM |>.ext (Ext.refl wM))) ?_
                rintro v63 w62 ⟨rfl, hx65⟩
                refine WL.va rfl rfl rfl (X.not rfl) ?_
                refine WL.nil ?_
                refine thn_n ?_
                refine WF.cond_f rfl ?_
                refine WF.skip ?_
                refine blk_n ?_
                refine thn_n ?_
                refine WF.region ?_
                refine WL.va rfl rfl rfl (X.moveI ((hAL1.eq 4).trans ((congrFun hF32 4).trans e4_L0))) ?_
                refine WL.va rfl rfl rfl (X.add rfl rfl (w64 (by omega))) ?_
                refine WL.va rfl rfl rfl (X.assignI rfl) ?_
                refine WL.nil ?_
                exact thn_n ⟨_, (by omega), n + 1, rfl, rfl, (by repeat (first | exact hAL0 | refine Agree.put ?_ rfl | refine Agree.sub hAL1 rfl ?_ | refine Agree.named hF32 ?_ | refine Agree.named hF27 ?_)), (Ext.trans (Ext.trans hwL1 hx61) hx65), (by omega)⟩
          · have gh2_28 := (of_decide_eq_false h2_28)
            refine WF.exit ?_
            refine thn_x ?_
            refine thn_x ?_
            refine blk_eq ?_
            refine thn_n ?_
            refine WF.seq ?_
            refine WF.region ?_
            refine WL.c rfl rfl rfl (X.call Try.call7 evl_nil) (works_ok _) ?_
            rintro v69 w68 ⟨rfl, hx70⟩
            refine WL.va rfl rfl rfl (X.assignB rfl) ?_
            refine WL.nil ?_
            refine thn_n ?_
            refine WF.ret ?_
            refine fin_r ?_
            exact ⟨rfl, (Ext.trans (Ext.trans (Ext.trans hx4 hx12) hwL0) hx70)⟩

end Go.Proofs.Ytobjmehppmhkdaa
