/- The walk of Check. -/
import Derived.Test.YthaojdpeimlngaaOpB
namespace Go.Proofs.Ythaojdpeimlngaa
open Go Go.RowKit Kf
set_option maxRecDepth 20000

theorem getD_mem {l : List Int} {k : Nat} (hk : k < l.length) : l.getD k 0 ∈ l := by
  rw [List.getD_eq_getElem?_getD, List.getElem?_eq_getElem hk]; exact List.getElem_mem hk
theorem mem_getD {l : List Int} {x : Int} (h : x ∈ l) : ∃ k, k < l.length ∧ l.getD k 0 = x := by
  obtain ⟨k, hk, e⟩ := List.getElem_of_mem h
  exact ⟨k, hk, by rw [List.getD_eq_getElem?_getD, List.getElem?_eq_getElem hk]; exact e⟩
theorem idx_all {l : List Int} {z a b : Int} (h : IdxZ (fun k => !decide (a ≤ l.getD k 0 ∧ l.getD k 0 ≤ b)) l.length z) : (!decide (z ≥ 0)) = decide (allP l a b) := by
  by_cases hz : 0 ≤ z
  · obtain ⟨k, _, hk, hp, _⟩ := h.pos hz
    have h1 : ¬ (a ≤ l.getD k 0 ∧ l.getD k 0 ≤ b) := of_decide_eq_false (by rw [← Bool.not_eq_true']; exact hp)
    rw [decide_eq_true hz, decide_eq_false fun q => h1 (q _ (getD_mem hk))]; rfl
  · obtain ⟨_, hn⟩ := h.neg hz
    rw [decide_eq_false hz, decide_eq_true]; rfl
    intro v hv
    obtain ⟨k, hk, rfl⟩ := mem_getD hv
    simpa using hn k hk
theorem idx_size {E : List WV} {l : List Wr} (hE : E.map Prod.fst = l) {z : Int} (h : IdxZ (fun k => decide (((E.map Prod.fst).getD k default).Data.length ≠ 4)) E.length z) : decide (z ≥ 0) = decide (¬ sizeP l) := by
  subst hE
  by_cases hz : 0 ≤ z
  · obtain ⟨k, _, hk, hp, _⟩ := h.pos hz
    have h1 := of_decide_eq_true hp
    rw [decide_eq_true hz, decide_eq_true]
    intro q
    apply h1
    apply q
    rw [List.getD_eq_getElem?_getD, List.getElem?_eq_getElem (by simpa using hk)]; exact List.getElem_mem _
  · obtain ⟨_, hn⟩ := h.neg hz
    rw [decide_eq_false hz, decide_eq_false]
    intro q; apply q
    intro x hx
    obtain ⟨k, hk, rfl⟩ := List.getElem_of_mem hx
    have hk2 : k < E.length := by simpa using hk
    have := of_decide_eq_false (hn k hk2)
    rw [List.getD_eq_getElem?_getD, List.getElem?_eq_getElem hk] at this
    exact Decidable.of_not_not this
theorem rise_f {l : List Int} {k : Nat} (hk : k + 1 < l.length) (h : l.getD k 0 ≥ l.getD (k + 1) 0) : ¬ riseP l := fun q => by have := q k (by omega); omega
theorem bl_map {E : List WV} {o : Od} (hE : E.map Prod.fst = o.W) : o.bl = E.map fun e => e.1.Block := by
  unfold Od.bl; rw [← hE, List.map_map]; rfl
section
variable {o : Od}
theorem chk13 (h0 : ¬ (1 ≤ o.g 0 ∧ o.g 0 ≤ 11)) : chk o = 13 := by unfold chk; rw [if_pos h0]
theorem chk14 (h0 : 1 ≤ o.g 0 ∧ o.g 0 ≤ 11) (h1 : ¬ o.bareP) : chk o = 14 := by unfold chk; rw [if_neg (not_not_intro h0), if_pos h1]
theorem chk17 (h0 : 1 ≤ o.g 0 ∧ o.g 0 ≤ 11) (h1 : o.bareP) (h2 : 4 < o.P.length ∨ 16 < o.R.length ∨ 8 < o.W.length) : chk o = 17 := by
  unfold chk; rw [if_neg (not_not_intro h0), if_neg (not_not_intro h1), if_pos h2]
theorem chk2 (h0 : 1 ≤ o.g 0 ∧ o.g 0 ≤ 11) (h1 : o.bareP) (h2 : ¬ (4 < o.P.length ∨ 16 < o.R.length ∨ 8 < o.W.length)) (h3 : 32768 < o.D.length) : chk o = 2 := by
  unfold chk; rw [if_neg (not_not_intro h0), if_neg (not_not_intro h1), if_neg h2, if_pos h3]
theorem chk3 (h0 : 1 ≤ o.g 0 ∧ o.g 0 ≤ 11) (h1 : o.bareP) (h2 : ¬ (4 < o.P.length ∨ 16 < o.R.length ∨ 8 < o.W.length)) (h3 : ¬ 32768 < o.D.length) (h4 : ¬ (o.placedP ∧ allP o.P 1 4 ∧ allP o.R 0 63 ∧ allP o.bl 0 63)) : chk o = 3 := by
  unfold chk; rw [if_neg (not_not_intro h0), if_neg (not_not_intro h1), if_neg h2, if_neg h3, if_pos h4]
theorem chk21 (h0 : 1 ≤ o.g 0 ∧ o.g 0 ≤ 11) (h1 : o.bareP) (h2 : ¬ (4 < o.P.length ∨ 16 < o.R.length ∨ 8 < o.W.length)) (h3 : ¬ 32768 < o.D.length) (h4 : o.placedP ∧ allP o.P 1 4 ∧ allP o.R 0 63 ∧ allP o.bl 0 63) (h5 : ¬ sizeP o.W) : chk o = 21 := by
  unfold chk; rw [if_neg (not_not_intro h0), if_neg (not_not_intro h1), if_neg h2, if_neg h3, if_neg (not_not_intro h4), if_pos h5]
theorem chk15 (h0 : 1 ≤ o.g 0 ∧ o.g 0 ≤ 11) (h1 : o.bareP) (h2 : ¬ (4 < o.P.length ∨ 16 < o.R.length ∨ 8 < o.W.length)) (h3 : ¬ 32768 < o.D.length) (h4 : o.placedP ∧ allP o.P 1 4 ∧ allP o.R 0 63 ∧ allP o.bl 0 63) (h5 : sizeP o.W) (h6 : ¬ (riseP o.P ∧ riseP o.R ∧ riseP o.bl)) : chk o = 15 := by
  unfold chk; rw [if_neg (not_not_intro h0), if_neg (not_not_intro h1), if_neg h2, if_neg h3, if_neg (not_not_intro h4), if_neg (not_not_intro h5), if_pos h6]
theorem chk0 (h0 : 1 ≤ o.g 0 ∧ o.g 0 ≤ 11) (h1 : o.bareP) (h2 : ¬ (4 < o.P.length ∨ 16 < o.R.length ∨ 8 < o.W.length)) (h3 : ¬ 32768 < o.D.length) (h4 : o.placedP ∧ allP o.P 1 4 ∧ allP o.R 0 63 ∧ allP o.bl 0 63) (h5 : sizeP o.W) (h6 : riseP o.P ∧ riseP o.R ∧ riseP o.bl) : chk o = 0 := by
  unfold chk; rw [if_neg (not_not_intro h0), if_neg (not_not_intro h1), if_neg h2, if_neg h3, if_neg (not_not_intro h4), if_neg (not_not_intro h5), if_neg (not_not_intro h6)]
end
set_option maxHeartbeats 1600000 in
theorem blocksOf_ok (vP vR vW vD : Value) (o : Od) (w : World) (h : OpAt w vP vR vW vD o) (hm : o.small) : FnOk Try.prog 43 [agg (oc o.n vP vR vW vD)] w (fun r w' => OwnI w' w.heap.size 3 r o.bl ∧ Ext w w') := by
  obtain ⟨hmP, hmR, hmW, hmD, hmWD⟩ := hm
  obtain ⟨E, hE, rE, dE⟩ := h.W
  have hEl : E.length = o.W.length := by rw [← hE]; simp
  rw [bl_map hE]
  refine FnOk.enter (rs := [2]) Try.func43 rfl Try.ntmps43 Try.results43 rfl rfl ?_
  refine WF.seq ?_
  refine WF.region ?_
  refine WL.op rfl (OW.boxA (cs := (oc o.n vP vR vW vD)) rfl ?_ (by decide))
  intro g1 wb heg1 hlg1 hO1 hx2
  have := World.grownBy.size hx2
  refine WL.va rfl rfl rfl (X.assign rfl) ?_
  refine WL.nil ?_
  refine thn_n ?_
  refine WF.seq ?_
  refine WF.region ?_
  refine WL.va rfl rfl rfl (X.assign rfl) ?_
  refine WL.nil ?_
  refine thn_n ?_
  refine WF.seq ?_
  refine WF.seq ?_
  refine WF.region ?_
  refine WL.va rfl rfl rfl (X.fieldAddrO (off := 15) rfl Try.underlying26 rfl rfl Try.sizeOf23) ?_
  refine WL.va rfl rfl rfl (X.loadO hO1 (Ext.refl _) rfl rfl Try.isAgg23) ?_
  refine WL.va rfl rfl rfl (X.len rE rfl Try.underlying23) ?_
  refine WL.va rfl rfl rfl (X.moveI rfl) ?_
  refine WL.nil ?_
  refine thn_n ?_
  refine WF.block ?_
  refine WF.named (fun F4 hF5 => ?_)
  refine WF.loopN (fun mL0 f' w' => ∃ (k : Nat) (vl : Value), mL0 = E.length - k ∧ f' 9 = .int .i64 (k : Int) ∧ f' 3 = vl ∧ Agree [0, 1, 2, 6, 7, 8] f' F4 ∧ Ext wb w' ∧ k ≤ E.length ∧ OwnI w' wb.heap.size 3 vl ((E.map fun e => e.1.Block).take k)) ?_ ?_
  · exact ⟨_, 0, (.slice none 0 0), rfl, (congrFun hF5 9), (congrFun hF5 3), (Agree.refl _ _), (Ext.refl _), ⟨Nat.zero_le _, World.ownsRow_nil _ _ _ _⟩⟩
  · rintro mL0 fL0 wL0 ⟨k, vl, hmL0, e9_L0, e3_L0, hAL0, hwL0, ⟨hk0, ho⟩⟩
    have := World.grownBy.size hwL0
    refine WF.seq ?_
    refine WF.region ?_
    refine WL.va rfl rfl rfl (X.lss e9_L0 ((hAL0.eq 8).trans (congrFun hF5 8))) ?_
    refine WL.nil ?_
    refine thn_n ?_
    refine WF.seq ?_
    refine WF.cond rfl (fun h0_6 => ?_) (fun h0_6 => ?_)
    · have gh0_6 := (of_decide_eq_true h0_6)
      have hk : k < E.length := by omega
      refine WF.skip ?_
      refine thn_n ?_
      refine WF.seq ?_
      refine WF.block ?_
      refine WF.seq ?_
      refine WF.region ?_
      refine WL.va rfl rfl rfl (X.idx rE ((hAL0.eq 7).trans (congrFun hF5 7)) e9_L0 (by omega) Try.underlying23 Try.sizeOf52) ?_
      refine WL.va rfl rfl rfl (X.loadEl rE (Ext.trans hx2 hwL0) rfl (by omega) (WRow.el hk) Try.isAgg52 Try.sizeOf52) ?_
      refine WL.op rfl (OW.allocO (cs := [i64 0, .slice none 0 0]) Try.zeroValue52 rfl ?_ (by decide))
      intro g5 w8 heg5 hlg5 hO5 hx10
      have := World.grownBy.size hx10
      refine WL.op rfl (OW.storeOA hO5 rfl rfl rfl (WDat.one1 dE hk) Try.sizeOf52 ?_)
      intro w12 hO5 hx14
      have := World.grownBy.size hx14
      replace hO1 := (hO1.ext (Ext.trans hwL0 hx10)).keptO hx14 (by omega)
      replace hO5 : Blk _ _ _ (WV.c (E[k]'hk)) := hO5
      refine WL.nil ?_
      refine thn_n ?_
      refine WF.region ?_
      refine WL.va rfl rfl rfl (X.move e3_L0) ?_
      refine WL.va rfl rfl rfl (X.fieldAddrO (off := 0) rfl Try.underlying52 rfl rfl Try.sizeOf3) ?_
      refine WL.va rfl rfl rfl (X.loadO hO5 (Ext.refl _) rfl rfl Try.isAgg3) ?_
      refine WL.op rfl (OW.lits (vs := [i64 (E[k]'hk).1.Block]) (evp_cons rfl evp_nil) Try.underlying22 Try.sizeOf3 Try.zeroValue3 ⟨rfl, trivial⟩ rfl rfl rfl ?_ (by decide))
      intro v17 w16 ho19 hx18
      have := World.grownBy.size hx18
      have ho1 := own_ext ho (Ext.trans (Ext.store hx10 hx14 (by omega)) hx18)
      refine WL.op rfl (OW.appendI ho1 (show Ints _ _ [(E[k]'hk).1.Block] from Row.of_own ho19) rfl rfl Try.underlying22 Try.type3 rfl rfl rfl rfl (by simp; omega) (World.grownBy.size (show Ext wb w16 from (Ext.trans (Ext.trans hwL0 (Ext.store hx10 hx14 (by omega))) hx18))) ?_ (by decide))
      intro v21 w20 ho23 hx22 hmvhx22
      have ho2 := ho23
      refine WL.va rfl rfl rfl (X.assign rfl) ?_
      refine WL.nil ?_
      refine blk_n ?_
      refine thn_n ?_
      refine WF.region ?_
      refine WL.va rfl rfl rfl (X.add e9_L0 rfl (w64 (by omega))) ?_
      refine WL.va rfl rfl rfl (X.moveI rfl) ?_
      refine WL.nil ?_
      exact thn_n ⟨_, (by omega), k + 1, _, rfl, rfl, rfl, (by repeat (first | exact hAL0 | refine Agree.put ?_ rfl | refine Agree.named hF5 ?_)), (Ext.own (Ext.trans (Ext.trans hwL0 (Ext.store hx10 hx14 (by omega))) hx18) ho1 (Nat.le_refl _) hx22), ⟨by omega, by rw [take_map hk]; exact ho2⟩⟩
    · have gh0_6 := (of_decide_eq_false h0_6)
      refine WF.exit ?_
      refine thn_x ?_
      refine thn_x ?_
      refine blk_eq ?_
      refine thn_n ?_
      refine WF.seq ?_
      refine WF.region ?_
      refine WL.va rfl rfl rfl (X.move e3_L0) ?_
      refine WL.va rfl rfl rfl (X.assign rfl) ?_
      refine WL.nil ?_
      refine thn_n ?_
      refine WF.ret ?_
      refine fin_r ?_
      exact ⟨own_mono (by rw [List.take_of_length_le (by simp; omega)] at ho; exact ho) (World.grownBy.size (show Ext w wL0 from (Ext.trans hx2 hwL0)) |> fun _ => by omega), (Ext.trans hx2 hwL0)⟩

theorem withinLit_ok (v a b : Int) (g1 g2 : Nat) (w : World) (h1 : Blk w g1 3 [i64 a]) (h2 : Blk w g2 3 [i64 b]) : FnOk Try.prog 79 [i64 v, at_ g1, at_ g2] w (fun r w' => r = .bool (!decide (a ≤ v ∧ v ≤ b)) ∧ Ext w w') := by
  refine FnOk.enter (rs := [4]) Try.func79 rfl Try.ntmps79 Try.results79 rfl rfl ?_
  refine WF.seq ?_
  refine WF.region ?_
  refine WL.va rfl rfl rfl (X.assignB rfl) ?_
  refine WL.nil ?_
  refine thn_n ?_
  refine WF.seq ?_
  refine WF.region ?_
  refine WL.va rfl rfl rfl (X.moveI rfl) ?_
  refine WL.va rfl rfl rfl (X.loadO h1 (Ext.refl _) rfl rfl Try.isAgg3) ?_
  refine WL.va rfl rfl rfl (X.loadO h2 (Ext.refl _) rfl rfl Try.isAgg3) ?_
  refine WL.c rfl rfl rfl (X.call Try.call44 (evl_cons rfl (evl_cons rfl (evl_cons rfl evl_nil)))) (in_ok _ _ _ _) ?_
  rintro v3 w2 ⟨rfl, hx4⟩
  have := World.grownBy.size hx4
  refine WL.va rfl rfl rfl (X.not rfl) ?_
  refine WL.va rfl rfl rfl (X.assignB rfl) ?_
  refine WL.nil ?_
  refine thn_n ?_
  refine WF.ret ?_
  refine fin_r ?_
  exact ⟨rfl, hx4⟩

theorem indexI_ok (v vf : Value) (l : List Int) (p : Nat → Bool) (w : World) (hb : Ints w v l) (hf : ∀ k w1, k < l.length → Ext w w1 → CloOk Try.prog vf [i64 (l.getD k 0)] w1 (fun r w2 => r = .bool (p k) ∧ Ext w1 w2)) : FnOk Try.prog 89 [v, vf] w (fun r w' => Idx p l.length r ∧ Ext w w') := by
  have hl : (l.length : Int) ≤ 9223372036854775807 := by obtain ⟨_, c, _, h1, h2, _⟩ := hb.shape; unfold maxLen at h2; omega
  refine FnOk.enter (rs := [4]) Try.func89 rfl Try.ntmps89 Try.results89 rfl rfl ?_
  refine WF.seq ?_
  refine WF.region ?_
  refine WL.va rfl rfl rfl (X.assignI rfl) ?_
  refine WL.nil ?_
  refine thn_n ?_
  refine WF.seq ?_
  refine WF.seq ?_
  refine WF.region ?_
  refine WL.va rfl rfl rfl (X.move rfl) ?_
  refine WL.va rfl rfl rfl (X.len hb rfl Try.underlying22) ?_
  refine WL.va rfl rfl rfl (X.moveI rfl) ?_
  refine WL.nil ?_
  refine thn_n ?_
  refine WF.block ?_
  refine WF.named (fun F1 hF2 => ?_)
  refine WF.loopN (fun mL0 f' w' => ∃ (k : Nat), mL0 = l.length - k ∧ f' 8 = .int .i64 (k : Int) ∧ Agree [0, 1, 6, 7] f' F1 ∧ Ext w w' ∧ k ≤ l.length ∧ ∀ j, j < k → p j = false) ?_ ?_
  · exact ⟨_, 0, rfl, (congrFun hF2 8), (Agree.refl _ _), (Ext.refl _), ⟨Nat.zero_le _, fun j hj => by omega⟩⟩
  · rintro mL0 fL0 wL0 ⟨k, hmL0, e8_L0, hAL0, hwL0, ⟨hk, hno⟩⟩
    refine WF.seq ?_
    refine WF.region ?_
    refine WL.va rfl rfl rfl (X.lss e8_L0 ((hAL0.eq 7).trans (congrFun hF2 7))) ?_
    refine WL.nil ?_
    refine thn_n ?_
    refine WF.seq ?_
    refine WF.cond rfl (fun h0_3 => ?_) (fun h0_3 => ?_)
    · have gh0_3 := (of_decide_eq_true h0_3)
      have hka : k < l.length := by omega
      refine WF.skip ?_
      refine thn_n ?_
      refine WF.seq ?_
      refine WF.block ?_
      refine WF.seq ?_
      refine WF.region ?_
      refine WL.va rfl rfl rfl (X.moveI e8_L0) ?_
      refine WL.va rfl rfl rfl (X.assignI rfl) ?_
      refine WL.nil ?_
      refine thn_n ?_
      refine WF.seq ?_
      refine WF.region ?_
      refine WL.va rfl rfl rfl (X.move ((hAL0.eq 1).trans (congrFun hF2 1))) ?_
      refine WL.va rfl rfl rfl (X.move ((hAL0.eq 0).trans (congrFun hF2 0))) ?_
      refine WL.va rfl rfl rfl (X.moveI rfl) ?_
      refine WL.va rfl rfl rfl (X.idx hb rfl rfl (by omega) Try.underlying22 Try.sizeOf3) ?_
      refine WL.va rfl rfl rfl (X.loadI hb hwL0 rfl (by omega) Try.isAgg3) ?_
      refine WL.op rfl (OW.callV rfl (evl_cons rfl evl_nil) (hf k _ hka hwL0) ?_ (by decide))
      rintro v6 w5 ⟨rfl, hx7⟩
      refine WL.nil ?_
      refine thn_n ?_
      refine WF.cond rfl (fun h1_8 => ?_) (fun h1_8 => ?_)
      · have gh1_8 := h1_8
        have hpk := gh1_8
        refine WF.seq ?_
        refine WF.region ?_
        refine WL.va rfl rfl rfl (X.moveI rfl) ?_
        refine WL.va rfl rfl rfl (X.assignI rfl) ?_
        refine WL.nil ?_
        refine thn_n ?_
        refine WF.ret ?_
        refine blk_r ?_
        refine thn_r ?_
        refine thn_r ?_
        refine blk_r ?_
        refine thn_r ?_
        refine fin_r ?_
        exact ⟨⟨_, rfl, .inl ⟨k, hka, rfl, hpk, hno⟩⟩, (Ext.trans hwL0 hx7)⟩
      · have gh1_8 := h1_8
        have hpk := gh1_8
        refine WF.skip ?_
        refine blk_n ?_
        refine thn_n ?_
        refine WF.region ?_
        refine WL.va rfl rfl rfl (X.add e8_L0 rfl (w64 (by omega))) ?_
        refine WL.va rfl rfl rfl (X.moveI rfl) ?_
        refine WL.nil ?_
        exact thn_n ⟨_, (by omega), k + 1, rfl, rfl, (by repeat (first | exact hAL0 | refine Agree.put ?_ rfl | refine Agree.named hF2 ?_)), (Ext.trans hwL0 hx7), ⟨by omega, fun j hj => by rcases Nat.lt_succ_iff_lt_or_eq.1 hj with h | rfl; exact hno j h; exact hpk⟩⟩
    · have gh0_3 := (of_decide_eq_false h0_3)
      refine WF.exit ?_
      refine thn_x ?_
      refine thn_x ?_
      refine blk_eq ?_
      refine thn_n ?_
      refine WF.seq ?_
      refine WF.region ?_
      refine WL.va rfl rfl rfl (X.assignI rfl) ?_
      refine WL.nil ?_
      refine thn_n ?_
      refine WF.ret ?_
      refine fin_r ?_
      exact ⟨⟨_, rfl, .inr ⟨rfl, fun j hj => hno j (by omega)⟩⟩, hwL0⟩

theorem containsI_ok (v vf : Value) (l : List Int) (p : Nat → Bool) (w : World) (hb : Ints w v l) (hf : ∀ k w1, k < l.length → Ext w w1 → CloOk Try.prog vf [i64 (l.getD k 0)] w1 (fun r w2 => r = .bool (p k) ∧ Ext w1 w2)) : FnOk Try.prog 78 [v, vf] w (fun r w' => (∃ z, r = .bool (decide (z ≥ 0)) ∧ IdxZ p l.length z) ∧ Ext w w') := by
  refine FnOk.enter (rs := [4]) Try.func78 rfl Try.ntmps78 Try.results78 rfl rfl ?_
  refine WF.seq ?_
  refine WF.region ?_
  refine WL.va rfl rfl rfl (X.assignB rfl) ?_
  refine WL.nil ?_
  refine thn_n ?_
  refine WF.seq ?_
  refine WF.region ?_
  refine WL.va rfl rfl rfl (X.move rfl) ?_
  refine WL.va rfl rfl rfl (X.move rfl) ?_
  refine WL.c rfl rfl rfl (X.call Try.call89 (evl_cons rfl (evl_cons rfl evl_nil))) (indexI_ok _ _ _ p _ hb hf) ?_
  rintro v3 w2 ⟨⟨z, rfl, hz⟩, hx4⟩
  refine WL.va rfl rfl rfl (X.geq rfl rfl) ?_
  refine WL.va rfl rfl rfl (X.assignB rfl) ?_
  refine WL.nil ?_
  refine thn_n ?_
  refine WF.ret ?_
  refine fin_r ?_
  exact ⟨⟨z, rfl, hz⟩, hx4⟩

theorem indexW_ok (v vf : Value) (cs : List Value) (n : Nat) (p : Nat → Bool) (w : World) (hb : Row w v n 2 cs) (hf : ∀ k w1, k < n → Ext w w1 → CloOk Try.prog vf [agg (el cs 2 k)] w1 (fun r w2 => r = .bool (p k) ∧ Ext w1 w2)) : FnOk Try.prog 80 [v, vf] w (fun r w' => Idx p n r ∧ Ext w w') := by
  have hl : (n : Int) ≤ 9223372036854775807 := by obtain ⟨_, c, _, h1, h2, _⟩ := hb.shape; unfold maxLen at h2; omega
  refine FnOk.enter (rs := [4]) Try.func80 rfl Try.ntmps80 Try.results80 rfl rfl ?_
  refine WF.seq ?_
  refine WF.region ?_
  refine WL.va rfl rfl rfl (X.assignI rfl) ?_
  refine WL.nil ?_
  refine thn_n ?_
  refine WF.seq ?_
  refine WF.seq ?_
  refine WF.region ?_
  refine WL.va rfl rfl rfl (X.move rfl) ?_
  refine WL.va rfl rfl rfl (X.len hb rfl Try.underlying23) ?_
  refine WL.va rfl rfl rfl (X.moveI rfl) ?_
  refine WL.nil ?_
  refine thn_n ?_
  refine WF.block ?_
  refine WF.named (fun F1 hF2 => ?_)
  refine WF.loopN (fun mL0 f' w' => ∃ (k : Nat), mL0 = n - k ∧ f' 8 = .int .i64 (k : Int) ∧ Agree [0, 1, 6, 7] f' F1 ∧ Ext w w' ∧ k ≤ n ∧ ∀ j, j < k → p j = false) ?_ ?_
  · exact ⟨_, 0, rfl, (congrFun hF2 8), (Agree.refl _ _), (Ext.refl _), ⟨Nat.zero_le _, fun j hj => by omega⟩⟩
  · rintro mL0 fL0 wL0 ⟨k, hmL0, e8_L0, hAL0, hwL0, ⟨hk, hno⟩⟩
    refine WF.seq ?_
    refine WF.region ?_
    refine WL.va rfl rfl rfl (X.lss e8_L0 ((hAL0.eq 7).trans (congrFun hF2 7))) ?_
    refine WL.nil ?_
    refine thn_n ?_
    refine WF.seq ?_
    refine WF.cond rfl (fun h0_3 => ?_) (fun h0_3 => ?_)
    · have gh0_3 := (of_decide_eq_true h0_3)
      have hka : k < n := by omega
      refine WF.skip ?_
      refine thn_n ?_
      refine WF.seq ?_
      refine WF.block ?_
      refine WF.seq ?_
      refine WF.region ?_
      refine WL.va rfl rfl rfl (X.moveI e8_L0) ?_
      refine WL.va rfl rfl rfl (X.assignI rfl) ?_
      refine WL.nil ?_
      refine thn_n ?_
      refine WF.seq ?_
      refine WF.region ?_
      refine WL.va rfl rfl rfl (X.move ((hAL0.eq 1).trans (congrFun hF2 1))) ?_
      refine WL.va rfl rfl rfl (X.move ((hAL0.eq 0).trans (congrFun hF2 0))) ?_
      refine WL.va rfl rfl rfl (X.moveI rfl) ?_
      refine WL.va rfl rfl rfl (X.idx hb rfl rfl (by omega) Try.underlying23 Try.sizeOf52) ?_
      refine WL.va rfl rfl rfl (X.loadEl hb hwL0 rfl (by omega) rfl Try.isAgg52 Try.sizeOf52) ?_
      refine WL.op rfl (OW.callV rfl (evl_cons rfl evl_nil) (hf k _ hka hwL0) ?_ (by decide))
      rintro v6 w5 ⟨rfl, hx7⟩
      refine WL.nil ?_
      refine thn_n ?_
      refine WF.cond rfl (fun h1_8 => ?_) (fun h1_8 => ?_)
      · have gh1_8 := h1_8
        have hpk := gh1_8
        refine WF.seq ?_
        refine WF.region ?_
        refine WL.va rfl rfl rfl (X.moveI rfl) ?_
        refine WL.va rfl rfl rfl (X.assignI rfl) ?_
        refine WL.nil ?_
        refine thn_n ?_
        refine WF.ret ?_
        refine blk_r ?_
        refine thn_r ?_
        refine thn_r ?_
        refine blk_r ?_
        refine thn_r ?_
        refine fin_r ?_
        exact ⟨⟨_, rfl, .inl ⟨k, hka, rfl, hpk, hno⟩⟩, (Ext.trans hwL0 hx7)⟩
      · have gh1_8 := h1_8
        have hpk := gh1_8
        refine WF.skip ?_
        refine blk_n ?_
        refine thn_n ?_
        refine WF.region ?_
        refine WL.va rfl rfl rfl (X.add e8_L0 rfl (w64 (by omega))) ?_
        refine WL.va rfl rfl rfl (X.moveI rfl) ?_
        refine WL.nil ?_
        exact thn_n ⟨_, (by omega), k + 1, rfl, rfl, (by repeat (first | exact hAL0 | refine Agree.put ?_ rfl | refine Agree.named hF2 ?_)), (Ext.trans hwL0 hx7), ⟨by omega, fun j hj => by rcases Nat.lt_succ_iff_lt_or_eq.1 hj with h | rfl; exact hno j h; exact hpk⟩⟩
    · have gh0_3 := (of_decide_eq_false h0_3)
      refine WF.exit ?_
      refine thn_x ?_
      refine thn_x ?_
      refine blk_eq ?_
      refine thn_n ?_
      refine WF.seq ?_
      refine WF.region ?_
      refine WL.va rfl rfl rfl (X.assignI rfl) ?_
      refine WL.nil ?_
      refine thn_n ?_
      refine WF.ret ?_
      refine fin_r ?_
      exact ⟨⟨_, rfl, .inr ⟨rfl, fun j hj => hno j (by omega)⟩⟩, hwL0⟩

theorem containsW_ok (v vf : Value) (cs : List Value) (n : Nat) (p : Nat → Bool) (w : World) (hb : Row w v n 2 cs) (hf : ∀ k w1, k < n → Ext w w1 → CloOk Try.prog vf [agg (el cs 2 k)] w1 (fun r w2 => r = .bool (p k) ∧ Ext w1 w2)) : FnOk Try.prog 48 [v, vf] w (fun r w' => (∃ z, r = .bool (decide (z ≥ 0)) ∧ IdxZ p n z) ∧ Ext w w') := by
  refine FnOk.enter (rs := [4]) Try.func48 rfl Try.ntmps48 Try.results48 rfl rfl ?_
  refine WF.seq ?_
  refine WF.region ?_
  refine WL.va rfl rfl rfl (X.assignB rfl) ?_
  refine WL.nil ?_
  refine thn_n ?_
  refine WF.seq ?_
  refine WF.region ?_
  refine WL.va rfl rfl rfl (X.move rfl) ?_
  refine WL.va rfl rfl rfl (X.move rfl) ?_
  refine WL.c rfl rfl rfl (X.call Try.call80 (evl_cons rfl (evl_cons rfl evl_nil))) (indexW_ok _ _ _ _ p _ hb hf) ?_
  rintro v3 w2 ⟨⟨z, rfl, hz⟩, hx4⟩
  refine WL.va rfl rfl rfl (X.geq rfl rfl) ?_
  refine WL.va rfl rfl rfl (X.assignB rfl) ?_
  refine WL.nil ?_
  refine thn_n ?_
  refine WF.ret ?_
  refine fin_r ?_
  exact ⟨⟨z, rfl, hz⟩, hx4⟩

theorem within_ok (v : Value) (l : List Int) (a b : Int) (w : World) (hb : Ints w v l) : FnOk Try.prog 47 [v, i64 a, i64 b] w (fun r w' => r = .bool (decide (allP l a b)) ∧ Ext w w') := by
  refine FnOk.enter (rs := [6]) Try.func47 rfl Try.ntmps47 Try.results47 rfl rfl ?_
  refine WF.seq ?_
  refine WF.region ?_
  refine WL.op rfl (OW.box1 rfl rfl ?_ (by decide))
  intro g4 w1 heg4 hlg4 hO4 hx3
  have := World.grownBy.size hx3
  refine WL.op rfl (OW.box1 rfl rfl ?_ (by decide))
  intro g5 w5 heg5 hlg5 hO5 hx7
  have := World.grownBy.size hx7
  refine WL.va rfl rfl rfl (X.assignB rfl) ?_
  refine WL.nil ?_
  refine thn_n ?_
  refine WF.seq ?_
  refine WF.region ?_
  refine WL.va rfl rfl rfl (X.move rfl) ?_
  refine WL.va rfl rfl rfl (X.makeFunc (evl_cons rfl (evl_cons rfl evl_nil))) ?_
  have hclo : ∀ k wq, k < l.length → Ext w5 wq → CloOk Try.prog (.func (.func 79) #[] [at_ g4, at_ g5].toArray) [i64 (l.getD k 0)] wq (fun r w2 => r = .bool (!decide (a ≤ l.getD k 0 ∧ l.getD k 0 ≤ b)) ∧ Ext wq w2) := fun k wq hk hx => ⟨_, _, rfl, Try.call79, withinLit_ok _ _ _ _ _ _ ((hO4.ext hx7).ext hx) (hO5.ext hx)⟩
  refine WL.c rfl rfl rfl (X.call Try.call78 (evl_cons rfl (evl_cons rfl evl_nil))) (containsI_ok _ _ _ (fun k => !decide (a ≤ l.getD k 0 ∧ l.getD k 0 ≤ b)) _ (Row.ext hb (Ext.trans hx3 hx7)) hclo) ?_
  rintro v11 w10 ⟨⟨z, rfl, hz⟩, hx12⟩
  have := World.grownBy.size hx12
  refine WL.va rfl rfl rfl (X.not rfl) ?_
  refine WL.va rfl rfl rfl (X.assignB rfl) ?_
  refine WL.nil ?_
  refine thn_n ?_
  refine WF.ret ?_
  refine fin_r ?_
  exact ⟨congrArg Value.bool (idx_all hz), (Ext.trans (Ext.trans hx3 hx7) hx12)⟩

theorem checkLit_ok (e : WV) (w : World) (hb : Bytes w e.2 e.1.Data) : FnOk Try.prog 49 [agg (WV.c e)] w (fun r w' => r = .bool (decide (e.1.Data.length ≠ 4)) ∧ Ext w w') := by
  refine FnOk.enter (rs := [2]) Try.func49 rfl Try.ntmps49 Try.results49 rfl rfl ?_
  refine WF.seq ?_
  refine WF.region ?_
  refine WL.op rfl (OW.boxA (cs := (WV.c e)) rfl ?_ (by decide))
  intro g1 w1 heg1 hlg1 hO1 hx3
  have := World.grownBy.size hx3
  refine WL.va rfl rfl rfl (X.assignB rfl) ?_
  refine WL.nil ?_
  refine thn_n ?_
  refine WF.seq ?_
  refine WF.region ?_
  refine WL.va rfl rfl rfl (X.fieldAddrO (off := 1) rfl Try.underlying52 rfl rfl Try.sizeOf24) ?_
  refine WL.va rfl rfl rfl (X.loadO hO1 (Ext.refl _) rfl rfl Try.isAgg24) ?_
  refine WL.va rfl rfl rfl (X.len hb rfl Try.underlying24) ?_
  refine WL.va rfl rfl rfl (X.neq rfl rfl) ?_
  refine WL.va rfl rfl rfl (X.assignB rfl) ?_
  refine WL.nil ?_
  refine thn_n ?_
  refine WF.ret ?_
  refine fin_r ?_
  exact ⟨congrArg Value.bool (decide_eq_decide.2 (by omega)), hx3⟩

theorem rises_ok (v : Value) (l : List Int) (w : World) (hb : Ints w v l) (hm : l.length ≤ 1000000) : FnOk Try.prog 50 [v] w (fun r w' => r = .bool (decide (riseP l)) ∧ Ext w w') := by
  refine FnOk.enter (rs := [2]) Try.func50 rfl Try.ntmps50 Try.results50 rfl rfl ?_
  refine WF.seq ?_
  refine WF.region ?_
  refine WL.va rfl rfl rfl (X.assignB rfl) ?_
  refine WL.nil ?_
  refine thn_n ?_
  refine WF.seq ?_
  refine WF.seq ?_
  refine WF.region ?_
  refine WL.va rfl rfl rfl (X.assignI rfl) ?_
  refine WL.nil ?_
  refine thn_n ?_
  refine WF.block ?_
  refine WF.named (fun F2 hF3 => ?_)
  refine WF.loopN (fun mL0 f' w' => ∃ (k : Nat), mL0 = l.length - k ∧ f' 3 = .int .i64 ((k + 1 : Nat) : Int) ∧ Agree [0] f' F2 ∧ Ext w w' ∧ (k = 0 ∨ k + 1 ≤ l.length) ∧ ∀ j, j < k → l.getD j 0 < l.getD (j + 1) 0) ?_ ?_
  · exact ⟨_, 0, rfl, (congrFun hF3 3), (Agree.refl _ _), (Ext.refl _), ⟨.inl rfl, fun j hj => by omega⟩⟩
  · rintro mL0 fL0 wL0 ⟨k, hmL0, e3_L0, hAL0, hwL0, ⟨hk, hno⟩⟩
    refine WF.seq ?_
    refine WF.seq ?_
    refine WF.region ?_
    refine WL.va rfl rfl rfl (X.moveI e3_L0) ?_
    refine WL.va rfl rfl rfl (X.move ((hAL0.eq 0).trans (congrFun hF3 0))) ?_
    refine WL.va rfl rfl rfl (X.len hb rfl Try.underlying22) ?_
    refine WL.va rfl rfl rfl (X.lss rfl rfl) ?_
    refine WL.nil ?_
    refine thn_n ?_
    refine WF.cond rfl (fun h0_4 => ?_) (fun h0_4 => ?_)
    · have gh0_4 := (of_decide_eq_true h0_4)
      refine WF.skip ?_
      refine thn_n ?_
      refine WF.seq ?_
      refine WF.block ?_
      refine WF.seq ?_
      refine WF.drawn (.q 0 (.q 1 (.q 2 (.q 3 (.q 4 (.q 5 (.q 6 (.q 7 (.q 8 (.q 9 .nil)))))))))) (fun w' => Ext wL0 w') 10 (by kernel_rfl) (by kernel_rfl) (Ext.drew _) ?_
      refine WO.q rfl rfl rfl rfl (fun w' hE6 => (X.move ((hAL0.eq 0).trans (congrFun hF3 0)))) ?_
      refine WO.q rfl rfl rfl rfl (fun w' hE6 => (X.moveI e3_L0)) ?_
      refine WO.q rfl rfl rfl rfl (fun w' hE6 => (X.sub rfl rfl (show IntKind.i64.wrap (((k + 1 : Nat) : Int) - 1) = ((k : Nat) : Int) by rw [w64 (by omega)]; omega))) ?_
      refine WO.q rfl rfl rfl rfl (fun w' hE6 => (X.idx hb rfl rfl (by omega) Try.underlying22 Try.sizeOf3)) ?_
      refine WO.q rfl rfl rfl rfl (fun w' hE6 => (X.loadI hb (Ext.trans hwL0 hE6) rfl (by omega) Try.isAgg3)) ?_
      refine WO.q rfl rfl rfl rfl (fun w' hE6 => (X.move ((hAL0.eq 0).trans (congrFun hF3 0)))) ?_
      refine WO.q rfl rfl rfl rfl (fun w' hE6 => (X.moveI e3_L0)) ?_
      refine WO.q rfl rfl rfl rfl (fun w' hE6 => (X.idx hb rfl rfl (by omega) Try.underlying22 Try.sizeOf3)) ?_
      refine WO.q rfl rfl rfl rfl (fun w' hE6 => (X.loadI hb (Ext.trans hwL0 hE6) rfl (by omega) Try.isAgg3)) ?_
      refine WO.q rfl rfl rfl rfl (fun w' hE6 => (X.geq rfl rfl)) ?_
      refine WO.nil ?_
      refine WL.nil ?_
      refine thn_n ?_
      refine WF.cond rfl (fun h1_7 => ?_) (fun h1_7 => ?_)
      · have gh1_7 := (of_decide_eq_true h1_7)
        refine WF.seq ?_
        refine WF.region ?_
        refine WL.va rfl rfl rfl (X.assignB rfl) ?_
        refine WL.nil ?_
        refine thn_n ?_
        refine WF.ret ?_
        refine blk_r ?_
        refine thn_r ?_
        refine thn_r ?_
        refine blk_r ?_
        refine thn_r ?_
        refine fin_r ?_
        exact ⟨congrArg Value.bool (dec_f (rise_f (k := k) (by omega) (by omega))), (Ext.trans hwL0 (Ext.drew _))⟩
      · have gh1_7 := (of_decide_eq_false h1_7)
        refine WF.skip ?_
        refine blk_n ?_
        refine thn_n ?_
        refine WF.region ?_
        refine WL.va rfl rfl rfl (X.moveI e3_L0) ?_
        refine WL.va rfl rfl rfl (X.add rfl rfl (show IntKind.i64.wrap (((k + 1 : Nat) : Int) + 1) = ((k + 1 + 1 : Nat) : Int) by rw [w64 (by omega)]; omega)) ?_
        refine WL.va rfl rfl rfl (X.assignI rfl) ?_
        refine WL.nil ?_
        exact thn_n ⟨_, (by omega), k + 1, rfl, rfl, (by repeat (first | exact hAL0 | refine Agree.put ?_ rfl | refine Agree.named hF3 ?_)), (Ext.trans hwL0 (Ext.drew _)), ⟨by omega, fun j hj => by rcases Nat.lt_succ_iff_lt_or_eq.1 hj with h | rfl; exact hno j h; omega⟩⟩
    · have gh0_4 := (of_decide_eq_false h0_4)
      refine WF.exit ?_
      refine thn_x ?_
      refine thn_x ?_
      refine blk_eq ?_
      refine thn_n ?_
      refine WF.seq ?_
      refine WF.region ?_
      refine WL.va rfl rfl rfl (X.assignB rfl) ?_
      refine WL.nil ?_
      refine thn_n ?_
      refine WF.ret ?_
      refine fin_r ?_
      exact ⟨congrArg Value.bool (dec_t (fun j hj => hno j (by omega))), hwL0⟩

set_option maxHeartbeats 4000000 in
theorem check_ok (vP vR vW vD : Value) (o : Od) (w : World) (h : OpAt w vP vR vW vD o) (hm : o.small) : FnOk Try.prog 14 [agg (oc o.n vP vR vW vD)] w (fun r w' => r = i64 (chk o) ∧ Ext w w') := by
  obtain ⟨hmP, hmR, hmW, hmD, hmWD⟩ := hm
  obtain ⟨E, hE, rE, dE⟩ := h.W
  have hEl : E.length = o.W.length := by rw [← hE]; simp
  have hbl : o.bl.length = o.W.length := by simp [Od.bl]
  refine FnOk.enter (rs := [2]) Try.func14 rfl Try.ntmps14 Try.results14 rfl rfl ?_
  refine WF.seq ?_
  refine WF.region ?_
  refine WL.op rfl (OW.boxA (cs := (oc o.n vP vR vW vD)) rfl ?_ (by decide))
  intro g1 w1 heg1 hlg1 hO1 hx3
  have := World.grownBy.size hx3
  refine WL.va rfl rfl rfl (X.assignI rfl) ?_
  refine WL.nil ?_
  refine thn_n ?_
  refine WF.seq ?_
  refine WF.region ?_
  refine WL.va rfl rfl rfl (X.loadOA hO1 (Ext.refl _) rfl rfl Try.isAgg26 Try.sizeOf26) ?_
  refine WL.c rfl rfl rfl (X.call Try.call43 (evl_cons rfl evl_nil)) (blocksOf_ok vP vR vW vD o _ (h.ext hx3) ⟨hmP, hmR, hmW, hmD, hmWD⟩) ?_
  rintro vb wo ⟨ob, hx5⟩
  have := World.grownBy.size hx5
  refine WL.va rfl rfl rfl (X.assign rfl) ?_
  refine WL.nil ?_
  refine thn_n ?_
  refine WF.seq ?_
  refine WF.block ?_
  refine WF.seq ?_
  refine WF.region ?_
  refine WL.va rfl rfl rfl (X.fieldAddrO (off := 0) rfl Try.underlying26 rfl rfl Try.sizeOf3) ?_
  refine WL.va rfl rfl rfl (X.loadO hO1 hx5 rfl rfl Try.isAgg3) ?_
  refine WL.c rfl rfl rfl (X.call Try.call44 (evl_cons rfl (evl_cons rfl (evl_cons rfl evl_nil)))) (in_ok _ _ _ _) ?_
  rintro v7 w6 ⟨rfl, hx8⟩
  have := World.grownBy.size hx8
  refine WL.va rfl rfl rfl (X.not rfl) ?_
  refine WL.va rfl rfl rfl (X.assignB rfl) ?_
  refine WL.nil ?_
  refine thn_n ?_
  refine WF.cond rfl (fun h0_10 => ?_) (fun h0_10 => ?_)
  · have gh0_10 := (of_decide_eq_false (nt h0_10))
    refine WF.seq ?_
    refine WF.region ?_
    refine WL.va rfl rfl rfl (X.assignI rfl) ?_
    refine WL.nil ?_
    refine thn_n ?_
    refine WF.ret ?_
    refine blk_r ?_
    refine thn_r ?_
    refine fin_r ?_
    exact ⟨congrArg i64 (chk13 (by assumption)).symm, (Ext.trans (Ext.trans hx3 hx5) hx8)⟩
  · have gh0_10 := (of_decide_eq_true (nf h0_10))
    have c0 : 1 ≤ o.g 0 ∧ o.g 0 ≤ 11 := gh0_10
    refine WF.seq ?_
    refine WF.region ?_
    refine WL.va rfl rfl rfl (X.loadOA hO1 (Ext.trans hx5 hx8) rfl rfl Try.isAgg26 Try.sizeOf26) ?_
    refine WL.c rfl rfl rfl (X.call Try.call45 (evl_cons rfl evl_nil)) (bare_ok vP vR vW vD o _ (h.ext (Ext.trans (Ext.trans hx3 hx5) hx8)) ⟨hmP, hmR, hmW, hmD, hmWD⟩) ?_
    rintro v13 w12 ⟨rfl, hx14⟩
    have := World.grownBy.size hx14
    refine WL.va rfl rfl rfl (X.not rfl) ?_
    refine WL.va rfl rfl rfl (X.assignB rfl) ?_
    refine WL.nil ?_
    refine thn_n ?_
    refine WF.cond rfl (fun h1_16 => ?_) (fun h1_16 => ?_)
    · have gh1_16 := (of_decide_eq_false (nt h1_16))
      refine WF.seq ?_
      refine WF.region ?_
      refine WL.va rfl rfl rfl (X.assignI rfl) ?_
      refine WL.nil ?_
      refine thn_n ?_
      refine WF.ret ?_
      refine blk_r ?_
      refine thn_r ?_
      refine fin_r ?_
      exact ⟨congrArg i64 (chk14 c0 (by assumption)).symm, (Ext.trans (Ext.trans (Ext.trans hx3 hx5) hx8) hx14)⟩
    · have gh1_16 := (of_decide_eq_true (nf h1_16))
      have c1 : o.bareP := gh1_16
      refine WF.seq ?_
      refine WF.seq ?_
      refine WF.region ?_
      refine WL.va rfl rfl rfl (X.fieldAddrO (off := 13) rfl Try.underlying26 rfl rfl Try.sizeOf22) ?_
      refine WL.va rfl rfl rfl (X.loadO hO1 (Ext.trans (Ext.trans hx5 hx8) hx14) rfl rfl Try.isAgg22) ?_
      refine WL.va rfl rfl rfl (X.len h.P rfl Try.underlying22) ?_
      refine WL.va rfl rfl rfl (X.gtr rfl rfl) ?_
      refine WL.va rfl rfl rfl (X.assignB rfl) ?_
      refine WL.nil ?_
      refine thn_n ?_
      refine WF.cond rfl (fun h2_18 => ?_) (fun h2_18 => ?_)
      · have gh2_18 := (of_decide_eq_true h2_18)
        refine WF.skip ?_
        refine thn_n ?_
        refine WF.cond_t ((rfl : _ = Value.bool _).trans (congrArg Value.bool h2_18)) ?_
        refine WF.seq ?_
        refine WF.region ?_
        refine WL.va rfl rfl rfl (X.assignI rfl) ?_
        refine WL.nil ?_
        refine thn_n ?_
        refine WF.ret ?_
        refine blk_r ?_
        refine thn_r ?_
        refine fin_r ?_
        exact ⟨congrArg i64 (chk17 c0 c1 (by omega)).symm, (Ext.trans (Ext.trans (Ext.trans hx3 hx5) hx8) hx14)⟩
      · have gh2_18 := (of_decide_eq_false h2_18)
        refine WF.seq ?_
        refine WF.region ?_
        refine WL.va rfl rfl rfl (X.fieldAddrO (off := 14) rfl Try.underlying26 rfl rfl Try.sizeOf22) ?_
        refine WL.va rfl rfl rfl (X.loadO hO1 (Ext.trans (Ext.trans hx5 hx8) hx14) rfl rfl Try.isAgg22) ?_
        refine WL.va rfl rfl rfl (X.len h.R rfl Try.underlying22) ?_
        refine WL.va rfl rfl rfl (X.gtr rfl rfl) ?_
        refine WL.va rfl rfl rfl (X.assignB rfl) ?_
        refine WL.nil ?_
        refine thn_n ?_
        refine WF.cond rfl (fun h3_20 => ?_) (fun h3_20 => ?_)
        · have gh3_20 := (of_decide_eq_true h3_20)
          refine WF.skip ?_
          refine thn_n ?_
          refine WF.cond_t ((rfl : _ = Value.bool _).trans (congrArg Value.bool h3_20)) ?_
          refine WF.seq ?_
          refine WF.region ?_
          refine WL.va rfl rfl rfl (X.assignI rfl) ?_
          refine WL.nil ?_
          refine thn_n ?_
          refine WF.ret ?_
          refine blk_r ?_
          refine thn_r ?_
          refine fin_r ?_
          exact ⟨congrArg i64 (chk17 c0 c1 (by omega)).symm, (Ext.trans (Ext.trans (Ext.trans hx3 hx5) hx8) hx14)⟩
        · have gh3_20 := (of_decide_eq_false h3_20)
          refine WF.region ?_
          refine WL.va rfl rfl rfl (X.fieldAddrO (off := 15) rfl Try.underlying26 rfl rfl Try.sizeOf23) ?_
          refine WL.va rfl rfl rfl (X.loadO hO1 (Ext.trans (Ext.trans hx5 hx8) hx14) rfl rfl Try.isAgg23) ?_
          refine WL.va rfl rfl rfl (X.len rE rfl Try.underlying23) ?_
          refine WL.va rfl rfl rfl (X.gtr rfl rfl) ?_
          refine WL.va rfl rfl rfl (X.assignB rfl) ?_
          refine WL.nil ?_
          refine thn_n ?_
          refine WF.cond rfl (fun h4_22 => ?_) (fun h4_22 => ?_)
          · have gh4_22 := (of_decide_eq_true h4_22)
            refine WF.seq ?_
            refine WF.region ?_
            refine WL.va rfl rfl rfl (X.assignI rfl) ?_
            refine WL.nil ?_
            refine thn_n ?_
            refine WF.ret ?_
            refine blk_r ?_
            refine thn_r ?_
            refine fin_r ?_
            exact ⟨congrArg i64 (chk17 c0 c1 (by omega)).symm, (Ext.trans (Ext.trans (Ext.trans hx3 hx5) hx8) hx14)⟩
          · have gh4_22 := (of_decide_eq_false h4_22)
            have c2 : ¬ (4 < o.P.length ∨ 16 < o.R.length ∨ 8 < o.W.length) := by omega
            refine WF.seq ?_
            refine WF.region ?_
            refine WL.va rfl rfl rfl (X.fieldAddrO (off := 16) rfl Try.underlying26 rfl rfl Try.sizeOf24) ?_
            refine WL.va rfl rfl rfl (X.loadO hO1 (Ext.trans (Ext.trans hx5 hx8) hx14) rfl rfl Try.isAgg24) ?_
            refine WL.va rfl rfl rfl (X.len h.D rfl Try.underlying24) ?_
            refine WL.va rfl rfl rfl (X.gtr rfl rfl) ?_
            refine WL.va rfl rfl rfl (X.assignB rfl) ?_
            refine WL.nil ?_
            refine thn_n ?_
            refine WF.cond rfl (fun h5_24 => ?_) (fun h5_24 => ?_)
            · have gh5_24 := (of_decide_eq_true h5_24)
              have c3 : 32768 < o.D.length := by omega
              refine WF.seq ?_
              refine WF.region ?_
              refine WL.va rfl rfl rfl (X.assignI rfl) ?_
              refine WL.nil ?_
              refine thn_n ?_
              refine WF.ret ?_
              refine blk_r ?_
              refine thn_r ?_
              refine fin_r ?_
              exact ⟨congrArg i64 (chk2 c0 c1 c2 c3).symm, (Ext.trans (Ext.trans (Ext.trans hx3 hx5) hx8) hx14)⟩
            · have gh5_24 := (of_decide_eq_false h5_24)
              have c3 : ¬ 32768 < o.D.length := by omega
              refine WF.seq ?_
              refine WF.seq ?_
              refine WF.region ?_
              refine WL.va rfl rfl rfl (X.loadOA hO1 (Ext.trans (Ext.trans hx5 hx8) hx14) rfl rfl Try.isAgg26 Try.sizeOf26) ?_
              refine WL.c rfl rfl rfl (X.call Try.call46 (evl_cons rfl evl_nil)) (placed_ok vP vR vW vD o _ (h.ext (Ext.trans (Ext.trans (Ext.trans hx3 hx5) hx8) hx14)) ⟨hmP, hmR, hmW, hmD, hmWD⟩) ?_
              rintro v27 w26 ⟨rfl, hx28⟩
              have := World.grownBy.size hx28
              refine WL.va rfl rfl rfl (X.not rfl) ?_
              refine WL.va rfl rfl rfl (X.assignB rfl) ?_
              refine WL.nil ?_
              refine thn_n ?_
              refine WF.cond rfl (fun h6_30 => ?_) (fun h6_30 => ?_)
              · have gh6_30 := (of_decide_eq_false (nt h6_30))
                refine WF.skip ?_
                refine thn_n ?_
                refine WF.cond_t ((rfl : _ = Value.bool _).trans (congrArg Value.bool h6_30)) ?_
                refine WF.seq ?_
                refine WF.region ?_
                refine WL.va rfl rfl rfl (X.assignI rfl) ?_
                refine WL.nil ?_
                refine thn_n ?_
                refine WF.ret ?_
                refine blk_r ?_
                refine thn_r ?_
                refine fin_r ?_
                exact ⟨congrArg i64 (chk3 c0 c1 c2 c3 (by first | exact fun q => absurd q.1 (by assumption) | exact fun q => absurd q.2.1 (by assumption) | exact fun q => absurd q.2.2.1 (by assumption) | exact fun q => absurd q.2.2.2 (by assumption))).symm, (Ext.trans (Ext.trans (Ext.trans (Ext.trans hx3 hx5) hx8) hx14) hx28)⟩
              · have gh6_30 := (of_decide_eq_true (nf h6_30))
                refine WF.seq ?_
                refine WF.region ?_
                refine WL.va rfl rfl rfl (X.fieldAddrO (off := 13) rfl Try.underlying26 rfl rfl Try.sizeOf22) ?_
                refine WL.va rfl rfl rfl (X.loadO hO1 (Ext.trans (Ext.trans (Ext.trans hx5 hx8) hx14) hx28) rfl rfl Try.isAgg22) ?_
                refine WL.c rfl rfl rfl (X.call Try.call47 (evl_cons rfl (evl_cons rfl (evl_cons rfl evl_nil)))) (within_ok _ o.P _ _ _ (Row.ext h.P (Ext.trans (Ext.trans (Ext.trans (Ext.trans hx3 hx5) hx8) hx14) hx28))) ?_
                rintro v33 w32 ⟨rfl, hx34⟩
                have := World.grownBy.size hx34
                refine WL.va rfl rfl rfl (X.not rfl) ?_
                refine WL.va rfl rfl rfl (X.assignB rfl) ?_
                refine WL.nil ?_
                refine thn_n ?_
                refine WF.cond rfl (fun h7_36 => ?_) (fun h7_36 => ?_)
                · have gh7_36 := (of_decide_eq_false (nt h7_36))
                  refine WF.skip ?_
                  refine thn_n ?_
                  refine WF.cond_t ((rfl : _ = Value.bool _).trans (congrArg Value.bool h7_36)) ?_
                  refine WF.seq ?_
                  refine WF.region ?_
                  refine WL.va rfl rfl rfl (X.assignI rfl) ?_
                  refine WL.nil ?_
                  refine thn_n ?_
                  refine WF.ret ?_
                  refine blk_r ?_
                  refine thn_r ?_
                  refine fin_r ?_
                  exact ⟨congrArg i64 (chk3 c0 c1 c2 c3 (by first | exact fun q => absurd q.1 (by assumption) | exact fun q => absurd q.2.1 (by assumption) | exact fun q => absurd q.2.2.1 (by assumption) | exact fun q => absurd q.2.2.2 (by assumption))).symm, (Ext.trans (Ext.trans (Ext.trans (Ext.trans (Ext.trans hx3 hx5) hx8) hx14) hx28) hx34)⟩
                · have gh7_36 := (of_decide_eq_true (nf h7_36))
                  refine WF.seq ?_
                  refine WF.region ?_
                  refine WL.va rfl rfl rfl (X.fieldAddrO (off := 14) rfl Try.underlying26 rfl rfl Try.sizeOf22) ?_
                  refine WL.va rfl rfl rfl (X.loadO hO1 (Ext.trans (Ext.trans (Ext.trans (Ext.trans hx5 hx8) hx14) hx28) hx34) rfl rfl Try.isAgg22) ?_
                  refine WL.c rfl rfl rfl (X.call Try.call47 (evl_cons rfl (evl_cons rfl (evl_cons rfl evl_nil)))) (within_ok _ o.R _ _ _ (Row.ext h.R (Ext.trans (Ext.trans (Ext.trans (Ext.trans (Ext.trans hx3 hx5) hx8) hx14) hx28) hx34))) ?_
                  rintro v39 w38 ⟨rfl, hx40⟩
                  have := World.grownBy.size hx40
                  refine WL.va rfl rfl rfl (X.not rfl) ?_
                  refine WL.va rfl rfl rfl (X.assignB rfl) ?_
                  refine WL.nil ?_
                  refine thn_n ?_
                  refine WF.cond rfl (fun h8_42 => ?_) (fun h8_42 => ?_)
                  · have gh8_42 := (of_decide_eq_false (nt h8_42))
                    refine WF.skip ?_
                    refine thn_n ?_
                    refine WF.cond_t ((rfl : _ = Value.bool _).trans (congrArg Value.bool h8_42)) ?_
                    refine WF.seq ?_
                    refine WF.region ?_
                    refine WL.va rfl rfl rfl (X.assignI rfl) ?_
                    refine WL.nil ?_
                    refine thn_n ?_
                    refine WF.ret ?_
                    refine blk_r ?_
                    refine thn_r ?_
                    refine fin_r ?_
                    exact ⟨congrArg i64 (chk3 c0 c1 c2 c3 (by first | exact fun q => absurd q.1 (by assumption) | exact fun q => absurd q.2.1 (by assumption) | exact fun q => absurd q.2.2.1 (by assumption) | exact fun q => absurd q.2.2.2 (by assumption))).symm, (Ext.trans (Ext.trans (Ext.trans (Ext.trans (Ext.trans (Ext.trans hx3 hx5) hx8) hx14) hx28) hx34) hx40)⟩
                  · have gh8_42 := (of_decide_eq_true (nf h8_42))
                    refine WF.region ?_
                    refine WL.va rfl rfl rfl (X.move rfl) ?_
                    refine WL.c rfl rfl rfl (X.call Try.call47 (evl_cons rfl (evl_cons rfl (evl_cons rfl evl_nil)))) (within_ok _ o.bl _ _ _ (Row.ext (Row.of_own ob) (Ext.trans (Ext.trans (Ext.trans (Ext.trans hx8 hx14) hx28) hx34) hx40))) ?_
                    rintro v45 w44 ⟨rfl, hx46⟩
                    have := World.grownBy.size hx46
                    refine WL.va rfl rfl rfl (X.not rfl) ?_
                    refine WL.va rfl rfl rfl (X.assignB rfl) ?_
                    refine WL.nil ?_
                    refine thn_n ?_
                    refine WF.cond rfl (fun h9_48 => ?_) (fun h9_48 => ?_)
                    · have gh9_48 := (of_decide_eq_false (nt h9_48))
                      refine WF.seq ?_
                      refine WF.region ?_
                      refine WL.va rfl rfl rfl (X.assignI rfl) ?_
                      refine WL.nil ?_
                      refine thn_n ?_
                      refine WF.ret ?_
                      refine blk_r ?_
                      refine thn_r ?_
                      refine fin_r ?_
                      exact ⟨congrArg i64 (chk3 c0 c1 c2 c3 (by first | exact fun q => absurd q.1 (by assumption) | exact fun q => absurd q.2.1 (by assumption) | exact fun q => absurd q.2.2.1 (by assumption) | exact fun q => absurd q.2.2.2 (by assumption))).symm, (Ext.trans (Ext.trans (Ext.trans (Ext.trans (Ext.trans (Ext.trans (Ext.trans hx3 hx5) hx8) hx14) hx28) hx34) hx40) hx46)⟩
                    · have gh9_48 := (of_decide_eq_true (nf h9_48))
                      have c4 : o.placedP ∧ allP o.P 1 4 ∧ allP o.R 0 63 ∧ allP o.bl 0 63 := by refine ⟨?_, ?_, ?_, ?_⟩ <;> assumption
                      refine WF.seq ?_
                      refine WF.region ?_
                      refine WL.va rfl rfl rfl (X.fieldAddrO (off := 15) rfl Try.underlying26 rfl rfl Try.sizeOf23) ?_
                      refine WL.va rfl rfl rfl (X.loadO hO1 (Ext.trans (Ext.trans (Ext.trans (Ext.trans (Ext.trans (Ext.trans hx5 hx8) hx14) hx28) hx34) hx40) hx46) rfl rfl Try.isAgg23) ?_
                      have hclo : ∀ k wq, k < E.length → Ext w44 wq → CloOk Try.prog (.func (.func 49) #[] ([] : List Value).toArray) [agg (el (E.flatMap WV.c) 2 k)] wq (fun r w2 => r = .bool (decide (((E.map Prod.fst).getD k default).Data.length ≠ 4)) ∧ Ext wq w2) := fun k wq hk hx => ⟨_, _, rfl, Try.call49, (by rw [show el (E.flatMap WV.c) 2 k = WV.c (E[k]'hk) from WRow.el hk, show (E.map Prod.fst).getD k default = (E[k]'hk).1 from by simp [hk]]; exact checkLit_ok _ _ (Row.ext (Row.ext (dE _ (List.getElem_mem hk)) (Ext.trans (Ext.trans (Ext.trans (Ext.trans (Ext.trans (Ext.trans (Ext.trans hx3 hx5) hx8) hx14) hx28) hx34) hx40) hx46)) hx))⟩
                      refine WL.c rfl rfl rfl (X.call Try.call48 (evl_cons rfl (evl_cons rfl evl_nil))) (containsW_ok _ _ _ _ (fun k => decide (((E.map Prod.fst).getD k default).Data.length ≠ 4)) _ (Row.ext rE (Ext.trans (Ext.trans (Ext.trans (Ext.trans (Ext.trans (Ext.trans (Ext.trans hx3 hx5) hx8) hx14) hx28) hx34) hx40) hx46)) hclo) ?_
                      rintro v51 w50 ⟨⟨z, rfl, hz⟩, hx52⟩
                      have := World.grownBy.size hx52
                      have hsz := idx_size hE hz
                      refine WL.va rfl rfl rfl (X.assignB rfl) ?_
                      refine WL.nil ?_
                      refine thn_n ?_
                      refine WF.cond rfl (fun h10_53 => ?_) (fun h10_53 => ?_)
                      · have gh10_53 := (of_decide_eq_true h10_53)
                        have c5 : ¬ sizeP o.W := of_decide_eq_true (hsz.symm.trans (decide_eq_true gh10_53))
                        refine WF.seq ?_
                        refine WF.region ?_
                        refine WL.va rfl rfl rfl (X.assignI rfl) ?_
                        refine WL.nil ?_
                        refine thn_n ?_
                        refine WF.ret ?_
                        refine blk_r ?_
                        refine thn_r ?_
                        refine fin_r ?_
                        exact ⟨congrArg i64 (chk21 c0 c1 c2 c3 c4 c5).symm, (Ext.trans (Ext.trans (Ext.trans (Ext.trans (Ext.trans (Ext.trans (Ext.trans (Ext.trans hx3 hx5) hx8) hx14) hx28) hx34) hx40) hx46) hx52)⟩
                      · have gh10_53 := (of_decide_eq_false h10_53)
                        have c5 : sizeP o.W := Decidable.of_not_not (of_decide_eq_false (hsz.symm.trans (decide_eq_false gh10_53)))
                        refine WF.seq ?_
                        refine WF.seq ?_
                        refine WF.region ?_
                        refine WL.va rfl rfl rfl (X.fieldAddrO (off := 13) rfl Try.underlying26 rfl rfl Try.sizeOf22) ?_
                        refine WL.va rfl rfl rfl (X.loadO hO1 (Ext.trans (Ext.trans (Ext.trans (Ext.trans (Ext.trans (Ext.trans (Ext.trans hx5 hx8) hx14) hx28) hx34) hx40) hx46) hx52) rfl rfl Try.isAgg22) ?_
                        refine WL.c rfl rfl rfl (X.call Try.call50 (evl_cons rfl evl_nil)) (rises_ok _ o.P _ (Row.ext h.P (Ext.trans (Ext.trans (Ext.trans (Ext.trans (Ext.trans (Ext.trans (Ext.trans (Ext.trans hx3 hx5) hx8) hx14) hx28) hx34) hx40) hx46) hx52)) hmP) ?_
                        rintro v56 w55 ⟨rfl, hx57⟩
                        have := World.grownBy.size hx57
                        refine WL.va rfl rfl rfl (X.not rfl) ?_
                        refine WL.va rfl rfl rfl (X.assignB rfl) ?_
                        refine WL.nil ?_
                        refine thn_n ?_
                        refine WF.cond rfl (fun h11_59 => ?_) (fun h11_59 => ?_)
                        · have gh11_59 := (of_decide_eq_false (nt h11_59))
                          refine WF.skip ?_
                          refine thn_n ?_
                          refine WF.cond_t ((rfl : _ = Value.bool _).trans (congrArg Value.bool h11_59)) ?_
                          refine WF.seq ?_
                          refine WF.region ?_
                          refine WL.va rfl rfl rfl (X.assignI rfl) ?_
                          refine WL.nil ?_
                          refine thn_n ?_
                          refine WF.ret ?_
                          refine blk_r ?_
                          refine thn_r ?_
                          refine fin_r ?_
                          exact ⟨congrArg i64 (chk15 c0 c1 c2 c3 c4 c5 (by first | exact fun q => absurd q.1 (by assumption) | exact fun q => absurd q.2.1 (by assumption) | exact fun q => absurd q.2.2 (by assumption))).symm, (Ext.trans (Ext.trans (Ext.trans (Ext.trans (Ext.trans (Ext.trans (Ext.trans (Ext.trans (Ext.trans hx3 hx5) hx8) hx14) hx28) hx34) hx40) hx46) hx52) hx57)⟩
                        · have gh11_59 := (of_decide_eq_true (nf h11_59))
                          refine WF.seq ?_
                          refine WF.region ?_
                          refine WL.va rfl rfl rfl (X.fieldAddrO (off := 14) rfl Try.underlying26 rfl rfl Try.sizeOf22) ?_
                          refine WL.va rfl rfl rfl (X.loadO hO1 (Ext.trans (Ext.trans (Ext.trans (Ext.trans (Ext.trans (Ext.trans (Ext.trans (Ext.trans hx5 hx8) hx14) hx28) hx34) hx40) hx46) hx52) hx57) rfl rfl Try.isAgg22) ?_
                          refine WL.c rfl rfl rfl (X.call Try.call50 (evl_cons rfl evl_nil)) (rises_ok _ o.R _ (Row.ext h.R (Ext.trans (Ext.trans (Ext.trans (Ext.trans (Ext.trans (Ext.trans (Ext.trans (Ext.trans (Ext.trans hx3 hx5) hx8) hx14) hx28) hx34) hx40) hx46) hx52) hx57)) hmR) ?_
                          rintro v62 w61 ⟨rfl, hx63⟩
                          have := World.grownBy.size hx63
                          refine WL.va rfl rfl rfl (X.not rfl) ?_
                          refine WL.va rfl rfl rfl (X.assignB rfl) ?_
                          refine WL.nil ?_
                          refine thn_n ?_
                          refine WF.cond rfl (fun h12_66 => ?_) (fun h12_66 => ?_)
                          · have gh12_66 := (of_decide_eq_false (nt h12_66))
                            refine WF.skip ?_
                            refine thn_n ?_
                            refine WF.cond_t ((rfl : _ = Value.bool _).trans (congrArg Value.bool h12_66)) ?_
                            refine WF.seq ?_
                            refine WF.region ?_
                            refine WL.va rfl rfl rfl (X.assignI rfl) ?_
                            refine WL.nil ?_
                            refine thn_n ?_
                            refine WF.ret ?_
                            refine blk_r ?_
                            refine thn_r ?_
                            refine fin_r ?_
                            exact ⟨congrArg i64 (chk15 c0 c1 c2 c3 c4 c5 (by first | exact fun q => absurd q.1 (by assumption) | exact fun q => absurd q.2.1 (by assumption) | exact fun q => absurd q.2.2 (by assumption))).symm, (Ext.trans (Ext.trans (Ext.trans (Ext.trans (Ext.trans (Ext.trans (Ext.trans (Ext.trans (Ext.trans (Ext.trans hx3 hx5) hx8) hx14) hx28) hx34) hx40) hx46) hx52) hx57) hx63)⟩
                          · have gh12_66 := (of_decide_eq_true (nf h12_66))
                            refine WF.region ?_
                            refine WL.va rfl rfl rfl (X.move rfl) ?_
                            refine WL.c rfl rfl rfl (X.call Try.call50 (evl_cons rfl evl_nil)) (rises_ok _ o.bl _ (Row.ext (Row.of_own ob) (Ext.trans (Ext.trans (Ext.trans (Ext.trans (Ext.trans (Ext.trans (Ext.trans (Ext.trans hx8 hx14) hx28) hx34) hx40) hx46) hx52) hx57) hx63)) (by omega)) ?_
                            rintro v69 w68 ⟨rfl, hx70⟩
                            have := World.grownBy.size hx70
                            refine WL.va rfl rfl rfl (X.not rfl) ?_
                            refine WL.va rfl rfl rfl (X.assignB rfl) ?_
                            refine WL.nil ?_
                            refine thn_n ?_
                            refine WF.cond rfl (fun h13_72 => ?_) (fun h13_72 => ?_)
                            · have gh13_72 := (of_decide_eq_false (nt h13_72))
                              refine WF.seq ?_
                              refine WF.region ?_
                              refine WL.va rfl rfl rfl (X.assignI rfl) ?_
                              refine WL.nil ?_
                              refine thn_n ?_
                              refine WF.ret ?_
                              refine blk_r ?_
                              refine thn_r ?_
                              refine fin_r ?_
                              exact ⟨congrArg i64 (chk15 c0 c1 c2 c3 c4 c5 (by first | exact fun q => absurd q.1 (by assumption) | exact fun q => absurd q.2.1 (by assumption) | exact fun q => absurd q.2.2 (by assumption))).symm, (Ext.trans (Ext.trans (Ext.trans (Ext.trans (Ext.trans (Ext.trans (Ext.trans (Ext.trans (Ext.trans (Ext.trans (Ext.trans hx3 hx5) hx8) hx14) hx28) hx34) hx40) hx46) hx52) hx57) hx63) hx70)⟩
                            · have gh13_72 := (of_decide_eq_true (nf h13_72))
                              have c6 : riseP o.P ∧ riseP o.R ∧ riseP o.bl := by refine ⟨?_, ?_, ?_⟩ <;> assumption
                              refine WF.skip ?_
                              refine blk_n ?_
                              refine thn_n ?_
                              refine WF.seq ?_
                              refine WF.region ?_
                              refine WL.va rfl rfl rfl (X.assignI rfl) ?_
                              refine WL.nil ?_
                              refine thn_n ?_
                              refine WF.ret ?_
                              refine fin_r ?_
                              exact ⟨congrArg i64 (chk0 c0 c1 c2 c3 c4 c5 c6).symm, (Ext.trans (Ext.trans (Ext.trans (Ext.trans (Ext.trans (Ext.trans (Ext.trans (Ext.trans (Ext.trans (Ext.trans (Ext.trans hx3 hx5) hx8) hx14) hx28) hx34) hx40) hx46) hx52) hx57) hx63) hx70)⟩

end Go.Proofs.Ythaojdpeimlngaa
