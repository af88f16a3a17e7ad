/- The walks of slices' functions over votes. -/
import Derived.Test.YtjmddkaokmdkbaaChecked
import Derived.Test.YtjmddkaokmdkbaaTak
namespace Go.Proofs.Ytjmddkaokmdkbaa
open Go Go.RowKit Kf
set_option maxRecDepth 20000

theorem isNaN_ok (x : Int) (w : World) : FnOk Try.prog 64 [i64 x] w (fun r w' => r = .bool false ∧ w = w') := by
  refine FnOk.enter (rs := [2]) Try.func64 rfl Try.ntmps64 Try.results64 rfl rfl ?_
  refine WF.seq ?_
  refine WF.region ?_
  refine WL.va rfl rfl rfl (X.assignB rfl) ?_
  refine WL.nil ?_
  refine thn_n ?_
  refine WF.seq ?_
  refine WF.region ?_
  refine WL.va rfl rfl rfl (X.moveI rfl) ?_
  refine WL.va rfl rfl rfl (X.moveI rfl) ?_
  refine WL.va rfl rfl rfl (X.neq rfl rfl) ?_
  refine WL.va rfl rfl rfl (X.assignB rfl) ?_
  refine WL.nil ?_
  refine thn_n ?_
  refine WF.ret ?_
  refine fin_r ?_
  exact ⟨congrArg Value.bool (by simp), rfl⟩

theorem compare_ok (x y : Int) (w : World) : FnOk Try.prog 57 [i64 x, i64 y] w (fun r w' => r = i64 (cmpI x y) ∧ w = w') := by
  refine FnOk.enter (rs := [4]) Try.func57 rfl Try.ntmps57 Try.results57 rfl rfl ?_
  refine WF.seq ?_
  refine WF.region ?_
  refine WL.va rfl rfl rfl (X.assignI rfl) ?_
  refine WL.nil ?_
  refine thn_n ?_
  refine WF.seq ?_
  refine WF.region ?_
  refine WL.va rfl rfl rfl (X.moveI rfl) ?_
  refine WL.c rfl rfl rfl (X.call Try.call64 (evl_cons rfl evl_nil)) (isNaN_ok _ _) ?_
  rintro v2 w1 ⟨rfl, rfl⟩
  refine WL.va rfl rfl rfl (X.assignB rfl) ?_
  refine WL.nil ?_
  refine thn_n ?_
  refine WF.seq ?_
  refine WF.region ?_
  refine WL.va rfl rfl rfl (X.moveI rfl) ?_
  refine WL.c rfl rfl rfl (X.call Try.call64 (evl_cons rfl evl_nil)) (isNaN_ok _ _) ?_
  rintro v6 w5 ⟨rfl, rfl⟩
  refine WL.va rfl rfl rfl (X.assignB rfl) ?_
  refine WL.nil ?_
  refine thn_n ?_
  refine WF.seq ?_
  refine WF.seq ?_
  refine WF.region ?_
  refine WL.va rfl rfl rfl (X.moveB rfl) ?_
  refine WL.nil ?_
  refine thn_n ?_
  refine WF.cond_f rfl ?_
  refine WF.skip ?_
  refine thn_n ?_
  refine WF.seq ?_
  refine WF.seq ?_
  refine WF.region ?_
  refine WL.va rfl rfl rfl (X.moveB rfl) ?_
  refine WL.nil ?_
  refine thn_n ?_
  refine WF.cond_f rfl ?_
  refine WF.skip ?_
  refine thn_n ?_
  refine WF.seq ?_
  refine WF.seq ?_
  refine WF.region ?_
  refine WL.va rfl rfl rfl (X.moveI rfl) ?_
  refine WL.va rfl rfl rfl (X.moveI rfl) ?_
  refine WL.va rfl rfl rfl (X.lss rfl rfl) ?_
  refine WL.nil ?_
  refine thn_n ?_
  refine WF.cond rfl (fun h3_9 => ?_) (fun h3_9 => ?_)
  · have gh3_9 := (of_decide_eq_true h3_9)
    refine WF.seq ?_
    refine WF.region ?_
    refine WL.va rfl rfl rfl (X.assignI rfl) ?_
    refine WL.nil ?_
    refine thn_n ?_
    refine WF.ret ?_
    refine thn_r ?_
    refine fin_r ?_
    exact ⟨by unfold cmpI; first | rw [if_pos (by assumption)]; rfl | rw [if_neg (by omega), if_pos (by omega)]; rfl | rw [if_neg (by omega), if_neg (by omega)]; rfl, rfl⟩
  · have gh3_9 := (of_decide_eq_false h3_9)
    refine WF.skip ?_
    refine thn_n ?_
    refine WF.seq ?_
    refine WF.seq ?_
    refine WF.region ?_
    refine WL.va rfl rfl rfl (X.moveI rfl) ?_
    refine WL.va rfl rfl rfl (X.moveI rfl) ?_
    refine WL.va rfl rfl rfl (X.gtr rfl rfl) ?_
    refine WL.nil ?_
    refine thn_n ?_
    refine WF.cond rfl (fun h4_11 => ?_) (fun h4_11 => ?_)
    · have gh4_11 := (of_decide_eq_true h4_11)
      refine WF.seq ?_
      refine WF.region ?_
      refine WL.va rfl rfl rfl (X.assignI rfl) ?_
      refine WL.nil ?_
      refine thn_n ?_
      refine WF.ret ?_
      refine thn_r ?_
      refine fin_r ?_
      exact ⟨by unfold cmpI; first | rw [if_pos (by assumption)]; rfl | rw [if_neg (by omega), if_pos (by omega)]; rfl | rw [if_neg (by omega), if_neg (by omega)]; rfl, rfl⟩
    · have gh4_11 := (of_decide_eq_false h4_11)
      refine WF.skip ?_
      refine thn_n ?_
      refine WF.seq ?_
      refine WF.region ?_
      refine WL.va rfl rfl rfl (X.assignI rfl) ?_
      refine WL.nil ?_
      refine thn_n ?_
      refine WF.ret ?_
      refine fin_r ?_
      exact ⟨by unfold cmpI; first | rw [if_pos (by assumption)]; rfl | rw [if_neg (by omega), if_pos (by omega)]; rfl | rw [if_neg (by omega), if_neg (by omega)]; rfl, rfl⟩

theorem or_ok (v : Value) (l : List Int) (w : World) (hb : Ints w v l) : FnOk Try.prog 56 [v] w (fun r w' => r = i64 (orI l) ∧ Ext w w') := by
  have hl := hb.le64
  refine FnOk.enter (rs := [2]) Try.func56 rfl Try.ntmps56 Try.results56 rfl rfl ?_
  refine WF.seq ?_
  refine WF.region ?_
  refine WL.va rfl rfl rfl (X.assignI rfl) ?_
  refine WL.nil ?_
  refine thn_n ?_
  refine WF.seq ?_
  refine WF.region ?_
  refine WL.va rfl rfl rfl (X.assignI rfl) ?_
  refine WL.nil ?_
  refine thn_n ?_
  refine WF.seq ?_
  refine WF.seq ?_
  refine WF.region ?_
  refine WL.va rfl rfl rfl (X.move rfl) ?_
  refine WL.va rfl rfl rfl (X.len hb rfl Try.underlying22) ?_
  refine WL.va rfl rfl rfl (X.moveI rfl) ?_
  refine WL.nil ?_
  refine thn_n ?_
  refine WF.block ?_
  refine WF.named (fun F1 hF2 => ?_)
  refine WF.loopN (fun mL0 f' w' => ∃ (k : Nat), mL0 = l.length - k ∧ f' 8 = .int .i64 (k : Int) ∧ Agree [0, 3, 6, 7] f' F1 ∧ Ext w w' ∧ k ≤ l.length ∧ orI l = orI (l.drop k)) ?_ ?_
  · exact ⟨_, 0, rfl, (congrFun hF2 8), (Agree.refl _ _), (Ext.refl _), ⟨Nat.zero_le _, rfl⟩⟩
  · rintro mL0 fL0 wL0 ⟨k, hmL0, e8_L0, hAL0, hwL0, ⟨hk, ho⟩⟩
    refine WF.seq ?_
    refine WF.region ?_
    refine WL.va rfl rfl rfl (X.lss e8_L0 ((hAL0.eq 7).trans (congrFun hF2 7))) ?_
    refine WL.nil ?_
    refine thn_n ?_
    refine WF.seq ?_
    refine WF.cond rfl (fun h0_3 => ?_) (fun h0_3 => ?_)
    · have gh0_3 := (of_decide_eq_true h0_3)
      have hka : k < l.length := by omega
      have hgd : l.getD k 0 = l[k] := by simp [hka]
      refine WF.skip ?_
      refine thn_n ?_
      refine WF.seq ?_
      refine WF.block ?_
      refine WF.seq ?_
      refine WF.region ?_
      refine WL.va rfl rfl rfl (X.idx hb ((hAL0.eq 6).trans (congrFun hF2 6)) e8_L0 (by omega) Try.underlying22 Try.sizeOf3) ?_
      refine WL.va rfl rfl rfl (X.loadI hb hwL0 rfl (by omega) Try.isAgg3) ?_
      refine WL.va rfl rfl rfl (X.assignI rfl) ?_
      refine WL.nil ?_
      refine thn_n ?_
      refine WF.seq ?_
      refine WF.region ?_
      refine WL.va rfl rfl rfl (X.moveI rfl) ?_
      refine WL.va rfl rfl rfl (X.moveI ((hAL0.eq 3).trans (congrFun hF2 3))) ?_
      refine WL.va rfl rfl rfl (X.neq rfl rfl) ?_
      refine WL.nil ?_
      refine thn_n ?_
      refine WF.cond rfl (fun h1_5 => ?_) (fun h1_5 => ?_)
      · have gh1_5 := (of_decide_eq_true h1_5)
        have hyes : orI l = l[k] := by rw [ho, orI_drop hka, if_pos (by rw [← hgd]; exact gh1_5)]
        refine WF.seq ?_
        refine WF.region ?_
        refine WL.va rfl rfl rfl (X.moveI rfl) ?_
        refine WL.va rfl rfl rfl (X.assignI rfl) ?_
        refine WL.nil ?_
        refine thn_n ?_
        refine WF.ret ?_
        refine blk_r ?_
        refine thn_r ?_
        refine thn_r ?_
        refine blk_r ?_
        refine thn_r ?_
        refine fin_r ?_
        exact ⟨by rw [hyes, ← hgd]; rfl, hwL0⟩
      · have gh1_5 := (Decidable.of_not_not (of_decide_eq_false h1_5))
        have hno : orI l = orI (l.drop (k + 1)) := by rw [ho, orI_drop hka, if_neg (by rw [← hgd, gh1_5]; simp)]
        refine WF.skip ?_
        refine blk_n ?_
        refine thn_n ?_
        refine WF.region ?_
        refine WL.va rfl rfl rfl (X.add e8_L0 rfl (w64 (by omega))) ?_
        refine WL.va rfl rfl rfl (X.moveI rfl) ?_
        refine WL.nil ?_
        exact thn_n ⟨_, (by omega), k + 1, rfl, rfl, (by repeat (first | exact hAL0 | refine Agree.put ?_ rfl | refine Agree.named hF2 ?_)), hwL0, ⟨by omega, hno⟩⟩
    · have gh0_3 := (of_decide_eq_false h0_3)
      refine WF.exit ?_
      refine thn_x ?_
      refine thn_x ?_
      refine blk_eq ?_
      refine thn_n ?_
      refine WF.seq ?_
      refine WF.region ?_
      refine WL.va rfl rfl rfl (X.moveI ((hAL0.eq 3).trans (congrFun hF2 3))) ?_
      refine WL.va rfl rfl rfl (X.assignI rfl) ?_
      refine WL.nil ?_
      refine thn_n ?_
      refine WF.ret ?_
      refine fin_r ?_
      exact ⟨by rw [ho, List.drop_of_length_le (by omega)]; rfl, hwL0⟩

theorem indexV_ok (v vf : Value) (cs : List Value) (n : Nat) (p : Nat → Bool) (w : World) (hb : Row w v n 5 cs) (hf : ∀ k w1, k < n → Ext w w1 → CloOk Try.prog vf [agg (el cs 5 k)] w1 (fun r w2 => r = .bool (p k) ∧ Ext w1 w2)) : FnOk Try.prog 58 [v, vf] w (fun r w' => Idx p n r ∧ Ext w w') := by
  have hl : (n : Int) ≤ 9223372036854775807 := by obtain ⟨_, c, _, h1, h2, _⟩ := hb.shape; unfold maxLen at h2; omega
  refine FnOk.enter (rs := [4]) Try.func58 rfl Try.ntmps58 Try.results58 rfl rfl ?_
  refine WF.seq ?_
  refine WF.region ?_
  refine WL.va rfl rfl rfl (X.assignI rfl) ?_
  refine WL.nil ?_
  refine thn_n ?_
  refine WF.seq ?_
  refine WF.seq ?_
  refine WF.region ?_
  refine WL.va rfl rfl rfl (X.move rfl) ?_
  refine WL.va rfl rfl rfl (X.len hb rfl Try.underlying59) ?_
  refine WL.va rfl rfl rfl (X.moveI rfl) ?_
  refine WL.nil ?_
  refine thn_n ?_
  refine WF.block ?_
  refine WF.named (fun F1 hF2 => ?_)
  refine WF.loopN (fun mL0 f' w' => ∃ (k : Nat), mL0 = n - k ∧ f' 8 = .int .i64 (k : Int) ∧ Agree [0, 1, 6, 7] f' F1 ∧ Ext w w' ∧ k ≤ n ∧ ∀ j, j < k → p j = false) ?_ ?_
  · exact ⟨_, 0, rfl, (congrFun hF2 8), (Agree.refl _ _), (Ext.refl _), ⟨Nat.zero_le _, fun j hj => by omega⟩⟩
  · rintro mL0 fL0 wL0 ⟨k, hmL0, e8_L0, hAL0, hwL0, ⟨hk, hno⟩⟩
    refine WF.seq ?_
    refine WF.region ?_
    refine WL.va rfl rfl rfl (X.lss e8_L0 ((hAL0.eq 7).trans (congrFun hF2 7))) ?_
    refine WL.nil ?_
    refine thn_n ?_
    refine WF.seq ?_
    refine WF.cond rfl (fun h0_3 => ?_) (fun h0_3 => ?_)
    · have gh0_3 := (of_decide_eq_true h0_3)
      have hka : k < n := by omega
      refine WF.skip ?_
      refine thn_n ?_
      refine WF.seq ?_
      refine WF.block ?_
      refine WF.seq ?_
      refine WF.region ?_
      refine WL.va rfl rfl rfl (X.moveI e8_L0) ?_
      refine WL.va rfl rfl rfl (X.assignI rfl) ?_
      refine WL.nil ?_
      refine thn_n ?_
      refine WF.seq ?_
      refine WF.region ?_
      refine WL.va rfl rfl rfl (X.move ((hAL0.eq 1).trans (congrFun hF2 1))) ?_
      refine WL.va rfl rfl rfl (X.move ((hAL0.eq 0).trans (congrFun hF2 0))) ?_
      refine WL.va rfl rfl rfl (X.moveI rfl) ?_
      refine WL.va rfl rfl rfl (X.idx hb rfl rfl (by omega) Try.underlying59 Try.sizeOf102) ?_
      refine WL.va rfl rfl rfl (X.loadEl hb hwL0 rfl (by omega) rfl Try.isAgg102 Try.sizeOf102) ?_
      refine WL.op rfl (OW.callV rfl (evl_cons rfl evl_nil) (hf k _ hka hwL0) ?_ (by decide))
      rintro v6 w5 ⟨rfl, hx7⟩
      refine WL.nil ?_
      refine thn_n ?_
      refine WF.cond rfl (fun h1_8 => ?_) (fun h1_8 => ?_)
      · have gh1_8 := h1_8
        have hpk := gh1_8
        refine WF.seq ?_
        refine WF.region ?_
        refine WL.va rfl rfl rfl (X.moveI rfl) ?_
        refine WL.va rfl rfl rfl (X.assignI rfl) ?_
        refine WL.nil ?_
        refine thn_n ?_
        refine WF.ret ?_
        refine blk_r ?_
        refine thn_r ?_
        refine thn_r ?_
        refine blk_r ?_
        refine thn_r ?_
        refine fin_r ?_
        exact ⟨⟨_, rfl, .inl ⟨k, hka, rfl, hpk, hno⟩⟩, (Ext.trans hwL0 hx7)⟩
      · have gh1_8 := h1_8
        have hpk := gh1_8
        refine WF.skip ?_
        refine blk_n ?_
        refine thn_n ?_
        refine WF.region ?_
        refine WL.va rfl rfl rfl (X.add e8_L0 rfl (w64 (by omega))) ?_
        refine WL.va rfl rfl rfl (X.moveI rfl) ?_
        refine WL.nil ?_
        exact thn_n ⟨_, (by omega), k + 1, rfl, rfl, (by repeat (first | exact hAL0 | refine Agree.put ?_ rfl | refine Agree.named hF2 ?_)), (Ext.trans hwL0 hx7), ⟨by omega, fun j hj => by rcases Nat.lt_succ_iff_lt_or_eq.1 hj with h | rfl; exact hno j h; exact hpk⟩⟩
    · have gh0_3 := (of_decide_eq_false h0_3)
      refine WF.exit ?_
      refine thn_x ?_
      refine thn_x ?_
      refine blk_eq ?_
      refine thn_n ?_
      refine WF.seq ?_
      refine WF.region ?_
      refine WL.va rfl rfl rfl (X.assignI rfl) ?_
      refine WL.nil ?_
      refine thn_n ?_
      refine WF.ret ?_
      refine fin_r ?_
      exact ⟨⟨_, rfl, .inr ⟨rfl, fun j hj => hno j (by omega)⟩⟩, hwL0⟩

theorem cloneV_ok (v : Value) (cs : List Value) (n : Nat) (w : World) (hb : Row w v n 5 cs) (h1 : ∀ u ∈ cs, u.oneCell' = true) (hn : n ≤ 1000000) : FnOk Try.prog 50 [v] w (fun r w' => w'.ownsRow w.heap.size 102 5 r n cs ∧ Ext w w') := by
  refine FnOk.enter (rs := [2]) Try.func50 rfl Try.ntmps50 Try.results50 rfl rfl ?_
  refine WF.seq ?_
  refine WF.region ?_
  refine WL.va rfl rfl rfl (X.assign rfl) ?_
  refine WL.nil ?_
  refine thn_n ?_
  refine WF.seq ?_
  refine WF.seq ?_
  refine WF.region ?_
  refine WL.va rfl rfl rfl (X.move rfl) ?_
  refine WL.va rfl rfl rfl (X.eqlNilS hb rfl rfl Try.underlying59) ?_
  refine WL.nil ?_
  refine thn_n ?_
  refine WF.cond rfl (fun h0_1 => ?_) (fun h0_1 => ?_)
  · have gh0_1 := h0_1
    obtain rfl : n = 0 := isNilS_len hb gh0_1
    obtain rfl : cs = [] := List.eq_nil_of_length_eq_zero (by have := hb.len; omega)
    refine WF.seq ?_
    refine WF.region ?_
    refine WL.va rfl rfl rfl (X.assign rfl) ?_
    refine WL.nil ?_
    refine thn_n ?_
    refine WF.ret ?_
    refine thn_r ?_
    refine fin_r ?_
    exact ⟨World.ownsRow_nil _ _ _ _, (Ext.refl _)⟩
  · have gh0_1 := h0_1
    refine WF.skip ?_
    refine thn_n ?_
    refine WF.seq ?_
    refine WF.region ?_
    refine WL.op rfl (OW.lit0 Try.underlying59 Try.sizeOf102 ?_ (by decide))
    intro v4 w3 ho6 hx5
    have hn0 := ho6
    refine WL.va rfl rfl rfl (X.move rfl) ?_
    refine WL.op rfl (OW.append (bytes := 40) hn0 (Row.ext hb hx5) h1 rfl rfl Try.underlying59 Try.type102 rfl rfl rfl rfl (by decide) (by unfold maxLen; omega) (by omega) (hx5).size ?_ (by decide))
    intro v8 w7 ho10 hx9 hmvhx9
    have ho := ho10
    refine WL.va rfl rfl rfl (X.assign rfl) ?_
    refine WL.nil ?_
    refine thn_n ?_
    refine WF.ret ?_
    refine fin_r ?_
    rw [List.nil_append, Nat.zero_add] at ho; exact ⟨ho, (Ext.own hx5 hn0 (Nat.le_refl _) hx9)⟩

set_option maxHeartbeats 2000000 in
theorem insertV_ok (v va : Value) (xs news : List Value) (n i : Nat) (w : World) (B B2 : Nat) (ho : w.ownsRow B 102 5 v n xs) (hv : w.ownsRow B2 102 5 va 1 news) (hap : Apart va v) (h1x : ∀ u ∈ xs, u.oneCell' = true) (h1n : ∀ u ∈ news, u.oneCell' = true) (hi : i ≤ n) (hn : n ≤ 1000000) (hB : B ≤ w.heap.size) : FnOk Try.prog 59 [v, i64 (i : Int), va] w (fun r w' => w'.ownsRow B 102 5 r (n + 1) (xs.take (i * 5) ++ news ++ xs.drop (i * 5)) ∧ w.grownBy w' v.ownBlock) := by
  have hxl := ho.1
  have hnl := hv.1
  have hcp := own_cap ho
  unfold maxLen at hcp
  refine FnOk.enter (rs := [6]) Try.func59 rfl Try.ntmps59 Try.results59 rfl rfl ?_
  refine WF.seq ?_
  refine WF.region ?_
  refine WL.va rfl rfl rfl (X.assign rfl) ?_
  refine WL.nil ?_
  refine thn_n ?_
  refine WF.seq ?_
  refine WF.region ?_
  refine WL.va rfl rfl rfl (X.move rfl) ?_
  refine WL.va rfl rfl rfl (X.moveI rfl) ?_
  refine WL.va rfl rfl rfl (X.slL (Row.of_own ho) rfl rfl (by omega) Try.underlying59 Try.sizeOf102) ?_
  refine WL.nil ?_
  refine thn_n ?_
  refine WF.seq ?_
  refine WF.region ?_
  refine WL.va rfl rfl rfl (X.move rfl) ?_
  refine WL.va rfl rfl rfl (X.len (Row.of_own hv) rfl Try.underlying59) ?_
  refine WL.va rfl rfl rfl (X.assignI rfl) ?_
  refine WL.nil ?_
  refine thn_n ?_
  refine WF.seq ?_
  refine WF.seq ?_
  refine WF.region ?_
  refine WL.va rfl rfl rfl (X.moveI rfl) ?_
  refine WL.va rfl rfl rfl (X.eql rfl rfl) ?_
  refine WL.nil ?_
  refine thn_n ?_
  refine WF.cond rfl (fun h0_1 => ?_) (fun h0_1 => ?_)
  · have gh0_1 := (of_decide_eq_true h0_1)
    exact absurd gh0_1 (by omega)
  · have gh0_1 := (of_decide_eq_false h0_1)
    refine WF.skip ?_
    refine thn_n ?_
    refine WF.seq ?_
    refine WF.region ?_
    refine WL.va rfl rfl rfl (X.move rfl) ?_
    refine WL.va rfl rfl rfl (X.len (Row.of_own ho) rfl Try.underlying59) ?_
    refine WL.va rfl rfl rfl (X.assignI rfl) ?_
    refine WL.nil ?_
    refine thn_n ?_
    refine WF.seq ?_
    refine WF.seq ?_
    refine WF.region ?_
    refine WL.va rfl rfl rfl (X.moveI rfl) ?_
    refine WL.va rfl rfl rfl (X.moveI rfl) ?_
    refine WL.va rfl rfl rfl (X.eql rfl rfl) ?_
    refine WL.nil ?_
    refine thn_n ?_
    refine WF.cond rfl (fun h1_3 => ?_) (fun h1_3 => ?_)
    · have gh1_3 := (of_decide_eq_true h1_3)
      refine WF.seq ?_
      refine WF.region ?_
      refine WL.va rfl rfl rfl (X.move rfl) ?_
      refine WL.va rfl rfl rfl (X.move rfl) ?_
      refine WL.op rfl (OW.append (bytes := 40) ho (Row.of_own hv) h1n rfl rfl Try.underlying59 Try.type102 rfl rfl rfl rfl (by decide) (by unfold maxLen; omega) (by omega) hB ?_ (by decide))
      intro v6 w5 ho8 hx7 hmvhx7
      have o7 := ho8
      have g7 := hx7
      refine WL.va rfl rfl rfl (X.assign rfl) ?_
      refine WL.nil ?_
      refine thn_n ?_
      refine WF.ret ?_
      refine thn_r ?_
      refine fin_r ?_
      obtain rfl : i = n := by omega
      refine ⟨?_, g7⟩
      rw [List.take_of_length_le (by omega), List.drop_of_length_le (by omega), List.append_nil]; exact o7
    · have gh1_3 := (of_decide_eq_false h1_3)
      refine WF.skip ?_
      refine thn_n ?_
      refine WF.seq ?_
      refine WF.seq ?_
      refine WF.region ?_
      refine WL.va rfl rfl rfl (X.moveI rfl) ?_
      refine WL.va rfl rfl rfl (X.moveI rfl) ?_
      refine WL.va rfl rfl rfl (X.add rfl rfl (w64 (by omega))) ?_
      refine WL.va rfl rfl rfl (X.move rfl) ?_
      refine WL.va rfl rfl rfl (X.cap (Row.of_own ho) rfl Try.underlying59) ?_
      refine WL.va rfl rfl rfl (X.gtr rfl rfl) ?_
      refine WL.nil ?_
      refine thn_n ?_
      refine WF.cond rfl (fun h2_9 => ?_) (fun h2_9 => ?_)
      · have gh2_9 := (of_decide_eq_true h2_9)
        have hlt : i < n := by omega
        refine WF.seq ?_
        refine WF.region ?_
        refine WL.va rfl rfl rfl (X.move rfl) ?_
        refine WL.va rfl rfl rfl (X.moveI rfl) ?_
        refine WL.va rfl rfl rfl (X.slH (Row.of_own ho) rfl rfl (by omega) Try.underlying59 Try.sizeOf102) ?_
        refine WL.va rfl rfl rfl (X.moveI rfl) ?_
        refine WL.va rfl rfl rfl (X.moveI rfl) ?_
        refine WL.va rfl rfl rfl (X.add rfl rfl (w64 (by omega))) ?_
        refine WL.va rfl rfl rfl (X.moveI rfl) ?_
        refine WL.va rfl rfl rfl (X.sub rfl rfl (show IntKind.i64.wrap ((n : Int) + ((1 : Nat) : Int) - (i : Int)) = ((n + 1 - i : Nat) : Int) from (w64 (by omega)).trans (by omega))) ?_
        refine WL.op rfl (OW.appendMake (bytes := 40) (m := n + 1 - i) (own_take ho i hi) rfl rfl Try.underlying3 Try.underlying59 Try.type102 rfl rfl rfl rfl (by decide) (by unfold maxLen; omega) (by omega) (by omega) (by rw [cap_part ho]; omega) ?_ (by decide))
        intro v12 w11 ho14 hx13
        obtain ⟨zs, hzl, o9⟩ : ∃ zs : List Value, zs.length = (n + 1 - i) * 5 ∧ World.ownsRow w11 w.heap.size 102 5 v12 (n + 1) (xs.take (i * 5) ++ zs) := ⟨_, (by simp [size_madeCells]), (show i + (n + 1 - i) = n + 1 by omega) ▸ ho14⟩
        have szw := World.grownBy.size hx13
        refine WL.va rfl rfl rfl (X.assign rfl) ?_
        refine WL.nil ?_
        refine thn_n ?_
        refine WF.seq ?_
        refine WF.region ?_
        refine WL.va rfl rfl rfl (X.move rfl) ?_
        refine WL.va rfl rfl rfl (X.moveI rfl) ?_
        refine WL.va rfl rfl rfl (X.slL (Row.of_own o9) rfl rfl (by omega) Try.underlying59 Try.sizeOf102) ?_
        refine WL.va rfl rfl rfl (X.move rfl) ?_
        refine WL.op rfl (OW.copyAt (m := 1) (j := i) (news := news) o9 (by decide) (Row.ext (Row.of_own hv) hx13) (by rw [List.take_of_length_le (by omega)]) h1n rfl (Nat.min_eq_left (by omega)) (by decide) rfl rfl Try.underlying59 Try.type102 rfl ?_ (by decide))
        intro w15 ho18 hx17
        have o10 := ho18
        refine WL.nil ?_
        refine thn_n ?_
        refine WF.seq ?_
        refine WF.drawn (.q 0 (.q 1 (.q 2 (.q 3 (.q 4 (.q 5 (.q 6 (.q 7 .nil)))))))) (fun w' => Ext w15 w') 8 (by kernel_rfl) (by kernel_rfl) (Ext.drew _) ?_
        refine WO.q rfl rfl rfl rfl (fun w' hE19 => (X.move rfl)) ?_
        refine WO.q rfl rfl rfl rfl (fun w' hE19 => (X.moveI rfl)) ?_
        refine WO.q rfl rfl rfl rfl (fun w' hE19 => (X.moveI rfl)) ?_
        refine WO.q rfl rfl rfl rfl (fun w' hE19 => (X.add rfl rfl (show _ = ((i + 1 : Nat) : Int) from w64 (by omega)))) ?_
        refine WO.q rfl rfl rfl rfl (fun w' hE19 => (X.slL (Row.of_own o10) rfl rfl (by omega) Try.underlying59 Try.sizeOf102)) ?_
        refine WO.q rfl rfl rfl rfl (fun w' hE19 => (X.move rfl)) ?_
        refine WO.q rfl rfl rfl rfl (fun w' hE19 => (X.moveI rfl)) ?_
        refine WO.q rfl rfl rfl rfl (fun w' hE19 => (X.slL (Row.of_own ho) rfl rfl (by omega) Try.underlying59 Try.sizeOf102)) ?_
        refine WO.nil ?_
        refine WL.op rfl (OW.copyAt (m := n - i) (j := i + 1) (news := _) (own_ext o10 (Ext.drew _)) (by decide) (Row.ext (Row.part (Row.of_own ho) i n (by omega) (Nat.le_refl _)) (Ext.trans (Ext.own hx13 o9 (Nat.le_refl _) hx17) (Ext.drew _))) (by rw [List.take_take, Nat.min_self]) (fun u hu => h1x u (List.mem_of_mem_drop (List.mem_of_mem_take hu))) rfl (by rw [show n + 1 - (i + 1) = n - i by omega]; exact Nat.min_self _) (by omega) rfl rfl Try.underlying59 Try.type102 rfl ?_ (by decide))
        intro w20 ho23 hx22
        have o11 := ho23
        refine WL.nil ?_
        refine thn_n ?_
        refine WF.seq ?_
        refine WF.region ?_
        refine WL.va rfl rfl rfl (X.move rfl) ?_
        refine WL.va rfl rfl rfl (X.assign rfl) ?_
        refine WL.nil ?_
        refine thn_n ?_
        refine WF.ret ?_
        refine thn_r ?_
        refine fin_r ?_
        refine ⟨?_, grown_of_ext (Ext.own (Ext.trans (Ext.own hx13 o9 (Nat.le_refl _) hx17) (Ext.drew _)) (own_ext o10 (Ext.drew _)) (Nat.le_refl _) hx22)⟩
        rw [ins_new hxl hnl hi hzl rfl] at o11; exact own_mono o11 hB
      · have gh2_9 := (of_decide_eq_false h2_9)
        have hlt : i < n := by omega
        obtain ⟨ys, b, c, rfl, hc1, hc0, hyl, hom⟩ := own_more ho 1 (by omega) (by omega)
        have h1xy : ∀ u ∈ xs, u.oneCell' = true := h1x
        refine WF.skip ?_
        refine thn_n ?_
        refine WF.seq ?_
        refine WF.region ?_
        refine WL.va rfl rfl rfl (X.move rfl) ?_
        refine WL.va rfl rfl rfl (X.moveI rfl) ?_
        refine WL.va rfl rfl rfl (X.moveI rfl) ?_
        refine WL.va rfl rfl rfl (X.add rfl rfl (show _ = ((n + 1 : Nat) : Int) from w64 (by omega))) ?_
        refine WL.va rfl rfl rfl (X.slHc rfl rfl (by omega) hc0 Try.underlying59 Try.sizeOf102) ?_
        refine WL.va rfl rfl rfl (X.assign rfl) ?_
        refine WL.nil ?_
        refine thn_n ?_
        refine WF.seq ?_
        refine WF.seq ?_
        refine WF.region ?_
        refine WL.va rfl rfl rfl (X.move rfl) ?_
        refine WL.va rfl rfl rfl (X.move rfl) ?_
        refine WL.va rfl rfl rfl (X.moveI rfl) ?_
        refine WL.va rfl rfl rfl (X.moveI rfl) ?_
        refine WL.va rfl rfl rfl (X.add rfl rfl (show _ = ((i + 1 : Nat) : Int) from w64 (by omega))) ?_
        refine WL.va rfl rfl rfl (X.slL (Row.of_own hom) rfl rfl (by omega) Try.underlying59 Try.sizeOf102) ?_
        refine WL.va rfl rfl rfl (X.overlapsF (tR := 4) (fun q => run_callFunc_extern Try.func65 (by kernel_rfl) (by kernel_rfl) (by kernel_rfl) (e := Extern.SlicesOverlaps.overlaps #[59, 59] #[4]) (by kernel_rfl) q _) Try.underlying59 Try.sizeOf102 hv hom hap (by decide) (by omega) (by decide) rfl rfl rfl) ?_
        refine WL.va rfl rfl rfl (X.not rfl) ?_
        refine WL.nil ?_
        refine thn_n ?_
        refine WF.cond_t rfl ?_
        refine WF.seq ?_
        refine WF.drawn (.q 0 (.q 1 (.q 2 (.q 3 (.q 4 (.q 5 (.q 6 (.q 7 .nil)))))))) (fun w' => Ext w w') 8 (by kernel_rfl) (by kernel_rfl) (Ext.drew _) ?_
        refine WO.q rfl rfl rfl rfl (fun w' hE26 => (X.move rfl)) ?_
        refine WO.q rfl rfl rfl rfl (fun w' hE26 => (X.moveI rfl)) ?_
        refine WO.q rfl rfl rfl rfl (fun w' hE26 => (X.moveI rfl)) ?_
        refine WO.q rfl rfl rfl rfl (fun w' hE26 => (X.add rfl rfl (show _ = ((i + 1 : Nat) : Int) from w64 (by omega)))) ?_
        refine WO.q rfl rfl rfl rfl (fun w' hE26 => (X.slL (Row.of_own hom) rfl rfl (by omega) Try.underlying59 Try.sizeOf102)) ?_
        refine WO.q rfl rfl rfl rfl (fun w' hE26 => (X.move rfl)) ?_
        refine WO.q rfl rfl rfl rfl (fun w' hE26 => (X.moveI rfl)) ?_
        refine WO.q rfl rfl rfl rfl (fun w' hE26 => (X.slL (Row.of_own hom) rfl rfl (by omega) Try.underlying59 Try.sizeOf102)) ?_
        refine WO.nil ?_
        refine WL.op rfl (OW.copyAt (m := n - i) (j := i + 1) (news := _) (own_ext hom (Ext.drew _)) (by decide) (Row.ext (Row.part (Row.of_own hom) i (n + 1) (by omega) (Nat.le_refl _)) (Ext.drew _)) rfl (fun u hu => h1x u (List.mem_of_mem_drop ((place_src hxl hyl hlt) ▸ hu))) rfl (by rw [show n + 1 - (i + 1) = n - i by omega]; exact Nat.min_eq_right (by omega)) (by omega) rfl rfl Try.underlying59 Try.type102 rfl ?_ (by decide))
        intro w27 ho30 hx29
        have o15 := ho30
        have g15 := ext_grown (Ext.drew w) hx29
        have hv15 := World.ownsRow.kept (own_ext hv (Ext.drew _)) hx29 hap.ne
        refine WL.nil ?_
        refine thn_n ?_
        refine WF.seq ?_
        refine WF.region ?_
        refine WL.va rfl rfl rfl (X.move rfl) ?_
        refine WL.va rfl rfl rfl (X.moveI rfl) ?_
        refine WL.va rfl rfl rfl (X.slL (Row.of_own o15) rfl rfl (by omega) Try.underlying59 Try.sizeOf102) ?_
        refine WL.va rfl rfl rfl (X.move rfl) ?_
        refine WL.op rfl (OW.copyAt (m := 1) (j := i) (news := news) o15 (by decide) (Row.of_own hv15) (by rw [List.take_of_length_le (by omega)]) h1n rfl (Nat.min_eq_left (by omega)) (by decide) rfl rfl Try.underlying59 Try.type102 rfl ?_ (by decide))
        intro w31 ho34 hx33
        have o16 := ho34
        have g16 := grown2 g15 hx33
        refine WL.nil ?_
        refine thn_n ?_
        refine WF.seq ?_
        refine WF.region ?_
        refine WL.va rfl rfl rfl (X.move rfl) ?_
        refine WL.va rfl rfl rfl (X.assign rfl) ?_
        refine WL.nil ?_
        refine thn_n ?_
        refine WF.ret ?_
        refine thn_r ?_
        refine fin_r ?_
        refine ⟨?_, g16⟩
        rw [ins_place hxl hyl hnl hlt rfl] at o16; exact o16

end Go.Proofs.Ytjmddkaokmdkbaa
