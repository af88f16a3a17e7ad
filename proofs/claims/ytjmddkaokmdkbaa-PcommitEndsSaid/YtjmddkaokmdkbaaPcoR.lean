/- The walks of the document's coordinator. -/
import Derived.Test.YtjmddkaokmdkbaaPcoD
import Derived.Test.YtjmddkaokmdkbaaRc
namespace Go.Proofs.Ytjmddkaokmdkbaa
open Go Go.RowKit Kf
set_option maxRecDepth 20000

theorem flatH : flatB Try.prog 80 5 = true := by kernel_rfl
theorem fieldsH : Try.prog.underlying 80 = some (.struct (Try.prog.fieldsOf 80)) := by rw [Try.underlying80]; unfold Program.fieldsOf; rw [Try.underlying80]
theorem offsH : offs Try.prog 80 = [0, 1, 2, 3, 4] := by kernel_rfl
theorem RC.cnt_succ {c : RC} {p b v : Int} {n : Nat} : c.cnt p b v (n + 1) = c.cnt p b v n + if (⟨p, (n : Int) + 1, b, 0, v⟩ : Hd) ∈ c.acc then 1 else 0 := by
  unfold RC.cnt
  rw [List.range_succ, List.filter_append, List.length_append]
  congr 1
  by_cases h : (⟨p, (n : Int) + 1, b, 0, v⟩ : Hd) ∈ c.acc <;> simp [h]
theorem RC.cnt_le {c : RC} {p b v : Int} (n : Nat) : c.cnt p b v n ≤ n := by
  unfold RC.cnt
  exact Nat.le_trans (List.length_filter_le _ _) (by simp)
theorem any_take {α : Type} {f : α → Bool} {l : List α} {k : Nat} (hk : k < l.length) : (l.take (k + 1)).any f = ((l.take k).any f || f l[k]) := by
  rw [List.take_succ_eq_append_getElem hk, List.any_append]; simp
theorem any_at {α : Type} {f : α → Bool} {l : List α} {k : Nat} (hk : k < l.length) (h : f l[k] = true) : l.any f = true := List.any_eq_true.2 ⟨_, List.getElem_mem hk, h⟩
theorem mem_at {α : Type} {l : List α} {x : α} {k : Nat} (hk : k < l.length) (h : l[k] = x) : x ∈ l := h ▸ List.getElem_mem hk
set_option maxHeartbeats 2000000 in
theorem chosen_ok (g : Nat) (c : RC) (vp va vr vo : Value) (p v : Int) (w : World) (h : Blk w g 49 (c.cells vp va vr vo)) (hA : Row w va c.acc.length 5 (c.acc.flatMap Hd.c)) (hn7 : c.nac ≤ 7) (ha4 : c.acc.length ≤ 1000) : FnOk Try.prog 31 [at_ g, i64 p, i64 v] w (fun r w' => r = .bool (c.chosen p v) ∧ Ext w w') := by
  have hO := h
  have zg := h.lt
  refine FnOk.enter (rs := [6]) Try.func31 rfl Try.ntmps31 Try.results31 rfl rfl ?_
  refine WF.seq ?_
  refine WF.region ?_
  refine WL.va rfl rfl rfl (X.assignB rfl) ?_
  refine WL.nil ?_
  refine thn_n ?_
  refine WF.seq ?_
  refine WF.seq ?_
  refine WF.region ?_
  refine WL.va rfl rfl rfl (X.assignI rfl) ?_
  refine WL.nil ?_
  refine thn_n ?_
  refine WF.block ?_
  refine WF.named (fun F2 hF3 => ?_)
  refine WF.loopN (fun mL0 f' w' => ∃ (i : Nat), mL0 = c.acc.length - i ∧ f' 7 = .int .i64 (i : Int) ∧ Agree [0, 1, 2] f' F2 ∧ Ext w w' ∧ i ≤ c.acc.length ∧ (c.acc.take i).any (c.has p v) = false) ?_ ?_
  · exact ⟨_, 0, rfl, (congrFun hF3 7), (Agree.refl _ _), (Ext.refl _), ⟨Nat.zero_le _, rfl⟩⟩
  · rintro mL0 fL0 wL0 ⟨i, hmL0, e7_L0, hAL0, hwL0, ⟨hi0, hno0⟩⟩
    have := World.grownBy.size hwL0
    refine WF.seq ?_
    refine WF.seq ?_
    refine WF.region ?_
    refine WL.va rfl rfl rfl (X.moveI e7_L0) ?_
    refine WL.va rfl rfl rfl (X.move ((hAL0.eq 0).trans (congrFun hF3 0))) ?_
    refine WL.va rfl rfl rfl (X.nilCheck rfl) ?_
    refine WL.va rfl rfl rfl (X.fieldAddrP (off := 4) rfl Try.underlying49 rfl rfl Try.sizeOf47) ?_
    refine WL.va rfl rfl rfl (X.loadO hO hwL0 rfl rfl Try.isAgg47) ?_
    refine WL.va rfl rfl rfl (X.len hA rfl Try.underlying47) ?_
    refine WL.va rfl rfl rfl (X.lss rfl rfl) ?_
    refine WL.nil ?_
    refine thn_n ?_
    refine WF.cond rfl (fun h0_4 => ?_) (fun h0_4 => ?_)
    · have gh0_4 := (of_decide_eq_true h0_4)
      have hi : i < c.acc.length := by omega
      refine WF.skip ?_
      refine thn_n ?_
      refine WF.seq ?_
      refine WF.block ?_
      refine WF.seq ?_
      refine WF.region ?_
      refine WL.va rfl rfl rfl (X.assignI rfl) ?_
      refine WL.nil ?_
      refine thn_n ?_
      refine WF.seq ?_
      refine WF.seq ?_
      refine WF.region ?_
      refine WL.va rfl rfl rfl (X.assignI rfl) ?_
      refine WL.nil ?_
      refine thn_n ?_
      refine WF.block ?_
      refine WF.named (fun F6 hF7 => ?_)
      refine WF.loopN (fun mL1 f' w' => ∃ (j : Nat), mL1 = c.nac.toNat - j ∧ f' 9 = i64 ((j : Int) + 1) ∧ f' 8 = i64 (((c.cnt p (c.acc[i]'hi).Ballot v j) : Nat) : Int) ∧ Agree [0, 1, 2, 7, 12, 13, 14, 15, 16, 17, 18] f' F6 ∧ Ext wL0 w' ∧ j ≤ c.nac.toNat) ?_ ?_
      · exact ⟨_, 0, rfl, (congrFun hF7 9), (congrFun hF7 8), (Agree.refl _ _), (Ext.refl _), (Nat.zero_le _)⟩
      · rintro mL1 fL1 wL1 ⟨j, hmL1, e9_L1, e8_L1, hAL1, hwL1, hj0⟩
        have := World.grownBy.size hwL1
        refine WF.seq ?_
        refine WF.seq ?_
        refine WF.region ?_
        refine WL.va rfl rfl rfl (X.moveI e9_L1) ?_
        refine WL.va rfl rfl rfl (X.move ((hAL1.eq 0).trans ((congrFun hF7 0).trans ((hAL0.eq 0).trans (congrFun hF3 0))))) ?_
        refine WL.va rfl rfl rfl (X.nilCheck rfl) ?_
        refine WL.va rfl rfl rfl (X.fieldAddrP (off := 2) rfl Try.underlying49 rfl rfl Try.sizeOf3) ?_
        refine WL.va rfl rfl rfl (X.loadO hO (Ext.trans hwL0 hwL1) rfl rfl Try.isAgg3) ?_
        refine WL.va rfl rfl rfl (X.leq rfl rfl) ?_
        refine WL.nil ?_
        refine thn_n ?_
        refine WF.cond rfl (fun h1_8 => ?_) (fun h1_8 => ?_)
        · have gh1_8 := (of_decide_eq_true h1_8)
          have hj : j < c.nac.toNat := by omega
          have hcl := c.cnt_le (p := p) (b := (c.acc[i]'hi).Ballot) (v := v) j
          refine WF.skip ?_
          refine thn_n ?_
          refine WF.seq ?_
          refine WF.block ?_
          refine WF.seq ?_
          refine WF.region ?_
          refine WL.va rfl rfl rfl (X.moveI ((hAL1.eq 1).trans ((congrFun hF7 1).trans ((hAL0.eq 1).trans (congrFun hF3 1))))) ?_
          refine WL.va rfl rfl rfl (X.moveI e9_L1) ?_
          refine WL.va rfl rfl rfl (X.move ((hAL1.eq 0).trans ((congrFun hF7 0).trans ((hAL0.eq 0).trans (congrFun hF3 0))))) ?_
          refine WL.va rfl rfl rfl (X.nilCheck rfl) ?_
          refine WL.va rfl rfl rfl (X.fieldAddrP (off := 4) rfl Try.underlying49 rfl rfl Try.sizeOf47) ?_
          refine WL.va rfl rfl rfl (X.loadO hO (Ext.trans hwL0 hwL1) rfl rfl Try.isAgg47) ?_
          refine WL.va rfl rfl rfl (X.moveI ((hAL1.eq 7).trans ((congrFun hF7 7).trans e7_L0))) ?_
          refine WL.va rfl rfl rfl (X.idx hA rfl rfl (by omega) Try.underlying47 Try.sizeOf80) ?_
          refine WL.va rfl rfl rfl (X.fieldAddrA rfl Try.underlying80 rfl rfl Try.sizeOf3) ?_
          refine WL.va rfl rfl rfl (X.loadE hA (Ext.trans hwL0 hwL1) rfl (by omega) ((hd_get hi (by decide)).trans rfl) Try.isAgg3) ?_
          refine WL.va rfl rfl rfl (X.moveI ((hAL1.eq 2).trans ((congrFun hF7 2).trans ((hAL0.eq 2).trans (congrFun hF3 2))))) ?_
          refine WL.va rfl rfl rfl (X.buildL (P := Try.prog) (t := 80) (cs := (Hd.c (⟨p, (j : Int) + 1, (c.acc[i]'hi).Ballot, 0, v⟩ : Hd))) (evp_cons rfl (evp_cons rfl (evp_cons rfl (evp_cons rfl evp_nil)))) Try.type80 Try.underlying80 rfl rfl ⟨rfl, rfl, rfl, rfl, trivial⟩ rfl) ?_
          refine WL.op rfl (OW.allocO (cs := [i64 0, i64 0, i64 0, i64 0, i64 0]) Try.zeroValue80 rfl ?_ (by decide))
          intro g10 w10 heg10 hlg10 hO10 hx12
          have := World.grownBy.size hx12
          refine WL.op rfl (OW.storeOA hO10 rfl rfl rfl (Hd.c_one _) Try.sizeOf80 ?_)
          intro wX hO10 hx15
          have := World.grownBy.size hx15
          replace hO := (hO.ext (Ext.trans (Ext.trans hwL0 hwL1) hx12)).keptO hx15 (by omega)
          refine WL.nil ?_
          refine thn_n ?_
          refine WF.seq ?_
          refine WF.region ?_
          refine WL.va rfl rfl rfl (X.assignI rfl) ?_
          refine WL.nil ?_
          refine thn_n ?_
          refine WF.block ?_
          refine WF.named (fun F17 hF18 => ?_)
          refine WF.loopN (fun mL2 f' w' => ∃ (k : Nat), mL2 = c.acc.length - k ∧ f' 11 = .int .i64 (k : Int) ∧ f' 8 = i64 (((c.cnt p (c.acc[i]'hi).Ballot v j) : Nat) : Int) ∧ Agree [0, 1, 2, 7, 9, 10, 12, 13, 14, 15, 16, 17, 18, 21, 22, 23, 24, 25, 26, 29, 30, 31, 32, 33, 34, 35, 36, 37, 38, 39, 40] f' F17 ∧ Ext wX w' ∧ k ≤ c.acc.length ∧ ∀ q (hq : q < c.acc.length), q < k → c.acc[q] ≠ (⟨p, (j : Int) + 1, (c.acc[i]'hi).Ballot, 0, v⟩ : Hd)) ?_ ?_
          · exact ⟨_, 0, rfl, (congrFun hF18 11), ((congrFun hF18 8).trans e8_L1), (Agree.refl _ _), (Ext.refl _), ⟨Nat.zero_le _, fun q _ hq => by omega⟩⟩
          · rintro mL2 fL2 wL2 ⟨k, hmL2, e11_L2, e8_L2, hAL2, hwL2, ⟨hk0, hno⟩⟩
            have := World.grownBy.size hwL2
            refine WF.seq ?_
            refine WF.seq ?_
            refine WF.region ?_
            refine WL.va rfl rfl rfl (X.moveI e11_L2) ?_
            refine WL.va rfl rfl rfl (X.move ((hAL2.eq 0).trans ((congrFun hF18 0).trans ((hAL1.eq 0).trans ((congrFun hF7 0).trans ((hAL0.eq 0).trans (congrFun hF3 0))))))) ?_
            refine WL.va rfl rfl rfl (X.nilCheck rfl) ?_
            refine WL.va rfl rfl rfl (X.fieldAddrP (off := 4) rfl Try.underlying49 rfl rfl Try.sizeOf47) ?_
            refine WL.va rfl rfl rfl (X.loadO hO hwL2 rfl rfl Try.isAgg47) ?_
            refine WL.va rfl rfl rfl (X.len hA rfl Try.underlying47) ?_
            refine WL.va rfl rfl rfl (X.lss rfl rfl) ?_
            refine WL.nil ?_
            refine thn_n ?_
            refine WF.cond rfl (fun h2_19 => ?_) (fun h2_19 => ?_)
            · have gh2_19 := (of_decide_eq_true h2_19)
              have hk : k < c.acc.length := by omega
              refine WF.skip ?_
              refine thn_n ?_
              refine WF.seq ?_
              refine WF.block ?_
              refine WF.seq ?_
              refine WF.drawn (.q 0 (.q 1 (.q 2 (.q 3 (.q 4 (.q 5 (.q 6 (.q 7 (.q 8 .nil))))))))) (fun w' => Ext wL2 w') 9 (by kernel_rfl) (by kernel_rfl) (Ext.drew _) ?_
              have := World.grownBy.size (Ext.drew wL2)
              refine WO.q rfl rfl rfl rfl (fun w' hE21 => (X.move ((hAL2.eq 0).trans ((congrFun hF18 0).trans ((hAL1.eq 0).trans ((congrFun hF7 0).trans ((hAL0.eq 0).trans (congrFun hF3 0)))))))) ?_
              refine WO.q rfl rfl rfl rfl (fun w' hE21 => (X.nilCheck rfl)) ?_
              refine WO.q rfl rfl rfl rfl (fun w' hE21 => (X.fieldAddrP (off := 4) rfl Try.underlying49 rfl rfl Try.sizeOf47)) ?_
              refine WO.q rfl rfl rfl rfl (fun w' hE21 => (X.loadO hO (Ext.trans hwL2 hE21) rfl rfl Try.isAgg47)) ?_
              refine WO.q rfl rfl rfl rfl (fun w' hE21 => (X.moveI e11_L2)) ?_
              refine WO.q rfl rfl rfl rfl (fun w' hE21 => (X.idx hA rfl rfl (by omega) Try.underlying47 Try.sizeOf80)) ?_
              refine WO.q rfl rfl rfl rfl (fun w' hE21 => (X.loadEl hA (Ext.trans (Ext.trans (Ext.trans (Ext.trans hwL0 hwL1) (Ext.store hx12 hx15 (by omega))) hwL2) hE21) rfl (by omega) (hd_el hk) Try.isAgg80 Try.sizeOf80)) ?_
              refine WO.q rfl rfl rfl rfl (fun w' hE21 => (X.loadOA hO10 (Ext.trans hwL2 hE21) ((hAL2.eq 10).trans (congrFun hF18 10)) rfl Try.isAgg80 Try.sizeOf80)) ?_
              refine WO.q rfl rfl rfl rfl (fun w' hE21 => (X.eqlA (na := (c.acc[k]'hk).ints) (nb := ((⟨p, (j : Int) + 1, (c.acc[i]'hi).Ballot, 0, v⟩ : Hd)).ints) flatH fieldsH offsH rfl rfl rfl rfl (Hd.eqB _ _))) ?_
              refine WO.nil ?_
              refine WL.nil ?_
              refine thn_n ?_
              refine WF.cond rfl (fun h3_22 => ?_) (fun h3_22 => ?_)
              · have gh3_22 := h3_22
                have hcn : (((c.cnt p (c.acc[i]'hi).Ballot v j) : Nat) : Int) + 1 = (((c.cnt p (c.acc[i]'hi).Ballot v (j + 1)) : Nat) : Int) := by rw [RC.cnt_succ, if_pos (mem_at hk (of_decide_eq_true gh3_22))]; omega
                refine WF.seq ?_
                refine WF.region ?_
                refine WL.va rfl rfl rfl (X.moveI e8_L2) ?_
                refine WL.va rfl rfl rfl (X.add rfl rfl (w64 (by omega))) ?_
                refine WL.va rfl rfl rfl (X.assignI rfl) ?_
                refine WL.nil ?_
                refine thn_n ?_
                refine WF.exit ?_
                refine blk_ne rfl ?_
                refine thn_x ?_
                refine thn_x ?_
                refine blk_eq ?_
                refine blk_n ?_
                refine thn_n ?_
                refine WF.region ?_
                refine WL.va rfl rfl rfl (X.moveI ((hAL2.eq 9).trans ((congrFun hF18 9).trans e9_L1))) ?_
                refine WL.va rfl rfl rfl (X.add rfl rfl (w64 (by omega))) ?_
                refine WL.va rfl rfl rfl (X.assignI rfl) ?_
                refine WL.nil ?_
                exact thn_n ⟨_, (by omega), j + 1, rfl, rfl, (Eq.trans rfl (congrArg i64 hcn)), (by repeat (first | exact hAL1 | refine Agree.put ?_ rfl | refine Agree.sub hAL2 rfl ?_ | refine Agree.sub hAL0 rfl ?_ | refine Agree.named hF18 ?_ | refine Agree.named hF7 ?_ | refine Agree.named hF3 ?_)), (Ext.trans (Ext.trans (Ext.trans hwL1 (Ext.store hx12 hx15 (by omega))) hwL2) (Ext.drew _)), (by omega)⟩
              · have gh3_22 := h3_22
                have hne := of_decide_eq_false gh3_22
                refine WF.skip ?_
                refine blk_n ?_
                refine thn_n ?_
                refine WF.region ?_
                refine WL.va rfl rfl rfl (X.moveI e11_L2) ?_
                refine WL.va rfl rfl rfl (X.add rfl rfl (w64 (by omega))) ?_
                refine WL.va rfl rfl rfl (X.assignI rfl) ?_
                refine WL.nil ?_
                exact thn_n ⟨_, (by omega), k + 1, rfl, rfl, e8_L2, (by repeat (first | exact hAL2 | refine Agree.put ?_ rfl | refine Agree.sub hAL1 rfl ?_ | refine Agree.sub hAL0 rfl ?_ | refine Agree.named hF18 ?_ | refine Agree.named hF7 ?_ | refine Agree.named hF3 ?_)), (Ext.trans hwL2 (Ext.drew _)), ⟨by omega, fun q hq1 hq2 => by rcases Nat.lt_succ_iff_lt_or_eq.1 hq2 with h | rfl; exact hno q hq1 h; exact hne⟩⟩
            · have gh2_19 := (of_decide_eq_false h2_19)
              have hcn : ((c.cnt p (c.acc[i]'hi).Ballot v j) : Int) = (((c.cnt p (c.acc[i]'hi).Ballot v (j + 1)) : Nat) : Int) := by rw [RC.cnt_succ, if_neg (fun hm => by obtain ⟨q, hq, e⟩ := List.getElem_of_mem hm; exact hno q hq (by omega) e)]; omega
              refine WF.exit ?_
              refine thn_x ?_
              refine thn_x ?_
              refine blk_eq ?_
              refine blk_n ?_
              refine thn_n ?_
              refine WF.region ?_
              refine WL.va rfl rfl rfl (X.moveI ((hAL2.eq 9).trans ((congrFun hF18 9).trans e9_L1))) ?_
              refine WL.va rfl rfl rfl (X.add rfl rfl (w64 (by omega))) ?_
              refine WL.va rfl rfl rfl (X.assignI rfl) ?_
              refine WL.nil ?_
              exact thn_n ⟨_, (by omega), j + 1, rfl, rfl, (Eq.trans e8_L2 (congrArg i64 hcn)), (by repeat (first | exact hAL1 | refine Agree.put ?_ rfl | refine Agree.sub hAL2 rfl ?_ | refine Agree.sub hAL0 rfl ?_ | refine Agree.named hF18 ?_ | refine Agree.named hF7 ?_ | refine Agree.named hF3 ?_)), (Ext.trans (Ext.trans hwL1 (Ext.store hx12 hx15 (by omega))) hwL2), (by omega)⟩
        · have gh1_8 := (of_decide_eq_false h1_8)
          have hjn : j = c.nac.toNat := by omega
          have hcl := c.cnt_le (p := p) (b := (c.acc[i]'hi).Ballot) (v := v) j
          refine WF.exit ?_
          refine thn_x ?_
          refine thn_x ?_
          refine blk_eq ?_
          refine thn_n ?_
          refine WF.seq ?_
          refine WF.region ?_
          refine WL.va rfl rfl rfl (X.moveI e8_L1) ?_
          refine WL.va rfl rfl rfl (X.mul rfl rfl (w64 (by omega))) ?_
          refine WL.va rfl rfl rfl (X.move ((hAL1.eq 0).trans ((congrFun hF7 0).trans ((hAL0.eq 0).trans (congrFun hF3 0))))) ?_
          refine WL.va rfl rfl rfl (X.nilCheck rfl) ?_
          refine WL.va rfl rfl rfl (X.fieldAddrP (off := 2) rfl Try.underlying49 rfl rfl Try.sizeOf3) ?_
          refine WL.va rfl rfl rfl (X.loadO hO (Ext.trans hwL0 hwL1) rfl rfl Try.isAgg3) ?_
          refine WL.va rfl rfl rfl (X.gtr rfl rfl) ?_
          refine WL.nil ?_
          refine thn_n ?_
          refine WF.cond rfl (fun h4_24 => ?_) (fun h4_24 => ?_)
          · have gh4_24 := (of_decide_eq_true h4_24)
            have hy : c.chosen p v = true := any_at hi (decide_eq_true (by have := gh4_24; rw [hjn] at this; exact this))
            refine WF.seq ?_
            refine WF.region ?_
            refine WL.va rfl rfl rfl (X.assignB rfl) ?_
            refine WL.nil ?_
            refine thn_n ?_
            refine WF.ret ?_
            refine blk_r ?_
            refine thn_r ?_
            refine thn_r ?_
            refine blk_r ?_
            refine thn_r ?_
            refine fin_r ?_
            rw [hy]; exact ⟨rfl, (Ext.trans hwL0 hwL1)⟩
          · have gh4_24 := (of_decide_eq_false h4_24)
            have hnn : c.has p v (c.acc[i]'hi) = false := decide_eq_false (by have := gh4_24; rw [hjn] at this; exact this)
            refine WF.skip ?_
            refine blk_n ?_
            refine thn_n ?_
            refine WF.region ?_
            refine WL.va rfl rfl rfl (X.moveI ((hAL1.eq 7).trans ((congrFun hF7 7).trans e7_L0))) ?_
            refine WL.va rfl rfl rfl (X.add rfl rfl (w64 (by omega))) ?_
            refine WL.va rfl rfl rfl (X.assignI rfl) ?_
            refine WL.nil ?_
            exact thn_n ⟨_, (by omega), i + 1, rfl, rfl, (by repeat (first | exact hAL0 | refine Agree.put ?_ rfl | refine Agree.sub hAL1 rfl ?_ | refine Agree.named hF7 ?_ | refine Agree.named hF3 ?_)), (Ext.trans hwL0 hwL1), ⟨by omega, by rw [any_take hi, hno0, hnn]; rfl⟩⟩
    · have gh0_4 := (of_decide_eq_false h0_4)
      refine WF.exit ?_
      refine thn_x ?_
      refine thn_x ?_
      refine blk_eq ?_
      refine thn_n ?_
      refine WF.seq ?_
      refine WF.region ?_
      refine WL.va rfl rfl rfl (X.assignB rfl) ?_
      refine WL.nil ?_
      refine thn_n ?_
      refine WF.ret ?_
      refine fin_r ?_
      exact ⟨congrArg Value.bool (by unfold RC.chosen; rw [← hno0, List.take_of_length_le (by omega)]), hwL0⟩

set_option maxHeartbeats 1000000 in
theorem allR_ok (g : Nat) (c : RC) (vp va vr vo : Value) (m : Msg) (w : World) (h : Blk w g 49 (c.cells vp va vr vo)) (hn : c.nac ≤ 7) : FnOk Try.prog 32 [at_ g, agg m.bare] w (fun r w' => OwnM w' w.heap.size 40 r (c.all m) ∧ Ext w w') := by
  have hO := h
  have hlg := h.lt
  refine FnOk.enter (rs := [4]) Try.func32 rfl Try.ntmps32 Try.results32 rfl rfl ?_
  refine WF.seq ?_
  refine WF.region ?_
  refine WL.op rfl (OW.boxA (cs := (Msg.bare m)) rfl ?_ (by decide))
  intro g3 wb heg3 hlg3 hO3 hx2
  have := World.grownBy.size hx2
  refine WL.va rfl rfl rfl (X.assign rfl) ?_
  refine WL.nil ?_
  refine thn_n ?_
  refine WF.seq ?_
  refine WF.region ?_
  refine WL.va rfl rfl rfl (X.assign rfl) ?_
  refine WL.nil ?_
  refine thn_n ?_
  refine WF.seq ?_
  refine WF.seq ?_
  refine WF.region ?_
  refine WL.va rfl rfl rfl (X.assignI rfl) ?_
  refine WL.nil ?_
  refine thn_n ?_
  refine WF.block ?_
  refine WF.named (fun F4 hF5 => ?_)
  refine WF.loopN (fun mL0 f' w' => ∃ (k : Nat) (t1 t2 t3 t4 : Int) (vm : Value), mL0 = c.nac.toNat - k ∧ f' 6 = i64 ((k : Int) + 1) ∧ f' 5 = vm ∧ Agree [0, 1, 3, 4] f' F4 ∧ Ext w w' ∧ k ≤ c.nac.toNat ∧ Blk w' g3 40 (Msg.bare { m with From := t1, To := t2, Txn := t3, Ballot := t4 }) ∧ OwnM w' wb.heap.size 40 vm ((c.all m).take k) ∧ wb.heap.size ≤ w'.heap.size) ?_ ?_
  · exact ⟨_, 0, m.From, m.To, m.Txn, m.Ballot, nilS, rfl, (congrFun hF5 6), (congrFun hF5 5), (Agree.refl _ _), hx2, ⟨Nat.zero_le _, hO3, OwnM.nil _ _ _, by omega⟩⟩
  · rintro mL0 fL0 wL0 ⟨k, t1, t2, t3, t4, vm, hmL0, e6_L0, e5_L0, hAL0, hwL0, ⟨hk, hO3, hom, hgb⟩⟩
    have := World.grownBy.size hwL0
    have hkl : ((c.all m).take k).length = k := by rw [List.length_take, allM_len]; omega
    refine WF.seq ?_
    refine WF.seq ?_
    refine WF.region ?_
    refine WL.va rfl rfl rfl (X.moveI e6_L0) ?_
    refine WL.va rfl rfl rfl (X.move ((hAL0.eq 0).trans (congrFun hF5 0))) ?_
    refine WL.va rfl rfl rfl (X.nilCheck rfl) ?_
    refine WL.va rfl rfl rfl (X.fieldAddrP (off := 2) rfl Try.underlying49 rfl rfl Try.sizeOf3) ?_
    refine WL.va rfl rfl rfl (X.loadO hO hwL0 rfl rfl Try.isAgg3) ?_
    refine WL.va rfl rfl rfl (X.leq rfl rfl) ?_
    refine WL.nil ?_
    refine thn_n ?_
    refine WF.cond rfl (fun h0_6 => ?_) (fun h0_6 => ?_)
    · have gh0_6 := (of_decide_eq_true h0_6)
      refine WF.skip ?_
      refine thn_n ?_
      refine WF.seq ?_
      refine WF.block ?_
      refine WF.seq ?_
      refine WF.region ?_
      refine WL.va rfl rfl rfl (X.move ((hAL0.eq 0).trans (congrFun hF5 0))) ?_
      refine WL.va rfl rfl rfl (X.nilCheck rfl) ?_
      refine WL.va rfl rfl rfl (X.fieldAddrP (off := 0) rfl Try.underlying49 rfl rfl Try.sizeOf3) ?_
      refine WL.va rfl rfl rfl (X.loadO hO hwL0 rfl rfl Try.isAgg3) ?_
      refine WL.va rfl rfl rfl (X.fieldAddrO (off := 1) ((hAL0.eq 3).trans (congrFun hF5 3)) Try.underlying40 rfl rfl Try.sizeOf3) ?_
      refine WL.op rfl (OW.storeO hO3 (Nat.le_of_ble_eq_true rfl) rfl rfl rfl Try.sizeOf3 ?_)
      intro w8 hO3 hx10
      have := World.grownBy.size hx10
      replace hO := (hO.ext hwL0).keptO hx10 (by omega)
      replace hom := own_keptO hom hx10 (by omega)
      replace hO3 : Blk _ _ _ (Msg.bare { m with From := c.me, To := t2, Txn := t3, Ballot := t4 }) := hO3
      refine WL.nil ?_
      refine thn_n ?_
      refine WF.seq ?_
      refine WF.region ?_
      refine WL.va rfl rfl rfl (X.moveI e6_L0) ?_
      refine WL.va rfl rfl rfl (X.fieldAddrO (off := 2) ((hAL0.eq 3).trans (congrFun hF5 3)) Try.underlying40 rfl rfl Try.sizeOf3) ?_
      refine WL.op rfl (OW.storeO hO3 (Nat.le_of_ble_eq_true rfl) rfl rfl rfl Try.sizeOf3 ?_)
      intro w12 hO3 hx14
      have := World.grownBy.size hx14
      replace hO := hO.keptO hx14 (by omega)
      replace hom := own_keptO hom hx14 (by omega)
      replace hO3 : Blk _ _ _ (Msg.bare { m with From := c.me, To := ((k : Int) + 1), Txn := t3, Ballot := t4 }) := hO3
      refine WL.nil ?_
      refine thn_n ?_
      refine WF.seq ?_
      refine WF.region ?_
      refine WL.va rfl rfl rfl (X.move ((hAL0.eq 0).trans (congrFun hF5 0))) ?_
      refine WL.va rfl rfl rfl (X.nilCheck rfl) ?_
      refine WL.va rfl rfl rfl (X.fieldAddrP (off := 1) rfl Try.underlying49 rfl rfl Try.sizeOf3) ?_
      refine WL.va rfl rfl rfl (X.loadO hO (Ext.refl _) rfl rfl Try.isAgg3) ?_
      refine WL.va rfl rfl rfl (X.fieldAddrO (off := 9) ((hAL0.eq 3).trans (congrFun hF5 3)) Try.underlying40 rfl rfl Try.sizeOf3) ?_
      refine WL.op rfl (OW.storeO hO3 (Nat.le_of_ble_eq_true rfl) rfl rfl rfl Try.sizeOf3 ?_)
      intro w16 hO3 hx18
      have := World.grownBy.size hx18
      replace hO := hO.keptO hx18 (by omega)
      replace hom := own_keptO hom hx18 (by omega)
      replace hO3 : Blk _ _ _ (Msg.bare { m with From := c.me, To := ((k : Int) + 1), Txn := c.txn, Ballot := t4 }) := hO3
      refine WL.nil ?_
      refine thn_n ?_
      refine WF.seq ?_
      refine WF.region ?_
      refine WL.va rfl rfl rfl (X.move ((hAL0.eq 0).trans (congrFun hF5 0))) ?_
      refine WL.va rfl rfl rfl (X.nilCheck rfl) ?_
      refine WL.va rfl rfl rfl (X.fieldAddrP (off := 9) rfl Try.underlying49 rfl rfl Try.sizeOf3) ?_
      refine WL.va rfl rfl rfl (X.loadO hO (Ext.refl _) rfl rfl Try.isAgg3) ?_
      refine WL.va rfl rfl rfl (X.fieldAddrO (off := 11) ((hAL0.eq 3).trans (congrFun hF5 3)) Try.underlying40 rfl rfl Try.sizeOf3) ?_
      refine WL.op rfl (OW.storeO hO3 (Nat.le_of_ble_eq_true rfl) rfl rfl rfl Try.sizeOf3 ?_)
      intro w20 hO3 hx22
      have := World.grownBy.size hx22
      replace hO := hO.keptO hx22 (by omega)
      replace hom := own_keptO hom hx22 (by omega)
      replace hO3 : Blk _ _ _ (Msg.bare { m with From := c.me, Txn := c.txn, Ballot := c.bal, To := ((k : Int) + 1) }) := hO3
      refine WL.nil ?_
      refine thn_n ?_
      refine WF.region ?_
      refine WL.va rfl rfl rfl (X.move e5_L0) ?_
      refine WL.va rfl rfl rfl (X.loadOA hO3 (Ext.refl _) ((hAL0.eq 3).trans (congrFun hF5 3)) rfl Try.isAgg40 Try.sizeOf40) ?_
      refine WL.op rfl (OW.lits (vs := [_]) (evp_cons rfl evp_nil) Try.underlying36 Try.sizeOf40 Try.zeroValue40 ⟨rfl, trivial⟩ rfl rfl rfl ?_ (by decide))
      intro v25 w24 ho27 hx26
      have := World.grownBy.size hx26
      have hlt := ho27
      refine WL.op rfl (OW.append (bytes := 168) (own_ext hom hx26) (Row.of_own hlt) (Msg.bare_one _) rfl rfl Try.underlying36 Try.type40 rfl rfl rfl rfl (by decide) (by unfold maxLen; omega) (by omega) (by omega) ?_ (by decide))
      intro v29 w28 ho31 hx30 hmvhx30
      have := World.grownBy.size hx30
      replace hO := (hO.ext hx26).keptR hx30 (fun b hb => by have := ((own_ext hom hx26).lt b hb).1; omega)
      replace hO3 := (hO3.ext hx26).keptR hx30 (fun b hb => by have := ((own_ext hom hx26).lt b hb).1; omega)
      have hom4 := OwnM.app1 (m := { m with From := c.me, To := (k : Int) + 1, Txn := c.txn, Ballot := c.bal }) ho31
      refine WL.va rfl rfl rfl (X.assign rfl) ?_
      refine WL.nil ?_
      refine blk_n ?_
      refine thn_n ?_
      refine WF.region ?_
      refine WL.va rfl rfl rfl (X.moveI e6_L0) ?_
      refine WL.va rfl rfl rfl (X.add rfl rfl (w64 (by omega))) ?_
      refine WL.va rfl rfl rfl (X.assignI rfl) ?_
      refine WL.nil ?_
      exact thn_n ⟨_, (by omega), k + 1, _, _, _, _, _, rfl, rfl, rfl, (by repeat (first | exact hAL0 | refine Agree.put ?_ rfl | refine Agree.named hF5 ?_)), (Ext.own (Ext.trans (Ext.store (Ext.store (Ext.store (Ext.store hwL0 hx10 (by omega)) hx14 (by omega)) hx18 (by omega)) hx22 (by omega)) hx26) (own_mono (own_ext hom hx26) (by omega)) (Nat.le_refl _) hx30), ⟨by omega, hO3, by rw [allM_take (by omega)]; exact hom4, by omega⟩⟩
    · have gh0_6 := (of_decide_eq_false h0_6)
      refine WF.exit ?_
      refine thn_x ?_
      refine thn_x ?_
      refine blk_eq ?_
      refine thn_n ?_
      refine WF.seq ?_
      refine WF.region ?_
      refine WL.va rfl rfl rfl (X.move e5_L0) ?_
      refine WL.va rfl rfl rfl (X.assign rfl) ?_
      refine WL.nil ?_
      refine thn_n ?_
      refine WF.ret ?_
      refine fin_r ?_
      rw [List.take_of_length_le (by rw [allM_len]; omega)] at hom; exact ⟨own_mono hom (by omega), hwL0⟩

theorem startM_yes {c : RC} {b : Int} {l : List Int} {k : Nat} (hk : k < l.length) (h1 : c.chosen (l.getD k 0) 1 = false) (h2 : c.chosen (l.getD k 0) 2 = false) : c.startM b (l.take (k + 1)) = c.startM b (l.take k) ++ (c.started b).all (asks (l.getD k 0)) := by
  unfold RC.startM
  rw [List.take_succ_eq_append_getElem hk, List.flatMap_append]
  rw [getD_at hk] at *
  simp [h1, h2]
theorem startM_no {c : RC} {b : Int} {l : List Int} {k : Nat} (hk : k < l.length) (h : ¬ (c.chosen (l.getD k 0) 1 = false ∧ c.chosen (l.getD k 0) 2 = false)) : c.startM b (l.take (k + 1)) = c.startM b (l.take k) := by
  unfold RC.startM
  rw [List.take_succ_eq_append_getElem hk, List.flatMap_append]
  rw [getD_at hk] at h
  rw [List.flatMap_cons, if_neg h]
  simp
theorem startM_len {c : RC} {b : Int} (h : c.nac ≤ 7) : ∀ l : List Int, (c.startM b l).length ≤ 7 * l.length
  | [] => Nat.le_refl _
  | p :: l => by
    have := startM_len h (b := b) l
    unfold RC.startM at this ⊢
    rw [List.flatMap_cons, List.length_append, List.length_cons]
    have h2 : (if c.chosen p 1 = false ∧ c.chosen p 2 = false then (c.started b).all (asks p) else []).length ≤ 7 := by
      split
      · have h3 : ((c.started b).all (asks p)).length = c.nac.toNat := allM_len
        omega
      · simp
    omega
theorem ok_started {c : RC} {b : Int} (h : c.ok) : (c.started b).ok := ⟨h.nac, h.parts, h.acc, Nat.zero_le _, Nat.zero_le _⟩
theorem two_no {a b : Bool} (h : a = false) : (!b) = decide (a = false ∧ b = false) := by subst h; cases b <;> decide
theorem nil_fp {F : Fp Rl} {r : Rl} {w : World} : ∀ b, (Value.slice none 0 0).ownBlock = some b → F b = some r ∨ F b = none ∧ w.heap.size ≤ b := fun b e => by cases e
set_option maxHeartbeats 2000000 in
theorem startR_ok (F : Fp Rl) (g : Nat) (c : RC) (b : Int) (w : World) (h : RAt w F g c) (hok : c.ok) : FnOk Try.prog 13 [at_ g, i64 b] w (fun r w' => OwnM w' w.heap.size 40 r (c.startM b c.parts) ∧ RPost w w' F g (c.started b)) := by
  obtain ⟨vp, va, vr, vo, hI⟩ := h
  have hO := hI.obj
  have zg := Fp.lt hI.below hI.at_
  obtain ⟨Bp, Tp, oP, zP, bP, nP⟩ := hI.parts.outT
  obtain ⟨Ba, Ta, oA, zA, bA, nA⟩ := hI.acc.outT
  obtain ⟨Br, Tr, oR, zR, bR, nR⟩ := hI.prom.outT
  obtain ⟨Bo, To, oo, zo, bo, no⟩ := hI.prop.outT
  have n1 := nP g _ hI.at_ (by simp)
  have n2 := nA g _ hI.at_ (by simp)
  have n3 := nR g _ hI.at_ (by simp)
  have n4 := no g _ hI.at_ (by simp)
  obtain ⟨hn1, hn7⟩ := hok.nac
  have hp4 := hok.parts
  have ha4 := hok.acc
  have hr4 := hok.prom
  have ho4 := hok.prop
  have hlq : c.parts.length ≤ 9223372036854775807 := by omega
  refine FnOk.enter (rs := [4]) Try.func13 rfl Try.ntmps13 Try.results13 rfl rfl ?_
  refine WF.seq ?_
  refine WF.region ?_
  refine WL.va rfl rfl rfl (X.assign rfl) ?_
  refine WL.nil ?_
  refine thn_n ?_
  refine WF.seq ?_
  refine WF.region ?_
  refine WL.va rfl rfl rfl (X.move rfl) ?_
  refine WL.va rfl rfl rfl (X.nilCheck rfl) ?_
  refine WL.va rfl rfl rfl (X.fieldAddrP (off := 7) rfl Try.underlying49 rfl rfl Try.sizeOf4) ?_
  refine WL.op rfl (OW.storeO hO (Nat.le_of_ble_eq_true rfl) rfl rfl rfl Try.sizeOf4 ?_)
  intro w1 hO hx3
  have := World.grownBy.size hx3
  replace oP := oP.keptO hx3 (by omega)
  replace oA := oA.keptO hx3 (by omega)
  refine WL.nil ?_
  refine thn_n ?_
  refine WF.seq ?_
  refine WF.region ?_
  refine WL.va rfl rfl rfl (X.move rfl) ?_
  refine WL.va rfl rfl rfl (X.moveI rfl) ?_
  refine WL.va rfl rfl rfl (X.nilCheck rfl) ?_
  refine WL.va rfl rfl rfl (X.fieldAddrP (off := 9) rfl Try.underlying49 rfl rfl Try.sizeOf3) ?_
  refine WL.op rfl (OW.storeO hO (Nat.le_of_ble_eq_true rfl) rfl rfl rfl Try.sizeOf3 ?_)
  intro w5 hO hx7
  have := World.grownBy.size hx7
  replace oP := oP.keptO hx7 (by omega)
  replace oA := oA.keptO hx7 (by omega)
  refine WL.nil ?_
  refine thn_n ?_
  refine WF.seq ?_
  refine WF.region ?_
  refine WL.va rfl rfl rfl (X.move rfl) ?_
  refine WL.va rfl rfl rfl (X.nilCheck rfl) ?_
  refine WL.va rfl rfl rfl (X.fieldAddrP (off := 5) rfl Try.underlying49 rfl rfl Try.sizeOf47) ?_
  refine WL.op rfl (OW.storeO hO (Nat.le_of_ble_eq_true rfl) rfl rfl rfl Try.sizeOf47 ?_)
  intro w9 hO hx11
  have := World.grownBy.size hx11
  replace oP := oP.keptO hx11 (by omega)
  replace oA := oA.keptO hx11 (by omega)
  refine WL.nil ?_
  refine thn_n ?_
  refine WF.seq ?_
  refine WF.region ?_
  refine WL.va rfl rfl rfl (X.move rfl) ?_
  refine WL.va rfl rfl rfl (X.nilCheck rfl) ?_
  refine WL.va rfl rfl rfl (X.fieldAddrP (off := 6) rfl Try.underlying49 rfl rfl Try.sizeOf22) ?_
  refine WL.op rfl (OW.storeO hO (Nat.le_of_ble_eq_true rfl) rfl rfl rfl Try.sizeOf22 ?_)
  intro wS hO hx14
  have := World.grownBy.size hx14
  replace oP := oP.keptO hx14 (by omega)
  replace oA := oA.keptO hx14 (by omega)
  replace hO : Blk _ _ _ ((c.started b).cells vp va nilS nilS) := hO
  refine WL.nil ?_
  refine thn_n ?_
  refine WF.seq ?_
  refine WF.region ?_
  refine WL.va rfl rfl rfl (X.assign rfl) ?_
  refine WL.nil ?_
  refine thn_n ?_
  refine WF.seq ?_
  refine WF.seq ?_
  refine WF.region ?_
  refine WL.va rfl rfl rfl (X.assignI rfl) ?_
  refine WL.nil ?_
  refine thn_n ?_
  refine WF.block ?_
  refine WF.named (fun F16 hF17 => ?_)
  refine WF.loopN (fun mL0 f' w' => ∃ (k : Nat) (vm : Value), mL0 = c.parts.length - k ∧ f' 6 = .int .i64 (k : Int) ∧ f' 5 = vm ∧ Agree [0, 1, 4, 7, 8, 9, 10, 11, 12, 13, 14, 15, 16, 17, 18, 19] f' F16 ∧ Ext wS w' ∧ k ≤ c.parts.length ∧ OwnM w' wS.heap.size 40 vm (c.startM b (c.parts.take k))) ?_ ?_
  · exact ⟨_, 0, nilS, rfl, (congrFun hF17 6), (congrFun hF17 5), (Agree.refl _ _), (Ext.refl _), ⟨Nat.zero_le _, OwnM.nil _ _ _⟩⟩
  · rintro mL0 fL0 wL0 ⟨k, vm, hmL0, e6_L0, e5_L0, hAL0, hwL0, ⟨hk0, hom⟩⟩
    have := World.grownBy.size hwL0
    have hlm := startM_len (b := b) hn7 (c.parts.take k)
    have hlk : (c.parts.take k).length = k := by rw [List.length_take]; omega
    refine WF.seq ?_
    refine WF.seq ?_
    refine WF.region ?_
    refine WL.va rfl rfl rfl (X.moveI e6_L0) ?_
    refine WL.va rfl rfl rfl (X.move ((hAL0.eq 0).trans (congrFun hF17 0))) ?_
    refine WL.va rfl rfl rfl (X.nilCheck rfl) ?_
    refine WL.va rfl rfl rfl (X.fieldAddrP (off := 3) rfl Try.underlying49 rfl rfl Try.sizeOf22) ?_
    refine WL.va rfl rfl rfl (X.loadO hO hwL0 rfl rfl Try.isAgg22) ?_
    refine WL.va rfl rfl rfl (X.len (oP.rd) rfl Try.underlying22) ?_
    refine WL.va rfl rfl rfl (X.lss rfl rfl) ?_
    refine WL.nil ?_
    refine thn_n ?_
    refine WF.cond rfl (fun h0_18 => ?_) (fun h0_18 => ?_)
    · have gh0_18 := (of_decide_eq_true h0_18)
      have hk : k < c.parts.length := by omega
      refine WF.skip ?_
      refine thn_n ?_
      refine WF.seq ?_
      refine WF.block ?_
      refine WF.named (fun F20 hF21 => ?_)
      refine WF.cut (fun f' w' => f' 50 = .bool (decide (c.chosen (c.parts.getD k 0) 1 = false ∧ c.chosen (c.parts.getD k 0) 2 = false)) ∧ Agree [0, 1, 4, 5, 6, 7, 8, 9, 10, 11, 12, 13, 14, 15, 16, 17, 18, 19, 20, 21, 22, 23, 24, 25, 26] f' F20 ∧ Ext wL0 w') ?_ ?_
      · refine WF.region ?_
        refine WL.va rfl rfl rfl (X.move ((congrFun hF21 0).trans ((hAL0.eq 0).trans (congrFun hF17 0)))) ?_
        refine WL.va rfl rfl rfl (X.move ((congrFun hF21 0).trans ((hAL0.eq 0).trans (congrFun hF17 0)))) ?_
        refine WL.va rfl rfl rfl (X.nilCheck rfl) ?_
        refine WL.va rfl rfl rfl (X.fieldAddrP (off := 3) rfl Try.underlying49 rfl rfl Try.sizeOf22) ?_
        refine WL.va rfl rfl rfl (X.loadO hO hwL0 rfl rfl Try.isAgg22) ?_
        refine WL.va rfl rfl rfl (X.moveI ((congrFun hF21 6).trans e6_L0)) ?_
        refine WL.va rfl rfl rfl (X.idx (oP.rd) rfl rfl (by omega) Try.underlying22 Try.sizeOf3) ?_
        refine WL.va rfl rfl rfl (X.loadI (oP.rd) hwL0 rfl (by omega) Try.isAgg3) ?_
        refine WL.c rfl rfl rfl (X.call Try.call31 (evl_cons rfl (evl_cons rfl (evl_cons rfl evl_nil)))) (chosen_ok g (c.started b) _ _ _ _ (c.parts.getD k 0) _ _ (hO.ext hwL0) (oA.ext hwL0).rd hn7 ha4) ?_
        rintro v23 w22 ⟨rfl, hx24⟩
        have := World.grownBy.size hx24
        refine WL.va rfl rfl rfl (X.not rfl) ?_
        refine WL.va rfl rfl rfl (X.moveB rfl) ?_
        refine WL.split (j := 10) rfl (fun h27 => ?_) (fun h27 => ?_)
        · have gh27 := (nt h27)
          have hc1 : c.chosen (c.parts.getD k 0) 1 = false := gh27
          refine WL.vg rfl (congrArg some h27) rfl rfl (X.move ((congrFun hF21 0).trans ((hAL0.eq 0).trans (congrFun hF17 0)))) ?_
          refine WL.vg rfl (congrArg some h27) rfl rfl (X.move ((congrFun hF21 0).trans ((hAL0.eq 0).trans (congrFun hF17 0)))) ?_
          refine WL.vg rfl (congrArg some h27) rfl rfl (X.nilCheck rfl) ?_
          refine WL.vg rfl (congrArg some h27) rfl rfl (X.fieldAddrP (off := 3) rfl Try.underlying49 rfl rfl Try.sizeOf22) ?_
          refine WL.vg rfl (congrArg some h27) rfl rfl (X.loadO hO (Ext.trans hwL0 hx24) rfl rfl Try.isAgg22) ?_
          refine WL.vg rfl (congrArg some h27) rfl rfl (X.moveI ((congrFun hF21 6).trans e6_L0)) ?_
          refine WL.vg rfl (congrArg some h27) rfl rfl (X.idx (oP.rd) rfl rfl (by omega) Try.underlying22 Try.sizeOf3) ?_
          refine WL.vg rfl (congrArg some h27) rfl rfl (X.loadI (oP.rd) (Ext.trans hwL0 hx24) rfl (by omega) Try.isAgg3) ?_
          refine WL.cg rfl (congrArg some h27) rfl rfl (X.call Try.call31 (evl_cons rfl (evl_cons rfl (evl_cons rfl evl_nil)))) (chosen_ok g (c.started b) _ _ _ _ (c.parts.getD k 0) _ _ (hO.ext (Ext.trans hwL0 hx24)) (oA.ext (Ext.trans hwL0 hx24)).rd hn7 ha4) ?_
          rintro v29 w28 ⟨rfl, hx30⟩
          have := World.grownBy.size hx30
          refine WL.vg rfl (congrArg some h27) rfl rfl (X.not rfl) ?_
          refine WL.va rfl rfl rfl (X.pickT rfl h27 rfl) ?_
          refine WL.nil ?_
          refine thn_n ?_
          exact ⟨(congrArg Value.bool (by first | exact (decide_eq_false (fun e => hc1 e.1)).symm | exact two_no hc1)), (by repeat (first | exact (Agree.refl _ F20) | refine Agree.put ?_ rfl | refine Agree.sub hAL0 rfl ?_ | refine Agree.named hF21 ?_ | refine Agree.named hF17 ?_)), (Ext.trans hx24 hx30)⟩
        · have gh27 := (nf h27)
          have hc1 : ¬ c.chosen (c.parts.getD k 0) 1 = false := by rw [show c.chosen (c.parts.getD k 0) 1 = true from gh27]; simp
          refine WL.p rfl rfl rfl (congrArg some h27) ?_
          refine WL.p rfl rfl rfl (congrArg some h27) ?_
          refine WL.p rfl rfl rfl (congrArg some h27) ?_
          refine WL.p rfl rfl rfl (congrArg some h27) ?_
          refine WL.p rfl rfl rfl (congrArg some h27) ?_
          refine WL.p rfl rfl rfl (congrArg some h27) ?_
          refine WL.p rfl rfl rfl (congrArg some h27) ?_
          refine WL.p rfl rfl rfl (congrArg some h27) ?_
          refine WL.p rfl rfl rfl (congrArg some h27) ?_
          refine WL.p rfl rfl rfl (congrArg some h27) ?_
          refine WL.va rfl rfl rfl (X.pickF rfl h27 rfl) ?_
          refine WL.nil ?_
          refine thn_n ?_
          exact ⟨(congrArg Value.bool (by first | exact (decide_eq_false (fun e => hc1 e.1)).symm | exact two_no hc1)), (by repeat (first | exact (Agree.refl _ F20) | refine Agree.put ?_ rfl | refine Agree.sub hAL0 rfl ?_ | refine Agree.named hF21 ?_ | refine Agree.named hF17 ?_)), hx24⟩
      · rintro fCr9 wCr9 ⟨e50_Cr9, hACr9, hwCr9⟩
        have := World.grownBy.size hwCr9
        refine WF.cond e50_Cr9 (fun h1_34 => ?_) (fun h1_34 => ?_)
        · have gh1_34 := (of_decide_eq_true h1_34)
          have hyy := startM_yes (b := b) hk gh1_34.1 gh1_34.2
          refine WF.region ?_
          refine WL.va rfl rfl rfl (X.move ((hACr9.eq 5).trans ((congrFun hF21 5).trans e5_L0))) ?_
          refine WL.va rfl rfl rfl (X.move ((hACr9.eq 0).trans ((congrFun hF21 0).trans ((hAL0.eq 0).trans (congrFun hF17 0))))) ?_
          refine WL.va rfl rfl rfl (X.move ((hACr9.eq 0).trans ((congrFun hF21 0).trans ((hAL0.eq 0).trans (congrFun hF17 0))))) ?_
          refine WL.va rfl rfl rfl (X.nilCheck rfl) ?_
          refine WL.va rfl rfl rfl (X.fieldAddrP (off := 3) rfl Try.underlying49 rfl rfl Try.sizeOf22) ?_
          refine WL.va rfl rfl rfl (X.loadO hO (Ext.trans hwL0 hwCr9) rfl rfl Try.isAgg22) ?_
          refine WL.va rfl rfl rfl (X.moveI ((hACr9.eq 6).trans ((congrFun hF21 6).trans e6_L0))) ?_
          refine WL.va rfl rfl rfl (X.idx (oP.rd) rfl rfl (by omega) Try.underlying22 Try.sizeOf3) ?_
          refine WL.va rfl rfl rfl (X.loadI (oP.rd) (Ext.trans hwL0 hwCr9) rfl (by omega) Try.isAgg3) ?_
          refine WL.va rfl rfl rfl (X.buildT (P := Try.prog) (t := 40) (cs := (Msg.bare (asks (c.parts.getD k 0)))) (zs := [i64 0, i64 0, i64 0, i64 0, i64 0, i64 0, i64 0, i64 0, i64 0, i64 0, i64 0, i64 0, i64 0, i64 0, .bool false, .slice none 0 0, .slice none 0 0]) (places := [(0, 1), (1, 1), (2, 1), (3, 1), (4, 1), (5, 1), (6, 1), (7, 1), (8, 1), (9, 1), (10, 1), (11, 1), (12, 1), (13, 1), (14, 1), (15, 1), (16, 1)]) (n := 17) (evp_cons rfl (evp_cons rfl evp_nil)) Try.type40 Try.underlying40 rfl rfl ⟨rfl, rfl, trivial⟩ rfl rfl rfl) ?_
          refine WL.c rfl rfl rfl (X.call Try.call32 (evl_cons rfl (evl_cons rfl evl_nil))) (allR_ok g (c.started b) _ _ _ _ (asks (c.parts.getD k 0)) _ (hO.ext (Ext.trans hwL0 hwCr9)) hn7) ?_
          rintro v37 w36 ⟨hout, hx38⟩
          have := World.grownBy.size hx38
          have hol : ((c.started b).all (asks (c.parts.getD k 0))).length = c.nac.toNat := allM_len
          refine WL.op rfl (OW.append (bytes := 168) (own_ext hom (Ext.trans hwCr9 hx38)) (Row.of_own hout) (bare_ones _) rfl rfl Try.underlying36 Try.type40 rfl rfl rfl rfl (by decide) (by unfold maxLen; omega) (by omega) (by omega) ?_ (by decide))
          intro v40 w39 ho42 hx41 hmvhx41
          have := World.grownBy.size hx41
          replace oP := (oP.ext (Ext.trans (Ext.trans hwL0 hwCr9) hx38)).kept hx41 (fun b hb => by have := ((own_ext hom (Ext.trans hwCr9 hx38)).lt b hb).1; omega)
          replace oA := (oA.ext (Ext.trans (Ext.trans hwL0 hwCr9) hx38)).kept hx41 (fun b hb => by have := ((own_ext hom (Ext.trans hwCr9 hx38)).lt b hb).1; omega)
          replace hO := (hO.ext (Ext.trans (Ext.trans hwL0 hwCr9) hx38)).keptR hx41 (fun b hb => by have := ((own_ext hom (Ext.trans hwCr9 hx38)).lt b hb).1; omega)
          have hom4 := OwnM.app ho42
          refine WL.va rfl rfl rfl (X.assign rfl) ?_
          refine WL.nil ?_
          refine blk_n ?_
          refine thn_n ?_
          refine WF.region ?_
          refine WL.va rfl rfl rfl (X.moveI ((hACr9.eq 6).trans ((congrFun hF21 6).trans e6_L0))) ?_
          refine WL.va rfl rfl rfl (X.add rfl rfl (w64 (by omega))) ?_
          refine WL.va rfl rfl rfl (X.assignI rfl) ?_
          refine WL.nil ?_
          exact thn_n ⟨_, (by omega), k + 1, _, rfl, rfl, rfl, (by repeat (first | exact hAL0 | refine Agree.put ?_ rfl | refine Agree.sub hACr9 rfl ?_ | refine Agree.named hF21 ?_ | refine Agree.named hF17 ?_)), (Ext.own (Ext.trans (Ext.trans hwL0 hwCr9) hx38) (own_ext hom (Ext.trans hwCr9 hx38)) (Nat.le_refl _) hx41), ⟨by omega, by rw [hyy]; exact hom4⟩⟩
        · have gh1_34 := (of_decide_eq_false h1_34)
          have hyy := startM_no (b := b) hk gh1_34
          refine WF.skip ?_
          refine blk_n ?_
          refine thn_n ?_
          refine WF.region ?_
          refine WL.va rfl rfl rfl (X.moveI ((hACr9.eq 6).trans ((congrFun hF21 6).trans e6_L0))) ?_
          refine WL.va rfl rfl rfl (X.add rfl rfl (w64 (by omega))) ?_
          refine WL.va rfl rfl rfl (X.assignI rfl) ?_
          refine WL.nil ?_
          first | exact thn_n ⟨_, (by omega), k + 1, _, rfl, rfl, ((hACr9.eq 5).trans ((congrFun hF21 5).trans e5_L0)), (by repeat (first | exact hAL0 | refine Agree.put ?_ rfl | refine Agree.sub hACr9 rfl ?_ | refine Agree.named hF21 ?_ | refine Agree.named hF17 ?_)), (Ext.trans hwL0 hwCr9), ⟨by omega, by rw [hyy]; exact hom4⟩⟩ | exact thn_n ⟨_, (by omega), k + 1, _, rfl, rfl, ((hACr9.eq 5).trans ((congrFun hF21 5).trans e5_L0)), (by repeat (first | exact hAL0 | refine Agree.put ?_ rfl | refine Agree.sub hACr9 rfl ?_ | refine Agree.named hF21 ?_ | refine Agree.named hF17 ?_)), (Ext.trans hwL0 hwCr9), ⟨by omega, by rw [hyy]; exact (own_ext hom hwCr9)⟩⟩
    · have gh0_18 := (of_decide_eq_false h0_18)
      refine WF.exit ?_
      refine thn_x ?_
      refine thn_x ?_
      refine blk_eq ?_
      refine thn_n ?_
      refine WF.seq ?_
      refine WF.region ?_
      refine WL.va rfl rfl rfl (X.move e5_L0) ?_
      refine WL.va rfl rfl rfl (X.assign rfl) ?_
      refine WL.nil ?_
      refine thn_n ?_
      refine WF.ret ?_
      refine fin_r ?_
      rw [List.take_of_length_le (by omega)] at hom
      exact ⟨own_mono hom (by omega), R_fin (c' := c.started b) (Q := fun _ => False) hI (hO.ext hwL0) rfl ((((((ChgS.refl (fun b => b = g ∨ ∃ r, F b = some r ∧ False) w).row1 hx3 (.inl (.inl rfl))).row1 hx7 (.inl (.inl rfl))).row1 hx11 (.inl (.inl rfl))).row1 hx14 (.inl (.inl rfl))).ext hwL0) id id (.inl ⟨id, rfl, rfl⟩) (fun b e => .inl (hI.acc.fp b e)) (.inr (World.ownsRow_nil _ _ _ _)) nil_fp (.inr (World.ownsRow_nil _ _ _ _)) nil_fp (fun b e => by simp [Value.ownBlock]) (fun b e => by simp [Value.ownBlock]) (fun b e => by cases e)⟩

theorem vf_drop {c : RC} {b : Bool} {l : List Int} {k : Nat} (hk : k < l.length) : c.valueFrom b (l.drop k) = if c.chosen (l.getD k 0) 2 then 2 else c.valueFrom (b && c.chosen (l.getD k 0) 1) (l.drop (k + 1)) := by
  rw [List.drop_eq_getElem_cons hk, getD_at hk]; rfl
set_option maxHeartbeats 1000000 in
theorem valueR_ok (F : Fp Rl) (g : Nat) (c : RC) (w : World) (h : RAt w F g c) (hok : c.ok) : FnOk Try.prog 18 [at_ g] w (fun r w' => r = i64 c.value ∧ Ext w w') := by
  obtain ⟨vp, va, vr, vo, hI⟩ := h
  have hO := hI.obj
  have zg := Fp.lt hI.below hI.at_
  obtain ⟨Bp, Tp, oP, zP, bP, nP⟩ := hI.parts.outT
  obtain ⟨Ba, Ta, oA, zA, bA, nA⟩ := hI.acc.outT
  obtain ⟨Br, Tr, oR, zR, bR, nR⟩ := hI.prom.outT
  obtain ⟨Bo, To, oo, zo, bo, no⟩ := hI.prop.outT
  have n1 := nP g _ hI.at_ (by simp)
  have n2 := nA g _ hI.at_ (by simp)
  have n3 := nR g _ hI.at_ (by simp)
  have n4 := no g _ hI.at_ (by simp)
  obtain ⟨hn1, hn7⟩ := hok.nac
  have hp4 := hok.parts
  have ha4 := hok.acc
  have hr4 := hok.prom
  have ho4 := hok.prop
  have hlq : c.parts.length ≤ 9223372036854775807 := by omega
  refine FnOk.enter (rs := [2]) Try.func18 rfl Try.ntmps18 Try.results18 rfl rfl ?_
  refine WF.seq ?_
  refine WF.region ?_
  refine WL.va rfl rfl rfl (X.assignI rfl) ?_
  refine WL.nil ?_
  refine thn_n ?_
  refine WF.seq ?_
  refine WF.region ?_
  refine WL.va rfl rfl rfl (X.assignB rfl) ?_
  refine WL.nil ?_
  refine thn_n ?_
  refine WF.seq ?_
  refine WF.seq ?_
  refine WF.region ?_
  refine WL.va rfl rfl rfl (X.assignI rfl) ?_
  refine WL.nil ?_
  refine thn_n ?_
  refine WF.block ?_
  refine WF.named (fun F2 hF3 => ?_)
  refine WF.loopN (fun mL0 f' w' => ∃ (k : Nat) (bb : Bool), mL0 = c.parts.length - k ∧ f' 4 = .int .i64 (k : Int) ∧ f' 3 = .bool bb ∧ Agree [0] f' F2 ∧ Ext w w' ∧ k ≤ c.parts.length ∧ c.valueFrom true c.parts = c.valueFrom bb (c.parts.drop k)) ?_ ?_
  · exact ⟨_, 0, true, rfl, (congrFun hF3 4), (congrFun hF3 3), (Agree.refl _ _), (Ext.refl _), ⟨Nat.zero_le _, rfl⟩⟩
  · rintro mL0 fL0 wL0 ⟨k, bb, hmL0, e4_L0, e3_L0, hAL0, hwL0, ⟨hk0, hv⟩⟩
    have := World.grownBy.size hwL0
    refine WF.seq ?_
    refine WF.seq ?_
    refine WF.region ?_
    refine WL.va rfl rfl rfl (X.moveI e4_L0) ?_
    refine WL.va rfl rfl rfl (X.move ((hAL0.eq 0).trans (congrFun hF3 0))) ?_
    refine WL.va rfl rfl rfl (X.nilCheck rfl) ?_
    refine WL.va rfl rfl rfl (X.fieldAddrP (off := 3) rfl Try.underlying49 rfl rfl Try.sizeOf22) ?_
    refine WL.va rfl rfl rfl (X.loadO hO hwL0 rfl rfl Try.isAgg22) ?_
    refine WL.va rfl rfl rfl (X.len (oP.rd) rfl Try.underlying22) ?_
    refine WL.va rfl rfl rfl (X.lss rfl rfl) ?_
    refine WL.nil ?_
    refine thn_n ?_
    refine WF.cond rfl (fun h0_5 => ?_) (fun h0_5 => ?_)
    · have gh0_5 := (of_decide_eq_true h0_5)
      have hk : k < c.parts.length := by omega
      refine WF.skip ?_
      refine thn_n ?_
      refine WF.seq ?_
      refine WF.block ?_
      refine WF.seq ?_
      refine WF.seq ?_
      refine WF.region ?_
      refine WL.va rfl rfl rfl (X.move ((hAL0.eq 0).trans (congrFun hF3 0))) ?_
      refine WL.va rfl rfl rfl (X.move ((hAL0.eq 0).trans (congrFun hF3 0))) ?_
      refine WL.va rfl rfl rfl (X.nilCheck rfl) ?_
      refine WL.va rfl rfl rfl (X.fieldAddrP (off := 3) rfl Try.underlying49 rfl rfl Try.sizeOf22) ?_
      refine WL.va rfl rfl rfl (X.loadO hO hwL0 rfl rfl Try.isAgg22) ?_
      refine WL.va rfl rfl rfl (X.moveI e4_L0) ?_
      refine WL.va rfl rfl rfl (X.idx (oP.rd) rfl rfl (by omega) Try.underlying22 Try.sizeOf3) ?_
      refine WL.va rfl rfl rfl (X.loadI (oP.rd) hwL0 rfl (by omega) Try.isAgg3) ?_
      refine WL.c rfl rfl rfl (X.call Try.call31 (evl_cons rfl (evl_cons rfl (evl_cons rfl evl_nil)))) (chosen_ok g c _ _ _ _ (c.parts.getD k 0) _ _ (hO.ext hwL0) (oA.ext hwL0).rd hn7 ha4) ?_
      rintro v8 w7 ⟨rfl, hx9⟩
      have := World.grownBy.size hx9
      refine WL.nil ?_
      refine thn_n ?_
      refine WF.cond rfl (fun h1_10 => ?_) (fun h1_10 => ?_)
      · have gh1_10 := h1_10
        have hr : c.value = 2 := by unfold RC.value; rw [hv, vf_drop hk, if_pos gh1_10]
        refine WF.seq ?_
        refine WF.region ?_
        refine WL.va rfl rfl rfl (X.assignI rfl) ?_
        refine WL.nil ?_
        refine thn_n ?_
        refine WF.ret ?_
        refine thn_r ?_
        refine blk_r ?_
        refine thn_r ?_
        refine thn_r ?_
        refine blk_r ?_
        refine thn_r ?_
        refine fin_r ?_
        rw [hr]; exact ⟨rfl, (Ext.trans hwL0 hx9)⟩
      · have gh1_10 := h1_10
        have h2 := gh1_10
        refine WF.skip ?_
        refine thn_n ?_
        refine WF.region ?_
        refine WL.va rfl rfl rfl (X.moveB e3_L0) ?_
        refine WL.va rfl rfl rfl (X.moveB rfl) ?_
        refine WL.split (j := 1) rfl (fun h12 => ?_) (fun h12 => ?_)
        · have gh12 := h12
          have q1 := gh12
          refine WL.vg rfl (congrArg some h12) rfl rfl (X.move ((hAL0.eq 0).trans (congrFun hF3 0))) ?_
          refine WL.vg rfl (congrArg some h12) rfl rfl (X.move ((hAL0.eq 0).trans (congrFun hF3 0))) ?_
          refine WL.vg rfl (congrArg some h12) rfl rfl (X.nilCheck rfl) ?_
          refine WL.vg rfl (congrArg some h12) rfl rfl (X.fieldAddrP (off := 3) rfl Try.underlying49 rfl rfl Try.sizeOf22) ?_
          refine WL.vg rfl (congrArg some h12) rfl rfl (X.loadO hO (Ext.trans hwL0 hx9) rfl rfl Try.isAgg22) ?_
          refine WL.vg rfl (congrArg some h12) rfl rfl (X.moveI e4_L0) ?_
          refine WL.vg rfl (congrArg some h12) rfl rfl (X.idx (oP.rd) rfl rfl (by omega) Try.underlying22 Try.sizeOf3) ?_
          refine WL.vg rfl (congrArg some h12) rfl rfl (X.loadI (oP.rd) (Ext.trans hwL0 hx9) rfl (by omega) Try.isAgg3) ?_
          refine WL.cg rfl (congrArg some h12) rfl rfl (X.call Try.call31 (evl_cons rfl (evl_cons rfl (evl_cons rfl evl_nil)))) (chosen_ok g c _ _ _ _ (c.parts.getD k 0) _ _ (hO.ext (Ext.trans hwL0 hx9)) (oA.ext (Ext.trans hwL0 hx9)).rd hn7 ha4) ?_
          rintro v14 w13 ⟨rfl, hx15⟩
          have := World.grownBy.size hx15
          refine WL.va rfl rfl rfl (X.pickT rfl h12 rfl) ?_
          refine WL.va rfl rfl rfl (X.assignB rfl) ?_
          refine WL.nil ?_
          refine blk_n ?_
          refine thn_n ?_
          refine WF.region ?_
          refine WL.va rfl rfl rfl (X.moveI e4_L0) ?_
          refine WL.va rfl rfl rfl (X.add rfl rfl (w64 (by omega))) ?_
          refine WL.va rfl rfl rfl (X.assignI rfl) ?_
          refine WL.nil ?_
          exact thn_n ⟨_, (by omega), k + 1, (bb && c.chosen (c.parts.getD k 0) 1), rfl, rfl, (Eq.trans rfl (congrArg Value.bool (by rw [q1]; rfl))), (by repeat (first | exact hAL0 | refine Agree.put ?_ rfl | refine Agree.named hF3 ?_)), (Ext.trans (Ext.trans hwL0 hx9) hx15), ⟨by omega, by rw [hv, vf_drop hk, if_neg (by rw [h2]; simp)]⟩⟩
        · have gh12 := h12
          have q1 := gh12
          refine WL.p rfl rfl rfl (congrArg some h12) ?_
          refine WL.p rfl rfl rfl (congrArg some h12) ?_
          refine WL.p rfl rfl rfl (congrArg some h12) ?_
          refine WL.p rfl rfl rfl (congrArg some h12) ?_
          refine WL.p rfl rfl rfl (congrArg some h12) ?_
          refine WL.p rfl rfl rfl (congrArg some h12) ?_
          refine WL.p rfl rfl rfl (congrArg some h12) ?_
          refine WL.p rfl rfl rfl (congrArg some h12) ?_
          refine WL.p rfl rfl rfl (congrArg some h12) ?_
          refine WL.va rfl rfl rfl (X.pickF rfl h12 rfl) ?_
          refine WL.va rfl rfl rfl (X.assignB rfl) ?_
          refine WL.nil ?_
          refine blk_n ?_
          refine thn_n ?_
          refine WF.region ?_
          refine WL.va rfl rfl rfl (X.moveI e4_L0) ?_
          refine WL.va rfl rfl rfl (X.add rfl rfl (w64 (by omega))) ?_
          refine WL.va rfl rfl rfl (X.assignI rfl) ?_
          refine WL.nil ?_
          exact thn_n ⟨_, (by omega), k + 1, (bb && c.chosen (c.parts.getD k 0) 1), rfl, rfl, (Eq.trans rfl (congrArg Value.bool (by rw [q1]; rfl))), (by repeat (first | exact hAL0 | refine Agree.put ?_ rfl | refine Agree.named hF3 ?_)), (Ext.trans hwL0 hx9), ⟨by omega, by rw [hv, vf_drop hk, if_neg (by rw [h2]; simp)]⟩⟩
    · have gh0_5 := (of_decide_eq_false h0_5)
      refine WF.exit ?_
      refine thn_x ?_
      refine thn_x ?_
      refine blk_eq ?_
      refine thn_n ?_
      refine WF.seq ?_
      refine WF.seq ?_
      refine WF.region ?_
      refine WL.va rfl rfl rfl (X.moveB e3_L0) ?_
      refine WL.nil ?_
      refine thn_n ?_
      refine WF.cond rfl (fun h2_17 => ?_) (fun h2_17 => ?_)
      · have gh2_17 := h2_17
        have hr2 : c.value = 1 := by unfold RC.value; rw [hv, gh2_17, List.drop_of_length_le (by omega)]; rfl
        refine WF.seq ?_
        refine WF.region ?_
        refine WL.va rfl rfl rfl (X.assignI rfl) ?_
        refine WL.nil ?_
        refine thn_n ?_
        refine WF.ret ?_
        refine thn_r ?_
        refine fin_r ?_
        rw [hr2]; exact ⟨rfl, hwL0⟩
      · have gh2_17 := h2_17
        have hr2 : c.value = 0 := by unfold RC.value; rw [hv, gh2_17, List.drop_of_length_le (by omega)]; rfl
        refine WF.skip ?_
        refine thn_n ?_
        refine WF.seq ?_
        refine WF.region ?_
        refine WL.va rfl rfl rfl (X.assignI rfl) ?_
        refine WL.nil ?_
        refine thn_n ?_
        refine WF.ret ?_
        refine fin_r ?_
        rw [hr2]; exact ⟨rfl, hwL0⟩

end Go.Proofs.Ytjmddkaokmdkbaa
