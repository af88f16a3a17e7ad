/- The walks of slices.Contains and of late. -/
import Derived.Test.YtobjmehppmhkdaaWitD
namespace Go.Proofs.Ytobjmehppmhkdaa
open Go Go.RowKit Kf
set_option maxRecDepth 20000

theorem indexI_ok (v : Value) (l : List Int) (x : Int) (w : World) (hb : Ints w v l) : FnOk Try.prog 75 [v, i64 x] w (fun r w' => Idx (fun k => decide (l.getD k 0 = x)) l.length r ∧ Ext w w') := by
  have hl := hb.le64
  refine FnOk.enter (rs := [4]) Try.func75 rfl Try.ntmps75 Try.results75 rfl rfl ?_
  refine WF.seq ?_
  refine WF.region ?_
  refine WL.va rfl rfl rfl (X.assignI rfl) ?_
  refine WL.nil ?_
  refine thn_n ?_
  refine WF.seq ?_
  refine WF.seq ?_
  refine WF.region ?_
  refine WL.va rfl rfl rfl (X.move rfl) ?_
  refine WL.va rfl rfl rfl (X.len hb rfl Try.underlying34) ?_
  refine WL.va rfl rfl rfl (X.moveI rfl) ?_
  refine WL.nil ?_
  refine thn_n ?_
  refine WF.block ?_
  refine WF.named (fun F1 hF2 => ?_)
  refine WF.loopN (fun mL0 f' w' => ∃ (k : Nat), mL0 = l.length - k ∧ f' 8 = .int .i64 (k : Int) ∧ Agree [0, 1, 6, 7] f' F1 ∧ Ext w w' ∧ k ≤ l.length ∧ ∀ j, j < k → decide (l.getD j 0 = x) = false) ?_ ?_
  · exact ⟨_, 0, rfl, (congrFun hF2 8), (Agree.refl _ _), (Ext.refl _), ⟨Nat.zero_le _, fun j hj => by omega⟩⟩
  · rintro mL0 fL0 wL0 ⟨k, hmL0, e8_L0, hAL0, hwL0, ⟨hk, hno⟩⟩
    refine WF.seq ?_
    refine WF.region ?_
    refine WL.va rfl rfl rfl (X.lss e8_L0 ((hAL0.eq 7).trans (congrFun hF2 7))) ?_
    refine WL.nil ?_
    refine thn_n ?_
    refine WF.seq ?_
    refine WF.cond rfl (fun h0_3 => ?_) (fun h0_3 => ?_)
    · have gh0_3 := (of_decide_eq_true h0_3)
      have hka : k < l.length := by omega
      refine WF.skip ?_
      refine thn_n ?_
      refine WF.seq ?_
      refine WF.block ?_
      refine WF.seq ?_
      refine WF.region ?_
      refine WL.va rfl rfl rfl (X.moveI e8_L0) ?_
      refine WL.va rfl rfl rfl (X.assignI rfl) ?_
      refine WL.nil ?_
      refine thn_n ?_
      refine WF.seq ?_
      refine WF.region ?_
      refine WL.va rfl rfl rfl (X.moveI ((hAL0.eq 1).trans (congrFun hF2 1))) ?_
      refine WL.va rfl rfl rfl (X.move ((hAL0.eq 0).trans (congrFun hF2 0))) ?_
      refine WL.va rfl rfl rfl (X.moveI rfl) ?_
      refine WL.va rfl rfl rfl (X.idx hb rfl rfl (by omega) Try.underlying34 Try.sizeOf3) ?_
      refine WL.va rfl rfl rfl (X.loadI hb hwL0 rfl (by omega) Try.isAgg3) ?_
      refine WL.va rfl rfl rfl (X.eql rfl rfl) ?_
      refine WL.nil ?_
      refine thn_n ?_
      refine WF.cond rfl (fun h1_5 => ?_) (fun h1_5 => ?_)
      · have gh1_5 := (of_decide_eq_true h1_5)
        have hpk : decide (l.getD k 0 = x) = true := decide_eq_true (by first | exact gh1_5.symm | exact gh1_5)
        refine WF.seq ?_
        refine WF.region ?_
        refine WL.va rfl rfl rfl (X.moveI rfl) ?_
        refine WL.va rfl rfl rfl (X.assignI rfl) ?_
        refine WL.nil ?_
        refine thn_n ?_
        refine WF.ret ?_
        refine blk_r ?_
        refine thn_r ?_
        refine thn_r ?_
        refine blk_r ?_
        refine thn_r ?_
        refine fin_r ?_
        exact ⟨⟨_, rfl, .inl ⟨k, hka, rfl, hpk, hno⟩⟩, hwL0⟩
      · have gh1_5 := (of_decide_eq_false h1_5)
        have hpk : decide (l.getD k 0 = x) = false := decide_eq_false (fun e => by first | exact gh1_5 e | exact gh1_5 e.symm)
        refine WF.skip ?_
        refine blk_n ?_
        refine thn_n ?_
        refine WF.region ?_
        refine WL.va rfl rfl rfl (X.add e8_L0 rfl (w64 (by omega))) ?_
        refine WL.va rfl rfl rfl (X.moveI rfl) ?_
        refine WL.nil ?_
        exact thn_n ⟨_, (by omega), k + 1, rfl, rfl, (by repeat (first | exact hAL0 | refine Agree.put ?_ rfl | refine Agree.named hF2 ?_)), hwL0, ⟨by omega, fun j hj => by rcases Nat.lt_succ_iff_lt_or_eq.1 hj with h | rfl; exact hno j h; exact hpk⟩⟩
    · have gh0_3 := (of_decide_eq_false h0_3)
      refine WF.exit ?_
      refine thn_x ?_
      refine thn_x ?_
      refine blk_eq ?_
      refine thn_n ?_
      refine WF.seq ?_
      refine WF.region ?_
      refine WL.va rfl rfl rfl (X.assignI rfl) ?_
      refine WL.nil ?_
      refine thn_n ?_
      refine WF.ret ?_
      refine fin_r ?_
      exact ⟨⟨_, rfl, .inr ⟨rfl, fun j hj => hno j (by omega)⟩⟩, hwL0⟩

theorem idxZ_mem {p : Nat → Bool} {n : Nat} {z : Int} (h : IdxZ p n z) : decide (z ≥ 0) = decide (∃ k, k < n ∧ p k = true) := by
  apply decide_eq_decide.2
  rcases h with ⟨k, h1, h2, h3, _⟩ | ⟨h1, h2⟩
  · exact ⟨fun _ => ⟨k, h1, h3⟩, fun _ => by omega⟩
  · refine ⟨fun h => by omega, ?_⟩
    rintro ⟨k, hk, hp⟩
    rw [h2 k hk] at hp; cases hp
theorem mem_getD {l : List Int} {x : Int} : (∃ k, k < l.length ∧ decide (l.getD k 0 = x) = true) ↔ x ∈ l := by
  constructor
  · rintro ⟨k, hk, h⟩
    have h := of_decide_eq_true h
    rw [List.getD_eq_getElem?_getD, List.getElem?_eq_getElem hk] at h
    exact h ▸ List.getElem_mem hk
  · intro h
    obtain ⟨k, hk, rfl⟩ := List.getElem_of_mem h
    exact ⟨k, hk, decide_eq_true (by simp [hk])⟩
theorem containsI_ok (v : Value) (l : List Int) (x : Int) (w : World) (hb : Ints w v l) : FnOk Try.prog 58 [v, i64 x] w (fun r w' => r = .bool (decide (x ∈ l)) ∧ Ext w w') := by
  refine FnOk.enter (rs := [4]) Try.func58 rfl Try.ntmps58 Try.results58 rfl rfl ?_
  refine WF.seq ?_
  refine WF.region ?_
  refine WL.va rfl rfl rfl (X.assignB rfl) ?_
  refine WL.nil ?_
  refine thn_n ?_
  refine WF.seq ?_
  refine WF.region ?_
  refine WL.va rfl rfl rfl (X.move rfl) ?_
  refine WL.va rfl rfl rfl (X.moveI rfl) ?_
  refine WL.c rfl rfl rfl (X.call Try.call75 (evl_cons rfl (evl_cons rfl evl_nil))) (indexI_ok _ l x _ (Row.ext hb (Ext.refl w))) ?_
  rintro v3 w2 ⟨⟨z, rfl, hz⟩, hx4⟩
  refine WL.va rfl rfl rfl (X.geq rfl rfl) ?_
  refine WL.va rfl rfl rfl (X.assignB rfl) ?_
  refine WL.nil ?_
  refine thn_n ?_
  refine WF.ret ?_
  refine fin_r ?_
  exact ⟨congrArg Value.bool ((idxZ_mem hz).trans (decide_eq_decide.2 mem_getD)), hx4⟩

section
variable {e : Ev}
theorem goes_t (k1 : e.Kind = 1) (k3 : e.Call.Kind ∈ [(2 : Int), 3, 4, 5]) : goesOn e = true := by
  simp only [List.mem_cons, List.not_mem_nil, or_false] at k3
  unfold goesOn
  rcases k3 with q | q | q | q <;> simp [k1, q]
theorem goes_f1 (k1 : ¬ e.Kind = 1) : goesOn e = false := by simp [goesOn, k1]
theorem goes_f2 (k3 : ¬ e.Call.Kind ∈ [(2 : Int), 3, 4, 5]) : goesOn e = false := by
  simp only [List.mem_cons, List.not_mem_nil, or_false, not_or] at k3
  simp [goesOn, k3]
end
def ltF (l : List Ev) : Nat → Ev → Bool := fun i e => goesOn e && chosenB l e.Txn i
set_option maxHeartbeats 4000000 in
theorem late_ok (g : Nat) (l : List Ev) (w : World) (h : HAt w g l) (hl : l.length ≤ 1000000) : FnOk Try.prog 32 [at_ g] w (fun r w' => r = .bool (lateB l) ∧ Ext w w') := by
  have hH := h
  obtain ⟨vl, gm, L, hI⟩ := h
  have hx := hI.obj
  have tg := hx.lt
  obtain ⟨cs, hr, hel⟩ := hI.evs
  refine FnOk.enter (rs := [2]) Try.func32 rfl Try.ntmps32 Try.results32 rfl rfl ?_
  refine WF.seq ?_
  refine WF.region ?_
  refine WL.va rfl rfl rfl (X.assignB rfl) ?_
  refine WL.nil ?_
  refine thn_n ?_
  refine WF.seq ?_
  refine WF.seq ?_
  refine WF.region ?_
  refine WL.va rfl rfl rfl (X.move rfl) ?_
  refine WL.va rfl rfl rfl (X.nilCheck rfl) ?_
  refine WL.va rfl rfl rfl (X.fieldAddrO (off := 0) rfl Try.underlying81 rfl rfl Try.sizeOf26) ?_
  refine WL.va rfl rfl rfl (X.loadO hx (Ext.refl _) rfl rfl Try.isAgg26) ?_
  refine WL.va rfl rfl rfl (X.len hr rfl Try.underlying26) ?_
  refine WL.va rfl rfl rfl (X.moveI rfl) ?_
  refine WL.nil ?_
  refine thn_n ?_
  refine WF.block ?_
  refine WF.named (fun F2 hF3 => ?_)
  refine WF.loopN (fun mL0 f' w' => ∃ (k : Nat), mL0 = l.length - k ∧ f' 10 = .int .i64 (k : Int) ∧ Agree [0, 5, 6, 7, 8, 9] f' F2 ∧ Ext w w' ∧ k ≤ l.length ∧ NoI l (ltF l) k) ?_ ?_
  · exact ⟨_, 0, rfl, (congrFun hF3 10), (Agree.refl _ _), (Ext.refl _), ⟨Nat.zero_le _, NoI.z⟩⟩
  · rintro mL0 fL0 wL0 ⟨k, hmL0, e10_L0, hAL0, hwL0, ⟨hk0, hno⟩⟩
    have := World.grownBy.size hwL0
    refine WF.seq ?_
    refine WF.region ?_
    refine WL.va rfl rfl rfl (X.lss e10_L0 ((hAL0.eq 9).trans (congrFun hF3 9))) ?_
    refine WL.nil ?_
    refine thn_n ?_
    refine WF.seq ?_
    refine WF.cond rfl (fun h0_4 => ?_) (fun h0_4 => ?_)
    · have gh0_4 := (of_decide_eq_true h0_4)
      have hk : k < l.length := by have := gh0_4; omega
      obtain ⟨d, d2, hcs, hd1, hd2⟩ := hel k hk
      refine WF.skip ?_
      refine thn_n ?_
      refine WF.seq ?_
      refine WF.block ?_
      refine WF.seq ?_
      refine WF.region ?_
      refine WL.va rfl rfl rfl (X.moveI e10_L0) ?_
      refine WL.va rfl rfl rfl (X.idx hr ((hAL0.eq 8).trans (congrFun hF3 8)) e10_L0 hk Try.underlying26 Try.sizeOf42) ?_
      refine WL.va rfl rfl rfl (X.loadEl hr hwL0 rfl hk hcs Try.isAgg42 Try.sizeOf42) ?_
      refine WL.op rfl (OW.allocO (cs := [i64 0, i64 0, i64 0, i64 0, i64 0, i64 0, i64 0, i64 0, i64 0, i64 0, i64 0, i64 0, i64 0, i64 0, i64 0, .slice none 0 0, i64 0, i64 0, .slice none 0 0]) Try.zeroValue42 rfl ?_ (by decide))
      intro g4 w6 heg4 hlg4 hO4 hx8
      have := World.grownBy.size hx8
      refine WL.va rfl rfl rfl (X.assignI rfl) ?_
      refine WL.op rfl (OW.storeOA hO4 rfl rfl rfl (ev_ones hd1 hd2) Try.sizeOf42 ?_)
      intro w10 hO4 hx12
      have := World.grownBy.size hx12
      replace hx := (hx.ext (Ext.trans hwL0 hx8)).keptO hx12 (by omega)
      replace hO4 : Blk _ _ _ (Ev.c (l[k]'hk) d d2) := hO4
      refine WL.nil ?_
      refine thn_n ?_
      refine WF.seq ?_
      refine WF.region ?_
      refine WL.va rfl rfl rfl (X.fieldAddrO (off := 0) rfl Try.underlying42 rfl rfl Try.sizeOf3) ?_
      refine WL.va rfl rfl rfl (X.loadO hO4 (Ext.refl _) rfl rfl Try.isAgg3) ?_
      refine WL.va rfl rfl rfl (X.eql rfl rfl) ?_
      refine WL.va rfl rfl rfl (X.moveB rfl) ?_
      refine WL.split (j := 3) rfl (fun h15 => ?_) (fun h15 => ?_)
      · have gh15 := (of_decide_eq_true h15)
        have k1 : (l[k]'hk).Kind = 1 := gh15
        refine WL.opg rfl (congrArg some h15) (OW.lits (vs := [_, _, _, _]) (evp_cons rfl (evp_cons rfl (evp_cons rfl (evp_cons rfl evp_nil)))) Try.underlying34 Try.sizeOf3 Try.zeroValue3 ⟨rfl, rfl, rfl, rfl, trivial⟩ rfl rfl rfl ?_ (by decide))
        intro v17 w16 ho19 hx18
        have := World.grownBy.size hx18
        refine WL.vg rfl (congrArg some h15) rfl rfl (X.fieldAddrO (off := 3) rfl Try.underlying42 rfl rfl Try.sizeOf38) ?_
        refine WL.vg rfl (congrArg some h15) rfl rfl (X.fieldAddrP (off := 0) rfl Try.underlying38 rfl rfl Try.sizeOf3) ?_
        refine WL.vg rfl (congrArg some h15) rfl rfl (X.loadO hO4 hx18 rfl rfl Try.isAgg3) ?_
        refine WL.cg rfl (congrArg some h15) rfl rfl (X.call Try.call58 (evl_cons rfl (evl_cons rfl evl_nil))) (containsI_ok _ [2, 3, 4, 5] (l[k]'hk).Call.Kind _ (show Ints _ _ [2, 3, 4, 5] from Row.of_own ho19)) ?_
        rintro v21 w20 ⟨rfl, hx22⟩
        have := World.grownBy.size hx22
        refine WL.va rfl rfl rfl (X.pickT rfl h15 rfl) ?_
        refine WL.va rfl rfl rfl (X.moveB rfl) ?_
        refine WL.split (j := 10) rfl (fun h24 => ?_) (fun h24 => ?_)
        · have gh24 := (of_decide_eq_true h24)
          have k3 : (l[k]'hk).Call.Kind ∈ [(2 : Int), 3, 4, 5] := gh24
          refine WL.vg rfl (congrArg some h24) rfl rfl (X.move ((hAL0.eq 0).trans (congrFun hF3 0))) ?_
          refine WL.vg rfl (congrArg some h24) rfl rfl (X.fieldAddrO (off := 2) rfl Try.underlying42 rfl rfl Try.sizeOf3) ?_
          refine WL.vg rfl (congrArg some h24) rfl rfl (X.loadO hO4 (Ext.trans hx18 hx22) rfl rfl Try.isAgg3) ?_
          refine WL.vg rfl (congrArg some h24) rfl rfl (X.moveI rfl) ?_
          refine WL.cg rfl (congrArg some h24) rfl rfl (X.call Try.call53 (evl_cons (v := (at_ g)) rfl (evl_cons (v := (i64 (l[k]'hk).Txn)) rfl (evl_cons (v := (i64 (k : Int))) rfl evl_nil)))) (chosen_ok g l (l[k]'hk).Txn (k : Int) _ (hH.ext (show Ext w w20 from (Ext.trans (Ext.trans (Ext.trans hwL0 (Ext.store hx8 hx12 (by omega))) hx18) hx22)))) ?_
          rintro v26 w25 ⟨rfl, rfl⟩
          refine WL.va rfl rfl rfl (X.pickT rfl h24 rfl) ?_
          refine WL.nil ?_
          refine thn_n ?_
          refine WF.cond rfl (fun h1_28 => ?_) (fun h1_28 => ?_)
          · have gh1_28 := h1_28
            have k2 : chosenB l (l[k]'hk).Txn k = true := gh1_28
            refine WF.seq ?_
            refine WF.region ?_
            refine WL.va rfl rfl rfl (X.assignB rfl) ?_
            refine WL.nil ?_
            refine thn_n ?_
            refine WF.ret ?_
            refine blk_r ?_
            refine thn_r ?_
            refine thn_r ?_
            refine blk_r ?_
            refine thn_r ?_
            refine fin_r ?_
            exact ⟨congrArg Value.bool (anyI_true (f := ltF l) hk (by simp [ltF, goes_t k1 k3, k2])).symm, (Ext.trans (Ext.trans (Ext.trans hwL0 (Ext.store hx8 hx12 (by omega))) hx18) hx22)⟩
          · have gh1_28 := h1_28
            have k2 : chosenB l (l[k]'hk).Txn k = false := gh1_28
            have hfk : ltF l k (l[k]'hk) = false := by simp [ltF, k2]
            refine WF.skip ?_
            refine blk_n ?_
            refine thn_n ?_
            refine WF.region ?_
            refine WL.va rfl rfl rfl (X.add e10_L0 rfl (w64 (by omega))) ?_
            refine WL.va rfl rfl rfl (X.moveI rfl) ?_
            refine WL.nil ?_
            exact thn_n ⟨_, (by omega), k + 1, rfl, rfl, (by repeat (first | exact hAL0 | refine Agree.put ?_ rfl | refine Agree.named hF3 ?_)), (Ext.trans (Ext.trans (Ext.trans hwL0 (Ext.store hx8 hx12 (by omega))) hx18) hx22), ⟨by omega, hno.s hk hfk⟩⟩
        · have gh24 := (of_decide_eq_false h24)
          have k3 : ¬ (l[k]'hk).Call.Kind ∈ [(2 : Int), 3, 4, 5] := gh24
          have hfk : ltF l k (l[k]'hk) = false := by simp [ltF, goes_f2 k3]
          refine WL.p rfl rfl rfl (congrArg some h24) ?_
          refine WL.p rfl rfl rfl (congrArg some h24) ?_
          refine WL.p rfl rfl rfl (congrArg some h24) ?_
          refine WL.p rfl rfl rfl (congrArg some h24) ?_
          refine WL.p rfl rfl rfl (congrArg some h24) ?_
          refine WL.va rfl rfl rfl (X.pickF rfl h24 rfl) ?_
          refine WL.nil ?_
          refine thn_n ?_
          refine WF.cond_f rfl ?_
          refine WF.skip ?_
          refine blk_n ?_
          refine thn_n ?_
          refine WF.region ?_
          refine WL.va rfl rfl rfl (X.add e10_L0 rfl (w64 (by omega))) ?_
          refine WL.va rfl rfl rfl (X.moveI rfl) ?_
          refine WL.nil ?_
          exact thn_n ⟨_, (by omega), k + 1, rfl, rfl, (by repeat (first | exact hAL0 | refine Agree.put ?_ rfl | refine Agree.named hF3 ?_)), (Ext.trans (Ext.trans (Ext.trans hwL0 (Ext.store hx8 hx12 (by omega))) hx18) hx22), ⟨by omega, hno.s hk hfk⟩⟩
      · have gh15 := (of_decide_eq_false h15)
        have k1 : ¬ (l[k]'hk).Kind = 1 := gh15
        have hfk : ltF l k (l[k]'hk) = false := by simp [ltF, goes_f1 k1]
        refine WL.p rfl rfl rfl (congrArg some h15) ?_
        refine WL.p rfl rfl rfl (congrArg some h15) ?_
        refine WL.p rfl rfl rfl (congrArg some h15) ?_
        refine WL.p rfl rfl rfl (congrArg some h15) ?_
        refine WL.p rfl rfl rfl (congrArg some h15) ?_
        refine WL.va rfl rfl rfl (X.pickF rfl h15 rfl) ?_
        refine WL.va rfl rfl rfl (X.moveB rfl) ?_
        refine WL.p rfl rfl rfl rfl ?_
        refine WL.p rfl rfl rfl rfl ?_
        refine WL.p rfl rfl rfl rfl ?_
        refine WL.p rfl rfl rfl rfl ?_
        refine WL.p rfl rfl rfl rfl ?_
        refine WL.va rfl rfl rfl (X.pickF rfl rfl rfl) ?_
        refine WL.nil ?_
        refine thn_n ?_
        refine WF.cond_f rfl ?_
        refine WF.skip ?_
        refine blk_n ?_
        refine thn_n ?_
        refine WF.region ?_
        refine WL.va rfl rfl rfl (X.add e10_L0 rfl (w64 (by omega))) ?_
        refine WL.va rfl rfl rfl (X.moveI rfl) ?_
        refine WL.nil ?_
        exact thn_n ⟨_, (by omega), k + 1, rfl, rfl, (by repeat (first | exact hAL0 | refine Agree.put ?_ rfl | refine Agree.named hF3 ?_)), (Ext.trans hwL0 (Ext.store hx8 hx12 (by omega))), ⟨by omega, hno.s hk hfk⟩⟩
    · have gh0_4 := (of_decide_eq_false h0_4)
      have hk : l.length ≤ k := by have := gh0_4; omega
      refine WF.exit ?_
      refine thn_x ?_
      refine thn_x ?_
      refine blk_eq ?_
      refine thn_n ?_
      refine WF.seq ?_
      refine WF.region ?_
      refine WL.va rfl rfl rfl (X.assignB rfl) ?_
      refine WL.nil ?_
      refine thn_n ?_
      refine WF.ret ?_
      refine fin_r ?_
      exact ⟨congrArg Value.bool (anyI_false hno hk).symm, hwL0⟩

end Go.Proofs.Ytobjmehppmhkdaa
