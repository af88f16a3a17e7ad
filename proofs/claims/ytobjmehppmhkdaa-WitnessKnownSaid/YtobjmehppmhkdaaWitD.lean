/- The walk of twice. -/
import Derived.Test.YtobjmehppmhkdaaWitC
namespace Go.Proofs.Ytobjmehppmhkdaa
open Go Go.RowKit Kf
set_option maxRecDepth 20000

section
variable {l : List Ev} {f : Nat → Ev → Bool} {k : Nat}
def NoI (l : List Ev) (f : Nat → Ev → Bool) (k : Nat) : Prop := ∀ j (hj : j < l.length), j < k → f j l[j] = false
theorem anyI_true (hk : k < l.length) (h : f k l[k] = true) : anyI l f = true := by
  unfold anyI
  refine List.any_eq_true.2 ⟨k, List.mem_range.2 hk, ?_⟩
  rw [List.getD_eq_getElem?_getD, List.getElem?_eq_getElem hk]; exact h
theorem anyI_false (h : NoI l f k) (hk : l.length ≤ k) : anyI l f = false := by
  unfold anyI
  rw [List.any_eq_false]
  intro j hj
  have hj := List.mem_range.1 hj
  rw [List.getD_eq_getElem?_getD, List.getElem?_eq_getElem hj]
  have := h j hj (by omega)
  simpa using this
theorem NoI.z : NoI l f 0 := fun j _ h => absurd h (by omega)
theorem NoI.s (h : NoI l f k) (hk : k < l.length) (hf : f k l[k] = false) : NoI l f (k + 1) := fun j hj h1 => by
  by_cases e : j = k
  · subst e; exact hf
  · exact h j hj (by omega)
end
def twF (l : List Ev) : Nat → Ev → Bool := fun i e => decide (e.Kind = 3) && chosenB l e.Txn i
set_option maxHeartbeats 4000000 in
theorem twice_ok (g : Nat) (l : List Ev) (w : World) (h : HAt w g l) (hl : l.length ≤ 1000000) : FnOk Try.prog 29 [at_ g] w (fun r w' => r = .bool (twiceB l) ∧ Ext w w') := by
  have hH := h
  obtain ⟨vl, gm, L, hI⟩ := h
  have hx := hI.obj
  have tg := hx.lt
  obtain ⟨cs, hr, hel⟩ := hI.evs
  refine FnOk.enter (rs := [2]) Try.func29 rfl Try.ntmps29 Try.results29 rfl rfl ?_
  refine WF.seq ?_
  refine WF.region ?_
  refine WL.va rfl rfl rfl (X.assignB rfl) ?_
  refine WL.nil ?_
  refine thn_n ?_
  refine WF.seq ?_
  refine WF.seq ?_
  refine WF.region ?_
  refine WL.va rfl rfl rfl (X.move rfl) ?_
  refine WL.va rfl rfl rfl (X.nilCheck rfl) ?_
  refine WL.va rfl rfl rfl (X.fieldAddrO (off := 0) rfl Try.underlying81 rfl rfl Try.sizeOf26) ?_
  refine WL.va rfl rfl rfl (X.loadO hx (Ext.refl _) rfl rfl Try.isAgg26) ?_
  refine WL.va rfl rfl rfl (X.len hr rfl Try.underlying26) ?_
  refine WL.va rfl rfl rfl (X.moveI rfl) ?_
  refine WL.nil ?_
  refine thn_n ?_
  refine WF.block ?_
  refine WF.named (fun F2 hF3 => ?_)
  refine WF.loopN (fun mL0 f' w' => ∃ (k : Nat), mL0 = l.length - k ∧ f' 10 = .int .i64 (k : Int) ∧ Agree [0, 5, 6, 7, 8, 9] f' F2 ∧ Ext w w' ∧ k ≤ l.length ∧ NoI l (twF l) k) ?_ ?_
  · exact ⟨_, 0, rfl, (congrFun hF3 10), (Agree.refl _ _), (Ext.refl _), ⟨Nat.zero_le _, NoI.z⟩⟩
  · rintro mL0 fL0 wL0 ⟨k, hmL0, e10_L0, hAL0, hwL0, ⟨hk0, hno⟩⟩
    have := World.grownBy.size hwL0
    refine WF.seq ?_
    refine WF.region ?_
    refine WL.va rfl rfl rfl (X.lss e10_L0 ((hAL0.eq 9).trans (congrFun hF3 9))) ?_
    refine WL.nil ?_
    refine thn_n ?_
    refine WF.seq ?_
    refine WF.cond rfl (fun h0_4 => ?_) (fun h0_4 => ?_)
    · have gh0_4 := (of_decide_eq_true h0_4)
      have hk : k < l.length := by have := gh0_4; omega
      obtain ⟨d, d2, hcs, hd1, hd2⟩ := hel k hk
      refine WF.skip ?_
      refine thn_n ?_
      refine WF.seq ?_
      refine WF.block ?_
      refine WF.seq ?_
      refine WF.region ?_
      refine WL.va rfl rfl rfl (X.moveI e10_L0) ?_
      refine WL.va rfl rfl rfl (X.idx hr ((hAL0.eq 8).trans (congrFun hF3 8)) e10_L0 hk Try.underlying26 Try.sizeOf42) ?_
      refine WL.va rfl rfl rfl (X.loadEl hr hwL0 rfl hk hcs Try.isAgg42 Try.sizeOf42) ?_
      refine WL.op rfl (OW.allocO (cs := [i64 0, i64 0, i64 0, i64 0, i64 0, i64 0, i64 0, i64 0, i64 0, i64 0, i64 0, i64 0, i64 0, i64 0, i64 0, .slice none 0 0, i64 0, i64 0, .slice none 0 0]) Try.zeroValue42 rfl ?_ (by decide))
      intro g4 w6 heg4 hlg4 hO4 hx8
      have := World.grownBy.size hx8
      refine WL.va rfl rfl rfl (X.assignI rfl) ?_
      refine WL.op rfl (OW.storeOA hO4 rfl rfl rfl (ev_ones hd1 hd2) Try.sizeOf42 ?_)
      intro w10 hO4 hx12
      have := World.grownBy.size hx12
      replace hx := (hx.ext (Ext.trans hwL0 hx8)).keptO hx12 (by omega)
      replace hO4 : Blk _ _ _ (Ev.c (l[k]'hk) d d2) := hO4
      refine WL.nil ?_
      refine thn_n ?_
      refine WF.seq ?_
      refine WF.region ?_
      refine WL.va rfl rfl rfl (X.fieldAddrO (off := 0) rfl Try.underlying42 rfl rfl Try.sizeOf3) ?_
      refine WL.va rfl rfl rfl (X.loadO hO4 (Ext.refl _) rfl rfl Try.isAgg3) ?_
      refine WL.va rfl rfl rfl (X.eql rfl rfl) ?_
      refine WL.va rfl rfl rfl (X.moveB rfl) ?_
      refine WL.split (j := 3) rfl (fun h15 => ?_) (fun h15 => ?_)
      · have gh15 := (of_decide_eq_true h15)
        have k1 : (l[k]'hk).Kind = 3 := gh15
        refine WL.vg rfl (congrArg some h15) rfl rfl (X.move ((hAL0.eq 0).trans (congrFun hF3 0))) ?_
        refine WL.vg rfl (congrArg some h15) rfl rfl (X.fieldAddrO (off := 2) rfl Try.underlying42 rfl rfl Try.sizeOf3) ?_
        refine WL.vg rfl (congrArg some h15) rfl rfl (X.loadO hO4 (Ext.refl _) rfl rfl Try.isAgg3) ?_
        refine WL.vg rfl (congrArg some h15) rfl rfl (X.moveI rfl) ?_
        refine WL.cg rfl (congrArg some h15) rfl rfl (X.call Try.call53 (evl_cons (v := (at_ g)) rfl (evl_cons (v := (i64 (l[k]'hk).Txn)) rfl (evl_cons (v := (i64 (k : Int))) rfl evl_nil)))) (chosen_ok g l (l[k]'hk).Txn (k : Int) _ (hH.ext (show Ext w w10 from (Ext.trans hwL0 (Ext.store hx8 hx12 (by omega)))))) ?_
        rintro v17 w16 ⟨rfl, rfl⟩
        refine WL.va rfl rfl rfl (X.pickT rfl h15 rfl) ?_
        refine WL.nil ?_
        refine thn_n ?_
        refine WF.cond rfl (fun h1_19 => ?_) (fun h1_19 => ?_)
        · have gh1_19 := h1_19
          have k2 : chosenB l (l[k]'hk).Txn k = true := gh1_19
          refine WF.seq ?_
          refine WF.region ?_
          refine WL.va rfl rfl rfl (X.assignB rfl) ?_
          refine WL.nil ?_
          refine thn_n ?_
          refine WF.ret ?_
          refine blk_r ?_
          refine thn_r ?_
          refine thn_r ?_
          refine blk_r ?_
          refine thn_r ?_
          refine fin_r ?_
          exact ⟨congrArg Value.bool (anyI_true (f := twF l) hk (by simp [twF, k1, k2])).symm, (Ext.trans hwL0 (Ext.store hx8 hx12 (by omega)))⟩
        · have gh1_19 := h1_19
          have k2 : chosenB l (l[k]'hk).Txn k = false := gh1_19
          have hfk : twF l k (l[k]'hk) = false := by simp [twF, k1, k2]
          refine WF.skip ?_
          refine blk_n ?_
          refine thn_n ?_
          refine WF.region ?_
          refine WL.va rfl rfl rfl (X.add e10_L0 rfl (w64 (by omega))) ?_
          refine WL.va rfl rfl rfl (X.moveI rfl) ?_
          refine WL.nil ?_
          exact thn_n ⟨_, (by omega), k + 1, rfl, rfl, (by repeat (first | exact hAL0 | refine Agree.put ?_ rfl | refine Agree.named hF3 ?_)), (Ext.trans hwL0 (Ext.store hx8 hx12 (by omega))), ⟨by omega, hno.s hk hfk⟩⟩
      · have gh15 := (of_decide_eq_false h15)
        have k1 : ¬ (l[k]'hk).Kind = 3 := gh15
        have hfk : twF l k (l[k]'hk) = false := by simp [twF, k1]
        refine WL.p rfl rfl rfl (congrArg some h15) ?_
        refine WL.p rfl rfl rfl (congrArg some h15) ?_
        refine WL.p rfl rfl rfl (congrArg some h15) ?_
        refine WL.p rfl rfl rfl (congrArg some h15) ?_
        refine WL.p rfl rfl rfl (congrArg some h15) ?_
        refine WL.va rfl rfl rfl (X.pickF rfl h15 rfl) ?_
        refine WL.nil ?_
        refine thn_n ?_
        refine WF.cond_f rfl ?_
        refine WF.skip ?_
        refine blk_n ?_
        refine thn_n ?_
        refine WF.region ?_
        refine WL.va rfl rfl rfl (X.add e10_L0 rfl (w64 (by omega))) ?_
        refine WL.va rfl rfl rfl (X.moveI rfl) ?_
        refine WL.nil ?_
        exact thn_n ⟨_, (by omega), k + 1, rfl, rfl, (by repeat (first | exact hAL0 | refine Agree.put ?_ rfl | refine Agree.named hF3 ?_)), (Ext.trans hwL0 (Ext.store hx8 hx12 (by omega))), ⟨by omega, hno.s hk hfk⟩⟩
    · have gh0_4 := (of_decide_eq_false h0_4)
      have hk : l.length ≤ k := by have := gh0_4; omega
      refine WF.exit ?_
      refine thn_x ?_
      refine thn_x ?_
      refine blk_eq ?_
      refine thn_n ?_
      refine WF.seq ?_
      refine WF.region ?_
      refine WL.va rfl rfl rfl (X.assignB rfl) ?_
      refine WL.nil ?_
      refine thn_n ?_
      refine WF.ret ?_
      refine fin_r ?_
      exact ⟨congrArg Value.bool (anyI_false hno hk).symm, hwL0⟩

end Go.Proofs.Ytobjmehppmhkdaa
