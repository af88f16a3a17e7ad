/- The walks of the document's functions over maps. -/
import Derived.Test.YtpimnlgfhpnjnaaRnC
import Derived.Test.YtpimnlgfhpnjnaaDel
namespace Go.Proofs.Ytpimnlgfhpnjnaa
open Go Go.RowKit Kf
set_option maxRecDepth 20000

def goodC (l : List Rg) (k : Nat) : Bool := let r := l.getD k Rg.zero
  (decide (r.Lo = prevHi l k) && (decide (prevHi l k < r.Hi) && decide (r.Hi ≤ 64)))
def covB (l : List Rg) (n : Nat) : Bool := (List.range n).all (goodC l)
def goodA (E : Int) (r : Rg) : Bool := (decide (1 ≤ r.Group) && (decide (r.Group ≤ 4) && (decide (1 ≤ r.Epoch) && decide (r.Epoch ≤ E))))
def apart1 (l : List Rg) (E : Int) (k : Nat) : Bool := let r := l.getD k Rg.zero
  goodA E r && (l.take k).all fun q => decide (q.Group ≠ r.Group)
def apB (l : List Rg) (E : Int) (n : Nat) : Bool := (List.range n).all (apart1 l E)
theorem goodC_at {l : List Rg} {k : Nat} (hk : k < l.length) : goodC l k = (decide (l[k].Lo = prevHi l k) && (decide (prevHi l k < l[k].Hi) && decide (l[k].Hi ≤ 64))) := by
  unfold goodC; rw [show l.getD k Rg.zero = l[k] by simp [hk]]
theorem apart1_at {l : List Rg} {E : Int} {k : Nat} (hk : k < l.length) : apart1 l E k = (goodA E l[k] && (l.take k).all fun q => decide (q.Group ≠ l[k].Group)) := by
  unfold apart1; rw [show l.getD k Rg.zero = l[k] by simp [hk]]
theorem all_succ {p : Nat → Bool} {n : Nat} : (List.range (n + 1)).all p = ((List.range n).all p && p n) := by
  rw [List.range_succ, List.all_append]; simp
theorem all_no {p : Nat → Bool} {n k : Nat} (hk : k < n) (h : p k = false) : (List.range n).all p = false := by
  rw [List.all_eq_false]; exact ⟨k, by simpa using hk, by simp [h]⟩
def checkR (m : Mp) : Bool := (covB m.R m.R.length && decide (prevHi m.R m.R.length = 64)) && (apB m.R m.E m.R.length && (decide (m.E ≤ 1099511627776) && (decide (m.M = Mv.zero) || (decide (m.M.Epoch = m.E) && (apB m.R (m.E - 1) m.R.length && decide (planned ⟨m.R, m.E - 1, Mv.zero⟩ m.M = 0))))))
set_option maxHeartbeats 2000000 in
theorem covers_ok (v : Value) (l : List Rg) (w : World) (hv : Rgs w v l) : FnOk Try.prog 51 [v] w (fun r w' => r = .bool (covB l l.length && decide (prevHi l l.length = 64)) ∧ Ext w w') := by
  have hle := hv.le64
  refine FnOk.enter (rs := [2]) Try.func51 rfl Try.ntmps51 Try.results51 rfl rfl ?_
  refine WF.seq ?_
  refine WF.region ?_
  refine WL.va rfl rfl rfl (X.assignB rfl) ?_
  refine WL.nil ?_
  refine thn_n ?_
  refine WF.seq ?_
  refine WF.region ?_
  refine WL.va rfl rfl rfl (X.assignI rfl) ?_
  refine WL.nil ?_
  refine thn_n ?_
  refine WF.seq ?_
  refine WF.seq ?_
  refine WF.region ?_
  refine WL.va rfl rfl rfl (X.assignI rfl) ?_
  refine WL.nil ?_
  refine thn_n ?_
  refine WF.block ?_
  refine WF.named (fun F2 hF3 => ?_)
  refine WF.loopN (fun mL0 f' w' => ∃ (k : Nat), mL0 = l.length - k ∧ f' 4 = .int .i64 (k : Int) ∧ f' 3 = i64 (prevHi l k) ∧ Agree [0] f' F2 ∧ Ext w w' ∧ k ≤ l.length ∧ covB l k = true) ?_ ?_
  · exact ⟨_, 0, rfl, (congrFun hF3 4), (congrFun hF3 3), (Agree.refl _ _), (Ext.refl _), ⟨Nat.zero_le _, rfl⟩⟩
  · rintro mL0 fL0 wL0 ⟨k, hmL0, e4_L0, e3_L0, hAL0, hwL0, ⟨hk0, hok⟩⟩
    refine WF.seq ?_
    refine WF.seq ?_
    refine WF.region ?_
    refine WL.va rfl rfl rfl (X.moveI e4_L0) ?_
    refine WL.va rfl rfl rfl (X.move ((hAL0.eq 0).trans (congrFun hF3 0))) ?_
    refine WL.va rfl rfl rfl (X.len hv rfl Try.underlying22) ?_
    refine WL.va rfl rfl rfl (X.lss rfl rfl) ?_
    refine WL.nil ?_
    refine thn_n ?_
    refine WF.cond rfl (fun h0_4 => ?_) (fun h0_4 => ?_)
    · have gh0_4 := (of_decide_eq_true h0_4)
      have hk : k < l.length := by omega
      refine WF.skip ?_
      refine thn_n ?_
      refine WF.seq ?_
      refine WF.block ?_
      refine WF.seq ?_
      refine WF.named (fun F6 hF7 => ?_)
      refine WF.cut (fun f' w' => f' 34 = .bool (!goodC l k) ∧ Agree [0, 3, 4, 5, 6, 7, 8] f' F6 ∧ wL0 = w') ?_ ?_
      · refine WF.region ?_
        refine WL.va rfl rfl rfl (X.move ((congrFun hF7 0).trans ((hAL0.eq 0).trans (congrFun hF3 0)))) ?_
        refine WL.va rfl rfl rfl (X.moveI ((congrFun hF7 4).trans e4_L0)) ?_
        refine WL.va rfl rfl rfl (X.idx hv rfl rfl (by omega) Try.underlying22 Try.sizeOf41) ?_
        refine WL.va rfl rfl rfl (X.fieldAddrA rfl Try.underlying41 rfl rfl Try.sizeOf3) ?_
        refine WL.va rfl rfl rfl (X.loadE hv hwL0 rfl (by omega) ((Rgs.get hk (by decide)).trans rfl) Try.isAgg3) ?_
        refine WL.va rfl rfl rfl (X.moveI ((congrFun hF7 3).trans e3_L0)) ?_
        refine WL.va rfl rfl rfl (X.neq rfl rfl) ?_
        refine WL.va rfl rfl rfl (X.moveB rfl) ?_
        refine WL.split (j := 7) rfl (fun h9 => ?_) (fun h9 => ?_)
        · have gh9 := (of_decide_eq_true h9)
          refine WL.p rfl rfl rfl (congrArg some h9) ?_
          refine WL.p rfl rfl rfl (congrArg some h9) ?_
          refine WL.p rfl rfl rfl (congrArg some h9) ?_
          refine WL.p rfl rfl rfl (congrArg some h9) ?_
          refine WL.p rfl rfl rfl (congrArg some h9) ?_
          refine WL.p rfl rfl rfl (congrArg some h9) ?_
          refine WL.p rfl rfl rfl (congrArg some h9) ?_
          refine WL.va rfl rfl rfl (X.pickT rfl h9 rfl) ?_
          refine WL.va rfl rfl rfl (X.moveB rfl) ?_
          refine WL.p rfl rfl rfl rfl ?_
          refine WL.p rfl rfl rfl rfl ?_
          refine WL.p rfl rfl rfl rfl ?_
          refine WL.p rfl rfl rfl rfl ?_
          refine WL.p rfl rfl rfl rfl ?_
          refine WL.p rfl rfl rfl rfl ?_
          refine WL.va rfl rfl rfl (X.pickT rfl rfl rfl) ?_
          refine WL.nil ?_
          refine thn_n ?_
          exact ⟨(congrArg Value.bool (by rw [Bool.eq_iff_iff]; simp [goodC_at hk] <;> omega)), (by repeat (first | exact (Agree.refl _ F6) | refine Agree.put ?_ rfl | refine Agree.sub hAL0 rfl ?_ | refine Agree.named hF7 ?_ | refine Agree.named hF3 ?_)), rfl⟩
        · have gh9 := (Decidable.of_not_not (of_decide_eq_false h9))
          refine WL.vg rfl (congrArg some h9) rfl rfl (X.move ((congrFun hF7 0).trans ((hAL0.eq 0).trans (congrFun hF3 0)))) ?_
          refine WL.vg rfl (congrArg some h9) rfl rfl (X.moveI ((congrFun hF7 4).trans e4_L0)) ?_
          refine WL.vg rfl (congrArg some h9) rfl rfl (X.idx hv rfl rfl (by omega) Try.underlying22 Try.sizeOf41) ?_
          refine WL.vg rfl (congrArg some h9) rfl rfl (X.fieldAddrA rfl Try.underlying41 rfl rfl Try.sizeOf3) ?_
          refine WL.vg rfl (congrArg some h9) rfl rfl (X.loadE hv hwL0 rfl (by omega) ((Rgs.get hk (by decide)).trans rfl) Try.isAgg3) ?_
          refine WL.vg rfl (congrArg some h9) rfl rfl (X.moveI ((congrFun hF7 3).trans e3_L0)) ?_
          refine WL.vg rfl (congrArg some h9) rfl rfl (X.leq rfl rfl) ?_
          refine WL.va rfl rfl rfl (X.pickF rfl h9 rfl) ?_
          refine WL.va rfl rfl rfl (X.moveB rfl) ?_
          refine WL.split (j := 16) rfl (fun h13 => ?_) (fun h13 => ?_)
          · have gh13 := (of_decide_eq_true h13)
            refine WL.p rfl rfl rfl (congrArg some h13) ?_
            refine WL.p rfl rfl rfl (congrArg some h13) ?_
            refine WL.p rfl rfl rfl (congrArg some h13) ?_
            refine WL.p rfl rfl rfl (congrArg some h13) ?_
            refine WL.p rfl rfl rfl (congrArg some h13) ?_
            refine WL.p rfl rfl rfl (congrArg some h13) ?_
            refine WL.va rfl rfl rfl (X.pickT rfl h13 rfl) ?_
            refine WL.nil ?_
            refine thn_n ?_
            exact ⟨(congrArg Value.bool (by rw [Bool.eq_iff_iff]; simp [goodC_at hk] <;> omega)), (by repeat (first | exact (Agree.refl _ F6) | refine Agree.put ?_ rfl | refine Agree.sub hAL0 rfl ?_ | refine Agree.named hF7 ?_ | refine Agree.named hF3 ?_)), rfl⟩
          · have gh13 := (of_decide_eq_false h13)
            refine WL.vg rfl (congrArg some h13) rfl rfl (X.move ((congrFun hF7 0).trans ((hAL0.eq 0).trans (congrFun hF3 0)))) ?_
            refine WL.vg rfl (congrArg some h13) rfl rfl (X.moveI ((congrFun hF7 4).trans e4_L0)) ?_
            refine WL.vg rfl (congrArg some h13) rfl rfl (X.idx hv rfl rfl (by omega) Try.underlying22 Try.sizeOf41) ?_
            refine WL.vg rfl (congrArg some h13) rfl rfl (X.fieldAddrA rfl Try.underlying41 rfl rfl Try.sizeOf3) ?_
            refine WL.vg rfl (congrArg some h13) rfl rfl (X.loadE hv hwL0 rfl (by omega) ((Rgs.get hk (by decide)).trans rfl) Try.isAgg3) ?_
            refine WL.vg rfl (congrArg some h13) rfl rfl (X.gtr rfl rfl) ?_
            refine WL.va rfl rfl rfl (X.pickF rfl h13 rfl) ?_
            refine WL.nil ?_
            refine thn_n ?_
            exact ⟨(congrArg Value.bool (by rw [Bool.eq_iff_iff]; simp [goodC_at hk] <;> omega)), (by repeat (first | exact (Agree.refl _ F6) | refine Agree.put ?_ rfl | refine Agree.sub hAL0 rfl ?_ | refine Agree.named hF7 ?_ | refine Agree.named hF3 ?_)), rfl⟩
      · rintro fCr5 wCr5 ⟨e34_Cr5, hACr5, rfl⟩
        refine WF.cond e34_Cr5 (fun h1_16 => ?_) (fun h1_16 => ?_)
        · have gh1_16 := h1_16
          have hno : covB l l.length = false := all_no hk (by simpa using gh1_16)
          refine WF.seq ?_
          refine WF.region ?_
          refine WL.va rfl rfl rfl (X.assignB rfl) ?_
          refine WL.nil ?_
          refine thn_n ?_
          refine WF.ret ?_
          refine thn_r ?_
          refine blk_r ?_
          refine thn_r ?_
          refine thn_r ?_
          refine blk_r ?_
          refine thn_r ?_
          refine fin_r ?_
          rw [hno]; exact ⟨rfl, hwL0⟩
        · have gh1_16 := h1_16
          have hy : goodC l k = true := by simpa using gh1_16
          refine WF.skip ?_
          refine thn_n ?_
          refine WF.region ?_
          refine WL.va rfl rfl rfl (X.move ((hACr5.eq 0).trans ((congrFun hF7 0).trans ((hAL0.eq 0).trans (congrFun hF3 0))))) ?_
          refine WL.va rfl rfl rfl (X.moveI ((hACr5.eq 4).trans ((congrFun hF7 4).trans e4_L0))) ?_
          refine WL.va rfl rfl rfl (X.idx hv rfl rfl (by omega) Try.underlying22 Try.sizeOf41) ?_
          refine WL.va rfl rfl rfl (X.fieldAddrA rfl Try.underlying41 rfl rfl Try.sizeOf3) ?_
          refine WL.va rfl rfl rfl (X.loadE hv hwL0 rfl (by omega) ((Rgs.get hk (by decide)).trans rfl) Try.isAgg3) ?_
          refine WL.va rfl rfl rfl (X.assignI rfl) ?_
          refine WL.nil ?_
          refine blk_n ?_
          refine thn_n ?_
          refine WF.region ?_
          refine WL.va rfl rfl rfl (X.moveI ((hACr5.eq 4).trans ((congrFun hF7 4).trans e4_L0))) ?_
          refine WL.va rfl rfl rfl (X.add rfl rfl (w64 (by omega))) ?_
          refine WL.va rfl rfl rfl (X.assignI rfl) ?_
          refine WL.nil ?_
          exact thn_n ⟨_, (by omega), k + 1, rfl, rfl, (Eq.trans rfl (congrArg i64 (prevHi_succ hk).symm)), (by repeat (first | exact hAL0 | refine Agree.put ?_ rfl | refine Agree.sub hACr5 rfl ?_ | refine Agree.named hF7 ?_ | refine Agree.named hF3 ?_)), hwL0, ⟨by omega, by unfold covB at hok ⊢; rw [all_succ, hok, hy]; rfl⟩⟩
    · have gh0_4 := (of_decide_eq_false h0_4)
      refine WF.exit ?_
      refine thn_x ?_
      refine thn_x ?_
      refine blk_eq ?_
      refine thn_n ?_
      refine WF.seq ?_
      refine WF.region ?_
      refine WL.va rfl rfl rfl (X.moveI e3_L0) ?_
      refine WL.va rfl rfl rfl (X.eql rfl rfl) ?_
      refine WL.va rfl rfl rfl (X.assignB rfl) ?_
      refine WL.nil ?_
      refine thn_n ?_
      refine WF.ret ?_
      refine fin_r ?_
      obtain rfl : k = l.length := by omega
      rw [hok]; exact ⟨rfl, hwL0⟩

set_option maxHeartbeats 2000000 in
theorem apart_ok (v : Value) (l : List Rg) (E : Int) (w : World) (hv : Rgs w v l) : FnOk Try.prog 52 [v, i64 E] w (fun r w' => r = .bool (apB l E l.length) ∧ Ext w w') := by
  have hle := hv.le64
  refine FnOk.enter (rs := [4]) Try.func52 rfl Try.ntmps52 Try.results52 rfl rfl ?_
  refine WF.seq ?_
  refine WF.region ?_
  refine WL.va rfl rfl rfl (X.assignB rfl) ?_
  refine WL.nil ?_
  refine thn_n ?_
  refine WF.seq ?_
  refine WF.seq ?_
  refine WF.region ?_
  refine WL.va rfl rfl rfl (X.assignI rfl) ?_
  refine WL.nil ?_
  refine thn_n ?_
  refine WF.block ?_
  refine WF.named (fun F2 hF3 => ?_)
  refine WF.loopN (fun mL0 f' w' => ∃ (k : Nat), mL0 = l.length - k ∧ f' 5 = .int .i64 (k : Int) ∧ Agree [0, 1] f' F2 ∧ Ext w w' ∧ k ≤ l.length ∧ apB l E k = true) ?_ ?_
  · exact ⟨_, 0, rfl, (congrFun hF3 5), (Agree.refl _ _), (Ext.refl _), ⟨Nat.zero_le _, rfl⟩⟩
  · rintro mL0 fL0 wL0 ⟨k, hmL0, e5_L0, hAL0, hwL0, ⟨hk0, hok⟩⟩
    refine WF.seq ?_
    refine WF.seq ?_
    refine WF.region ?_
    refine WL.va rfl rfl rfl (X.moveI e5_L0) ?_
    refine WL.va rfl rfl rfl (X.move ((hAL0.eq 0).trans (congrFun hF3 0))) ?_
    refine WL.va rfl rfl rfl (X.len hv rfl Try.underlying22) ?_
    refine WL.va rfl rfl rfl (X.lss rfl rfl) ?_
    refine WL.nil ?_
    refine thn_n ?_
    refine WF.cond rfl (fun h0_4 => ?_) (fun h0_4 => ?_)
    · have gh0_4 := (of_decide_eq_true h0_4)
      have hk : k < l.length := by omega
      refine WF.skip ?_
      refine thn_n ?_
      refine WF.seq ?_
      refine WF.block ?_
      refine WF.seq ?_
      refine WF.named (fun F6 hF7 => ?_)
      refine WF.cut (fun f' w' => f' 43 = .bool (!goodA E (l[k]'hk)) ∧ Agree [0, 1, 5, 7, 8, 9, 10] f' F6 ∧ wL0 = w') ?_ ?_
      · refine WF.region ?_
        refine WL.va rfl rfl rfl (X.move ((congrFun hF7 0).trans ((hAL0.eq 0).trans (congrFun hF3 0)))) ?_
        refine WL.va rfl rfl rfl (X.moveI ((congrFun hF7 5).trans e5_L0)) ?_
        refine WL.va rfl rfl rfl (X.idx hv rfl rfl (by omega) Try.underlying22 Try.sizeOf41) ?_
        refine WL.va rfl rfl rfl (X.fieldAddrA rfl Try.underlying41 rfl rfl Try.sizeOf3) ?_
        refine WL.va rfl rfl rfl (X.loadE hv hwL0 rfl (by omega) ((Rgs.get hk (by decide)).trans rfl) Try.isAgg3) ?_
        refine WL.va rfl rfl rfl (X.lss rfl rfl) ?_
        refine WL.va rfl rfl rfl (X.moveB rfl) ?_
        refine WL.split (j := 6) rfl (fun h9 => ?_) (fun h9 => ?_)
        · have gh9 := (of_decide_eq_true h9)
          refine WL.p rfl rfl rfl (congrArg some h9) ?_
          refine WL.p rfl rfl rfl (congrArg some h9) ?_
          refine WL.p rfl rfl rfl (congrArg some h9) ?_
          refine WL.p rfl rfl rfl (congrArg some h9) ?_
          refine WL.p rfl rfl rfl (congrArg some h9) ?_
          refine WL.p rfl rfl rfl (congrArg some h9) ?_
          refine WL.va rfl rfl rfl (X.pickT rfl h9 rfl) ?_
          refine WL.va rfl rfl rfl (X.moveB rfl) ?_
          refine WL.p rfl rfl rfl rfl ?_
          refine WL.p rfl rfl rfl rfl ?_
          refine WL.p rfl rfl rfl rfl ?_
          refine WL.p rfl rfl rfl rfl ?_
          refine WL.p rfl rfl rfl rfl ?_
          refine WL.p rfl rfl rfl rfl ?_
          refine WL.va rfl rfl rfl (X.pickT rfl rfl rfl) ?_
          refine WL.va rfl rfl rfl (X.moveB rfl) ?_
          refine WL.p rfl rfl rfl rfl ?_
          refine WL.p rfl rfl rfl rfl ?_
          refine WL.p rfl rfl rfl rfl ?_
          refine WL.p rfl rfl rfl rfl ?_
          refine WL.p rfl rfl rfl rfl ?_
          refine WL.p rfl rfl rfl rfl ?_
          refine WL.p rfl rfl rfl rfl ?_
          refine WL.va rfl rfl rfl (X.pickT rfl rfl rfl) ?_
          refine WL.nil ?_
          refine thn_n ?_
          exact ⟨(congrArg Value.bool (by rw [Bool.eq_iff_iff]; simp [goodA] <;> omega)), (by repeat (first | exact (Agree.refl _ F6) | refine Agree.put ?_ rfl | refine Agree.sub hAL0 rfl ?_ | refine Agree.named hF7 ?_ | refine Agree.named hF3 ?_)), rfl⟩
        · have gh9 := (of_decide_eq_false h9)
          refine WL.vg rfl (congrArg some h9) rfl rfl (X.move ((congrFun hF7 0).trans ((hAL0.eq 0).trans (congrFun hF3 0)))) ?_
          refine WL.vg rfl (congrArg some h9) rfl rfl (X.moveI ((congrFun hF7 5).trans e5_L0)) ?_
          refine WL.vg rfl (congrArg some h9) rfl rfl (X.idx hv rfl rfl (by omega) Try.underlying22 Try.sizeOf41) ?_
          refine WL.vg rfl (congrArg some h9) rfl rfl (X.fieldAddrA rfl Try.underlying41 rfl rfl Try.sizeOf3) ?_
          refine WL.vg rfl (congrArg some h9) rfl rfl (X.loadE hv hwL0 rfl (by omega) ((Rgs.get hk (by decide)).trans rfl) Try.isAgg3) ?_
          refine WL.vg rfl (congrArg some h9) rfl rfl (X.gtr rfl rfl) ?_
          refine WL.va rfl rfl rfl (X.pickF rfl h9 rfl) ?_
          refine WL.va rfl rfl rfl (X.moveB rfl) ?_
          refine WL.split (j := 14) rfl (fun h14 => ?_) (fun h14 => ?_)
          · have gh14 := (of_decide_eq_true h14)
            refine WL.p rfl rfl rfl (congrArg some h14) ?_
            refine WL.p rfl rfl rfl (congrArg some h14) ?_
            refine WL.p rfl rfl rfl (congrArg some h14) ?_
            refine WL.p rfl rfl rfl (congrArg some h14) ?_
            refine WL.p rfl rfl rfl (congrArg some h14) ?_
            refine WL.p rfl rfl rfl (congrArg some h14) ?_
            refine WL.va rfl rfl rfl (X.pickT rfl h14 rfl) ?_
            refine WL.va rfl rfl rfl (X.moveB rfl) ?_
            refine WL.p rfl rfl rfl rfl ?_
            refine WL.p rfl rfl rfl rfl ?_
            refine WL.p rfl rfl rfl rfl ?_
            refine WL.p rfl rfl rfl rfl ?_
            refine WL.p rfl rfl rfl rfl ?_
            refine WL.p rfl rfl rfl rfl ?_
            refine WL.p rfl rfl rfl rfl ?_
            refine WL.va rfl rfl rfl (X.pickT rfl rfl rfl) ?_
            refine WL.nil ?_
            refine thn_n ?_
            exact ⟨(congrArg Value.bool (by rw [Bool.eq_iff_iff]; simp [goodA] <;> omega)), (by repeat (first | exact (Agree.refl _ F6) | refine Agree.put ?_ rfl | refine Agree.sub hAL0 rfl ?_ | refine Agree.named hF7 ?_ | refine Agree.named hF3 ?_)), rfl⟩
          · have gh14 := (of_decide_eq_false h14)
            refine WL.vg rfl (congrArg some h14) rfl rfl (X.move ((congrFun hF7 0).trans ((hAL0.eq 0).trans (congrFun hF3 0)))) ?_
            refine WL.vg rfl (congrArg some h14) rfl rfl (X.moveI ((congrFun hF7 5).trans e5_L0)) ?_
            refine WL.vg rfl (congrArg some h14) rfl rfl (X.idx hv rfl rfl (by omega) Try.underlying22 Try.sizeOf41) ?_
            refine WL.vg rfl (congrArg some h14) rfl rfl (X.fieldAddrA rfl Try.underlying41 rfl rfl Try.sizeOf3) ?_
            refine WL.vg rfl (congrArg some h14) rfl rfl (X.loadE hv hwL0 rfl (by omega) ((Rgs.get hk (by decide)).trans rfl) Try.isAgg3) ?_
            refine WL.vg rfl (congrArg some h14) rfl rfl (X.lss rfl rfl) ?_
            refine WL.va rfl rfl rfl (X.pickF rfl h14 rfl) ?_
            refine WL.va rfl rfl rfl (X.moveB rfl) ?_
            refine WL.split (j := 22) rfl (fun h18 => ?_) (fun h18 => ?_)
            · have gh18 := (of_decide_eq_true h18)
              refine WL.p rfl rfl rfl (congrArg some h18) ?_
              refine WL.p rfl rfl rfl (congrArg some h18) ?_
              refine WL.p rfl rfl rfl (congrArg some h18) ?_
              refine WL.p rfl rfl rfl (congrArg some h18) ?_
              refine WL.p rfl rfl rfl (congrArg some h18) ?_
              refine WL.p rfl rfl rfl (congrArg some h18) ?_
              refine WL.p rfl rfl rfl (congrArg some h18) ?_
              refine WL.va rfl rfl rfl (X.pickT rfl h18 rfl) ?_
              refine WL.nil ?_
              refine thn_n ?_
              exact ⟨(congrArg Value.bool (by rw [Bool.eq_iff_iff]; simp [goodA] <;> omega)), (by repeat (first | exact (Agree.refl _ F6) | refine Agree.put ?_ rfl | refine Agree.sub hAL0 rfl ?_ | refine Agree.named hF7 ?_ | refine Agree.named hF3 ?_)), rfl⟩
            · have gh18 := (of_decide_eq_false h18)
              refine WL.vg rfl (congrArg some h18) rfl rfl (X.move ((congrFun hF7 0).trans ((hAL0.eq 0).trans (congrFun hF3 0)))) ?_
              refine WL.vg rfl (congrArg some h18) rfl rfl (X.moveI ((congrFun hF7 5).trans e5_L0)) ?_
              refine WL.vg rfl (congrArg some h18) rfl rfl (X.idx hv rfl rfl (by omega) Try.underlying22 Try.sizeOf41) ?_
              refine WL.vg rfl (congrArg some h18) rfl rfl (X.fieldAddrA rfl Try.underlying41 rfl rfl Try.sizeOf3) ?_
              refine WL.vg rfl (congrArg some h18) rfl rfl (X.loadE hv hwL0 rfl (by omega) ((Rgs.get hk (by decide)).trans rfl) Try.isAgg3) ?_
              refine WL.vg rfl (congrArg some h18) rfl rfl (X.moveI ((congrFun hF7 1).trans ((hAL0.eq 1).trans (congrFun hF3 1)))) ?_
              refine WL.vg rfl (congrArg some h18) rfl rfl (X.gtr rfl rfl) ?_
              refine WL.va rfl rfl rfl (X.pickF rfl h18 rfl) ?_
              refine WL.nil ?_
              refine thn_n ?_
              exact ⟨(congrArg Value.bool (by rw [Bool.eq_iff_iff]; simp [goodA] <;> omega)), (by repeat (first | exact (Agree.refl _ F6) | refine Agree.put ?_ rfl | refine Agree.sub hAL0 rfl ?_ | refine Agree.named hF7 ?_ | refine Agree.named hF3 ?_)), rfl⟩
      · rintro fCr4 wCr4 ⟨e43_Cr4, hACr4, rfl⟩
        refine WF.cond e43_Cr4 (fun h1_21 => ?_) (fun h1_21 => ?_)
        · have gh1_21 := h1_21
          have hno : apB l E l.length = false := all_no hk (by have q := gh1_21; rw [apart1_at hk]; simp at q; rw [q]; rfl)
          refine WF.seq ?_
          refine WF.region ?_
          refine WL.va rfl rfl rfl (X.assignB rfl) ?_
          refine WL.nil ?_
          refine thn_n ?_
          refine WF.ret ?_
          refine thn_r ?_
          refine blk_r ?_
          refine thn_r ?_
          refine thn_r ?_
          refine blk_r ?_
          refine thn_r ?_
          refine fin_r ?_
          rw [hno]; exact ⟨rfl, hwL0⟩
        · have gh1_21 := h1_21
          have hy : goodA E (l[k]'hk) = true := by simpa using gh1_21
          refine WF.skip ?_
          refine thn_n ?_
          refine WF.seq ?_
          refine WF.region ?_
          refine WL.va rfl rfl rfl (X.assignI rfl) ?_
          refine WL.nil ?_
          refine thn_n ?_
          refine WF.block ?_
          refine WF.named (fun F24 hF25 => ?_)
          refine WF.loopN (fun mL1 f' w' => ∃ (j : Nat), mL1 = k - j ∧ f' 6 = .int .i64 (j : Int) ∧ Agree [0, 1, 5, 7, 8, 9, 10, 43] f' F24 ∧ Ext wL0 w' ∧ j ≤ k ∧ ∀ q (hq : q < l.length), q < j → l[q].Group ≠ (l[k]'hk).Group) ?_ ?_
          · exact ⟨_, 0, rfl, (congrFun hF25 6), (Agree.refl _ _), (Ext.refl _), ⟨Nat.zero_le _, fun q _ hq => by omega⟩⟩
          · rintro mL1 fL1 wL1 ⟨j, hmL1, e6_L1, hAL1, hwL1, ⟨hj0, hnj⟩⟩
            refine WF.seq ?_
            refine WF.seq ?_
            refine WF.region ?_
            refine WL.va rfl rfl rfl (X.moveI e6_L1) ?_
            refine WL.va rfl rfl rfl (X.moveI ((hAL1.eq 5).trans ((congrFun hF25 5).trans ((hACr4.eq 5).trans ((congrFun hF7 5).trans e5_L0))))) ?_
            refine WL.va rfl rfl rfl (X.lss rfl rfl) ?_
            refine WL.nil ?_
            refine thn_n ?_
            refine WF.cond rfl (fun h2_26 => ?_) (fun h2_26 => ?_)
            · have gh2_26 := (of_decide_eq_true h2_26)
              have hjk : j < k := by omega
              have hj : j < l.length := by omega
              refine WF.skip ?_
              refine thn_n ?_
              refine WF.seq ?_
              refine WF.block ?_
              refine WF.seq ?_
              refine WF.drawn (.q 0 (.q 1 (.q 2 (.q 3 (.q 4 (.q 5 (.q 6 (.q 7 (.q 8 (.q 9 (.q 10 .nil))))))))))) (fun w' => Ext wL1 w') 11 (by kernel_rfl) (by kernel_rfl) (Ext.drew _) ?_
              refine WO.q rfl rfl rfl rfl (fun w' hE28 => (X.move ((hAL1.eq 0).trans ((congrFun hF25 0).trans ((hACr4.eq 0).trans ((congrFun hF7 0).trans ((hAL0.eq 0).trans (congrFun hF3 0)))))))) ?_
              refine WO.q rfl rfl rfl rfl (fun w' hE28 => (X.moveI e6_L1)) ?_
              refine WO.q rfl rfl rfl rfl (fun w' hE28 => (X.idx hv rfl rfl (by omega) Try.underlying22 Try.sizeOf41)) ?_
              refine WO.q rfl rfl rfl rfl (fun w' hE28 => (X.fieldAddrA rfl Try.underlying41 rfl rfl Try.sizeOf3)) ?_
              refine WO.q rfl rfl rfl rfl (fun w' hE28 => (X.loadE hv (Ext.trans (Ext.trans hwL0 hwL1) hE28) rfl (by omega) ((Rgs.get hj (by decide)).trans rfl) Try.isAgg3)) ?_
              refine WO.q rfl rfl rfl rfl (fun w' hE28 => (X.move ((hAL1.eq 0).trans ((congrFun hF25 0).trans ((hACr4.eq 0).trans ((congrFun hF7 0).trans ((hAL0.eq 0).trans (congrFun hF3 0)))))))) ?_
              refine WO.q rfl rfl rfl rfl (fun w' hE28 => (X.moveI ((hAL1.eq 5).trans ((congrFun hF25 5).trans ((hACr4.eq 5).trans ((congrFun hF7 5).trans e5_L0)))))) ?_
              refine WO.q rfl rfl rfl rfl (fun w' hE28 => (X.idx hv rfl rfl (by omega) Try.underlying22 Try.sizeOf41)) ?_
              refine WO.q rfl rfl rfl rfl (fun w' hE28 => (X.fieldAddrA rfl Try.underlying41 rfl rfl Try.sizeOf3)) ?_
              refine WO.q rfl rfl rfl rfl (fun w' hE28 => (X.loadE hv (Ext.trans (Ext.trans hwL0 hwL1) hE28) rfl (by omega) ((Rgs.get hk (by decide)).trans rfl) Try.isAgg3)) ?_
              refine WO.q rfl rfl rfl rfl (fun w' hE28 => (X.eql rfl rfl)) ?_
              refine WO.nil ?_
              refine WL.nil ?_
              refine thn_n ?_
              refine WF.cond rfl (fun h3_29 => ?_) (fun h3_29 => ?_)
              · have gh3_29 := (of_decide_eq_true h3_29)
                have hno : apB l E l.length = false := all_no hk (by rw [apart1_at hk, hy, Bool.true_and, List.all_eq_false]; exact ⟨l[j], List.mem_take_iff_getElem.2 ⟨j, by omega, rfl⟩, by simpa using gh3_29⟩)
                refine WF.seq ?_
                refine WF.region ?_
                refine WL.va rfl rfl rfl (X.assignB rfl) ?_
                refine WL.nil ?_
                refine thn_n ?_
                refine WF.ret ?_
                refine blk_r ?_
                refine thn_r ?_
                refine thn_r ?_
                refine blk_r ?_
                refine blk_r ?_
                refine thn_r ?_
                refine thn_r ?_
                refine blk_r ?_
                refine thn_r ?_
                refine fin_r ?_
                rw [hno]; exact ⟨rfl, (Ext.trans (Ext.trans hwL0 hwL1) (Ext.drew _))⟩
              · have gh3_29 := (of_decide_eq_false h3_29)
                have hne := gh3_29
                refine WF.skip ?_
                refine blk_n ?_
                refine thn_n ?_
                refine WF.region ?_
                refine WL.va rfl rfl rfl (X.moveI e6_L1) ?_
                refine WL.va rfl rfl rfl (X.add rfl rfl (w64 (by omega))) ?_
                refine WL.va rfl rfl rfl (X.assignI rfl) ?_
                refine WL.nil ?_
                exact thn_n ⟨_, (by omega), j + 1, rfl, rfl, (by repeat (first | exact hAL1 | refine Agree.put ?_ rfl | refine Agree.sub hACr4 rfl ?_ | refine Agree.sub hAL0 rfl ?_ | refine Agree.named hF25 ?_ | refine Agree.named hF7 ?_ | refine Agree.named hF3 ?_)), (Ext.trans hwL1 (Ext.drew _)), ⟨by omega, fun q hq1 hq2 => by rcases Nat.lt_succ_iff_lt_or_eq.1 hq2 with h | rfl; exact hnj q hq1 h; exact hne⟩⟩
            · have gh2_26 := (of_decide_eq_false h2_26)
              have hg : (l.take k).all (fun q => decide (q.Group ≠ (l[k]'hk).Group)) = true := by rw [List.all_eq_true]; intro x hx; obtain ⟨q, hq, rfl⟩ := List.mem_take_iff_getElem.1 hx; exact decide_eq_true (hnj q (by omega) (by omega))
              refine WF.exit ?_
              refine thn_x ?_
              refine thn_x ?_
              refine blk_eq ?_
              refine blk_n ?_
              refine thn_n ?_
              refine WF.region ?_
              refine WL.va rfl rfl rfl (X.moveI ((hAL1.eq 5).trans ((congrFun hF25 5).trans ((hACr4.eq 5).trans ((congrFun hF7 5).trans e5_L0))))) ?_
              refine WL.va rfl rfl rfl (X.add rfl rfl (w64 (by omega))) ?_
              refine WL.va rfl rfl rfl (X.assignI rfl) ?_
              refine WL.nil ?_
              exact thn_n ⟨_, (by omega), k + 1, rfl, rfl, (by repeat (first | exact hAL0 | refine Agree.put ?_ rfl | refine Agree.sub hAL1 rfl ?_ | refine Agree.sub hACr4 rfl ?_ | refine Agree.named hF25 ?_ | refine Agree.named hF7 ?_ | refine Agree.named hF3 ?_)), (Ext.trans hwL0 hwL1), ⟨by omega, by unfold apB at hok ⊢; rw [all_succ, hok, apart1_at hk, hy, hg]; rfl⟩⟩
    · have gh0_4 := (of_decide_eq_false h0_4)
      refine WF.exit ?_
      refine thn_x ?_
      refine thn_x ?_
      refine blk_eq ?_
      refine thn_n ?_
      refine WF.seq ?_
      refine WF.region ?_
      refine WL.va rfl rfl rfl (X.assignB rfl) ?_
      refine WL.nil ?_
      refine thn_n ?_
      refine WF.ret ?_
      refine fin_r ?_
      obtain rfl : k = l.length := by omega
      rw [hok]; exact ⟨rfl, hwL0⟩

set_option maxHeartbeats 2000000 in
theorem findR_ok (m : Mp) (v : Value) (n : Int) (w : World) (hv : Rgs w v m.R) : FnOk Try.prog 26 [agg (m.c v), i64 n] w (fun r w' => r = .tuple #[agg ((findM m.R n).getD Rg.zero).c, .bool (findM m.R n).isSome] ∧ Ext w w') := by
  have hle := hv.le64
  refine FnOk.enterC (rs := [.cell 4 41, .tmp 5]) Try.func26 rfl Try.ntmps26 Try.results26 rfl rfl ?_
  refine WF.seq ?_
  refine WF.region ?_
  refine WL.op rfl (OW.boxA (cs := (m.c v)) rfl ?_ (by decide))
  intro g2 w1 heg2 hlg2 hO2 hx3
  have := World.grownBy.size hx3
  refine WL.op rfl (OW.allocO (cs := [i64 0, i64 0, i64 0, i64 0]) Try.zeroValue41 rfl ?_ (by decide))
  intro g4 wX heg4 hlg4 hO4 hx6
  have := World.grownBy.size hx6
  refine WL.va rfl rfl rfl (X.assignB rfl) ?_
  refine WL.nil ?_
  refine thn_n ?_
  refine WF.seq ?_
  refine WF.seq ?_
  refine WF.region ?_
  refine WL.va rfl rfl rfl (X.assignI rfl) ?_
  refine WL.nil ?_
  refine thn_n ?_
  refine WF.block ?_
  refine WF.named (fun F9 hF10 => ?_)
  refine WF.loopN (fun mL0 f' w' => ∃ (k : Nat), mL0 = m.R.length - k ∧ f' 6 = .int .i64 (k : Int) ∧ Agree [0, 1, 2, 4] f' F9 ∧ Ext wX w' ∧ k ≤ m.R.length ∧ ∀ j (hj : j < m.R.length), j < k → (fun (r : Rg) => decide (r.Lo ≤ n) && decide (n < r.Hi)) m.R[j] = false) ?_ ?_
  · exact ⟨_, 0, rfl, (congrFun hF10 6), (Agree.refl _ _), (Ext.refl _), ⟨Nat.zero_le _, fun j _ hj => by omega⟩⟩
  · rintro mL0 fL0 wL0 ⟨k, hmL0, e6_L0, hAL0, hwL0, ⟨hk0, hnj⟩⟩
    have := World.grownBy.size hwL0
    refine WF.seq ?_
    refine WF.seq ?_
    refine WF.region ?_
    refine WL.va rfl rfl rfl (X.moveI e6_L0) ?_
    refine WL.va rfl rfl rfl (X.fieldAddrO (off := 0) ((hAL0.eq 2).trans (congrFun hF10 2)) Try.underlying26 rfl rfl Try.sizeOf22) ?_
    refine WL.va rfl rfl rfl (X.loadO hO2 (Ext.trans hx6 hwL0) rfl rfl Try.isAgg22) ?_
    refine WL.va rfl rfl rfl (X.len hv rfl Try.underlying22) ?_
    refine WL.va rfl rfl rfl (X.lss rfl rfl) ?_
    refine WL.nil ?_
    refine thn_n ?_
    refine WF.cond rfl (fun h0_11 => ?_) (fun h0_11 => ?_)
    · have gh0_11 := (of_decide_eq_true h0_11)
      have hk : k < m.R.length := by omega
      refine WF.skip ?_
      refine thn_n ?_
      refine WF.seq ?_
      refine WF.block ?_
      refine WF.seq ?_
      refine WF.region ?_
      refine WL.va rfl rfl rfl (X.moveI ((hAL0.eq 1).trans (congrFun hF10 1))) ?_
      refine WL.va rfl rfl rfl (X.fieldAddrO (off := 0) ((hAL0.eq 2).trans (congrFun hF10 2)) Try.underlying26 rfl rfl Try.sizeOf22) ?_
      refine WL.va rfl rfl rfl (X.loadO hO2 (Ext.trans hx6 hwL0) rfl rfl Try.isAgg22) ?_
      refine WL.va rfl rfl rfl (X.moveI e6_L0) ?_
      refine WL.va rfl rfl rfl (X.idx hv rfl rfl (by omega) Try.underlying22 Try.sizeOf41) ?_
      refine WL.va rfl rfl rfl (X.fieldAddrA rfl Try.underlying41 rfl rfl Try.sizeOf3) ?_
      refine WL.va rfl rfl rfl (X.loadE hv (Ext.trans (Ext.trans hx3 hx6) hwL0) rfl (by omega) ((Rgs.get hk (by decide)).trans rfl) Try.isAgg3) ?_
      refine WL.va rfl rfl rfl (X.geq rfl rfl) ?_
      refine WL.va rfl rfl rfl (X.moveB rfl) ?_
      refine WL.split (j := 8) rfl (fun h14 => ?_) (fun h14 => ?_)
      · have gh14 := (of_decide_eq_true h14)
        have q1 : (m.R[k]'hk).Lo ≤ n := gh14
        refine WL.vg rfl (congrArg some h14) rfl rfl (X.moveI ((hAL0.eq 1).trans (congrFun hF10 1))) ?_
        refine WL.vg rfl (congrArg some h14) rfl rfl (X.fieldAddrO (off := 0) ((hAL0.eq 2).trans (congrFun hF10 2)) Try.underlying26 rfl rfl Try.sizeOf22) ?_
        refine WL.vg rfl (congrArg some h14) rfl rfl (X.loadO hO2 (Ext.trans hx6 hwL0) rfl rfl Try.isAgg22) ?_
        refine WL.vg rfl (congrArg some h14) rfl rfl (X.moveI e6_L0) ?_
        refine WL.vg rfl (congrArg some h14) rfl rfl (X.idx hv rfl rfl (by omega) Try.underlying22 Try.sizeOf41) ?_
        refine WL.vg rfl (congrArg some h14) rfl rfl (X.fieldAddrA rfl Try.underlying41 rfl rfl Try.sizeOf3) ?_
        refine WL.vg rfl (congrArg some h14) rfl rfl (X.loadE hv (Ext.trans (Ext.trans hx3 hx6) hwL0) rfl (by omega) ((Rgs.get hk (by decide)).trans rfl) Try.isAgg3) ?_
        refine WL.vg rfl (congrArg some h14) rfl rfl (X.lss rfl rfl) ?_
        refine WL.va rfl rfl rfl (X.pickT rfl h14 rfl) ?_
        refine WL.nil ?_
        refine thn_n ?_
        refine WF.cond rfl (fun h1_15 => ?_) (fun h1_15 => ?_)
        · have gh1_15 := (of_decide_eq_true h1_15)
          have hf : findM m.R n = some (m.R[k]'hk) := find_at hk (by rw [decide_eq_true q1, decide_eq_true gh1_15]; rfl) (fun j hj hjk => hnj j hj hjk)
          refine WF.seq ?_
          refine WF.region ?_
          refine WL.va rfl rfl rfl (X.fieldAddrO (off := 0) ((hAL0.eq 2).trans (congrFun hF10 2)) Try.underlying26 rfl rfl Try.sizeOf22) ?_
          refine WL.va rfl rfl rfl (X.loadO hO2 (Ext.trans hx6 hwL0) rfl rfl Try.isAgg22) ?_
          refine WL.va rfl rfl rfl (X.moveI e6_L0) ?_
          refine WL.va rfl rfl rfl (X.idx hv rfl rfl (by omega) Try.underlying22 Try.sizeOf41) ?_
          refine WL.va rfl rfl rfl (X.loadEl hv (Ext.trans (Ext.trans hx3 hx6) hwL0) rfl (by omega) (Rgs.el (l := m.R) (k := k) hk) Try.isAgg41 Try.sizeOf41) ?_
          refine WL.op rfl (OW.storeOA (hO4.ext hwL0) ((hAL0.eq 4).trans (congrFun hF10 4)) rfl rfl (Rg.c_one _) Try.sizeOf41 ?_)
          intro w17 hO4 hx19
          have := World.grownBy.size hx19
          replace hO2 := (hO2.ext (Ext.trans hx6 hwL0)).keptO hx19 (by omega)
          refine WL.va rfl rfl rfl (X.assignB rfl) ?_
          refine WL.nil ?_
          refine thn_n ?_
          refine WF.ret ?_
          refine blk_r ?_
          refine thn_r ?_
          refine thn_r ?_
          refine blk_r ?_
          refine thn_r ?_
          refine finC_r (vs := [_, _]) ⟨⟨_, ((hAL0.eq 4).trans (congrFun hF10 4)), readO hO4 Try.isAgg41 Try.sizeOf41⟩, rfl, trivial⟩ ?_
          rw [hf]; exact ⟨rfl, (Ext.trans hx3 (Ext.store (Ext.trans hx6 hwL0) hx19 (by omega)))⟩
        · have gh1_15 := (of_decide_eq_false h1_15)
          have hno : (decide ((m.R[k]'hk).Lo ≤ n) && decide (n < (m.R[k]'hk).Hi)) = false := by rw [decide_eq_false gh1_15]; simp
          refine WF.skip ?_
          refine blk_n ?_
          refine thn_n ?_
          refine WF.region ?_
          refine WL.va rfl rfl rfl (X.moveI e6_L0) ?_
          refine WL.va rfl rfl rfl (X.add rfl rfl (w64 (by omega))) ?_
          refine WL.va rfl rfl rfl (X.assignI rfl) ?_
          refine WL.nil ?_
          exact thn_n ⟨_, (by omega), k + 1, rfl, rfl, (by repeat (first | exact hAL0 | refine Agree.put ?_ rfl | refine Agree.named hF10 ?_)), hwL0, ⟨by omega, fun j hj1 hj2 => by rcases Nat.lt_succ_iff_lt_or_eq.1 hj2 with h | rfl; exact hnj j hj1 h; exact hno⟩⟩
      · have gh14 := (of_decide_eq_false h14)
        have q1 : ¬ (m.R[k]'hk).Lo ≤ n := gh14
        have hno : (decide ((m.R[k]'hk).Lo ≤ n) && decide (n < (m.R[k]'hk).Hi)) = false := by rw [decide_eq_false q1]; rfl
        refine WL.p rfl rfl rfl (congrArg some h14) ?_
        refine WL.p rfl rfl rfl (congrArg some h14) ?_
        refine WL.p rfl rfl rfl (congrArg some h14) ?_
        refine WL.p rfl rfl rfl (congrArg some h14) ?_
        refine WL.p rfl rfl rfl (congrArg some h14) ?_
        refine WL.p rfl rfl rfl (congrArg some h14) ?_
        refine WL.p rfl rfl rfl (congrArg some h14) ?_
        refine WL.p rfl rfl rfl (congrArg some h14) ?_
        refine WL.va rfl rfl rfl (X.pickF rfl h14 rfl) ?_
        refine WL.nil ?_
        refine thn_n ?_
        refine WF.cond_f rfl ?_
        refine WF.skip ?_
        refine blk_n ?_
        refine thn_n ?_
        refine WF.region ?_
        refine WL.va rfl rfl rfl (X.moveI e6_L0) ?_
        refine WL.va rfl rfl rfl (X.add rfl rfl (w64 (by omega))) ?_
        refine WL.va rfl rfl rfl (X.assignI rfl) ?_
        refine WL.nil ?_
        exact thn_n ⟨_, (by omega), k + 1, rfl, rfl, (by repeat (first | exact hAL0 | refine Agree.put ?_ rfl | refine Agree.named hF10 ?_)), hwL0, ⟨by omega, fun j hj1 hj2 => by rcases Nat.lt_succ_iff_lt_or_eq.1 hj2 with h | rfl; exact hnj j hj1 h; exact hno⟩⟩
    · have gh0_11 := (of_decide_eq_false h0_11)
      have hf : findM m.R n = none := find_no fun j hj => hnj j hj (by omega)
      refine WF.exit ?_
      refine thn_x ?_
      refine thn_x ?_
      refine blk_eq ?_
      refine thn_n ?_
      refine WF.seq ?_
      refine WF.region ?_
      refine WL.va rfl rfl rfl (X.buildL (P := Try.prog) (t := 41) (cs := (Rg.c Rg.zero)) evp_nil Try.type41 Try.underlying41 rfl rfl trivial rfl) ?_
      refine WL.op rfl (OW.storeOA (hO4.ext hwL0) ((hAL0.eq 4).trans (congrFun hF10 4)) rfl rfl (Rg.c_one Rg.zero) Try.sizeOf41 ?_)
      intro w23 hO4 hx25
      have := World.grownBy.size hx25
      replace hO2 := (hO2.ext (Ext.trans hx6 hwL0)).keptO hx25 (by omega)
      replace hO4 : Blk _ _ _ (Rg.c Rg.zero) := hO4
      refine WL.va rfl rfl rfl (X.assignB rfl) ?_
      refine WL.nil ?_
      refine thn_n ?_
      refine WF.ret ?_
      refine finC_r (vs := [_, _]) ⟨⟨_, ((hAL0.eq 4).trans (congrFun hF10 4)), readO hO4 Try.isAgg41 Try.sizeOf41⟩, rfl, trivial⟩ ?_
      rw [hf]; exact ⟨rfl, (Ext.trans hx3 (Ext.store (Ext.trans hx6 hwL0) hx25 (by omega)))⟩

set_option maxHeartbeats 2000000 in
theorem ofR_ok (v : Value) (l : List Rg) (n : Int) (w : World) (hv : Rgs w v l) : FnOk Try.prog 56 [v, i64 n] w (fun r w' => r = .tuple #[agg ((ofG l n).getD Rg.zero).c, .bool (ofG l n).isSome] ∧ Ext w w') := by
  have hle := hv.le64
  refine FnOk.enterC (rs := [.cell 4 41, .tmp 5]) Try.func56 rfl Try.ntmps56 Try.results56 rfl rfl ?_
  refine WF.seq ?_
  refine WF.region ?_
  refine WL.op rfl (OW.allocO (cs := [i64 0, i64 0, i64 0, i64 0]) Try.zeroValue41 rfl ?_ (by decide))
  intro g4 wX heg4 hlg4 hO4 hx2
  have := World.grownBy.size hx2
  refine WL.va rfl rfl rfl (X.assignB rfl) ?_
  refine WL.nil ?_
  refine thn_n ?_
  refine WF.seq ?_
  refine WF.seq ?_
  refine WF.region ?_
  refine WL.va rfl rfl rfl (X.assignI rfl) ?_
  refine WL.nil ?_
  refine thn_n ?_
  refine WF.block ?_
  refine WF.named (fun F5 hF6 => ?_)
  refine WF.loopN (fun mL0 f' w' => ∃ (k : Nat), mL0 = l.length - k ∧ f' 6 = .int .i64 (k : Int) ∧ Agree [0, 1, 4] f' F5 ∧ Ext wX w' ∧ k ≤ l.length ∧ ∀ j (hj : j < l.length), j < k → (fun (r : Rg) => decide (r.Group = n)) l[j] = false) ?_ ?_
  · exact ⟨_, 0, rfl, (congrFun hF6 6), (Agree.refl _ _), (Ext.refl _), ⟨Nat.zero_le _, fun j _ hj => by omega⟩⟩
  · rintro mL0 fL0 wL0 ⟨k, hmL0, e6_L0, hAL0, hwL0, ⟨hk0, hnj⟩⟩
    have := World.grownBy.size hwL0
    refine WF.seq ?_
    refine WF.seq ?_
    refine WF.region ?_
    refine WL.va rfl rfl rfl (X.moveI e6_L0) ?_
    refine WL.va rfl rfl rfl (X.move ((hAL0.eq 0).trans (congrFun hF6 0))) ?_
    refine WL.va rfl rfl rfl (X.len hv rfl Try.underlying22) ?_
    refine WL.va rfl rfl rfl (X.lss rfl rfl) ?_
    refine WL.nil ?_
    refine thn_n ?_
    refine WF.cond rfl (fun h0_7 => ?_) (fun h0_7 => ?_)
    · have gh0_7 := (of_decide_eq_true h0_7)
      have hk : k < l.length := by omega
      refine WF.skip ?_
      refine thn_n ?_
      refine WF.seq ?_
      refine WF.block ?_
      refine WF.seq ?_
      refine WF.region ?_
      refine WL.va rfl rfl rfl (X.move ((hAL0.eq 0).trans (congrFun hF6 0))) ?_
      refine WL.va rfl rfl rfl (X.moveI e6_L0) ?_
      refine WL.va rfl rfl rfl (X.idx hv rfl rfl (by omega) Try.underlying22 Try.sizeOf41) ?_
      refine WL.va rfl rfl rfl (X.fieldAddrA rfl Try.underlying41 rfl rfl Try.sizeOf3) ?_
      refine WL.va rfl rfl rfl (X.loadE hv (Ext.trans hx2 hwL0) rfl (by omega) ((Rgs.get hk (by decide)).trans rfl) Try.isAgg3) ?_
      refine WL.va rfl rfl rfl (X.moveI ((hAL0.eq 1).trans (congrFun hF6 1))) ?_
      refine WL.va rfl rfl rfl (X.eql rfl rfl) ?_
      refine WL.nil ?_
      refine thn_n ?_
      refine WF.cond rfl (fun h1_9 => ?_) (fun h1_9 => ?_)
      · have gh1_9 := (of_decide_eq_true h1_9)
        have hf : ofG l n = some (l[k]'hk) := find_at hk (decide_eq_true gh1_9) (fun j hj hjk => hnj j hj hjk)
        refine WF.seq ?_
        refine WF.region ?_
        refine WL.va rfl rfl rfl (X.move ((hAL0.eq 0).trans (congrFun hF6 0))) ?_
        refine WL.va rfl rfl rfl (X.moveI e6_L0) ?_
        refine WL.va rfl rfl rfl (X.idx hv rfl rfl (by omega) Try.underlying22 Try.sizeOf41) ?_
        refine WL.va rfl rfl rfl (X.loadEl hv (Ext.trans hx2 hwL0) rfl (by omega) (Rgs.el (l := l) (k := k) hk) Try.isAgg41 Try.sizeOf41) ?_
        refine WL.op rfl (OW.storeOA (hO4.ext hwL0) ((hAL0.eq 4).trans (congrFun hF6 4)) rfl rfl (Rg.c_one _) Try.sizeOf41 ?_)
        intro w11 hO4 hx13
        have := World.grownBy.size hx13
        refine WL.va rfl rfl rfl (X.assignB rfl) ?_
        refine WL.nil ?_
        refine thn_n ?_
        refine WF.ret ?_
        refine blk_r ?_
        refine thn_r ?_
        refine thn_r ?_
        refine blk_r ?_
        refine thn_r ?_
        refine finC_r (vs := [_, _]) ⟨⟨_, ((hAL0.eq 4).trans (congrFun hF6 4)), readO hO4 Try.isAgg41 Try.sizeOf41⟩, rfl, trivial⟩ ?_
        rw [hf]; exact ⟨rfl, (Ext.store (Ext.trans hx2 hwL0) hx13 (by omega))⟩
      · have gh1_9 := (of_decide_eq_false h1_9)
        have hno : (fun (r : Rg) => decide (r.Group = n)) (l[k]'hk) = false := decide_eq_false gh1_9
        refine WF.skip ?_
        refine blk_n ?_
        refine thn_n ?_
        refine WF.region ?_
        refine WL.va rfl rfl rfl (X.moveI e6_L0) ?_
        refine WL.va rfl rfl rfl (X.add rfl rfl (w64 (by omega))) ?_
        refine WL.va rfl rfl rfl (X.assignI rfl) ?_
        refine WL.nil ?_
        exact thn_n ⟨_, (by omega), k + 1, rfl, rfl, (by repeat (first | exact hAL0 | refine Agree.put ?_ rfl | refine Agree.named hF6 ?_)), hwL0, ⟨by omega, fun j hj1 hj2 => by rcases Nat.lt_succ_iff_lt_or_eq.1 hj2 with h | rfl; exact hnj j hj1 h; exact hno⟩⟩
    · have gh0_7 := (of_decide_eq_false h0_7)
      have hf : ofG l n = none := find_no fun j hj => hnj j hj (by omega)
      refine WF.exit ?_
      refine thn_x ?_
      refine thn_x ?_
      refine blk_eq ?_
      refine thn_n ?_
      refine WF.seq ?_
      refine WF.region ?_
      refine WL.va rfl rfl rfl (X.buildL (P := Try.prog) (t := 41) (cs := (Rg.c Rg.zero)) evp_nil Try.type41 Try.underlying41 rfl rfl trivial rfl) ?_
      refine WL.op rfl (OW.storeOA (hO4.ext hwL0) ((hAL0.eq 4).trans (congrFun hF6 4)) rfl rfl (Rg.c_one Rg.zero) Try.sizeOf41 ?_)
      intro w16 hO4 hx18
      have := World.grownBy.size hx18
      replace hO4 : Blk _ _ _ (Rg.c Rg.zero) := hO4
      refine WL.va rfl rfl rfl (X.assignB rfl) ?_
      refine WL.nil ?_
      refine thn_n ?_
      refine WF.ret ?_
      refine finC_r (vs := [_, _]) ⟨⟨_, ((hAL0.eq 4).trans (congrFun hF6 4)), readO hO4 Try.isAgg41 Try.sizeOf41⟩, rfl, trivial⟩ ?_
      rw [hf]; exact ⟨rfl, (Ext.store (Ext.trans hx2 hwL0) hx18 (by omega))⟩

theorem copyMap_ok (m : Mp) (v : Value) (w : World) (hv : Rgs w v m.R) (hz : m.R.length ≤ 1000000) : FnOk Try.prog 14 [agg (m.c v)] w (fun r w' => (∃ u, r = agg (m.c u) ∧ OwnR w' w.heap.size 41 u m.R) ∧ Ext w w') := by
  refine FnOk.enterC (rs := [.cell 2 26]) Try.func14 rfl Try.ntmps14 Try.results14 rfl rfl ?_
  refine WF.seq ?_
  refine WF.region ?_
  refine WL.op rfl (OW.boxA (cs := (m.c v)) rfl ?_ (by decide))
  intro g1 w1 heg1 hlg1 hO1 hx3
  have := World.grownBy.size hx3
  refine WL.op rfl (OW.allocO (cs := [.slice none 0 0, i64 0, i64 0, i64 0, i64 0, i64 0, i64 0]) Try.zeroValue26 rfl ?_ (by decide))
  intro g2 w5 heg2 hlg2 hO2 hx7
  have := World.grownBy.size hx7
  refine WL.nil ?_
  refine thn_n ?_
  refine WF.seq ?_
  refine WF.region ?_
  refine WL.va rfl rfl rfl (X.fieldAddrO (off := 0) rfl Try.underlying26 rfl rfl Try.sizeOf22) ?_
  refine WL.va rfl rfl rfl (X.loadO hO1 hx7 rfl rfl Try.isAgg22) ?_
  have hzu := ((show Ext w w5 from (Ext.trans hx3 hx7))).size
  refine WL.c rfl rfl rfl (X.call Try.call53 (evl_cons rfl evl_nil)) (copyRanges_ok _ _ _ (Row.ext hv (Ext.trans hx3 hx7)) hz) ?_
  rintro vu w9 ⟨ou, hx10⟩
  have := World.grownBy.size hx10
  refine WL.va rfl rfl rfl (X.fieldAddrO (off := 0) rfl Try.underlying26 rfl rfl Try.sizeOf22) ?_
  refine WL.op rfl (OW.storeO (hO1.ext (Ext.trans hx7 hx10)) (Nat.le_of_ble_eq_true rfl) rfl rfl (own_one ou) Try.sizeOf22 ?_)
  intro w11 hO1 hx13
  have := World.grownBy.size hx13
  replace hO2 := (hO2.ext hx10).keptO hx13 (by omega)
  replace ou := own_keptO ou hx13 (by omega)
  replace hO1 : Blk _ _ _ (m.c vu) := hO1
  refine WL.nil ?_
  refine thn_n ?_
  refine WF.seq ?_
  refine WF.region ?_
  refine WL.va rfl rfl rfl (X.loadOA hO1 (Ext.refl _) rfl rfl Try.isAgg26 Try.sizeOf26) ?_
  refine WL.op rfl (OW.storeOA hO2 rfl rfl rfl (Mp.c_one (Row.of_own ou) m) Try.sizeOf26 ?_)
  intro w15 hO2 hx17
  have := World.grownBy.size hx17
  replace hO1 := hO1.keptO hx17 (by omega)
  replace ou := own_keptO ou hx17 (by omega)
  refine WL.nil ?_
  refine thn_n ?_
  refine WF.ret ?_
  refine finC_r (vs := [_]) ⟨⟨_, rfl, readO hO2 Try.isAgg26 Try.sizeOf26⟩, trivial⟩ ?_
  exact ⟨⟨_, rfl, own_mono ou (by omega)⟩, (Ext.store (Ext.store (Ext.trans (Ext.trans hx3 hx7) hx10) hx13 (by omega)) hx17 (by omega))⟩

set_option maxHeartbeats 1000000 in
theorem sameMap_ok (a b : Mp) (va vb : Value) (w : World) (ha : Rgs w va a.R) (hb : Rgs w vb b.R) : FnOk Try.prog 19 [agg (a.c va), agg (b.c vb)] w (fun r w' => r = .bool (decide (a = b)) ∧ Ext w w') := by
  refine FnOk.enter (rs := [4]) Try.func19 rfl Try.ntmps19 Try.results19 rfl rfl ?_
  refine WF.seq ?_
  refine WF.region ?_
  refine WL.op rfl (OW.boxA (cs := (a.c va)) rfl ?_ (by decide))
  intro g2 w1 heg2 hlg2 hO2 hx3
  have := World.grownBy.size hx3
  refine WL.op rfl (OW.boxA (cs := (b.c vb)) rfl ?_ (by decide))
  intro g3 w5 heg3 hlg3 hO3 hx7
  have := World.grownBy.size hx7
  refine WL.va rfl rfl rfl (X.assignB rfl) ?_
  refine WL.nil ?_
  refine thn_n ?_
  refine WF.seq ?_
  refine WF.region ?_
  refine WL.va rfl rfl rfl (X.fieldAddrO (off := 0) rfl Try.underlying26 rfl rfl Try.sizeOf22) ?_
  refine WL.va rfl rfl rfl (X.loadO hO2 hx7 rfl rfl Try.isAgg22) ?_
  refine WL.va rfl rfl rfl (X.fieldAddrO (off := 0) rfl Try.underlying26 rfl rfl Try.sizeOf22) ?_
  refine WL.va rfl rfl rfl (X.loadO hO3 (Ext.refl _) rfl rfl Try.isAgg22) ?_
  refine WL.c rfl rfl rfl (X.call Try.call21 (evl_cons rfl (evl_cons rfl evl_nil))) (sameRanges_ok _ _ _ _ _ (Row.ext ha (Ext.trans hx3 hx7)) (Row.ext hb (Ext.trans hx3 hx7))) ?_
  rintro v11 w10 ⟨rfl, hx12⟩
  have := World.grownBy.size hx12
  refine WL.va rfl rfl rfl (X.moveB rfl) ?_
  refine WL.split (j := 5) rfl (fun h14 => ?_) (fun h14 => ?_)
  · have gh14 := (of_decide_eq_true h14)
    have q1 : a.R = b.R := gh14
    refine WL.vg rfl (congrArg some h14) rfl rfl (X.fieldAddrO (off := 1) rfl Try.underlying26 rfl rfl Try.sizeOf3) ?_
    refine WL.vg rfl (congrArg some h14) rfl rfl (X.loadO hO2 (Ext.trans hx7 hx12) rfl rfl Try.isAgg3) ?_
    refine WL.vg rfl (congrArg some h14) rfl rfl (X.fieldAddrO (off := 1) rfl Try.underlying26 rfl rfl Try.sizeOf3) ?_
    refine WL.vg rfl (congrArg some h14) rfl rfl (X.loadO hO3 hx12 rfl rfl Try.isAgg3) ?_
    refine WL.vg rfl (congrArg some h14) rfl rfl (X.eql rfl rfl) ?_
    refine WL.va rfl rfl rfl (X.pickT rfl h14 rfl) ?_
    refine WL.va rfl rfl rfl (X.moveB rfl) ?_
    refine WL.split (j := 12) rfl (fun h16 => ?_) (fun h16 => ?_)
    · have gh16 := (of_decide_eq_true h16)
      have q2 : a.E = b.E := gh16
      refine WL.vg rfl (congrArg some h16) rfl rfl (X.fieldAddrO (off := 2) rfl Try.underlying26 rfl rfl Try.sizeOf24) ?_
      refine WL.vg rfl (congrArg some h16) rfl rfl (X.loadOP hO2 (Ext.trans hx7 hx12) rfl rfl rfl Try.isAgg24 Try.sizeOf24) ?_
      refine WL.vg rfl (congrArg some h16) rfl rfl (X.fieldAddrO (off := 2) rfl Try.underlying26 rfl rfl Try.sizeOf24) ?_
      refine WL.vg rfl (congrArg some h16) rfl rfl (X.loadOP hO3 hx12 rfl rfl rfl Try.isAgg24 Try.sizeOf24) ?_
      refine WL.vg rfl (congrArg some h16) rfl rfl (X.eqlA (na := a.M.ints) (nb := b.M.ints) flatM fieldsM offsM rfl rfl rfl rfl (Mv.eqB _ _)) ?_
      refine WL.va rfl rfl rfl (X.pickT rfl h16 rfl) ?_
      refine WL.va rfl rfl rfl (X.assignB rfl) ?_
      refine WL.nil ?_
      refine thn_n ?_
      refine WF.ret ?_
      refine fin_r ?_
      first | exact ⟨congrArg Value.bool (decide_eq_false hne).symm, (Ext.trans (Ext.trans hx3 hx7) hx12)⟩ | exact ⟨congrArg Value.bool (decide_eq_decide.2 (by rw [Mp.eq_iff]; exact ⟨fun e => ⟨q1, q2, e⟩, fun e => e.2.2⟩)), (Ext.trans (Ext.trans hx3 hx7) hx12)⟩
    · have gh16 := (of_decide_eq_false h16)
      have hne : a ≠ b := fun e => gh16 (by rw [e])
      refine WL.p rfl rfl rfl (congrArg some h16) ?_
      refine WL.p rfl rfl rfl (congrArg some h16) ?_
      refine WL.p rfl rfl rfl (congrArg some h16) ?_
      refine WL.p rfl rfl rfl (congrArg some h16) ?_
      refine WL.p rfl rfl rfl (congrArg some h16) ?_
      refine WL.va rfl rfl rfl (X.pickF rfl h16 rfl) ?_
      refine WL.va rfl rfl rfl (X.assignB rfl) ?_
      refine WL.nil ?_
      refine thn_n ?_
      refine WF.ret ?_
      refine fin_r ?_
      first | exact ⟨congrArg Value.bool (decide_eq_false hne).symm, (Ext.trans (Ext.trans hx3 hx7) hx12)⟩ | exact ⟨congrArg Value.bool (decide_eq_decide.2 (by rw [Mp.eq_iff]; exact ⟨fun e => ⟨q1, q2, e⟩, fun e => e.2.2⟩)), (Ext.trans (Ext.trans hx3 hx7) hx12)⟩
  · have gh14 := (of_decide_eq_false h14)
    have hne : a ≠ b := fun e => gh14 (by rw [e])
    refine WL.p rfl rfl rfl (congrArg some h14) ?_
    refine WL.p rfl rfl rfl (congrArg some h14) ?_
    refine WL.p rfl rfl rfl (congrArg some h14) ?_
    refine WL.p rfl rfl rfl (congrArg some h14) ?_
    refine WL.p rfl rfl rfl (congrArg some h14) ?_
    refine WL.va rfl rfl rfl (X.pickF rfl h14 rfl) ?_
    refine WL.va rfl rfl rfl (X.moveB rfl) ?_
    refine WL.p rfl rfl rfl rfl ?_
    refine WL.p rfl rfl rfl rfl ?_
    refine WL.p rfl rfl rfl rfl ?_
    refine WL.p rfl rfl rfl rfl ?_
    refine WL.p rfl rfl rfl rfl ?_
    refine WL.va rfl rfl rfl (X.pickF rfl rfl rfl) ?_
    refine WL.va rfl rfl rfl (X.assignB rfl) ?_
    refine WL.nil ?_
    refine thn_n ?_
    refine WF.ret ?_
    refine fin_r ?_
    first | exact ⟨congrArg Value.bool (decide_eq_false hne).symm, (Ext.trans (Ext.trans hx3 hx7) hx12)⟩ | exact ⟨congrArg Value.bool (decide_eq_decide.2 (by rw [Mp.eq_iff]; exact ⟨fun e => ⟨q1, q2, e⟩, fun e => e.2.2⟩)), (Ext.trans (Ext.trans hx3 hx7) hx12)⟩

theorem planned_in {m : Mp} {x : Mv} (n0 : ¬ 0 < m.M.Epoch) (h : (ofG m.R x.From).isSome = true) : planned m x = if badR ((ofG m.R x.From).getD Rg.zero) x then 3 else if badG x then 27 else if orderB m.R x then 15 else if 1099511627776 ≤ m.E then 17 else 0 := by
  unfold planned
  rw [if_neg n0]
  cases hf : ofG m.R x.From with
  | none => rw [hf] at h; cases h
  | some f => rfl
theorem planned_six {m : Mp} {x : Mv} (n0 : ¬ 0 < m.M.Epoch) (h : (ofG m.R x.From).isSome = false) : planned m x = 6 := by
  unfold planned
  rw [if_neg n0]
  cases hf : ofG m.R x.From with
  | none => rfl
  | some f => rw [hf] at h; cases h
theorem order_in {l : List Rg} {x : Mv} (h : (ofG l x.To).isSome = true) : orderB l x = (decide (((ofG l x.To).getD Rg.zero).Hi ≠ x.Lo) && decide (((ofG l x.To).getD Rg.zero).Lo ≠ x.Hi)) := by
  unfold orderB
  cases hf : ofG l x.To with
  | none => rw [hf] at h; cases h
  | some f => rfl
theorem order_no {l : List Rg} {x : Mv} (h : (ofG l x.To).isSome = false) : orderB l x = false := by
  unfold orderB
  cases hf : ofG l x.To with
  | none => rfl
  | some f => rw [hf] at h; cases h
theorem planM_c {m : Mp} {x : Mv} {c : Int} (h : planned m x = c) (hc : c ≠ 0) : planM m x = (Mp.zero, c) := by rw [planM_no (by rw [h]; exact hc), h]
set_option maxHeartbeats 4000000 in
theorem planR_ok (m : Mp) (v : Value) (x : Mv) (w : World) (hv : Rgs w v m.R) (hz : m.R.length ≤ 1000000) (hE : -9223372036854775808 ≤ m.E) : FnOk Try.prog 16 [agg (m.c v), agg x.c] w (fun r w' => (∃ u, r = .tuple #[agg ((planM m x).1.c u), i64 (planM m x).2] ∧ OwnR w' w.heap.size 41 u (planM m x).1.R) ∧ Ext w w') := by
  refine FnOk.enterC (rs := [.cell 4 26, .tmp 5]) Try.func16 rfl Try.ntmps16 Try.results16 rfl rfl ?_
  refine WF.seq ?_
  refine WF.region ?_
  refine WL.op rfl (OW.boxA (cs := (m.c v)) rfl ?_ (by decide))
  intro g2 w1 heg2 hlg2 hO2 hx3
  have := World.grownBy.size hx3
  refine WL.op rfl (OW.boxA (cs := (Mv.c x)) rfl ?_ (by decide))
  intro g3 w5 heg3 hlg3 hO3 hx7
  have := World.grownBy.size hx7
  refine WL.op rfl (OW.allocO (cs := [.slice none 0 0, i64 0, i64 0, i64 0, i64 0, i64 0, i64 0]) Try.zeroValue26 rfl ?_ (by decide))
  intro g4 w9 heg4 hlg4 hO4 hx11
  have := World.grownBy.size hx11
  refine WL.va rfl rfl rfl (X.assignI rfl) ?_
  refine WL.nil ?_
  refine thn_n ?_
  refine WF.seq ?_
  refine WF.seq ?_
  refine WF.region ?_
  refine WL.va rfl rfl rfl (X.fieldAddrO (off := 2) rfl Try.underlying26 rfl rfl Try.sizeOf24) ?_
  refine WL.va rfl rfl rfl (X.fieldAddrP (off := 0) rfl Try.underlying24 rfl rfl Try.sizeOf3) ?_
  refine WL.va rfl rfl rfl (X.loadO hO2 (Ext.trans hx7 hx11) rfl rfl Try.isAgg3) ?_
  refine WL.va rfl rfl rfl (X.gtr rfl rfl) ?_
  refine WL.nil ?_
  refine thn_n ?_
  refine WF.cond rfl (fun h0_13 => ?_) (fun h0_13 => ?_)
  · have gh0_13 := (of_decide_eq_true h0_13)
    have hp := planM_c (c := 11) (m := m) (x := x) (if_pos gh0_13) (by decide)
    refine WF.seq ?_
    refine WF.region ?_
    refine WL.va rfl rfl rfl (X.buildL (P := Try.prog) (t := 26) (cs := (Mp.c Mp.zero nilS)) evp_nil Try.type26 Try.underlying26 rfl rfl trivial rfl) ?_
    refine WL.op rfl (OW.storeOA hO4 rfl rfl rfl (Mp.c_one (Rgs.nil w) Mp.zero) Try.sizeOf26 ?_)
    intro w15 hO4 hx17
    have := World.grownBy.size hx17
    replace hO2 := (hO2.ext (Ext.trans hx7 hx11)).keptO hx17 (by omega)
    replace hO3 := (hO3.ext hx11).keptO hx17 (by omega)
    replace hO4 : Blk _ _ _ (Mp.c Mp.zero nilS) := hO4
    refine WL.va rfl rfl rfl (X.assignI rfl) ?_
    refine WL.nil ?_
    refine thn_n ?_
    refine WF.ret ?_
    refine thn_r ?_
    refine finC_r (vs := [_, _]) ⟨⟨_, rfl, readO hO4 Try.isAgg26 Try.sizeOf26⟩, rfl, trivial⟩ ?_
    rw [hp]; exact ⟨⟨_, rfl, OwnR.nil _ _ _⟩, (Ext.trans (Ext.trans hx3 hx7) (Ext.store hx11 hx17 (by omega)))⟩
  · have gh0_13 := (of_decide_eq_false h0_13)
    have n0 : ¬ 0 < m.M.Epoch := gh0_13
    refine WF.skip ?_
    refine thn_n ?_
    refine WF.seq ?_
    refine WF.region ?_
    refine WL.va rfl rfl rfl (X.fieldAddrO (off := 0) rfl Try.underlying26 rfl rfl Try.sizeOf22) ?_
    refine WL.va rfl rfl rfl (X.loadO hO2 (Ext.trans hx7 hx11) rfl rfl Try.isAgg22) ?_
    refine WL.va rfl rfl rfl (X.fieldAddrO (off := 1) rfl Try.underlying24 rfl rfl Try.sizeOf3) ?_
    refine WL.va rfl rfl rfl (X.loadO hO3 hx11 rfl rfl Try.isAgg3) ?_
    refine WL.c rfl rfl rfl (X.call Try.call56 (evl_cons rfl (evl_cons rfl evl_nil))) (ofR_ok _ _ _ _ (Row.ext hv (Ext.trans (Ext.trans hx3 hx7) hx11))) ?_
    rintro v20 w19 ⟨rfl, hx21⟩
    have := World.grownBy.size hx21
    refine WL.va rfl rfl rfl (X.move rfl) ?_
    refine WL.va rfl rfl rfl (X.extract rfl rfl) ?_
    refine WL.va rfl rfl rfl (X.extract rfl rfl) ?_
    refine WL.op rfl (OW.allocO (cs := [i64 0, i64 0, i64 0, i64 0]) Try.zeroValue41 rfl ?_ (by decide))
    intro g6 w23 heg6 hlg6 hO6 hx25
    have := World.grownBy.size hx25
    refine WL.op rfl (OW.storeOA hO6 rfl rfl rfl (Rg.c_one _) Try.sizeOf41 ?_)
    intro w27 hO6 hx29
    have := World.grownBy.size hx29
    replace hO2 := (hO2.ext (Ext.trans (Ext.trans (Ext.trans hx7 hx11) hx21) hx25)).keptO hx29 (by omega)
    replace hO3 := (hO3.ext (Ext.trans (Ext.trans hx11 hx21) hx25)).keptO hx29 (by omega)
    replace hO4 := (hO4.ext (Ext.trans hx21 hx25)).keptO hx29 (by omega)
    refine WL.va rfl rfl rfl (X.assignB rfl) ?_
    refine WL.nil ?_
    refine thn_n ?_
    refine WF.seq ?_
    refine WF.seq ?_
    refine WF.region ?_
    refine WL.va rfl rfl rfl (X.moveB rfl) ?_
    refine WL.va rfl rfl rfl (X.not rfl) ?_
    refine WL.nil ?_
    refine thn_n ?_
    refine WF.cond rfl (fun h1_31 => ?_) (fun h1_31 => ?_)
    · have gh1_31 := (nt h1_31)
      have hp := planM_c (planned_six n0 gh1_31) (by decide)
      refine WF.seq ?_
      refine WF.region ?_
      refine WL.va rfl rfl rfl (X.buildL (P := Try.prog) (t := 26) (cs := (Mp.c Mp.zero nilS)) evp_nil Try.type26 Try.underlying26 rfl rfl trivial rfl) ?_
      refine WL.op rfl (OW.storeOA hO4 rfl rfl rfl (Mp.c_one (Rgs.nil w) Mp.zero) Try.sizeOf26 ?_)
      intro w33 hO4 hx35
      have := World.grownBy.size hx35
      replace hO2 := hO2.keptO hx35 (by omega)
      replace hO3 := hO3.keptO hx35 (by omega)
      replace hO6 := hO6.keptO hx35 (by omega)
      replace hO4 : Blk _ _ _ (Mp.c Mp.zero nilS) := hO4
      refine WL.va rfl rfl rfl (X.assignI rfl) ?_
      refine WL.nil ?_
      refine thn_n ?_
      refine WF.ret ?_
      refine thn_r ?_
      refine finC_r (vs := [_, _]) ⟨⟨_, rfl, readO hO4 Try.isAgg26 Try.sizeOf26⟩, rfl, trivial⟩ ?_
      rw [hp]; exact ⟨⟨_, rfl, OwnR.nil _ _ _⟩, (Ext.trans (Ext.trans hx3 hx7) (Ext.store (Ext.trans (Ext.trans hx11 hx21) (Ext.store hx25 hx29 (by omega))) hx35 (by omega)))⟩
    · have gh1_31 := (nf h1_31)
      have hq0 := planned_in n0 gh1_31
      refine WF.skip ?_
      refine thn_n ?_
      refine WF.seq ?_
      refine WF.named (fun F37 hF38 => ?_)
      refine WF.cut (fun f' w' => f' 59 = .bool (badR ((ofG m.R x.From).getD Rg.zero) x) ∧ Agree [0, 1, 2, 3, 4, 5, 6, 7, 11, 12, 13, 14, 16, 17, 18, 19, 20, 21, 22, 23, 24, 25] f' F37 ∧ w27 = w') ?_ ?_
      · refine WF.region ?_
        refine WL.va rfl rfl rfl (X.fieldAddrO (off := 3) (congrFun hF38 3) Try.underlying24 rfl rfl Try.sizeOf3) ?_
        refine WL.va rfl rfl rfl (X.loadO hO3 (Ext.refl _) rfl rfl Try.isAgg3) ?_
        refine WL.va rfl rfl rfl (X.fieldAddrO (off := 4) (congrFun hF38 3) Try.underlying24 rfl rfl Try.sizeOf3) ?_
        refine WL.va rfl rfl rfl (X.loadO hO3 (Ext.refl _) rfl rfl Try.isAgg3) ?_
        refine WL.va rfl rfl rfl (X.geq rfl rfl) ?_
        refine WL.va rfl rfl rfl (X.moveB rfl) ?_
        refine WL.split (j := 5) rfl (fun h40 => ?_) (fun h40 => ?_)
        · have gh40 := (of_decide_eq_true h40)
          refine WL.p rfl rfl rfl (congrArg some h40) ?_
          refine WL.p rfl rfl rfl (congrArg some h40) ?_
          refine WL.p rfl rfl rfl (congrArg some h40) ?_
          refine WL.p rfl rfl rfl (congrArg some h40) ?_
          refine WL.p rfl rfl rfl (congrArg some h40) ?_
          refine WL.va rfl rfl rfl (X.pickT rfl h40 rfl) ?_
          refine WL.va rfl rfl rfl (X.moveB rfl) ?_
          refine WL.p rfl rfl rfl rfl ?_
          refine WL.p rfl rfl rfl rfl ?_
          refine WL.p rfl rfl rfl rfl ?_
          refine WL.p rfl rfl rfl rfl ?_
          refine WL.p rfl rfl rfl rfl ?_
          refine WL.va rfl rfl rfl (X.pickT rfl rfl rfl) ?_
          refine WL.va rfl rfl rfl (X.moveB rfl) ?_
          refine WL.p rfl rfl rfl rfl ?_
          refine WL.p rfl rfl rfl rfl ?_
          refine WL.p rfl rfl rfl rfl ?_
          refine WL.p rfl rfl rfl rfl ?_
          refine WL.p rfl rfl rfl rfl ?_
          refine WL.p rfl rfl rfl rfl ?_
          refine WL.pn rfl rfl rfl rfl ?_
          refine WL.pn rfl rfl rfl rfl ?_
          refine WL.pn rfl rfl rfl rfl ?_
          refine WL.pn rfl rfl rfl rfl ?_
          refine WL.pn rfl rfl rfl rfl ?_
          refine WL.p rfl rfl rfl rfl ?_
          refine WL.va rfl rfl rfl (X.pickT rfl rfl rfl) ?_
          refine WL.nil ?_
          refine thn_n ?_
          exact ⟨(congrArg Value.bool (by rw [Bool.eq_iff_iff]; simp [badR] <;> omega)), (by repeat (first | exact (Agree.refl _ F37) | refine Agree.put ?_ rfl | refine Agree.named hF38 ?_)), rfl⟩
        · have gh40 := (of_decide_eq_false h40)
          refine WL.vg rfl (congrArg some h40) rfl rfl (X.fieldAddrO (off := 3) (congrFun hF38 3) Try.underlying24 rfl rfl Try.sizeOf3) ?_
          refine WL.vg rfl (congrArg some h40) rfl rfl (X.loadO hO3 (Ext.refl _) rfl rfl Try.isAgg3) ?_
          refine WL.vg rfl (congrArg some h40) rfl rfl (X.fieldAddrO (off := 0) (congrFun hF38 6) Try.underlying41 rfl rfl Try.sizeOf3) ?_
          refine WL.vg rfl (congrArg some h40) rfl rfl (X.loadO hO6 (Ext.refl _) rfl rfl Try.isAgg3) ?_
          refine WL.vg rfl (congrArg some h40) rfl rfl (X.lss rfl rfl) ?_
          refine WL.va rfl rfl rfl (X.pickF rfl h40 rfl) ?_
          refine WL.va rfl rfl rfl (X.moveB rfl) ?_
          refine WL.split (j := 12) rfl (fun h45 => ?_) (fun h45 => ?_)
          · have gh45 := (of_decide_eq_true h45)
            refine WL.p rfl rfl rfl (congrArg some h45) ?_
            refine WL.p rfl rfl rfl (congrArg some h45) ?_
            refine WL.p rfl rfl rfl (congrArg some h45) ?_
            refine WL.p rfl rfl rfl (congrArg some h45) ?_
            refine WL.p rfl rfl rfl (congrArg some h45) ?_
            refine WL.va rfl rfl rfl (X.pickT rfl h45 rfl) ?_
            refine WL.va rfl rfl rfl (X.moveB rfl) ?_
            refine WL.p rfl rfl rfl rfl ?_
            refine WL.p rfl rfl rfl rfl ?_
            refine WL.p rfl rfl rfl rfl ?_
            refine WL.p rfl rfl rfl rfl ?_
            refine WL.p rfl rfl rfl rfl ?_
            refine WL.p rfl rfl rfl rfl ?_
            refine WL.pn rfl rfl rfl rfl ?_
            refine WL.pn rfl rfl rfl rfl ?_
            refine WL.pn rfl rfl rfl rfl ?_
            refine WL.pn rfl rfl rfl rfl ?_
            refine WL.pn rfl rfl rfl rfl ?_
            refine WL.p rfl rfl rfl rfl ?_
            refine WL.va rfl rfl rfl (X.pickT rfl rfl rfl) ?_
            refine WL.nil ?_
            refine thn_n ?_
            exact ⟨(congrArg Value.bool (by rw [Bool.eq_iff_iff]; simp [badR] <;> omega)), (by repeat (first | exact (Agree.refl _ F37) | refine Agree.put ?_ rfl | refine Agree.named hF38 ?_)), rfl⟩
          · have gh45 := (of_decide_eq_false h45)
            refine WL.vg rfl (congrArg some h45) rfl rfl (X.fieldAddrO (off := 4) (congrFun hF38 3) Try.underlying24 rfl rfl Try.sizeOf3) ?_
            refine WL.vg rfl (congrArg some h45) rfl rfl (X.loadO hO3 (Ext.refl _) rfl rfl Try.isAgg3) ?_
            refine WL.vg rfl (congrArg some h45) rfl rfl (X.fieldAddrO (off := 1) (congrFun hF38 6) Try.underlying41 rfl rfl Try.sizeOf3) ?_
            refine WL.vg rfl (congrArg some h45) rfl rfl (X.loadO hO6 (Ext.refl _) rfl rfl Try.isAgg3) ?_
            refine WL.vg rfl (congrArg some h45) rfl rfl (X.gtr rfl rfl) ?_
            refine WL.va rfl rfl rfl (X.pickF rfl h45 rfl) ?_
            refine WL.va rfl rfl rfl (X.moveB rfl) ?_
            refine WL.split (j := 19) rfl (fun h49 => ?_) (fun h49 => ?_)
            · have gh49 := (of_decide_eq_true h49)
              refine WL.p rfl rfl rfl (congrArg some h49) ?_
              refine WL.p rfl rfl rfl (congrArg some h49) ?_
              refine WL.p rfl rfl rfl (congrArg some h49) ?_
              refine WL.p rfl rfl rfl (congrArg some h49) ?_
              refine WL.p rfl rfl rfl (congrArg some h49) ?_
              refine WL.p rfl rfl rfl (congrArg some h49) ?_
              refine WL.pn rfl rfl rfl rfl ?_
              refine WL.pn rfl rfl rfl rfl ?_
              refine WL.pn rfl rfl rfl rfl ?_
              refine WL.pn rfl rfl rfl rfl ?_
              refine WL.pn rfl rfl rfl rfl ?_
              refine WL.p rfl rfl rfl (congrArg some h49) ?_
              refine WL.va rfl rfl rfl (X.pickT rfl h49 rfl) ?_
              refine WL.nil ?_
              refine thn_n ?_
              exact ⟨(congrArg Value.bool (by rw [Bool.eq_iff_iff]; simp [badR] <;> omega)), (by repeat (first | exact (Agree.refl _ F37) | refine Agree.put ?_ rfl | refine Agree.named hF38 ?_)), rfl⟩
            · have gh49 := (of_decide_eq_false h49)
              refine WL.vg rfl (congrArg some h49) rfl rfl (X.fieldAddrO (off := 3) (congrFun hF38 3) Try.underlying24 rfl rfl Try.sizeOf3) ?_
              refine WL.vg rfl (congrArg some h49) rfl rfl (X.loadO hO3 (Ext.refl _) rfl rfl Try.isAgg3) ?_
              refine WL.vg rfl (congrArg some h49) rfl rfl (X.fieldAddrO (off := 0) (congrFun hF38 6) Try.underlying41 rfl rfl Try.sizeOf3) ?_
              refine WL.vg rfl (congrArg some h49) rfl rfl (X.loadO hO6 (Ext.refl _) rfl rfl Try.isAgg3) ?_
              refine WL.vg rfl (congrArg some h49) rfl rfl (X.neq rfl rfl) ?_
              refine WL.vg rfl (congrArg some h49) rfl rfl (X.moveB rfl) ?_
              refine WL.split (j := 25) rfl (fun h52 => ?_) (fun h52 => ?_)
              · have gh52 := (of_decide_eq_true h52)
                refine WL.vg rfl (congrArg some h52) rfl rfl (X.fieldAddrO (off := 4) (congrFun hF38 3) Try.underlying24 rfl rfl Try.sizeOf3) ?_
                refine WL.vg rfl (congrArg some h52) rfl rfl (X.loadO hO3 (Ext.refl _) rfl rfl Try.isAgg3) ?_
                refine WL.vg rfl (congrArg some h52) rfl rfl (X.fieldAddrO (off := 1) (congrFun hF38 6) Try.underlying41 rfl rfl Try.sizeOf3) ?_
                refine WL.vg rfl (congrArg some h52) rfl rfl (X.loadO hO6 (Ext.refl _) rfl rfl Try.isAgg3) ?_
                refine WL.vg rfl (congrArg some h52) rfl rfl (X.neq rfl rfl) ?_
                refine WL.vg rfl (congrArg some h49) rfl rfl (X.pickT rfl h52 rfl) ?_
                refine WL.va rfl rfl rfl (X.pickF rfl h49 rfl) ?_
                refine WL.nil ?_
                refine thn_n ?_
                exact ⟨(congrArg Value.bool (by rw [Bool.eq_iff_iff]; simp [badR] <;> omega)), (by repeat (first | exact (Agree.refl _ F37) | refine Agree.put ?_ rfl | refine Agree.named hF38 ?_)), rfl⟩
              · have gh52 := (Decidable.of_not_not (of_decide_eq_false h52))
                refine WL.p rfl rfl rfl (congrArg some h52) ?_
                refine WL.p rfl rfl rfl (congrArg some h52) ?_
                refine WL.p rfl rfl rfl (congrArg some h52) ?_
                refine WL.p rfl rfl rfl (congrArg some h52) ?_
                refine WL.p rfl rfl rfl (congrArg some h52) ?_
                refine WL.vg rfl (congrArg some h49) rfl rfl (X.pickF rfl h52 rfl) ?_
                refine WL.va rfl rfl rfl (X.pickF rfl h49 rfl) ?_
                refine WL.nil ?_
                refine thn_n ?_
                exact ⟨(congrArg Value.bool (by rw [Bool.eq_iff_iff]; simp [badR] <;> omega)), (by repeat (first | exact (Agree.refl _ F37) | refine Agree.put ?_ rfl | refine Agree.named hF38 ?_)), rfl⟩
      · rintro fCr6 wCr6 ⟨e59_Cr6, hACr6, rfl⟩
        refine WF.cond e59_Cr6 (fun h2_55 => ?_) (fun h2_55 => ?_)
        · have gh2_55 := h2_55
          have hp := planM_c (hq0.trans (if_pos gh2_55)) (by decide)
          refine WF.seq ?_
          refine WF.region ?_
          refine WL.va rfl rfl rfl (X.buildL (P := Try.prog) (t := 26) (cs := (Mp.c Mp.zero nilS)) evp_nil Try.type26 Try.underlying26 rfl rfl trivial rfl) ?_
          refine WL.op rfl (OW.storeOA hO4 ((hACr6.eq 4).trans (congrFun hF38 4)) rfl rfl (Mp.c_one (Rgs.nil w) Mp.zero) Try.sizeOf26 ?_)
          intro w57 hO4 hx59
          have := World.grownBy.size hx59
          replace hO2 := hO2.keptO hx59 (by omega)
          replace hO3 := hO3.keptO hx59 (by omega)
          replace hO6 := hO6.keptO hx59 (by omega)
          replace hO4 : Blk _ _ _ (Mp.c Mp.zero nilS) := hO4
          refine WL.va rfl rfl rfl (X.assignI rfl) ?_
          refine WL.nil ?_
          refine thn_n ?_
          refine WF.ret ?_
          refine thn_r ?_
          refine finC_r (vs := [_, _]) ⟨⟨_, ((hACr6.eq 4).trans (congrFun hF38 4)), readO hO4 Try.isAgg26 Try.sizeOf26⟩, rfl, trivial⟩ ?_
          rw [hp]; exact ⟨⟨_, rfl, OwnR.nil _ _ _⟩, (Ext.trans (Ext.trans hx3 hx7) (Ext.store (Ext.trans (Ext.trans hx11 hx21) (Ext.store hx25 hx29 (by omega))) hx59 (by omega)))⟩
        · have gh2_55 := h2_55
          have hq1 := hq0.trans (if_neg (by rw [gh2_55]; simp))
          refine WF.skip ?_
          refine thn_n ?_
          refine WF.seq ?_
          refine WF.named (fun F61 hF62 => ?_)
          refine WF.cut (fun f' w' => f' 75 = .bool (badG x) ∧ Agree [0, 1, 2, 3, 4, 5, 6, 7, 11, 12, 13, 14, 16, 17, 18, 19, 20, 21, 22, 23, 24, 25, 59] f' F61 ∧ w27 = w') ?_ ?_
          · refine WF.region ?_
            refine WL.va rfl rfl rfl (X.fieldAddrO (off := 2) ((congrFun hF62 3).trans ((hACr6.eq 3).trans (congrFun hF38 3))) Try.underlying24 rfl rfl Try.sizeOf3) ?_
            refine WL.va rfl rfl rfl (X.loadO hO3 (Ext.refl _) rfl rfl Try.isAgg3) ?_
            refine WL.va rfl rfl rfl (X.lss rfl rfl) ?_
            refine WL.va rfl rfl rfl (X.moveB rfl) ?_
            refine WL.split (j := 3) rfl (fun h65 => ?_) (fun h65 => ?_)
            · have gh65 := (of_decide_eq_true h65)
              refine WL.p rfl rfl rfl (congrArg some h65) ?_
              refine WL.p rfl rfl rfl (congrArg some h65) ?_
              refine WL.p rfl rfl rfl (congrArg some h65) ?_
              refine WL.va rfl rfl rfl (X.pickT rfl h65 rfl) ?_
              refine WL.va rfl rfl rfl (X.moveB rfl) ?_
              refine WL.p rfl rfl rfl rfl ?_
              refine WL.p rfl rfl rfl rfl ?_
              refine WL.p rfl rfl rfl rfl ?_
              refine WL.p rfl rfl rfl rfl ?_
              refine WL.p rfl rfl rfl rfl ?_
              refine WL.va rfl rfl rfl (X.pickT rfl rfl rfl) ?_
              refine WL.nil ?_
              refine thn_n ?_
              exact ⟨(congrArg Value.bool (by rw [Bool.eq_iff_iff]; simp [badG] <;> omega)), (by repeat (first | exact (Agree.refl _ F61) | refine Agree.put ?_ rfl | refine Agree.sub hACr6 rfl ?_ | refine Agree.named hF62 ?_ | refine Agree.named hF38 ?_)), rfl⟩
            · have gh65 := (of_decide_eq_false h65)
              refine WL.vg rfl (congrArg some h65) rfl rfl (X.fieldAddrO (off := 2) ((congrFun hF62 3).trans ((hACr6.eq 3).trans (congrFun hF38 3))) Try.underlying24 rfl rfl Try.sizeOf3) ?_
              refine WL.vg rfl (congrArg some h65) rfl rfl (X.loadO hO3 (Ext.refl _) rfl rfl Try.isAgg3) ?_
              refine WL.vg rfl (congrArg some h65) rfl rfl (X.gtr rfl rfl) ?_
              refine WL.va rfl rfl rfl (X.pickF rfl h65 rfl) ?_
              refine WL.va rfl rfl rfl (X.moveB rfl) ?_
              refine WL.split (j := 8) rfl (fun h69 => ?_) (fun h69 => ?_)
              · have gh69 := (of_decide_eq_true h69)
                refine WL.p rfl rfl rfl (congrArg some h69) ?_
                refine WL.p rfl rfl rfl (congrArg some h69) ?_
                refine WL.p rfl rfl rfl (congrArg some h69) ?_
                refine WL.p rfl rfl rfl (congrArg some h69) ?_
                refine WL.p rfl rfl rfl (congrArg some h69) ?_
                refine WL.va rfl rfl rfl (X.pickT rfl h69 rfl) ?_
                refine WL.nil ?_
                refine thn_n ?_
                exact ⟨(congrArg Value.bool (by rw [Bool.eq_iff_iff]; simp [badG] <;> omega)), (by repeat (first | exact (Agree.refl _ F61) | refine Agree.put ?_ rfl | refine Agree.sub hACr6 rfl ?_ | refine Agree.named hF62 ?_ | refine Agree.named hF38 ?_)), rfl⟩
              · have gh69 := (of_decide_eq_false h69)
                refine WL.vg rfl (congrArg some h69) rfl rfl (X.fieldAddrO (off := 2) ((congrFun hF62 3).trans ((hACr6.eq 3).trans (congrFun hF38 3))) Try.underlying24 rfl rfl Try.sizeOf3) ?_
                refine WL.vg rfl (congrArg some h69) rfl rfl (X.loadO hO3 (Ext.refl _) rfl rfl Try.isAgg3) ?_
                refine WL.vg rfl (congrArg some h69) rfl rfl (X.fieldAddrO (off := 1) ((congrFun hF62 3).trans ((hACr6.eq 3).trans (congrFun hF38 3))) Try.underlying24 rfl rfl Try.sizeOf3) ?_
                refine WL.vg rfl (congrArg some h69) rfl rfl (X.loadO hO3 (Ext.refl _) rfl rfl Try.isAgg3) ?_
                refine WL.vg rfl (congrArg some h69) rfl rfl (X.eql rfl rfl) ?_
                refine WL.va rfl rfl rfl (X.pickF rfl h69 rfl) ?_
                refine WL.nil ?_
                refine thn_n ?_
                exact ⟨(congrArg Value.bool (by rw [Bool.eq_iff_iff]; simp [badG] <;> omega)), (by repeat (first | exact (Agree.refl _ F61) | refine Agree.put ?_ rfl | refine Agree.sub hACr6 rfl ?_ | refine Agree.named hF62 ?_ | refine Agree.named hF38 ?_)), rfl⟩
          · rintro fCr8 wCr8 ⟨e75_Cr8, hACr8, rfl⟩
            refine WF.cond e75_Cr8 (fun h3_72 => ?_) (fun h3_72 => ?_)
            · have gh3_72 := h3_72
              have hp := planM_c (hq1.trans (if_pos gh3_72)) (by decide)
              refine WF.seq ?_
              refine WF.region ?_
              refine WL.va rfl rfl rfl (X.buildL (P := Try.prog) (t := 26) (cs := (Mp.c Mp.zero nilS)) evp_nil Try.type26 Try.underlying26 rfl rfl trivial rfl) ?_
              refine WL.op rfl (OW.storeOA hO4 ((hACr8.eq 4).trans ((congrFun hF62 4).trans ((hACr6.eq 4).trans (congrFun hF38 4)))) rfl rfl (Mp.c_one (Rgs.nil w) Mp.zero) Try.sizeOf26 ?_)
              intro w74 hO4 hx76
              have := World.grownBy.size hx76
              replace hO2 := hO2.keptO hx76 (by omega)
              replace hO3 := hO3.keptO hx76 (by omega)
              replace hO6 := hO6.keptO hx76 (by omega)
              replace hO4 : Blk _ _ _ (Mp.c Mp.zero nilS) := hO4
              refine WL.va rfl rfl rfl (X.assignI rfl) ?_
              refine WL.nil ?_
              refine thn_n ?_
              refine WF.ret ?_
              refine thn_r ?_
              refine finC_r (vs := [_, _]) ⟨⟨_, ((hACr8.eq 4).trans ((congrFun hF62 4).trans ((hACr6.eq 4).trans (congrFun hF38 4)))), readO hO4 Try.isAgg26 Try.sizeOf26⟩, rfl, trivial⟩ ?_
              rw [hp]; exact ⟨⟨_, rfl, OwnR.nil _ _ _⟩, (Ext.trans (Ext.trans hx3 hx7) (Ext.store (Ext.trans (Ext.trans hx11 hx21) (Ext.store hx25 hx29 (by omega))) hx76 (by omega)))⟩
            · have gh3_72 := h3_72
              have hq2 := hq1.trans (if_neg (by rw [gh3_72]; simp))
              refine WF.skip ?_
              refine thn_n ?_
              refine WF.seq ?_
              refine WF.region ?_
              refine WL.va rfl rfl rfl (X.fieldAddrO (off := 0) ((hACr8.eq 2).trans ((congrFun hF62 2).trans ((hACr6.eq 2).trans (congrFun hF38 2)))) Try.underlying26 rfl rfl Try.sizeOf22) ?_
              refine WL.va rfl rfl rfl (X.loadO hO2 (Ext.refl _) rfl rfl Try.isAgg22) ?_
              refine WL.va rfl rfl rfl (X.fieldAddrO (off := 2) ((hACr8.eq 3).trans ((congrFun hF62 3).trans ((hACr6.eq 3).trans (congrFun hF38 3)))) Try.underlying24 rfl rfl Try.sizeOf3) ?_
              refine WL.va rfl rfl rfl (X.loadO hO3 (Ext.refl _) rfl rfl Try.isAgg3) ?_
              refine WL.c rfl rfl rfl (X.call Try.call56 (evl_cons rfl (evl_cons rfl evl_nil))) (ofR_ok _ _ _ _ (Row.ext hv (Ext.trans (Ext.trans (Ext.trans (Ext.trans hx3 hx7) hx11) hx21) (Ext.store hx25 hx29 (by omega))))) ?_
              rintro v79 w78 ⟨rfl, hx80⟩
              have := World.grownBy.size hx80
              refine WL.va rfl rfl rfl (X.move rfl) ?_
              refine WL.va rfl rfl rfl (X.extract rfl rfl) ?_
              refine WL.va rfl rfl rfl (X.extract rfl rfl) ?_
              refine WL.op rfl (OW.allocO (cs := [i64 0, i64 0, i64 0, i64 0]) Try.zeroValue41 rfl ?_ (by decide))
              intro g8 w82 heg8 hlg8 hO8 hx84
              have := World.grownBy.size hx84
              refine WL.op rfl (OW.storeOA hO8 rfl rfl rfl (Rg.c_one _) Try.sizeOf41 ?_)
              intro w86 hO8 hx88
              have := World.grownBy.size hx88
              replace hO2 := (hO2.ext (Ext.trans hx80 hx84)).keptO hx88 (by omega)
              replace hO3 := (hO3.ext (Ext.trans hx80 hx84)).keptO hx88 (by omega)
              replace hO4 := (hO4.ext (Ext.trans hx80 hx84)).keptO hx88 (by omega)
              replace hO6 := (hO6.ext (Ext.trans hx80 hx84)).keptO hx88 (by omega)
              refine WL.va rfl rfl rfl (X.assignB rfl) ?_
              refine WL.nil ?_
              refine thn_n ?_
              refine WF.seq ?_
              refine WF.named (fun F90 hF91 => ?_)
              refine WF.cut (fun f' w' => f' 99 = .bool (orderB m.R x) ∧ Agree [0, 1, 2, 3, 4, 5, 6, 7, 8, 9, 11, 12, 13, 14, 16, 17, 18, 19, 20, 21, 22, 23, 24, 25, 59, 75, 77, 78, 79, 80, 81, 82, 83, 84] f' F90 ∧ w86 = w') ?_ ?_
              · refine WF.region ?_
                refine WL.va rfl rfl rfl (X.moveB (congrFun hF91 9)) ?_
                refine WL.va rfl rfl rfl (X.moveB rfl) ?_
                refine WL.split (j := 1) rfl (fun h92 => ?_) (fun h92 => ?_)
                · have gh92 := h92
                  have o0 := gh92
                  refine WL.vg rfl (congrArg some h92) rfl rfl (X.fieldAddrO (off := 1) (congrFun hF91 8) Try.underlying41 rfl rfl Try.sizeOf3) ?_
                  refine WL.vg rfl (congrArg some h92) rfl rfl (X.loadO hO8 (Ext.refl _) rfl rfl Try.isAgg3) ?_
                  refine WL.vg rfl (congrArg some h92) rfl rfl (X.fieldAddrO (off := 3) ((congrFun hF91 3).trans ((hACr8.eq 3).trans ((congrFun hF62 3).trans ((hACr6.eq 3).trans (congrFun hF38 3))))) Try.underlying24 rfl rfl Try.sizeOf3) ?_
                  refine WL.vg rfl (congrArg some h92) rfl rfl (X.loadO hO3 (Ext.refl _) rfl rfl Try.isAgg3) ?_
                  refine WL.vg rfl (congrArg some h92) rfl rfl (X.neq rfl rfl) ?_
                  refine WL.va rfl rfl rfl (X.pickT rfl h92 rfl) ?_
                  refine WL.va rfl rfl rfl (X.moveB rfl) ?_
                  refine WL.split (j := 8) rfl (fun h94 => ?_) (fun h94 => ?_)
                  · have gh94 := (of_decide_eq_true h94)
                    have o1 : ((ofG m.R x.To).getD Rg.zero).Hi ≠ x.Lo := gh94
                    refine WL.vg rfl (congrArg some h94) rfl rfl (X.fieldAddrO (off := 0) (congrFun hF91 8) Try.underlying41 rfl rfl Try.sizeOf3) ?_
                    refine WL.vg rfl (congrArg some h94) rfl rfl (X.loadO hO8 (Ext.refl _) rfl rfl Try.isAgg3) ?_
                    refine WL.vg rfl (congrArg some h94) rfl rfl (X.fieldAddrO (off := 4) ((congrFun hF91 3).trans ((hACr8.eq 3).trans ((congrFun hF62 3).trans ((hACr6.eq 3).trans (congrFun hF38 3))))) Try.underlying24 rfl rfl Try.sizeOf3) ?_
                    refine WL.vg rfl (congrArg some h94) rfl rfl (X.loadO hO3 (Ext.refl _) rfl rfl Try.isAgg3) ?_
                    refine WL.vg rfl (congrArg some h94) rfl rfl (X.neq rfl rfl) ?_
                    refine WL.va rfl rfl rfl (X.pickT rfl h94 rfl) ?_
                    refine WL.nil ?_
                    refine thn_n ?_
                    exact ⟨(congrArg Value.bool (by first | (rw [order_no o0]) | (rw [order_in o0, decide_eq_true o1]; rfl) | (rw [order_in o0, decide_eq_false o1]; rfl))), (by repeat (first | exact (Agree.refl _ F90) | refine Agree.put ?_ rfl | refine Agree.sub hACr8 rfl ?_ | refine Agree.sub hACr6 rfl ?_ | refine Agree.named hF91 ?_ | refine Agree.named hF62 ?_ | refine Agree.named hF38 ?_)), rfl⟩
                  · have gh94 := (Decidable.of_not_not (of_decide_eq_false h94))
                    have o1 : ¬ ((ofG m.R x.To).getD Rg.zero).Hi ≠ x.Lo := fun e => e gh94
                    refine WL.p rfl rfl rfl (congrArg some h94) ?_
                    refine WL.p rfl rfl rfl (congrArg some h94) ?_
                    refine WL.p rfl rfl rfl (congrArg some h94) ?_
                    refine WL.p rfl rfl rfl (congrArg some h94) ?_
                    refine WL.p rfl rfl rfl (congrArg some h94) ?_
                    refine WL.va rfl rfl rfl (X.pickF rfl h94 rfl) ?_
                    refine WL.nil ?_
                    refine thn_n ?_
                    exact ⟨(congrArg Value.bool (by first | (rw [order_no o0]) | (rw [order_in o0, decide_eq_true o1]; rfl) | (rw [order_in o0, decide_eq_false o1]; rfl))), (by repeat (first | exact (Agree.refl _ F90) | refine Agree.put ?_ rfl | refine Agree.sub hACr8 rfl ?_ | refine Agree.sub hACr6 rfl ?_ | refine Agree.named hF91 ?_ | refine Agree.named hF62 ?_ | refine Agree.named hF38 ?_)), rfl⟩
                · have gh92 := h92
                  have o0 := gh92
                  refine WL.p rfl rfl rfl (congrArg some h92) ?_
                  refine WL.p rfl rfl rfl (congrArg some h92) ?_
                  refine WL.p rfl rfl rfl (congrArg some h92) ?_
                  refine WL.p rfl rfl rfl (congrArg some h92) ?_
                  refine WL.p rfl rfl rfl (congrArg some h92) ?_
                  refine WL.va rfl rfl rfl (X.pickF rfl h92 rfl) ?_
                  refine WL.va rfl rfl rfl (X.moveB rfl) ?_
                  refine WL.p rfl rfl rfl rfl ?_
                  refine WL.p rfl rfl rfl rfl ?_
                  refine WL.p rfl rfl rfl rfl ?_
                  refine WL.p rfl rfl rfl rfl ?_
                  refine WL.p rfl rfl rfl rfl ?_
                  refine WL.va rfl rfl rfl (X.pickF rfl rfl rfl) ?_
                  refine WL.nil ?_
                  refine thn_n ?_
                  exact ⟨(congrArg Value.bool (by first | (rw [order_no o0]) | (rw [order_in o0, decide_eq_true o1]; rfl) | (rw [order_in o0, decide_eq_false o1]; rfl))), (by repeat (first | exact (Agree.refl _ F90) | refine Agree.put ?_ rfl | refine Agree.sub hACr8 rfl ?_ | refine Agree.sub hACr6 rfl ?_ | refine Agree.named hF91 ?_ | refine Agree.named hF62 ?_ | refine Agree.named hF38 ?_)), rfl⟩
              · rintro fCr11 wCr11 ⟨e99_Cr11, hACr11, rfl⟩
                refine WF.cond e99_Cr11 (fun h4_99 => ?_) (fun h4_99 => ?_)
                · have gh4_99 := h4_99
                  have hp := planM_c (hq2.trans (if_pos gh4_99)) (by decide)
                  refine WF.seq ?_
                  refine WF.region ?_
                  refine WL.va rfl rfl rfl (X.buildL (P := Try.prog) (t := 26) (cs := (Mp.c Mp.zero nilS)) evp_nil Try.type26 Try.underlying26 rfl rfl trivial rfl) ?_
                  refine WL.op rfl (OW.storeOA hO4 ((hACr11.eq 4).trans ((congrFun hF91 4).trans ((hACr8.eq 4).trans ((congrFun hF62 4).trans ((hACr6.eq 4).trans (congrFun hF38 4)))))) rfl rfl (Mp.c_one (Rgs.nil w) Mp.zero) Try.sizeOf26 ?_)
                  intro w101 hO4 hx103
                  have := World.grownBy.size hx103
                  replace hO2 := hO2.keptO hx103 (by omega)
                  replace hO3 := hO3.keptO hx103 (by omega)
                  replace hO6 := hO6.keptO hx103 (by omega)
                  replace hO8 := hO8.keptO hx103 (by omega)
                  replace hO4 : Blk _ _ _ (Mp.c Mp.zero nilS) := hO4
                  refine WL.va rfl rfl rfl (X.assignI rfl) ?_
                  refine WL.nil ?_
                  refine thn_n ?_
                  refine WF.ret ?_
                  refine thn_r ?_
                  refine finC_r (vs := [_, _]) ⟨⟨_, ((hACr11.eq 4).trans ((congrFun hF91 4).trans ((hACr8.eq 4).trans ((congrFun hF62 4).trans ((hACr6.eq 4).trans (congrFun hF38 4)))))), readO hO4 Try.isAgg26 Try.sizeOf26⟩, rfl, trivial⟩ ?_
                  rw [hp]; exact ⟨⟨_, rfl, OwnR.nil _ _ _⟩, (Ext.trans (Ext.trans hx3 hx7) (Ext.store (Ext.trans (Ext.trans (Ext.trans (Ext.trans hx11 hx21) (Ext.store hx25 hx29 (by omega))) hx80) (Ext.store hx84 hx88 (by omega))) hx103 (by omega)))⟩
                · have gh4_99 := h4_99
                  have hq3 := hq2.trans (if_neg (by rw [gh4_99]; simp))
                  refine WF.skip ?_
                  refine thn_n ?_
                  refine WF.seq ?_
                  refine WF.seq ?_
                  refine WF.region ?_
                  refine WL.va rfl rfl rfl (X.fieldAddrO (off := 1) ((hACr11.eq 2).trans ((congrFun hF91 2).trans ((hACr8.eq 2).trans ((congrFun hF62 2).trans ((hACr6.eq 2).trans (congrFun hF38 2)))))) Try.underlying26 rfl rfl Try.sizeOf3) ?_
                  refine WL.va rfl rfl rfl (X.loadO hO2 (Ext.refl _) rfl rfl Try.isAgg3) ?_
                  refine WL.va rfl rfl rfl (X.geq rfl rfl) ?_
                  refine WL.nil ?_
                  refine thn_n ?_
                  refine WF.cond rfl (fun h5_105 => ?_) (fun h5_105 => ?_)
                  · have gh5_105 := (of_decide_eq_true h5_105)
                    have hp := planM_c (hq3.trans (if_pos gh5_105)) (by decide)
                    refine WF.seq ?_
                    refine WF.region ?_
                    refine WL.va rfl rfl rfl (X.buildL (P := Try.prog) (t := 26) (cs := (Mp.c Mp.zero nilS)) evp_nil Try.type26 Try.underlying26 rfl rfl trivial rfl) ?_
                    refine WL.op rfl (OW.storeOA hO4 ((hACr11.eq 4).trans ((congrFun hF91 4).trans ((hACr8.eq 4).trans ((congrFun hF62 4).trans ((hACr6.eq 4).trans (congrFun hF38 4)))))) rfl rfl (Mp.c_one (Rgs.nil w) Mp.zero) Try.sizeOf26 ?_)
                    intro w107 hO4 hx109
                    have := World.grownBy.size hx109
                    replace hO2 := hO2.keptO hx109 (by omega)
                    replace hO3 := hO3.keptO hx109 (by omega)
                    replace hO6 := hO6.keptO hx109 (by omega)
                    replace hO8 := hO8.keptO hx109 (by omega)
                    replace hO4 : Blk _ _ _ (Mp.c Mp.zero nilS) := hO4
                    refine WL.va rfl rfl rfl (X.assignI rfl) ?_
                    refine WL.nil ?_
                    refine thn_n ?_
                    refine WF.ret ?_
                    refine thn_r ?_
                    refine finC_r (vs := [_, _]) ⟨⟨_, ((hACr11.eq 4).trans ((congrFun hF91 4).trans ((hACr8.eq 4).trans ((congrFun hF62 4).trans ((hACr6.eq 4).trans (congrFun hF38 4)))))), readO hO4 Try.isAgg26 Try.sizeOf26⟩, rfl, trivial⟩ ?_
                    rw [hp]; exact ⟨⟨_, rfl, OwnR.nil _ _ _⟩, (Ext.trans (Ext.trans hx3 hx7) (Ext.store (Ext.trans (Ext.trans (Ext.trans (Ext.trans hx11 hx21) (Ext.store hx25 hx29 (by omega))) hx80) (Ext.store hx84 hx88 (by omega))) hx109 (by omega)))⟩
                  · have gh5_105 := (of_decide_eq_false h5_105)
                    have hp := planM_yes (hq3.trans (if_neg gh5_105))
                    have hlt : ¬ 1099511627776 ≤ m.E := gh5_105
                    refine WF.skip ?_
                    refine thn_n ?_
                    refine WF.seq ?_
                    refine WF.region ?_
                    refine WL.va rfl rfl rfl (X.loadOA hO2 (Ext.refl _) ((hACr11.eq 2).trans ((congrFun hF91 2).trans ((hACr8.eq 2).trans ((congrFun hF62 2).trans ((hACr6.eq 2).trans (congrFun hF38 2)))))) rfl Try.isAgg26 Try.sizeOf26) ?_
                    have hzu := ((show Ext w w86 from (Ext.trans (Ext.trans (Ext.trans (Ext.trans (Ext.trans (Ext.trans hx3 hx7) hx11) hx21) (Ext.store hx25 hx29 (by omega))) hx80) (Ext.store hx84 hx88 (by omega))))).size
                    refine WL.c rfl rfl rfl (X.call Try.call14 (evl_cons rfl evl_nil)) (copyMap_ok m v _ (Row.ext hv (Ext.trans (Ext.trans (Ext.trans (Ext.trans (Ext.trans (Ext.trans hx3 hx7) hx11) hx21) (Ext.store hx25 hx29 (by omega))) hx80) (Ext.store hx84 hx88 (by omega)))) hz) ?_
                    rintro v112 w111 ⟨⟨vu, rfl, ou⟩, hx113⟩
                    have := World.grownBy.size hx113
                    have ouT := OwnT.of ou
                    refine WL.op rfl (OW.allocO (cs := [.slice none 0 0, i64 0, i64 0, i64 0, i64 0, i64 0, i64 0]) Try.zeroValue26 rfl ?_ (by decide))
                    intro g10 w114 heg10 hlg10 hO10 hx116
                    have := World.grownBy.size hx116
                    refine WL.op rfl (OW.storeOA hO10 rfl rfl rfl (Mp.c_one (Row.of_own ou) m) Try.sizeOf26 ?_)
                    intro w118 hO10 hx120
                    have := World.grownBy.size hx120
                    replace hO2 := (hO2.ext (Ext.trans hx113 hx116)).keptO hx120 (by omega)
                    replace hO3 := (hO3.ext (Ext.trans hx113 hx116)).keptO hx120 (by omega)
                    replace hO4 := (hO4.ext (Ext.trans hx113 hx116)).keptO hx120 (by omega)
                    replace hO6 := (hO6.ext (Ext.trans hx113 hx116)).keptO hx120 (by omega)
                    replace hO8 := (hO8.ext (Ext.trans hx113 hx116)).keptO hx120 (by omega)
                    replace ouT := (ouT.ext hx116).keptO hx120 (by omega)
                    refine WL.nil ?_
                    refine thn_n ?_
                    refine WF.seq ?_
                    refine WF.region ?_
                    refine WL.va rfl rfl rfl (X.fieldAddrO (off := 1) ((hACr11.eq 2).trans ((congrFun hF91 2).trans ((hACr8.eq 2).trans ((congrFun hF62 2).trans ((hACr6.eq 2).trans (congrFun hF38 2)))))) Try.underlying26 rfl rfl Try.sizeOf3) ?_
                    refine WL.va rfl rfl rfl (X.loadO hO2 (Ext.refl _) rfl rfl Try.isAgg3) ?_
                    refine WL.va rfl rfl rfl (X.add rfl rfl (w64 (by omega))) ?_
                    refine WL.va rfl rfl rfl (X.fieldAddrO (off := 1) rfl Try.underlying26 rfl rfl Try.sizeOf3) ?_
                    refine WL.op rfl (OW.storeO hO10 (Nat.le_of_ble_eq_true rfl) rfl rfl rfl Try.sizeOf3 ?_)
                    intro w122 hO10 hx124
                    have := World.grownBy.size hx124
                    replace hO2 := hO2.keptO hx124 (by omega)
                    replace hO3 := hO3.keptO hx124 (by omega)
                    replace hO4 := hO4.keptO hx124 (by omega)
                    replace hO6 := hO6.keptO hx124 (by omega)
                    replace hO8 := hO8.keptO hx124 (by omega)
                    replace ouT := ouT.keptO hx124 (by omega)
                    replace hO10 : Blk _ _ _ (Mp.c ⟨m.R, m.E + 1, m.M⟩ vu) := hO10
                    refine WL.nil ?_
                    refine thn_n ?_
                    refine WF.seq ?_
                    refine WF.region ?_
                    refine WL.va rfl rfl rfl (X.loadOA hO3 (Ext.refl _) ((hACr11.eq 3).trans ((congrFun hF91 3).trans ((hACr8.eq 3).trans ((congrFun hF62 3).trans ((hACr6.eq 3).trans (congrFun hF38 3)))))) rfl Try.isAgg24 Try.sizeOf24) ?_
                    refine WL.va rfl rfl rfl (X.fieldAddrO (off := 2) rfl Try.underlying26 rfl rfl Try.sizeOf24) ?_
                    refine WL.op rfl (OW.storeU (us := (Mv.c x)) hO10 (Nat.le_of_ble_eq_true rfl) rfl rfl rfl (Mv.c_one _) Try.sizeOf24 ?_)
                    intro w126 hO10 hx128
                    have := World.grownBy.size hx128
                    replace hO2 := hO2.keptO hx128 (by omega)
                    replace hO3 := hO3.keptO hx128 (by omega)
                    replace hO4 := hO4.keptO hx128 (by omega)
                    replace hO6 := hO6.keptO hx128 (by omega)
                    replace hO8 := hO8.keptO hx128 (by omega)
                    replace ouT := ouT.keptO hx128 (by omega)
                    replace hO10 : Blk _ _ _ (Mp.c ⟨m.R, m.E + 1, x⟩ vu) := hO10
                    refine WL.nil ?_
                    refine thn_n ?_
                    refine WF.seq ?_
                    refine WF.region ?_
                    refine WL.va rfl rfl rfl (X.fieldAddrO (off := 1) rfl Try.underlying26 rfl rfl Try.sizeOf3) ?_
                    refine WL.va rfl rfl rfl (X.loadO hO10 (Ext.refl _) rfl rfl Try.isAgg3) ?_
                    refine WL.va rfl rfl rfl (X.fieldAddrO (off := 2) rfl Try.underlying26 rfl rfl Try.sizeOf24) ?_
                    refine WL.va rfl rfl rfl (X.fieldAddrP (off := 0) rfl Try.underlying24 rfl rfl Try.sizeOf3) ?_
                    refine WL.op rfl (OW.storeO hO10 (Nat.le_of_ble_eq_true rfl) rfl rfl rfl Try.sizeOf3 ?_)
                    intro w130 hO10 hx132
                    have := World.grownBy.size hx132
                    replace hO2 := hO2.keptO hx132 (by omega)
                    replace hO3 := hO3.keptO hx132 (by omega)
                    replace hO4 := hO4.keptO hx132 (by omega)
                    replace hO6 := hO6.keptO hx132 (by omega)
                    replace hO8 := hO8.keptO hx132 (by omega)
                    replace ouT := ouT.keptO hx132 (by omega)
                    replace hO10 : Blk _ _ _ (Mp.c ⟨m.R, m.E + 1, { x with Epoch := m.E + 1 }⟩ vu) := hO10
                    refine WL.nil ?_
                    refine thn_n ?_
                    refine WF.seq ?_
                    refine WF.region ?_
                    refine WL.va rfl rfl rfl (X.loadOA hO10 (Ext.refl _) rfl rfl Try.isAgg26 Try.sizeOf26) ?_
                    refine WL.op rfl (OW.storeOA hO4 ((hACr11.eq 4).trans ((congrFun hF91 4).trans ((hACr8.eq 4).trans ((congrFun hF62 4).trans ((hACr6.eq 4).trans (congrFun hF38 4)))))) rfl rfl (Mp.c_one ouT.rd ⟨m.R, m.E + 1, { x with Epoch := m.E + 1 }⟩) Try.sizeOf26 ?_)
                    intro w134 hO4 hx136
                    have := World.grownBy.size hx136
                    replace hO2 := hO2.keptO hx136 (by omega)
                    replace hO3 := hO3.keptO hx136 (by omega)
                    replace hO6 := hO6.keptO hx136 (by omega)
                    replace hO8 := hO8.keptO hx136 (by omega)
                    replace ouT := ouT.keptO hx136 (by omega)
                    replace hO10 := hO10.keptO hx136 (by omega)
                    refine WL.va rfl rfl rfl (X.assignI rfl) ?_
                    refine WL.nil ?_
                    refine thn_n ?_
                    refine WF.ret ?_
                    refine finC_r (vs := [_, _]) ⟨⟨_, ((hACr11.eq 4).trans ((congrFun hF91 4).trans ((hACr8.eq 4).trans ((congrFun hF62 4).trans ((hACr6.eq 4).trans (congrFun hF38 4)))))), readO hO4 Try.isAgg26 Try.sizeOf26⟩, rfl, trivial⟩ ?_
                    rw [hp]; exact ⟨⟨_, rfl, own_mono ouT.own (by omega)⟩, (Ext.trans (Ext.trans hx3 hx7) (Ext.store (Ext.trans (Ext.trans (Ext.trans (Ext.trans (Ext.trans (Ext.trans hx11 hx21) (Ext.store hx25 hx29 (by omega))) hx80) (Ext.store hx84 hx88 (by omega))) hx113) (Ext.store (Ext.store (Ext.store (Ext.store hx116 hx120 (by omega)) hx124 (by omega)) hx128 (by omega)) hx132 (by omega))) hx136 (by omega)))⟩

theorem ap_pos {l : List Rg} {E : Int} (hc : prevHi l l.length = 64) (h : apB l E l.length = true) : 1 ≤ E := by
  have h0 : 0 < l.length := by
    cases l with
    | nil => simp [prevHi] at hc
    | cons a l => simp
  unfold apB at h
  rw [List.all_eq_true] at h
  have := h 0 (by simpa using h0)
  rw [apart1_at h0] at this
  unfold goodA at this
  simp only [Bool.and_eq_true, decide_eq_true_iff] at this
  omega
theorem apB_len {l : List Rg} {E : Int} (h : apB l E l.length = true) : l.length ≤ 4 := by
  unfold apB at h
  rw [List.all_eq_true] at h
  have h' : ∀ k (hk : k < l.length), apart1 l E k = true := fun k hk => h k (by simpa using hk)
  refine four_len (fun k hk => ?_) (fun i j hi hj hij => ?_)
  · have := h' k hk
    rw [apart1_at hk] at this
    unfold goodA at this
    simp only [Bool.and_eq_true, decide_eq_true_iff] at this
    omega
  · have := h' j hj
    rw [apart1_at hj, Bool.and_eq_true] at this
    exact of_decide_eq_true (List.all_eq_true.1 this.2 l[i] (List.mem_take_iff_getElem.2 ⟨i, by omega, rfl⟩))
theorem checkR_no1 {m : Mp} (h : (covB m.R m.R.length && decide (prevHi m.R m.R.length = 64)) = false) : checkR m = false := by unfold checkR; rw [h]; rfl
theorem checkR_no2 {m : Mp} (h : apB m.R m.E m.R.length = false) : checkR m = false := by unfold checkR; rw [h]; simp
theorem checkR_no3 {m : Mp} (h : ¬ m.E ≤ 1099511627776) : checkR m = false := by unfold checkR; rw [decide_eq_false h]; simp
theorem checkR_in {m : Mp} (h1 : (covB m.R m.R.length && decide (prevHi m.R m.R.length = 64)) = true) (h2 : apB m.R m.E m.R.length = true) (h3 : m.E ≤ 1099511627776) : checkR m = (decide (m.M = Mv.zero) || (decide (m.M.Epoch = m.E) && (apB m.R (m.E - 1) m.R.length && decide (planned ⟨m.R, m.E - 1, Mv.zero⟩ m.M = 0)))) := by
  unfold checkR; rw [h1, h2, decide_eq_true h3]; rfl
set_option maxHeartbeats 4000000 in
theorem checkRef_ok (m : Mp) (v : Value) (w : World) (hv : Rgs w v m.R) (hE : -9223372036854775808 ≤ m.E ∧ m.E ≤ 9223372036854775807) : FnOk Try.prog 12 [agg (m.c v)] w (fun r w' => r = i64 (codeOf (checkR m)) ∧ Ext w w') := by
  refine FnOk.enter (rs := [2]) Try.func12 rfl Try.ntmps12 Try.results12 rfl rfl ?_
  refine WF.seq ?_
  refine WF.region ?_
  refine WL.op rfl (OW.boxA (cs := (m.c v)) rfl ?_ (by decide))
  intro g1 w1 heg1 hlg1 hO1 hx3
  have := World.grownBy.size hx3
  refine WL.va rfl rfl rfl (X.assignI rfl) ?_
  refine WL.nil ?_
  refine thn_n ?_
  refine WF.seq ?_
  refine WF.seq ?_
  refine WF.region ?_
  refine WL.va rfl rfl rfl (X.fieldAddrO (off := 0) rfl Try.underlying26 rfl rfl Try.sizeOf22) ?_
  refine WL.va rfl rfl rfl (X.loadO hO1 (Ext.refl _) rfl rfl Try.isAgg22) ?_
  refine WL.c rfl rfl rfl (X.call Try.call51 (evl_cons rfl evl_nil)) (covers_ok _ _ _ (Row.ext hv hx3)) ?_
  rintro v6 w5 ⟨rfl, hx7⟩
  have := World.grownBy.size hx7
  refine WL.va rfl rfl rfl (X.not rfl) ?_
  refine WL.va rfl rfl rfl (X.moveB rfl) ?_
  refine WL.split (j := 4) rfl (fun h10 => ?_) (fun h10 => ?_)
  · have gh10 := (nt h10)
    have hno := checkR_no1 gh10
    refine WL.p rfl rfl rfl (congrArg some h10) ?_
    refine WL.p rfl rfl rfl (congrArg some h10) ?_
    refine WL.p rfl rfl rfl (congrArg some h10) ?_
    refine WL.p rfl rfl rfl (congrArg some h10) ?_
    refine WL.p rfl rfl rfl (congrArg some h10) ?_
    refine WL.p rfl rfl rfl (congrArg some h10) ?_
    refine WL.va rfl rfl rfl (X.pickT rfl h10 rfl) ?_
    refine WL.va rfl rfl rfl (X.moveB rfl) ?_
    refine WL.p rfl rfl rfl rfl ?_
    refine WL.p rfl rfl rfl rfl ?_
    refine WL.p rfl rfl rfl rfl ?_
    refine WL.va rfl rfl rfl (X.pickT rfl rfl rfl) ?_
    refine WL.nil ?_
    refine thn_n ?_
    refine WF.cond_t rfl ?_
    refine WF.seq ?_
    refine WF.region ?_
    refine WL.va rfl rfl rfl (X.assignI rfl) ?_
    refine WL.nil ?_
    refine thn_n ?_
    refine WF.ret ?_
    refine thn_r ?_
    refine fin_r ?_
    first | (rw [hno]; exact ⟨rfl, (Ext.trans hx3 hx7)⟩) | (rw [hy]; exact ⟨rfl, (Ext.trans hx3 hx7)⟩)
  · have gh10 := (nf h10)
    have hcv := gh10
    have hc64 : prevHi m.R m.R.length = 64 := of_decide_eq_true (Bool.and_eq_true_iff.1 hcv).2
    refine WL.vg rfl (congrArg some h10) rfl rfl (X.fieldAddrO (off := 0) rfl Try.underlying26 rfl rfl Try.sizeOf22) ?_
    refine WL.vg rfl (congrArg some h10) rfl rfl (X.loadO hO1 hx7 rfl rfl Try.isAgg22) ?_
    refine WL.vg rfl (congrArg some h10) rfl rfl (X.fieldAddrO (off := 1) rfl Try.underlying26 rfl rfl Try.sizeOf3) ?_
    refine WL.vg rfl (congrArg some h10) rfl rfl (X.loadO hO1 hx7 rfl rfl Try.isAgg3) ?_
    refine WL.cg rfl (congrArg some h10) rfl rfl (X.call Try.call52 (evl_cons rfl (evl_cons rfl evl_nil))) (apart_ok _ _ _ _ (Row.ext hv (Ext.trans hx3 hx7))) ?_
    rintro v14 w13 ⟨rfl, hx15⟩
    have := World.grownBy.size hx15
    refine WL.vg rfl (congrArg some h10) rfl rfl (X.not rfl) ?_
    refine WL.va rfl rfl rfl (X.pickF rfl h10 rfl) ?_
    refine WL.va rfl rfl rfl (X.moveB rfl) ?_
    refine WL.split (j := 12) rfl (fun h18 => ?_) (fun h18 => ?_)
    · have gh18 := (nt h18)
      have hno := checkR_no2 gh18
      refine WL.p rfl rfl rfl (congrArg some h18) ?_
      refine WL.p rfl rfl rfl (congrArg some h18) ?_
      refine WL.p rfl rfl rfl (congrArg some h18) ?_
      refine WL.va rfl rfl rfl (X.pickT rfl h18 rfl) ?_
      refine WL.nil ?_
      refine thn_n ?_
      refine WF.cond_t rfl ?_
      refine WF.seq ?_
      refine WF.region ?_
      refine WL.va rfl rfl rfl (X.assignI rfl) ?_
      refine WL.nil ?_
      refine thn_n ?_
      refine WF.ret ?_
      refine thn_r ?_
      refine fin_r ?_
      first | (rw [hno]; exact ⟨rfl, (Ext.trans (Ext.trans hx3 hx7) hx15)⟩) | (rw [hy]; exact ⟨rfl, (Ext.trans (Ext.trans hx3 hx7) hx15)⟩)
    · have gh18 := (nf h18)
      have hap := gh18
      have hE1 := ap_pos hc64 hap
      refine WL.vg rfl (congrArg some h18) rfl rfl (X.fieldAddrO (off := 1) rfl Try.underlying26 rfl rfl Try.sizeOf3) ?_
      refine WL.vg rfl (congrArg some h18) rfl rfl (X.loadO hO1 (Ext.trans hx7 hx15) rfl rfl Try.isAgg3) ?_
      refine WL.vg rfl (congrArg some h18) rfl rfl (X.gtr rfl rfl) ?_
      refine WL.va rfl rfl rfl (X.pickF rfl h18 rfl) ?_
      refine WL.nil ?_
      refine thn_n ?_
      refine WF.cond rfl (fun h0_20 => ?_) (fun h0_20 => ?_)
      · have gh0_20 := (of_decide_eq_true h0_20)
        have hno : checkR m = false := by first | assumption | exact checkR_no3 (by have := gh0_20; omega)
        refine WF.seq ?_
        refine WF.region ?_
        refine WL.va rfl rfl rfl (X.assignI rfl) ?_
        refine WL.nil ?_
        refine thn_n ?_
        refine WF.ret ?_
        refine thn_r ?_
        refine fin_r ?_
        first | (rw [hno]; exact ⟨rfl, (Ext.trans (Ext.trans hx3 hx7) hx15)⟩) | (rw [hy]; exact ⟨rfl, (Ext.trans (Ext.trans hx3 hx7) hx15)⟩)
      · have gh0_20 := (of_decide_eq_false h0_20)
        have hin := checkR_in hcv hap (by have := gh0_20; omega)
        refine WF.skip ?_
        refine thn_n ?_
        refine WF.seq ?_
        refine WF.seq ?_
        refine WF.region ?_
        refine WL.va rfl rfl rfl (X.fieldAddrO (off := 2) rfl Try.underlying26 rfl rfl Try.sizeOf24) ?_
        refine WL.va rfl rfl rfl (X.loadOP hO1 (Ext.trans hx7 hx15) rfl rfl rfl Try.isAgg24 Try.sizeOf24) ?_
        refine WL.va rfl rfl rfl (X.buildL (P := Try.prog) (t := 24) (cs := (Mv.c Mv.zero)) evp_nil Try.type24 Try.underlying24 rfl rfl trivial rfl) ?_
        refine WL.va rfl rfl rfl (X.eqlA (na := m.M.ints) (nb := Mv.zero.ints) flatM fieldsM offsM rfl rfl rfl rfl (Mv.eqB _ _)) ?_
        refine WL.nil ?_
        refine thn_n ?_
        refine WF.cond rfl (fun h1_22 => ?_) (fun h1_22 => ?_)
        · have gh1_22 := h1_22
          have hy : checkR m = true := by rw [hin, decide_eq_true (of_decide_eq_true gh1_22)]; rfl
          refine WF.seq ?_
          refine WF.region ?_
          refine WL.va rfl rfl rfl (X.assignI rfl) ?_
          refine WL.nil ?_
          refine thn_n ?_
          refine WF.ret ?_
          refine thn_r ?_
          refine fin_r ?_
          first | (rw [hno]; exact ⟨rfl, (Ext.trans (Ext.trans hx3 hx7) hx15)⟩) | (rw [hy]; exact ⟨rfl, (Ext.trans (Ext.trans hx3 hx7) hx15)⟩)
        · have gh1_22 := h1_22
          have hM : ¬ m.M = Mv.zero := of_decide_eq_false gh1_22
          refine WF.skip ?_
          refine thn_n ?_
          refine WF.seq ?_
          refine WF.seq ?_
          refine WF.region ?_
          refine WL.va rfl rfl rfl (X.fieldAddrO (off := 2) rfl Try.underlying26 rfl rfl Try.sizeOf24) ?_
          refine WL.va rfl rfl rfl (X.fieldAddrP (off := 0) rfl Try.underlying24 rfl rfl Try.sizeOf3) ?_
          refine WL.va rfl rfl rfl (X.loadO hO1 (Ext.trans hx7 hx15) rfl rfl Try.isAgg3) ?_
          refine WL.va rfl rfl rfl (X.fieldAddrO (off := 1) rfl Try.underlying26 rfl rfl Try.sizeOf3) ?_
          refine WL.va rfl rfl rfl (X.loadO hO1 (Ext.trans hx7 hx15) rfl rfl Try.isAgg3) ?_
          refine WL.va rfl rfl rfl (X.neq rfl rfl) ?_
          refine WL.va rfl rfl rfl (X.moveB rfl) ?_
          refine WL.split (j := 6) rfl (fun h25 => ?_) (fun h25 => ?_)
          · have gh25 := (of_decide_eq_true h25)
            have hno : checkR m = false := by rw [hin, decide_eq_false hM, decide_eq_false gh25]; rfl
            refine WL.p rfl rfl rfl (congrArg some h25) ?_
            refine WL.p rfl rfl rfl (congrArg some h25) ?_
            refine WL.p rfl rfl rfl (congrArg some h25) ?_
            refine WL.p rfl rfl rfl (congrArg some h25) ?_
            refine WL.p rfl rfl rfl (congrArg some h25) ?_
            refine WL.p rfl rfl rfl (congrArg some h25) ?_
            refine WL.p rfl rfl rfl (congrArg some h25) ?_
            refine WL.va rfl rfl rfl (X.pickT rfl h25 rfl) ?_
            refine WL.nil ?_
            refine thn_n ?_
            refine WF.cond_t rfl ?_
            refine WF.seq ?_
            refine WF.region ?_
            refine WL.va rfl rfl rfl (X.assignI rfl) ?_
            refine WL.nil ?_
            refine thn_n ?_
            refine WF.ret ?_
            refine thn_r ?_
            refine fin_r ?_
            first | (rw [hno]; exact ⟨rfl, (Ext.trans (Ext.trans hx3 hx7) hx15)⟩) | (rw [hy]; exact ⟨rfl, (Ext.trans (Ext.trans hx3 hx7) hx15)⟩)
          · have gh25 := (Decidable.of_not_not (of_decide_eq_false h25))
            have hme : m.M.Epoch = m.E := gh25
            refine WL.vg rfl (congrArg some h25) rfl rfl (X.fieldAddrO (off := 0) rfl Try.underlying26 rfl rfl Try.sizeOf22) ?_
            refine WL.vg rfl (congrArg some h25) rfl rfl (X.loadO hO1 (Ext.trans hx7 hx15) rfl rfl Try.isAgg22) ?_
            refine WL.vg rfl (congrArg some h25) rfl rfl (X.fieldAddrO (off := 1) rfl Try.underlying26 rfl rfl Try.sizeOf3) ?_
            refine WL.vg rfl (congrArg some h25) rfl rfl (X.loadO hO1 (Ext.trans hx7 hx15) rfl rfl Try.isAgg3) ?_
            refine WL.vg rfl (congrArg some h25) rfl rfl (X.sub rfl rfl (w64 (by omega))) ?_
            refine WL.cg rfl (congrArg some h25) rfl rfl (X.call Try.call52 (evl_cons rfl (evl_cons rfl evl_nil))) (apart_ok _ _ _ _ (Row.ext hv (Ext.trans (Ext.trans hx3 hx7) hx15))) ?_
            rintro v28 w27 ⟨rfl, hx29⟩
            have := World.grownBy.size hx29
            refine WL.vg rfl (congrArg some h25) rfl rfl (X.not rfl) ?_
            refine WL.va rfl rfl rfl (X.pickF rfl h25 rfl) ?_
            refine WL.nil ?_
            refine thn_n ?_
            refine WF.cond rfl (fun h2_31 => ?_) (fun h2_31 => ?_)
            · have gh2_31 := (nt h2_31)
              have hno : checkR m = false := by first | assumption | (rw [hin, decide_eq_false hM, decide_eq_true hme, gh2_31]; rfl)
              refine WF.seq ?_
              refine WF.region ?_
              refine WL.va rfl rfl rfl (X.assignI rfl) ?_
              refine WL.nil ?_
              refine thn_n ?_
              refine WF.ret ?_
              refine thn_r ?_
              refine fin_r ?_
              first | (rw [hno]; exact ⟨rfl, (Ext.trans (Ext.trans (Ext.trans hx3 hx7) hx15) hx29)⟩) | (rw [hy]; exact ⟨rfl, (Ext.trans (Ext.trans (Ext.trans hx3 hx7) hx15) hx29)⟩)
            · have gh2_31 := (nf h2_31)
              have ha2 : apB m.R (m.E - 1) m.R.length = true := gh2_31
              refine WF.skip ?_
              refine thn_n ?_
              refine WF.seq ?_
              refine WF.region ?_
              refine WL.va rfl rfl rfl (X.fieldAddrO (off := 0) rfl Try.underlying26 rfl rfl Try.sizeOf22) ?_
              refine WL.va rfl rfl rfl (X.loadO hO1 (Ext.trans (Ext.trans hx7 hx15) hx29) rfl rfl Try.isAgg22) ?_
              refine WL.va rfl rfl rfl (X.fieldAddrO (off := 1) rfl Try.underlying26 rfl rfl Try.sizeOf3) ?_
              refine WL.va rfl rfl rfl (X.loadO hO1 (Ext.trans (Ext.trans hx7 hx15) hx29) rfl rfl Try.isAgg3) ?_
              refine WL.va rfl rfl rfl (X.sub rfl rfl (w64 (by omega))) ?_
              refine WL.va rfl rfl rfl (X.buildL (P := Try.prog) (t := 26) (cs := (Mp.c ⟨m.R, m.E - 1, Mv.zero⟩ v)) (evp_cons rfl (evp_cons rfl evp_nil)) Try.type26 Try.underlying26 rfl rfl ⟨rgs_v1 hv, rfl, trivial⟩ rfl) ?_
              refine WL.va rfl rfl rfl (X.fieldAddrO (off := 2) rfl Try.underlying26 rfl rfl Try.sizeOf24) ?_
              refine WL.va rfl rfl rfl (X.loadOP hO1 (Ext.trans (Ext.trans hx7 hx15) hx29) rfl rfl rfl Try.isAgg24 Try.sizeOf24) ?_
              refine WL.c rfl rfl rfl (X.call Try.call16 (evl_cons rfl (evl_cons rfl evl_nil))) (planR_ok ⟨m.R, m.E - 1, Mv.zero⟩ v m.M _ (Row.ext hv (Ext.trans (Ext.trans (Ext.trans hx3 hx7) hx15) hx29)) (show m.R.length ≤ 1000000 from Nat.le_trans (apB_len hap) (by decide)) (show -9223372036854775808 ≤ m.E - 1 by omega)) ?_
              rintro v34 w33 ⟨⟨u, rfl, ou⟩, hx35⟩
              have := World.grownBy.size hx35
              refine WL.va rfl rfl rfl (X.move rfl) ?_
              refine WL.va rfl rfl rfl (X.extract rfl rfl) ?_
              refine WL.va rfl rfl rfl (X.extract rfl rfl) ?_
              refine WL.op rfl (OW.allocO (cs := [.slice none 0 0, i64 0, i64 0, i64 0, i64 0, i64 0, i64 0]) Try.zeroValue26 rfl ?_ (by decide))
              intro g3 w36 heg3 hlg3 hO3 hx38
              have := World.grownBy.size hx38
              refine WL.op rfl (OW.storeOA hO3 rfl rfl rfl (Mp.c_one (Row.of_own ou) _) Try.sizeOf26 ?_)
              intro w40 hO3 hx42
              have := World.grownBy.size hx42
              replace hO1 := (hO1.ext (Ext.trans (Ext.trans (Ext.trans (Ext.trans hx7 hx15) hx29) hx35) hx38)).keptO hx42 (by omega)
              refine WL.va rfl rfl rfl (X.assignI rfl) ?_
              refine WL.nil ?_
              refine thn_n ?_
              refine WF.seq ?_
              refine WF.seq ?_
              refine WF.region ?_
              refine WL.va rfl rfl rfl (X.moveI rfl) ?_
              refine WL.va rfl rfl rfl (X.neq rfl rfl) ?_
              refine WL.nil ?_
              refine thn_n ?_
              refine WF.cond rfl (fun h3_44 => ?_) (fun h3_44 => ?_)
              · have gh3_44 := (of_decide_eq_true h3_44)
                have hpn : ¬ planned ⟨m.R, m.E - 1, Mv.zero⟩ m.M = 0 := fun q => gh3_44 (by rw [planM_yes q])
                have hno : checkR m = false := by rw [hin, decide_eq_false hM, decide_eq_true hme, ha2, decide_eq_false hpn]; rfl
                refine WF.seq ?_
                refine WF.region ?_
                refine WL.va rfl rfl rfl (X.assignI rfl) ?_
                refine WL.nil ?_
                refine thn_n ?_
                refine WF.ret ?_
                refine thn_r ?_
                refine fin_r ?_
                first | (rw [hno]; exact ⟨rfl, (Ext.trans (Ext.trans (Ext.trans (Ext.trans (Ext.trans hx3 hx7) hx15) hx29) hx35) (Ext.store hx38 hx42 (by omega)))⟩) | (rw [hy]; exact ⟨rfl, (Ext.trans (Ext.trans (Ext.trans (Ext.trans (Ext.trans hx3 hx7) hx15) hx29) hx35) (Ext.store hx38 hx42 (by omega)))⟩)
              · have gh3_44 := (Decidable.of_not_not (of_decide_eq_false h3_44))
                have hpy : planned ⟨m.R, m.E - 1, Mv.zero⟩ m.M = 0 := by
                  by_cases q : planned ⟨m.R, m.E - 1, Mv.zero⟩ m.M = 0
                  · exact q
                  · have e := gh3_44; rw [planM_no q] at e; exact e
                have hy : checkR m = true := by rw [hin, decide_eq_false hM, decide_eq_true hme, ha2, decide_eq_true hpy]; rfl
                refine WF.skip ?_
                refine thn_n ?_
                refine WF.seq ?_
                refine WF.region ?_
                refine WL.va rfl rfl rfl (X.assignI rfl) ?_
                refine WL.nil ?_
                refine thn_n ?_
                refine WF.ret ?_
                refine fin_r ?_
                first | (rw [hno]; exact ⟨rfl, (Ext.trans (Ext.trans (Ext.trans (Ext.trans (Ext.trans hx3 hx7) hx15) hx29) hx35) (Ext.store hx38 hx42 (by omega)))⟩) | (rw [hy]; exact ⟨rfl, (Ext.trans (Ext.trans (Ext.trans (Ext.trans (Ext.trans hx3 hx7) hx15) hx29) hx35) (Ext.store hx38 hx42 (by omega)))⟩)

section
variable {P : Program} {N : Nat} {Q : Post} {f : Fr} {w : World} {k : Fr → World → Prop} {ty t e : TypeId} {pos : String} {aft : Array Edge} {g : Option (Nat × Bool)} {x y : Operand} {u v : Value} {n sz B i off : Nat} {xs : List Value}
/-- a field of an element of an own row -/
theorem OW.storeIF (ho : w.ownsRow B e sz v n xs) (hi : i < n) (hoff : off < sz) (hx : ev f x = .pointer (some (((base v).add (i * sz)).add off))) (hy : ev f y = u) (h1 : u.oneCell' = true) (ht : ∀ w, (sizeOf t).run P w = .ok 1 w)
    (h : ∀ w', w'.ownsRow B e sz v n (xs.set (i * sz + off) u) → w.grownBy w' v.ownBlock → k f w') : OW P N ⟨none, .store t x y, ty, pos, aft, g⟩ Q k f w := by
  obtain ⟨b, cap, rfl, _⟩ := own_shape ho (by omega)
  have hj : i * sz + off < n * sz := by
    have : (i + 1) * sz ≤ n * sz := Nat.mul_le_mul_right _ hi
    rw [Nat.add_mul] at this; omega
  refine OW.storeOwn (j := i * sz + off) ho hj ?_ hy h1 ht h
  rw [hx]
  show _ = Value.pointer (some ((⟨b, 0, none⟩ : Addr).add (i * sz + off)))
  rw [show base (.slice (some ⟨b, 0, none⟩) n cap) = ⟨b, 0, none⟩ from rfl, Kf.Addr.add_add]
end
theorem rg_sethi {x : Int} : ∀ {L : List Rg} {k : Nat} (hk : k < L.length), (L.flatMap Rg.c).set (k * 4 + 1) (i64 x) = (L.set k { L[k] with Hi := x }).flatMap Rg.c
  | [], _, h => by simp at h
  | b :: L, 0, _ => rfl
  | b :: L, k + 1, h => by
    have ih := rg_sethi (x := x) (L := L) (k := k) (by simpa using h)
    rw [List.flatMap_cons, List.set_append_right _ _ (by simp; omega), List.getElem_cons_succ, List.set_cons_succ, List.flatMap_cons, ← ih]
    simp only [Rg.c, List.length_cons, List.length_nil]
    congr 2
    omega
theorem set_last {α : Type} {L : List α} {a : α} (h : L ≠ []) : L.dropLast ++ [a] = L.set (L.length - 1) a := by
  obtain ⟨l, x, rfl⟩ : ∃ l x, L = l ++ [x] := ⟨L.dropLast, L.getLast h, (List.dropLast_concat_getLast h).symm⟩
  simp
theorem run1_no {f : Int → Rg} {L : List Rg} {n : Nat} (h : ∀ a, L.getLast? = some a → a.Group ≠ (f n).Group) : run1 f L n = L ++ [⟨n, (n : Int) + 1, (f n).Group, (f n).Epoch⟩] := by
  unfold run1
  cases hl : L.getLast? with
  | none => rfl
  | some a => simp only; rw [if_neg (h a hl)]
theorem run1_yes {f : Int → Rg} {L : List Rg} {n : Nat} (h0 : L.length - 1 < L.length) (h : L[L.length - 1].Group = (f n).Group) : run1 f L n = L.set (L.length - 1) { L[L.length - 1] with Hi := (n : Int) + 1 } := by
  have hne : L ≠ [] := by intro e; subst e; simp at h0
  unfold run1
  rw [List.getLast?_eq_getElem?, List.getElem?_eq_getElem h0]
  simp only
  rw [if_pos h]
  exact set_last hne
theorem runs_succ {f : Int → Rg} {n : Nat} : runs f (n + 1) = run1 f (runs f n) n := by
  unfold runs; rw [List.range_succ, List.foldl_append]; rfl
theorem runs_len {f : Int → Rg} : ∀ n : Nat, (runs f n).length ≤ n
  | 0 => Nat.le_refl _
  | n + 1 => by
    have := runs_len (f := f) n
    rw [runs_succ]
    unfold run1
    split
    · split <;> simp <;> omega
    · simp; omega
set_option maxHeartbeats 8000000 in
theorem doneR_ok (m : Mp) (v : Value) (e : Int) (w : World) (hv : Rgs w v m.R) : FnOk Try.prog 18 [agg (m.c v), i64 e] w (fun r w' => (∃ u m' c, r = .tuple #[agg (m'.c u), i64 c] ∧ OwnR w' w.heap.size 41 u m'.R ∧ ((doneNo m e = true ∧ m' = Mp.zero ∧ c = 6) ∨ (doneNo m e = false ∧ c = 0 ∧ m' = ⟨runs (newR m.R m.M e) 64, m.E, Mv.zero⟩))) ∧ Ext w w') := by
  have hle := hv.le64
  refine FnOk.enterC (rs := [.cell 4 26, .tmp 5]) Try.func18 rfl Try.ntmps18 Try.results18 rfl rfl ?_
  refine WF.seq ?_
  refine WF.region ?_
  refine WL.op rfl (OW.boxA (cs := (m.c v)) rfl ?_ (by decide))
  intro g2 w1 heg2 hlg2 hO2 hx3
  have := World.grownBy.size hx3
  refine WL.op rfl (OW.allocO (cs := [.slice none 0 0, i64 0, i64 0, i64 0, i64 0, i64 0, i64 0]) Try.zeroValue26 rfl ?_ (by decide))
  intro g4 w5 heg4 hlg4 hO4 hx7
  have := World.grownBy.size hx7
  refine WL.va rfl rfl rfl (X.assignI rfl) ?_
  refine WL.nil ?_
  refine thn_n ?_
  refine WF.seq ?_
  refine WF.region ?_
  refine WL.va rfl rfl rfl (X.fieldAddrO (off := 2) rfl Try.underlying26 rfl rfl Try.sizeOf24) ?_
  refine WL.va rfl rfl rfl (X.loadOP hO2 hx7 rfl rfl rfl Try.isAgg24 Try.sizeOf24) ?_
  refine WL.op rfl (OW.allocO (cs := [i64 0, i64 0, i64 0, i64 0, i64 0]) Try.zeroValue24 rfl ?_ (by decide))
  intro g6 w9 heg6 hlg6 hO6 hx11
  have := World.grownBy.size hx11
  refine WL.op rfl (OW.storeOA hO6 rfl rfl rfl (Mv.c_one _) Try.sizeOf24 ?_)
  intro wI hO6 hx14
  have := World.grownBy.size hx14
  replace hO2 := (hO2.ext (Ext.trans hx7 hx11)).keptO hx14 (by omega)
  replace hO4 := (hO4.ext hx11).keptO hx14 (by omega)
  refine WL.nil ?_
  refine thn_n ?_
  refine WF.seq ?_
  refine WF.seq ?_
  refine WF.region ?_
  refine WL.va rfl rfl rfl (X.fieldAddrO (off := 0) rfl Try.underlying24 rfl rfl Try.sizeOf3) ?_
  refine WL.va rfl rfl rfl (X.loadO hO6 (Ext.refl _) rfl rfl Try.isAgg3) ?_
  refine WL.va rfl rfl rfl (X.lss rfl rfl) ?_
  refine WL.va rfl rfl rfl (X.moveB rfl) ?_
  refine WL.split (j := 3) rfl (fun h17 => ?_) (fun h17 => ?_)
  · have gh17 := (of_decide_eq_true h17)
    have hno : doneNo m e = true := by unfold doneNo; rw [decide_eq_true gh17]; rfl
    refine WL.p rfl rfl rfl (congrArg some h17) ?_
    refine WL.p rfl rfl rfl (congrArg some h17) ?_
    refine WL.p rfl rfl rfl (congrArg some h17) ?_
    refine WL.p rfl rfl rfl (congrArg some h17) ?_
    refine WL.va rfl rfl rfl (X.pickT rfl h17 rfl) ?_
    refine WL.nil ?_
    refine thn_n ?_
    refine WF.cond_t rfl ?_
    refine WF.seq ?_
    refine WF.region ?_
    refine WL.va rfl rfl rfl (X.buildL (P := Try.prog) (t := 26) (cs := (Mp.c Mp.zero nilS)) evp_nil Try.type26 Try.underlying26 rfl rfl trivial rfl) ?_
    refine WL.op rfl (OW.storeOA hO4 rfl rfl rfl (Mp.c_one (Rgs.nil w) Mp.zero) Try.sizeOf26 ?_)
    intro w19 hO4 hx21
    have := World.grownBy.size hx21
    replace hO2 := hO2.keptO hx21 (by omega)
    replace hO6 := hO6.keptO hx21 (by omega)
    replace hO4 : Blk _ _ _ (Mp.c Mp.zero nilS) := hO4
    refine WL.va rfl rfl rfl (X.assignI rfl) ?_
    refine WL.nil ?_
    refine thn_n ?_
    refine WF.ret ?_
    refine thn_r ?_
    refine finC_r (vs := [_, _]) ⟨⟨_, rfl, readO hO4 Try.isAgg26 Try.sizeOf26⟩, rfl, trivial⟩ ?_
    exact ⟨⟨_, Mp.zero, 6, rfl, OwnR.nil _ _ _, .inl ⟨hno, rfl, rfl⟩⟩, (Ext.trans hx3 (Ext.store (Ext.trans hx7 (Ext.store hx11 hx14 (by omega))) hx21 (by omega)))⟩
  · have gh17 := (of_decide_eq_false h17)
    have hn1 := gh17
    refine WL.vg rfl (congrArg some h17) rfl rfl (X.fieldAddrO (off := 0) rfl Try.underlying24 rfl rfl Try.sizeOf3) ?_
    refine WL.vg rfl (congrArg some h17) rfl rfl (X.loadO hO6 (Ext.refl _) rfl rfl Try.isAgg3) ?_
    refine WL.vg rfl (congrArg some h17) rfl rfl (X.moveI rfl) ?_
    refine WL.vg rfl (congrArg some h17) rfl rfl (X.neq rfl rfl) ?_
    refine WL.va rfl rfl rfl (X.pickF rfl h17 rfl) ?_
    refine WL.nil ?_
    refine thn_n ?_
    refine WF.cond rfl (fun h0_23 => ?_) (fun h0_23 => ?_)
    · have gh0_23 := (of_decide_eq_true h0_23)
      have hno : doneNo m e = true := by first | assumption | (unfold doneNo; rw [decide_eq_false hn1, decide_eq_true gh0_23]; rfl)
      refine WF.seq ?_
      refine WF.region ?_
      refine WL.va rfl rfl rfl (X.buildL (P := Try.prog) (t := 26) (cs := (Mp.c Mp.zero nilS)) evp_nil Try.type26 Try.underlying26 rfl rfl trivial rfl) ?_
      refine WL.op rfl (OW.storeOA hO4 rfl rfl rfl (Mp.c_one (Rgs.nil w) Mp.zero) Try.sizeOf26 ?_)
      intro w25 hO4 hx27
      have := World.grownBy.size hx27
      replace hO2 := hO2.keptO hx27 (by omega)
      replace hO6 := hO6.keptO hx27 (by omega)
      replace hO4 : Blk _ _ _ (Mp.c Mp.zero nilS) := hO4
      refine WL.va rfl rfl rfl (X.assignI rfl) ?_
      refine WL.nil ?_
      refine thn_n ?_
      refine WF.ret ?_
      refine thn_r ?_
      refine finC_r (vs := [_, _]) ⟨⟨_, rfl, readO hO4 Try.isAgg26 Try.sizeOf26⟩, rfl, trivial⟩ ?_
      exact ⟨⟨_, Mp.zero, 6, rfl, OwnR.nil _ _ _, .inl ⟨hno, rfl, rfl⟩⟩, (Ext.trans hx3 (Ext.store (Ext.trans hx7 (Ext.store hx11 hx14 (by omega))) hx27 (by omega)))⟩
    · have gh0_23 := (Decidable.of_not_not (of_decide_eq_false h0_23))
      have hno : doneNo m e = false := by unfold doneNo; rw [decide_eq_false hn1, decide_eq_false (fun q => q gh0_23)]; rfl
      refine WF.skip ?_
      refine thn_n ?_
      refine WF.seq ?_
      refine WF.region ?_
      refine WL.va rfl rfl rfl (X.fieldAddrO (off := 1) rfl Try.underlying26 rfl rfl Try.sizeOf3) ?_
      refine WL.va rfl rfl rfl (X.loadO hO2 (Ext.refl _) rfl rfl Try.isAgg3) ?_
      refine WL.va rfl rfl rfl (X.buildL (P := Try.prog) (t := 26) (cs := (Mp.c ⟨[], m.E, Mv.zero⟩ nilS)) (evp_cons rfl evp_nil) Try.type26 Try.underlying26 rfl rfl ⟨rfl, trivial⟩ rfl) ?_
      refine WL.op rfl (OW.allocO (cs := [.slice none 0 0, i64 0, i64 0, i64 0, i64 0, i64 0, i64 0]) Try.zeroValue26 rfl ?_ (by decide))
      intro g7 w29 heg7 hlg7 hO7 hx31
      have := World.grownBy.size hx31
      refine WL.op rfl (OW.storeOA hO7 rfl rfl rfl (Mp.c_one (Rgs.nil w) ⟨[], m.E, Mv.zero⟩) Try.sizeOf26 ?_)
      intro wO hO7 hx34
      have := World.grownBy.size hx34
      replace hO2 := (hO2.ext hx31).keptO hx34 (by omega)
      replace hO4 := (hO4.ext hx31).keptO hx34 (by omega)
      replace hO6 := (hO6.ext hx31).keptO hx34 (by omega)
      replace hO7 : Blk _ _ _ (Mp.c ⟨[], m.E, Mv.zero⟩ nilS) := hO7
      refine WL.nil ?_
      refine thn_n ?_
      refine WF.seq ?_
      refine WF.seq ?_
      refine WF.region ?_
      refine WL.va rfl rfl rfl (X.assignI rfl) ?_
      refine WL.nil ?_
      refine thn_n ?_
      refine WF.block ?_
      refine WF.named (fun F36 hF37 => ?_)
      refine WF.loopN (fun mL0 f' w' => ∃ (n : Nat) (vo : Value), mL0 = 64 - n ∧ f' 8 = .int .i64 (n : Int) ∧ Agree [0, 1, 2, 4, 5, 6, 7, 12, 13, 14, 15, 16, 17, 18, 19, 20, 21, 22, 24, 25, 26] f' F36 ∧ Ext wI w' ∧ n ≤ 64 ∧ Blk w' g2 26 (m.c v) ∧ Blk w' g4 26 (Mp.c Mp.zero nilS) ∧ Blk w' g6 24 m.M.c ∧ Blk w' g7 26 (Mp.c ⟨[], m.E, Mv.zero⟩ vo) ∧ OwnR w' wO.heap.size 41 vo (runs (newR m.R m.M e) n) ∧ wO.heap.size ≤ w'.heap.size) ?_ ?_
      · exact ⟨_, 0, nilS, rfl, (congrFun hF37 8), (Agree.refl _ _), (Ext.store hx31 hx34 (by omega)), ⟨Nat.zero_le _, hO2, hO4, hO6, hO7, OwnR.nil _ _ _, by omega⟩⟩
      · rintro mL0 fL0 wL0 ⟨n, vo, hmL0, e8_L0, hAL0, hwL0, ⟨hn64, hO2, hO4, hO6, hO7, oo, hzO⟩⟩
        have := World.grownBy.size hwL0
        have oT := OwnT.of oo
        have t2 := hO2.lt
        have t4 := hO4.lt
        have t6 := hO6.lt
        have t7 := hO7.lt
        have hrl := runs_len (f := (newR m.R m.M e)) n
        refine WF.seq ?_
        refine WF.seq ?_
        refine WF.region ?_
        refine WL.va rfl rfl rfl (X.moveI e8_L0) ?_
        refine WL.va rfl rfl rfl (X.lss rfl rfl) ?_
        refine WL.nil ?_
        refine thn_n ?_
        refine WF.cond rfl (fun h1_38 => ?_) (fun h1_38 => ?_)
        · have gh1_38 := (of_decide_eq_true h1_38)
          refine WF.skip ?_
          refine thn_n ?_
          refine WF.seq ?_
          refine WF.block ?_
          refine WF.seq ?_
          refine WF.region ?_
          refine WL.va rfl rfl rfl (X.loadOA hO2 (Ext.refl _) ((hAL0.eq 2).trans (congrFun hF37 2)) rfl Try.isAgg26 Try.sizeOf26) ?_
          refine WL.va rfl rfl rfl (X.moveI e8_L0) ?_
          refine WL.c rfl rfl rfl (X.call Try.call26 (evl_cons rfl (evl_cons rfl evl_nil))) (findR_ok m v (n : Int) _ (Row.ext hv (Ext.trans (Ext.trans (Ext.trans hx3 hx7) (Ext.store hx11 hx14 (by omega))) hwL0))) ?_
          rintro v40 wF ⟨rfl, hx41⟩
          have := World.grownBy.size hx41
          refine WL.va rfl rfl rfl (X.move rfl) ?_
          refine WL.va rfl rfl rfl (X.extract rfl rfl) ?_
          refine WL.va rfl rfl rfl (X.extract rfl rfl) ?_
          refine WL.op rfl (OW.allocO (cs := [i64 0, i64 0, i64 0, i64 0]) Try.zeroValue41 rfl ?_ (by decide))
          intro g9 w43 heg9 hlg9 hO9 hx45
          have := World.grownBy.size hx45
          refine WL.op rfl (OW.storeOA hO9 rfl rfl rfl (Rg.c_one _) Try.sizeOf41 ?_)
          intro w47 hO9 hx49
          have := World.grownBy.size hx49
          replace hO2 := (hO2.ext (Ext.trans hx41 hx45)).keptO hx49 (by omega)
          replace hO4 := (hO4.ext (Ext.trans hx41 hx45)).keptO hx49 (by omega)
          replace hO6 := (hO6.ext (Ext.trans hx41 hx45)).keptO hx49 (by omega)
          replace hO7 := (hO7.ext (Ext.trans hx41 hx45)).keptO hx49 (by omega)
          replace oT := (oT.ext (Ext.trans hx41 hx45)).keptO hx49 (by omega)
          refine WL.va rfl rfl rfl (X.assignB rfl) ?_
          refine WL.nil ?_
          refine thn_n ?_
          refine WF.named (fun F51 hF52 => ?_)
          refine WF.cut (fun f' w' => ∃ (r1 : Rg), Agree [0, 1, 2, 4, 5, 6, 7, 8, 9, 12, 13, 14, 15, 16, 17, 18, 19, 20, 21, 22, 24, 25, 26, 27, 28, 31, 32, 33, 34, 35, 36] f' F51 ∧ Ext wF w' ∧ r1 = (if m.M.Lo ≤ (n : Int) ∧ (n : Int) < m.M.Hi then { ((findM m.R (n : Int)).getD Rg.zero) with Group := m.M.To } else ((findM m.R (n : Int)).getD Rg.zero)) ∧ Blk w' g9 41 r1.c ∧ Blk w' g2 26 (m.c v) ∧ Blk w' g4 26 (Mp.c Mp.zero nilS) ∧ Blk w' g6 24 m.M.c ∧ Blk w' g7 26 (Mp.c ⟨[], m.E, Mv.zero⟩ vo) ∧ OwnT w' wO.heap.size wL0.heap.size 41 4 vo (runs (newR m.R m.M e) n).length ((runs (newR m.R m.M e) n).flatMap Rg.c) ∧ wL0.heap.size ≤ w'.heap.size) ?_ ?_
          · refine WF.named (fun F53 hF54 => ?_)
            refine WF.cut (fun f' w' => f' 46 = .bool (decide (m.M.Lo ≤ (n : Int) ∧ (n : Int) < m.M.Hi)) ∧ Agree [0, 1, 2, 4, 5, 6, 7, 8, 9, 12, 13, 14, 15, 16, 17, 18, 19, 20, 21, 22, 24, 25, 26, 27, 28, 31, 32, 33, 34, 35, 36] f' F53 ∧ w47 = w') ?_ ?_
            · refine WF.region ?_
              refine WL.va rfl rfl rfl (X.moveI ((congrFun hF54 8).trans ((congrFun hF52 8).trans e8_L0))) ?_
              refine WL.va rfl rfl rfl (X.fieldAddrO (off := 3) ((congrFun hF54 6).trans ((congrFun hF52 6).trans ((hAL0.eq 6).trans (congrFun hF37 6)))) Try.underlying24 rfl rfl Try.sizeOf3) ?_
              refine WL.va rfl rfl rfl (X.loadO hO6 (Ext.refl _) rfl rfl Try.isAgg3) ?_
              refine WL.va rfl rfl rfl (X.geq rfl rfl) ?_
              refine WL.va rfl rfl rfl (X.moveB rfl) ?_
              refine WL.split (j := 4) rfl (fun h56 => ?_) (fun h56 => ?_)
              · have gh56 := (of_decide_eq_true h56)
                refine WL.vg rfl (congrArg some h56) rfl rfl (X.moveI ((congrFun hF54 8).trans ((congrFun hF52 8).trans e8_L0))) ?_
                refine WL.vg rfl (congrArg some h56) rfl rfl (X.fieldAddrO (off := 4) ((congrFun hF54 6).trans ((congrFun hF52 6).trans ((hAL0.eq 6).trans (congrFun hF37 6)))) Try.underlying24 rfl rfl Try.sizeOf3) ?_
                refine WL.vg rfl (congrArg some h56) rfl rfl (X.loadO hO6 (Ext.refl _) rfl rfl Try.isAgg3) ?_
                refine WL.vg rfl (congrArg some h56) rfl rfl (X.lss rfl rfl) ?_
                refine WL.va rfl rfl rfl (X.pickT rfl h56 rfl) ?_
                refine WL.nil ?_
                refine thn_n ?_
                exact ⟨(congrArg Value.bool (by rw [Bool.eq_iff_iff]; simp only [decide_eq_true_iff, Bool.false_eq_true, false_iff]; omega)), (by repeat (first | exact (Agree.refl _ F53) | refine Agree.put ?_ rfl | refine Agree.sub hAL0 rfl ?_ | refine Agree.named hF54 ?_ | refine Agree.named hF52 ?_ | refine Agree.named hF37 ?_)), rfl⟩
              · have gh56 := (of_decide_eq_false h56)
                refine WL.p rfl rfl rfl (congrArg some h56) ?_
                refine WL.p rfl rfl rfl (congrArg some h56) ?_
                refine WL.p rfl rfl rfl (congrArg some h56) ?_
                refine WL.p rfl rfl rfl (congrArg some h56) ?_
                refine WL.va rfl rfl rfl (X.pickF rfl h56 rfl) ?_
                refine WL.nil ?_
                refine thn_n ?_
                exact ⟨(congrArg Value.bool (by rw [Bool.eq_iff_iff]; simp only [decide_eq_true_iff, Bool.false_eq_true, false_iff]; omega)), (by repeat (first | exact (Agree.refl _ F53) | refine Agree.put ?_ rfl | refine Agree.sub hAL0 rfl ?_ | refine Agree.named hF54 ?_ | refine Agree.named hF52 ?_ | refine Agree.named hF37 ?_)), rfl⟩
            · rintro fCr9 wCr9 ⟨e46_Cr9, hACr9, rfl⟩
              refine WF.cond e46_Cr9 (fun h2_59 => ?_) (fun h2_59 => ?_)
              · have gh2_59 := (of_decide_eq_true h2_59)
                have hr1e : ({ ((findM m.R (n : Int)).getD Rg.zero) with Group := m.M.To } : Rg) = (if m.M.Lo ≤ (n : Int) ∧ (n : Int) < m.M.Hi then { ((findM m.R (n : Int)).getD Rg.zero) with Group := m.M.To } else ((findM m.R (n : Int)).getD Rg.zero)) := (if_pos gh2_59).symm
                refine WF.region ?_
                refine WL.va rfl rfl rfl (X.fieldAddrO (off := 2) ((hACr9.eq 6).trans ((congrFun hF54 6).trans ((congrFun hF52 6).trans ((hAL0.eq 6).trans (congrFun hF37 6))))) Try.underlying24 rfl rfl Try.sizeOf3) ?_
                refine WL.va rfl rfl rfl (X.loadO hO6 (Ext.refl _) rfl rfl Try.isAgg3) ?_
                refine WL.va rfl rfl rfl (X.fieldAddrO (off := 2) ((hACr9.eq 9).trans ((congrFun hF54 9).trans (congrFun hF52 9))) Try.underlying41 rfl rfl Try.sizeOf3) ?_
                refine WL.op rfl (OW.storeO hO9 (Nat.le_of_ble_eq_true rfl) rfl rfl rfl Try.sizeOf3 ?_)
                intro w61 hO9 hx63
                have := World.grownBy.size hx63
                replace hO2 := hO2.keptO hx63 (by omega)
                replace hO4 := hO4.keptO hx63 (by omega)
                replace hO6 := hO6.keptO hx63 (by omega)
                replace hO7 := hO7.keptO hx63 (by omega)
                replace oT := oT.keptO hx63 (by omega)
                replace hO9 : Blk _ _ _ (Rg.c { ((findM m.R (n : Int)).getD Rg.zero) with Group := m.M.To }) := hO9
                refine WL.nil ?_
                refine thn_n ?_
                exact ⟨_, (by repeat (first | exact (Agree.refl _ F51) | refine Agree.put ?_ rfl | refine Agree.sub hACr9 rfl ?_ | refine Agree.sub hAL0 rfl ?_ | refine Agree.named hF54 ?_ | refine Agree.named hF52 ?_ | refine Agree.named hF37 ?_)), (Ext.store (Ext.store hx45 hx49 (by omega)) hx63 (by omega)), ⟨hr1e, hO9, hO2, hO4, hO6, hO7, oT, by omega⟩⟩
              · have gh2_59 := (of_decide_eq_false h2_59)
                have hr1e : ((findM m.R (n : Int)).getD Rg.zero) = (if m.M.Lo ≤ (n : Int) ∧ (n : Int) < m.M.Hi then { ((findM m.R (n : Int)).getD Rg.zero) with Group := m.M.To } else ((findM m.R (n : Int)).getD Rg.zero)) := (if_neg gh2_59).symm
                refine WF.skip ?_
                refine thn_n ?_
                exact ⟨_, (by repeat (first | exact (Agree.refl _ F51) | refine Agree.put ?_ rfl | refine Agree.sub hACr9 rfl ?_ | refine Agree.sub hAL0 rfl ?_ | refine Agree.named hF54 ?_ | refine Agree.named hF52 ?_ | refine Agree.named hF37 ?_)), (Ext.store hx45 hx49 (by omega)), ⟨hr1e, hO9, hO2, hO4, hO6, hO7, oT, by omega⟩⟩
          · rintro fCs9 wCs9 ⟨r1, hACs9, hwCs9, ⟨hr1, hO9, hO2, hO4, hO6, hO7, oT, hzL⟩⟩
            have := World.grownBy.size hwCs9
            refine WF.named (fun F66 hF67 => ?_)
            refine WF.cut (fun f' w' => Agree [0, 1, 2, 4, 5, 6, 7, 8, 9, 12, 13, 14, 15, 16, 17, 18, 19, 20, 21, 22, 24, 25, 26, 27, 28, 31, 32, 33, 34, 35, 36] f' F66 ∧ Ext wF w' ∧ Blk w' g9 41 (newR m.R m.M e (n : Int)).c ∧ Blk w' g2 26 (m.c v) ∧ Blk w' g4 26 (Mp.c Mp.zero nilS) ∧ Blk w' g6 24 m.M.c ∧ Blk w' g7 26 (Mp.c ⟨[], m.E, Mv.zero⟩ vo) ∧ OwnT w' wO.heap.size wL0.heap.size 41 4 vo (runs (newR m.R m.M e) n).length ((runs (newR m.R m.M e) n).flatMap Rg.c) ∧ wL0.heap.size ≤ w'.heap.size) ?_ ?_
            · refine WF.named (fun F68 hF69 => ?_)
              refine WF.cut (fun f' w' => f' 61 = .bool (decide (r1.Group = m.M.From ∨ r1.Group = m.M.To)) ∧ Agree [0, 1, 2, 4, 5, 6, 7, 8, 9, 12, 13, 14, 15, 16, 17, 18, 19, 20, 21, 22, 24, 25, 26, 27, 28, 31, 32, 33, 34, 35, 36] f' F68 ∧ wCs9 = w') ?_ ?_
              · refine WF.region ?_
                refine WL.va rfl rfl rfl (X.fieldAddrO (off := 2) ((congrFun hF69 9).trans ((congrFun hF67 9).trans ((hACs9.eq 9).trans (congrFun hF52 9)))) Try.underlying41 rfl rfl Try.sizeOf3) ?_
                refine WL.va rfl rfl rfl (X.loadO hO9 (Ext.refl _) rfl rfl Try.isAgg3) ?_
                refine WL.va rfl rfl rfl (X.fieldAddrO (off := 1) ((congrFun hF69 6).trans ((congrFun hF67 6).trans ((hACs9.eq 6).trans ((congrFun hF52 6).trans ((hAL0.eq 6).trans (congrFun hF37 6)))))) Try.underlying24 rfl rfl Try.sizeOf3) ?_
                refine WL.va rfl rfl rfl (X.loadO hO6 (Ext.refl _) rfl rfl Try.isAgg3) ?_
                refine WL.va rfl rfl rfl (X.eql rfl rfl) ?_
                refine WL.va rfl rfl rfl (X.moveB rfl) ?_
                refine WL.split (j := 5) rfl (fun h71 => ?_) (fun h71 => ?_)
                · have gh71 := (of_decide_eq_true h71)
                  refine WL.p rfl rfl rfl (congrArg some h71) ?_
                  refine WL.p rfl rfl rfl (congrArg some h71) ?_
                  refine WL.p rfl rfl rfl (congrArg some h71) ?_
                  refine WL.p rfl rfl rfl (congrArg some h71) ?_
                  refine WL.p rfl rfl rfl (congrArg some h71) ?_
                  refine WL.va rfl rfl rfl (X.pickT rfl h71 rfl) ?_
                  refine WL.nil ?_
                  refine thn_n ?_
                  exact ⟨(congrArg Value.bool (by rw [Bool.eq_iff_iff]; simp only [decide_eq_true_iff, true_iff, Bool.false_eq_true, false_iff]; omega)), (by repeat (first | exact (Agree.refl _ F68) | refine Agree.put ?_ rfl | refine Agree.sub hACs9 rfl ?_ | refine Agree.sub hAL0 rfl ?_ | refine Agree.named hF69 ?_ | refine Agree.named hF67 ?_ | refine Agree.named hF52 ?_ | refine Agree.named hF37 ?_)), rfl⟩
                · have gh71 := (of_decide_eq_false h71)
                  refine WL.vg rfl (congrArg some h71) rfl rfl (X.fieldAddrO (off := 2) ((congrFun hF69 9).trans ((congrFun hF67 9).trans ((hACs9.eq 9).trans (congrFun hF52 9)))) Try.underlying41 rfl rfl Try.sizeOf3) ?_
                  refine WL.vg rfl (congrArg some h71) rfl rfl (X.loadO hO9 (Ext.refl _) rfl rfl Try.isAgg3) ?_
                  refine WL.vg rfl (congrArg some h71) rfl rfl (X.fieldAddrO (off := 2) ((congrFun hF69 6).trans ((congrFun hF67 6).trans ((hACs9.eq 6).trans ((congrFun hF52 6).trans ((hAL0.eq 6).trans (congrFun hF37 6)))))) Try.underlying24 rfl rfl Try.sizeOf3) ?_
                  refine WL.vg rfl (congrArg some h71) rfl rfl (X.loadO hO6 (Ext.refl _) rfl rfl Try.isAgg3) ?_
                  refine WL.vg rfl (congrArg some h71) rfl rfl (X.eql rfl rfl) ?_
                  refine WL.va rfl rfl rfl (X.pickF rfl h71 rfl) ?_
                  refine WL.nil ?_
                  refine thn_n ?_
                  exact ⟨(congrArg Value.bool (by rw [Bool.eq_iff_iff]; simp only [decide_eq_true_iff, true_iff, Bool.false_eq_true, false_iff]; omega)), (by repeat (first | exact (Agree.refl _ F68) | refine Agree.put ?_ rfl | refine Agree.sub hACs9 rfl ?_ | refine Agree.sub hAL0 rfl ?_ | refine Agree.named hF69 ?_ | refine Agree.named hF67 ?_ | refine Agree.named hF52 ?_ | refine Agree.named hF37 ?_)), rfl⟩
              · rintro fCr11 wCr11 ⟨e61_Cr11, hACr11, rfl⟩
                refine WF.cond e61_Cr11 (fun h3_74 => ?_) (fun h3_74 => ?_)
                · have gh3_74 := (of_decide_eq_true h3_74)
                  have hr2e : (newR m.R m.M e (n : Int)) = { r1 with Epoch := e } := by subst hr1; exact if_pos gh3_74
                  refine WF.region ?_
                  refine WL.va rfl rfl rfl (X.moveI ((hACr11.eq 1).trans ((congrFun hF69 1).trans ((congrFun hF67 1).trans ((hACs9.eq 1).trans ((congrFun hF52 1).trans ((hAL0.eq 1).trans (congrFun hF37 1)))))))) ?_
                  refine WL.va rfl rfl rfl (X.fieldAddrO (off := 3) ((hACr11.eq 9).trans ((congrFun hF69 9).trans ((congrFun hF67 9).trans ((hACs9.eq 9).trans (congrFun hF52 9))))) Try.underlying41 rfl rfl Try.sizeOf3) ?_
                  refine WL.op rfl (OW.storeO hO9 (Nat.le_of_ble_eq_true rfl) rfl rfl rfl Try.sizeOf3 ?_)
                  intro w76 hO9 hx78
                  have := World.grownBy.size hx78
                  replace hO2 := hO2.keptO hx78 (by omega)
                  replace hO4 := hO4.keptO hx78 (by omega)
                  replace hO6 := hO6.keptO hx78 (by omega)
                  replace hO7 := hO7.keptO hx78 (by omega)
                  replace oT := oT.keptO hx78 (by omega)
                  replace hO9 : Blk _ _ _ (Rg.c { r1 with Epoch := e }) := hO9
                  refine WL.nil ?_
                  refine thn_n ?_
                  exact ⟨(by repeat (first | exact (Agree.refl _ F66) | refine Agree.put ?_ rfl | refine Agree.sub hACr11 rfl ?_ | refine Agree.sub hACs9 rfl ?_ | refine Agree.sub hAL0 rfl ?_ | refine Agree.named hF69 ?_ | refine Agree.named hF67 ?_ | refine Agree.named hF52 ?_ | refine Agree.named hF37 ?_)), (Ext.store hwCs9 hx78 (by omega)), ⟨by rw [hr2e]; exact hO9, hO2, hO4, hO6, hO7, oT, by omega⟩⟩
                · have gh3_74 := (of_decide_eq_false h3_74)
                  have hr2e : (newR m.R m.M e (n : Int)) = r1 := by subst hr1; exact if_neg gh3_74
                  refine WF.skip ?_
                  refine thn_n ?_
                  exact ⟨(by repeat (first | exact (Agree.refl _ F66) | refine Agree.put ?_ rfl | refine Agree.sub hACr11 rfl ?_ | refine Agree.sub hACs9 rfl ?_ | refine Agree.sub hAL0 rfl ?_ | refine Agree.named hF69 ?_ | refine Agree.named hF67 ?_ | refine Agree.named hF52 ?_ | refine Agree.named hF37 ?_)), hwCs9, ⟨by rw [hr2e]; exact hO9, hO2, hO4, hO6, hO7, oT, by omega⟩⟩
            · rintro fCs11 wCs11 ⟨hACs11, hwCs11, ⟨hO9, hO2, hO4, hO6, hO7, oT, hzL⟩⟩
              have := World.grownBy.size hwCs11
              refine WF.seq ?_
              refine WF.region ?_
              refine WL.va rfl rfl rfl (X.fieldAddrO (off := 0) ((hACs11.eq 7).trans ((congrFun hF67 7).trans ((hACs9.eq 7).trans ((congrFun hF52 7).trans ((hAL0.eq 7).trans (congrFun hF37 7)))))) Try.underlying26 rfl rfl Try.sizeOf22) ?_
              refine WL.va rfl rfl rfl (X.loadO hO7 (Ext.refl _) rfl rfl Try.isAgg22) ?_
              refine WL.va rfl rfl rfl (X.len (oT.rd) rfl Try.underlying22) ?_
              refine WL.va rfl rfl rfl (X.sub rfl rfl (w64 (by omega))) ?_
              refine WL.va rfl rfl rfl (X.assignI rfl) ?_
              refine WL.nil ?_
              refine thn_n ?_
              refine WF.seq ?_
              refine WF.seq ?_
              refine WF.drawn (.q 0 (.q 1 (.q 2 (.q 3 (.q 4 (.q 5 (.q 6 (.q 7 (.q 8 (.q 9 (.q 10 (.q 11 (.q 12 .nil))))))))))))) (fun w' => Ext wCs11 w') 13 (by kernel_rfl) (by kernel_rfl) (Ext.drew _) ?_
              have := World.grownBy.size (Ext.drew wCs11)
              refine WO.q rfl rfl rfl rfl (fun w' hE80 => (X.moveI rfl)) ?_
              refine WO.q rfl rfl rfl rfl (fun w' hE80 => (X.geq rfl rfl)) ?_
              refine WO.q rfl rfl rfl rfl (fun w' hE80 => (X.moveB rfl)) ?_
              refine WO.split (j := 2) rfl (fun h82 => ?_) (fun h82 => ?_)
              · have gh82 := (of_decide_eq_true h82)
                have hl1 : (runs (newR m.R m.M e) n).length - 1 < (runs (newR m.R m.M e) n).length := by have := gh82; omega
                have hl2 : ((runs (newR m.R m.M e) n).length : Int) - 1 = (((runs (newR m.R m.M e) n).length - 1 : Nat) : Int) := by have := gh82; omega
                refine WO.qg rfl rfl (congrArg some h82) rfl rfl (fun w' hE80 => (X.fieldAddrO (off := 0) ((hACs11.eq 7).trans ((congrFun hF67 7).trans ((hACs9.eq 7).trans ((congrFun hF52 7).trans ((hAL0.eq 7).trans (congrFun hF37 7)))))) Try.underlying26 rfl rfl Try.sizeOf22)) ?_
                refine WO.qg rfl rfl (congrArg some h82) rfl rfl (fun w' hE80 => (X.loadO hO7 hE80 rfl rfl Try.isAgg22)) ?_
                refine WO.qg rfl rfl (congrArg some h82) rfl rfl (fun w' hE80 => (X.moveI rfl)) ?_
                refine WO.qg rfl rfl (congrArg some h82) rfl rfl (fun w' hE80 => (X.idx (k := (runs (newR m.R m.M e) n).length - 1) (oT.rd) rfl (Eq.trans rfl (congrArg i64 hl2)) hl1 Try.underlying22 Try.sizeOf41)) ?_
                refine WO.qg rfl rfl (congrArg some h82) rfl rfl (fun w' hE80 => (X.fieldAddrA rfl Try.underlying41 rfl rfl Try.sizeOf3)) ?_
                refine WO.qg rfl rfl (congrArg some h82) rfl rfl (fun w' hE80 => (X.loadE (oT.rd) hE80 rfl hl1 ((Rgs.get hl1 (by decide)).trans rfl) Try.isAgg3)) ?_
                refine WO.qg rfl rfl (congrArg some h82) rfl rfl (fun w' hE80 => (X.fieldAddrO (off := 2) ((hACs11.eq 9).trans ((congrFun hF67 9).trans ((hACs9.eq 9).trans (congrFun hF52 9)))) Try.underlying41 rfl rfl Try.sizeOf3)) ?_
                refine WO.qg rfl rfl (congrArg some h82) rfl rfl (fun w' hE80 => (X.loadO hO9 hE80 rfl rfl Try.isAgg3)) ?_
                refine WO.qg rfl rfl (congrArg some h82) rfl rfl (fun w' hE80 => (X.eql rfl rfl)) ?_
                refine WO.q rfl rfl rfl rfl (fun w' hE80 => (X.pickT rfl h82 rfl)) ?_
                refine WO.nil ?_
                refine WL.nil ?_
                refine thn_n ?_
                refine WF.cond rfl (fun h4_83 => ?_) (fun h4_83 => ?_)
                · have gh4_83 := (of_decide_eq_true h4_83)
                  have hrun := run1_yes (f := (newR m.R m.M e)) (n := n) hl1 gh4_83
                  refine WF.seq ?_
                  refine WF.region ?_
                  refine WL.va rfl rfl rfl (X.fieldAddrO (off := 0) ((hACs11.eq 7).trans ((congrFun hF67 7).trans ((hACs9.eq 7).trans ((congrFun hF52 7).trans ((hAL0.eq 7).trans (congrFun hF37 7)))))) Try.underlying26 rfl rfl Try.sizeOf22) ?_
                  refine WL.va rfl rfl rfl (X.loadO hO7 (Ext.drew _) rfl rfl Try.isAgg22) ?_
                  refine WL.va rfl rfl rfl (X.moveI rfl) ?_
                  refine WL.va rfl rfl rfl (X.moveI ((hACs11.eq 8).trans ((congrFun hF67 8).trans ((hACs9.eq 8).trans ((congrFun hF52 8).trans e8_L0))))) ?_
                  refine WL.va rfl rfl rfl (X.add rfl rfl (w64 (by omega))) ?_
                  refine WL.va rfl rfl rfl (X.idx (k := (runs (newR m.R m.M e) n).length - 1) (oT.rd) rfl (Eq.trans rfl (congrArg i64 hl2)) hl1 Try.underlying22 Try.sizeOf41) ?_
                  refine WL.va rfl rfl rfl (X.fieldAddrA rfl Try.underlying41 rfl rfl Try.sizeOf3) ?_
                  refine WL.op rfl (OW.storeIF (i := ((runs (newR m.R m.M e) n).length - 1)) (off := 1) (oT.ext (Ext.drew _)).own hl1 (by decide) rfl rfl rfl Try.sizeOf3 ?_)
                  intro w85 ho88 hx87
                  have := World.grownBy.size hx87
                  replace hO2 := (hO2.ext (Ext.drew _)).keptR hx87 (fun b hb => by have h1 := ((oT.ext (Ext.drew _)).own.lt b hb).1; have h2 := oT.top b hb; omega)
                  replace hO4 := (hO4.ext (Ext.drew _)).keptR hx87 (fun b hb => by have h1 := ((oT.ext (Ext.drew _)).own.lt b hb).1; have h2 := oT.top b hb; omega)
                  replace hO6 := (hO6.ext (Ext.drew _)).keptR hx87 (fun b hb => by have h1 := ((oT.ext (Ext.drew _)).own.lt b hb).1; have h2 := oT.top b hb; omega)
                  replace hO7 := (hO7.ext (Ext.drew _)).keptR hx87 (fun b hb => by have h1 := ((oT.ext (Ext.drew _)).own.lt b hb).1; have h2 := oT.top b hb; omega)
                  replace hO9 := (hO9.ext (Ext.drew _)).keptR hx87 (fun b hb => by have h1 := ((oT.ext (Ext.drew _)).own.lt b hb).1; have h2 := oT.top b hb; omega)
                  have oS : OwnR w85 wO.heap.size 41 vo ((runs (newR m.R m.M e) n).set ((runs (newR m.R m.M e) n).length - 1) { (runs (newR m.R m.M e) n)[(runs (newR m.R m.M e) n).length - 1] with Hi := (n : Int) + 1 }) := by
                    have q : World.ownsRow w85 wO.heap.size 41 4 vo (runs (newR m.R m.M e) n).length (((runs (newR m.R m.M e) n).flatMap Rg.c).set (((runs (newR m.R m.M e) n).length - 1) * 4 + 1) (i64 ((n : Int) + 1))) := ho88
                    rw [rg_sethi hl1] at q
                    unfold OwnR; rw [List.length_set]; exact q
                  refine WL.nil ?_
                  refine thn_n ?_
                  refine WF.exit ?_
                  refine thn_x ?_
                  refine blk_eq ?_
                  refine thn_n ?_
                  refine WF.region ?_
                  refine WL.va rfl rfl rfl (X.moveI ((hACs11.eq 8).trans ((congrFun hF67 8).trans ((hACs9.eq 8).trans ((congrFun hF52 8).trans e8_L0))))) ?_
                  refine WL.va rfl rfl rfl (X.add rfl rfl (w64 (by omega))) ?_
                  refine WL.va rfl rfl rfl (X.assignI rfl) ?_
                  refine WL.nil ?_
                  exact thn_n ⟨_, (by omega), n + 1, _, rfl, rfl, (by repeat (first | exact hAL0 | refine Agree.put ?_ rfl | refine Agree.sub hACs11 rfl ?_ | refine Agree.sub hACs9 rfl ?_ | refine Agree.named hF67 ?_ | refine Agree.named hF52 ?_ | refine Agree.named hF37 ?_)), (grown_trans (Ext.trans (Ext.trans (Ext.trans hwL0 hx41) hwCs11) (Ext.drew _)) hx87 (fun i hi => by have := ((oT.ext (Ext.drew _)).own.lt i hi).1; omega)), ⟨by omega, hO2, hO4, hO6, hO7, (by rw [runs_succ, hrun]; exact oS), by omega⟩⟩
                · have gh4_83 := (of_decide_eq_false h4_83)
                  have hrun := run1_no (f := (newR m.R m.M e)) (n := n) (fun a ha => by rw [List.getLast?_eq_getElem?, List.getElem?_eq_getElem hl1] at ha; injection ha with ha; subst ha; exact gh4_83)
                  refine WF.skip ?_
                  refine thn_n ?_
                  refine WF.seq ?_
                  refine WF.region ?_
                  refine WL.va rfl rfl rfl (X.moveI ((hACs11.eq 8).trans ((congrFun hF67 8).trans ((hACs9.eq 8).trans ((congrFun hF52 8).trans e8_L0))))) ?_
                  refine WL.va rfl rfl rfl (X.fieldAddrO (off := 0) ((hACs11.eq 9).trans ((congrFun hF67 9).trans ((hACs9.eq 9).trans (congrFun hF52 9)))) Try.underlying41 rfl rfl Try.sizeOf3) ?_
                  refine WL.op rfl (OW.storeO (hO9.ext (Ext.drew _)) (Nat.le_of_ble_eq_true rfl) rfl rfl rfl Try.sizeOf3 ?_)
                  intro w89 hO9 hx91
                  have := World.grownBy.size hx91
                  replace hO2 := (hO2.ext (Ext.drew _)).keptO hx91 (by omega)
                  replace hO4 := (hO4.ext (Ext.drew _)).keptO hx91 (by omega)
                  replace hO6 := (hO6.ext (Ext.drew _)).keptO hx91 (by omega)
                  replace hO7 := (hO7.ext (Ext.drew _)).keptO hx91 (by omega)
                  replace oT := (oT.ext (Ext.drew _)).keptO hx91 (by omega)
                  replace hO9 : Blk _ _ _ (Rg.c { (newR m.R m.M e (n : Int)) with Lo := (n : Int) }) := hO9
                  refine WL.nil ?_
                  refine thn_n ?_
                  refine WF.seq ?_
                  refine WF.region ?_
                  refine WL.va rfl rfl rfl (X.moveI ((hACs11.eq 8).trans ((congrFun hF67 8).trans ((hACs9.eq 8).trans ((congrFun hF52 8).trans e8_L0))))) ?_
                  refine WL.va rfl rfl rfl (X.add rfl rfl (w64 (by omega))) ?_
                  refine WL.va rfl rfl rfl (X.fieldAddrO (off := 1) ((hACs11.eq 9).trans ((congrFun hF67 9).trans ((hACs9.eq 9).trans (congrFun hF52 9)))) Try.underlying41 rfl rfl Try.sizeOf3) ?_
                  refine WL.op rfl (OW.storeO hO9 (Nat.le_of_ble_eq_true rfl) rfl rfl rfl Try.sizeOf3 ?_)
                  intro w93 hO9 hx95
                  have := World.grownBy.size hx95
                  replace hO2 := hO2.keptO hx95 (by omega)
                  replace hO4 := hO4.keptO hx95 (by omega)
                  replace hO6 := hO6.keptO hx95 (by omega)
                  replace hO7 := hO7.keptO hx95 (by omega)
                  replace oT := oT.keptO hx95 (by omega)
                  replace hO9 : Blk _ _ _ (Rg.c ⟨n, (n : Int) + 1, (newR m.R m.M e (n : Int)).Group, (newR m.R m.M e (n : Int)).Epoch⟩) := hO9
                  refine WL.nil ?_
                  refine thn_n ?_
                  refine WF.region ?_
                  refine WL.va rfl rfl rfl (X.fieldAddrO (off := 0) ((hACs11.eq 7).trans ((congrFun hF67 7).trans ((hACs9.eq 7).trans ((congrFun hF52 7).trans ((hAL0.eq 7).trans (congrFun hF37 7)))))) Try.underlying26 rfl rfl Try.sizeOf22) ?_
                  refine WL.va rfl rfl rfl (X.loadO hO7 (Ext.refl _) rfl rfl Try.isAgg22) ?_
                  refine WL.va rfl rfl rfl (X.loadOA hO9 (Ext.refl _) ((hACs11.eq 9).trans ((congrFun hF67 9).trans ((hACs9.eq 9).trans (congrFun hF52 9)))) rfl Try.isAgg41 Try.sizeOf41) ?_
                  refine WL.op rfl (OW.lits (vs := [_]) (evp_cons rfl evp_nil) Try.underlying22 Try.sizeOf41 Try.zeroValue41 ⟨rfl, trivial⟩ rfl rfl rfl ?_ (by decide))
                  intro v98 w97 ho100 hx99
                  have := World.grownBy.size hx99
                  have hlt := ho100
                  refine WL.op rfl (OW.append (bytes := 32) (oT.ext hx99).own (Row.of_own hlt) (Rg.c_one _) rfl rfl Try.underlying22 Try.type41 rfl rfl rfl rfl (by decide) (by unfold maxLen; omega) (by omega) (by omega) ?_ (by decide))
                  intro vN w101 ho103 hx102 hmvhx102
                  have := World.grownBy.size hx102
                  replace hO2 := (hO2.ext hx99).keptR hx102 (fun b hb => by have h1 := ((oT.ext hx99).own.lt b hb).1; have h2 := oT.top b hb; omega)
                  replace hO4 := (hO4.ext hx99).keptR hx102 (fun b hb => by have h1 := ((oT.ext hx99).own.lt b hb).1; have h2 := oT.top b hb; omega)
                  replace hO6 := (hO6.ext hx99).keptR hx102 (fun b hb => by have h1 := ((oT.ext hx99).own.lt b hb).1; have h2 := oT.top b hb; omega)
                  replace hO7 := (hO7.ext hx99).keptR hx102 (fun b hb => by have h1 := ((oT.ext hx99).own.lt b hb).1; have h2 := oT.top b hb; omega)
                  replace hO9 := (hO9.ext hx99).keptR hx102 (fun b hb => by have h1 := ((oT.ext hx99).own.lt b hb).1; have h2 := oT.top b hb; omega)
                  have oN := OwnR.app (m := [⟨n, (n : Int) + 1, (newR m.R m.M e (n : Int)).Group, (newR m.R m.M e (n : Int)).Epoch⟩]) ho103
                  refine WL.va rfl rfl rfl (X.fieldAddrO (off := 0) ((hACs11.eq 7).trans ((congrFun hF67 7).trans ((hACs9.eq 7).trans ((congrFun hF52 7).trans ((hAL0.eq 7).trans (congrFun hF37 7)))))) Try.underlying26 rfl rfl Try.sizeOf22) ?_
                  refine WL.op rfl (OW.storeO hO7 (Nat.le_of_ble_eq_true rfl) rfl rfl (own_one oN) Try.sizeOf22 ?_)
                  intro w104 hO7 hx106
                  have := World.grownBy.size hx106
                  replace hO2 := hO2.keptO hx106 (by omega)
                  replace hO4 := hO4.keptO hx106 (by omega)
                  replace hO6 := hO6.keptO hx106 (by omega)
                  replace hO9 := hO9.keptO hx106 (by omega)
                  replace oN := own_keptO oN hx106 (by omega)
                  replace hO7 : Blk _ _ _ (Mp.c ⟨[], m.E, Mv.zero⟩ vN) := hO7
                  refine WL.nil ?_
                  refine blk_n ?_
                  refine thn_n ?_
                  refine WF.region ?_
                  refine WL.va rfl rfl rfl (X.moveI ((hACs11.eq 8).trans ((congrFun hF67 8).trans ((hACs9.eq 8).trans ((congrFun hF52 8).trans e8_L0))))) ?_
                  refine WL.va rfl rfl rfl (X.add rfl rfl (w64 (by omega))) ?_
                  refine WL.va rfl rfl rfl (X.assignI rfl) ?_
                  refine WL.nil ?_
                  exact thn_n ⟨_, (by omega), n + 1, _, rfl, rfl, (by repeat (first | exact hAL0 | refine Agree.put ?_ rfl | refine Agree.sub hACs11 rfl ?_ | refine Agree.sub hACs9 rfl ?_ | refine Agree.named hF67 ?_ | refine Agree.named hF52 ?_ | refine Agree.named hF37 ?_)), (Ext.store (Ext.own (Ext.trans (Ext.trans (Ext.trans hwL0 hx41) (Ext.store (Ext.store (Ext.trans hwCs11 (Ext.drew _)) hx91 (by omega)) hx95 (by omega))) hx99) (own_mono (oT.ext hx99).own (by omega)) (Nat.le_refl _) hx102) hx106 (by omega)), ⟨by omega, hO2, hO4, hO6, hO7, (by rw [runs_succ, hrun]; exact oN), by omega⟩⟩
              · have gh82 := (of_decide_eq_false h82)
                have hl0 : (runs (newR m.R m.M e) n).length = 0 := by have := gh82; omega
                have hrun := run1_no (f := (newR m.R m.M e)) (L := (runs (newR m.R m.M e) n)) (n := n) (fun a ha => by rw [List.eq_nil_of_length_eq_zero hl0] at ha; cases ha)
                refine WO.qp rfl rfl rfl rfl (congrArg some h82) ?_
                refine WO.qp rfl rfl rfl rfl (congrArg some h82) ?_
                refine WO.qp rfl rfl rfl rfl (congrArg some h82) ?_
                refine WO.qp rfl rfl rfl rfl (congrArg some h82) ?_
                refine WO.qp rfl rfl rfl rfl (congrArg some h82) ?_
                refine WO.qp rfl rfl rfl rfl (congrArg some h82) ?_
                refine WO.qp rfl rfl rfl rfl (congrArg some h82) ?_
                refine WO.qp rfl rfl rfl rfl (congrArg some h82) ?_
                refine WO.qp rfl rfl rfl rfl (congrArg some h82) ?_
                refine WO.q rfl rfl rfl rfl (fun w' hE80 => (X.pickF rfl h82 rfl)) ?_
                refine WO.nil ?_
                refine WL.nil ?_
                refine thn_n ?_
                refine WF.cond_f rfl ?_
                refine WF.skip ?_
                refine thn_n ?_
                refine WF.seq ?_
                refine WF.region ?_
                refine WL.va rfl rfl rfl (X.moveI ((hACs11.eq 8).trans ((congrFun hF67 8).trans ((hACs9.eq 8).trans ((congrFun hF52 8).trans e8_L0))))) ?_
                refine WL.va rfl rfl rfl (X.fieldAddrO (off := 0) ((hACs11.eq 9).trans ((congrFun hF67 9).trans ((hACs9.eq 9).trans (congrFun hF52 9)))) Try.underlying41 rfl rfl Try.sizeOf3) ?_
                refine WL.op rfl (OW.storeO (hO9.ext (Ext.drew _)) (Nat.le_of_ble_eq_true rfl) rfl rfl rfl Try.sizeOf3 ?_)
                intro w109 hO9 hx111
                have := World.grownBy.size hx111
                replace hO2 := (hO2.ext (Ext.drew _)).keptO hx111 (by omega)
                replace hO4 := (hO4.ext (Ext.drew _)).keptO hx111 (by omega)
                replace hO6 := (hO6.ext (Ext.drew _)).keptO hx111 (by omega)
                replace hO7 := (hO7.ext (Ext.drew _)).keptO hx111 (by omega)
                replace oT := (oT.ext (Ext.drew _)).keptO hx111 (by omega)
                replace hO9 : Blk _ _ _ (Rg.c { (newR m.R m.M e (n : Int)) with Lo := (n : Int) }) := hO9
                refine WL.nil ?_
                refine thn_n ?_
                refine WF.seq ?_
                refine WF.region ?_
                refine WL.va rfl rfl rfl (X.moveI ((hACs11.eq 8).trans ((congrFun hF67 8).trans ((hACs9.eq 8).trans ((congrFun hF52 8).trans e8_L0))))) ?_
                refine WL.va rfl rfl rfl (X.add rfl rfl (w64 (by omega))) ?_
                refine WL.va rfl rfl rfl (X.fieldAddrO (off := 1) ((hACs11.eq 9).trans ((congrFun hF67 9).trans ((hACs9.eq 9).trans (congrFun hF52 9)))) Try.underlying41 rfl rfl Try.sizeOf3) ?_
                refine WL.op rfl (OW.storeO hO9 (Nat.le_of_ble_eq_true rfl) rfl rfl rfl Try.sizeOf3 ?_)
                intro w113 hO9 hx115
                have := World.grownBy.size hx115
                replace hO2 := hO2.keptO hx115 (by omega)
                replace hO4 := hO4.keptO hx115 (by omega)
                replace hO6 := hO6.keptO hx115 (by omega)
                replace hO7 := hO7.keptO hx115 (by omega)
                replace oT := oT.keptO hx115 (by omega)
                replace hO9 : Blk _ _ _ (Rg.c ⟨n, (n : Int) + 1, (newR m.R m.M e (n : Int)).Group, (newR m.R m.M e (n : Int)).Epoch⟩) := hO9
                refine WL.nil ?_
                refine thn_n ?_
                refine WF.region ?_
                refine WL.va rfl rfl rfl (X.fieldAddrO (off := 0) ((hACs11.eq 7).trans ((congrFun hF67 7).trans ((hACs9.eq 7).trans ((congrFun hF52 7).trans ((hAL0.eq 7).trans (congrFun hF37 7)))))) Try.underlying26 rfl rfl Try.sizeOf22) ?_
                refine WL.va rfl rfl rfl (X.loadO hO7 (Ext.refl _) rfl rfl Try.isAgg22) ?_
                refine WL.va rfl rfl rfl (X.loadOA hO9 (Ext.refl _) ((hACs11.eq 9).trans ((congrFun hF67 9).trans ((hACs9.eq 9).trans (congrFun hF52 9)))) rfl Try.isAgg41 Try.sizeOf41) ?_
                refine WL.op rfl (OW.lits (vs := [_]) (evp_cons rfl evp_nil) Try.underlying22 Try.sizeOf41 Try.zeroValue41 ⟨rfl, trivial⟩ rfl rfl rfl ?_ (by decide))
                intro v118 w117 ho120 hx119
                have := World.grownBy.size hx119
                have hlt := ho120
                refine WL.op rfl (OW.append (bytes := 32) (oT.ext hx119).own (Row.of_own hlt) (Rg.c_one _) rfl rfl Try.underlying22 Try.type41 rfl rfl rfl rfl (by decide) (by unfold maxLen; omega) (by omega) (by omega) ?_ (by decide))
                intro vN w121 ho123 hx122 hmvhx122
                have := World.grownBy.size hx122
                replace hO2 := (hO2.ext hx119).keptR hx122 (fun b hb => by have h1 := ((oT.ext hx119).own.lt b hb).1; have h2 := oT.top b hb; omega)
                replace hO4 := (hO4.ext hx119).keptR hx122 (fun b hb => by have h1 := ((oT.ext hx119).own.lt b hb).1; have h2 := oT.top b hb; omega)
                replace hO6 := (hO6.ext hx119).keptR hx122 (fun b hb => by have h1 := ((oT.ext hx119).own.lt b hb).1; have h2 := oT.top b hb; omega)
                replace hO7 := (hO7.ext hx119).keptR hx122 (fun b hb => by have h1 := ((oT.ext hx119).own.lt b hb).1; have h2 := oT.top b hb; omega)
                replace hO9 := (hO9.ext hx119).keptR hx122 (fun b hb => by have h1 := ((oT.ext hx119).own.lt b hb).1; have h2 := oT.top b hb; omega)
                have oN := OwnR.app (m := [⟨n, (n : Int) + 1, (newR m.R m.M e (n : Int)).Group, (newR m.R m.M e (n : Int)).Epoch⟩]) ho123
                refine WL.va rfl rfl rfl (X.fieldAddrO (off := 0) ((hACs11.eq 7).trans ((congrFun hF67 7).trans ((hACs9.eq 7).trans ((congrFun hF52 7).trans ((hAL0.eq 7).trans (congrFun hF37 7)))))) Try.underlying26 rfl rfl Try.sizeOf22) ?_
                refine WL.op rfl (OW.storeO hO7 (Nat.le_of_ble_eq_true rfl) rfl rfl (own_one oN) Try.sizeOf22 ?_)
                intro w124 hO7 hx126
                have := World.grownBy.size hx126
                replace hO2 := hO2.keptO hx126 (by omega)
                replace hO4 := hO4.keptO hx126 (by omega)
                replace hO6 := hO6.keptO hx126 (by omega)
                replace hO9 := hO9.keptO hx126 (by omega)
                replace oN := own_keptO oN hx126 (by omega)
                replace hO7 : Blk _ _ _ (Mp.c ⟨[], m.E, Mv.zero⟩ vN) := hO7
                refine WL.nil ?_
                refine blk_n ?_
                refine thn_n ?_
                refine WF.region ?_
                refine WL.va rfl rfl rfl (X.moveI ((hACs11.eq 8).trans ((congrFun hF67 8).trans ((hACs9.eq 8).trans ((congrFun hF52 8).trans e8_L0))))) ?_
                refine WL.va rfl rfl rfl (X.add rfl rfl (w64 (by omega))) ?_
                refine WL.va rfl rfl rfl (X.assignI rfl) ?_
                refine WL.nil ?_
                exact thn_n ⟨_, (by omega), n + 1, _, rfl, rfl, (by repeat (first | exact hAL0 | refine Agree.put ?_ rfl | refine Agree.sub hACs11 rfl ?_ | refine Agree.sub hACs9 rfl ?_ | refine Agree.named hF67 ?_ | refine Agree.named hF52 ?_ | refine Agree.named hF37 ?_)), (Ext.store (Ext.own (Ext.trans (Ext.trans (Ext.trans hwL0 hx41) (Ext.store (Ext.store (Ext.trans hwCs11 (Ext.drew _)) hx111 (by omega)) hx115 (by omega))) hx119) (own_mono (oT.ext hx119).own (by omega)) (Nat.le_refl _) hx122) hx126 (by omega)), ⟨by omega, hO2, hO4, hO6, hO7, (by rw [runs_succ, hrun]; exact oN), by omega⟩⟩
        · have gh1_38 := (of_decide_eq_false h1_38)
          refine WF.exit ?_
          refine thn_x ?_
          refine thn_x ?_
          refine blk_eq ?_
          refine thn_n ?_
          refine WF.seq ?_
          refine WF.region ?_
          refine WL.va rfl rfl rfl (X.loadOA hO7 (Ext.refl _) ((hAL0.eq 7).trans (congrFun hF37 7)) rfl Try.isAgg26 Try.sizeOf26) ?_
          refine WL.op rfl (OW.storeOA hO4 ((hAL0.eq 4).trans (congrFun hF37 4)) rfl rfl (Mp.c_one oT.rd ⟨runs (newR m.R m.M e) 64, m.E, Mv.zero⟩) Try.sizeOf26 ?_)
          intro w128 hO4 hx130
          have := World.grownBy.size hx130
          replace hO2 := hO2.keptO hx130 (by omega)
          replace hO6 := hO6.keptO hx130 (by omega)
          replace hO7 := hO7.keptO hx130 (by omega)
          replace oT := oT.keptO hx130 (by omega)
          refine WL.va rfl rfl rfl (X.assignI rfl) ?_
          refine WL.nil ?_
          refine thn_n ?_
          refine WF.ret ?_
          refine finC_r (vs := [_, _]) ⟨⟨_, ((hAL0.eq 4).trans (congrFun hF37 4)), readO hO4 Try.isAgg26 Try.sizeOf26⟩, rfl, trivial⟩ ?_
          obtain rfl : n = 64 := by omega
          exact ⟨⟨_, ⟨runs (newR m.R m.M e) 64, m.E, Mv.zero⟩, 0, rfl, own_mono oT.own (by omega), .inr ⟨hno, rfl, rfl⟩⟩, (Ext.store (Ext.trans (Ext.trans (Ext.trans hx3 hx7) (Ext.store hx11 hx14 (by omega))) hwL0) hx130 (by omega))⟩

end Go.Proofs.Ytpimnlgfhpnjnaa
