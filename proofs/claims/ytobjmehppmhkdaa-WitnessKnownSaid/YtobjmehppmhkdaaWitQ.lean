/- The walk of WitnessReal. -/
import Derived.Test.YtobjmehppmhkdaaWitP
namespace Go.Proofs.Ytobjmehppmhkdaa
open Go Go.RowKit Kf
set_option maxRecDepth 20000

def bgF (_ : Nat) (e : Ev) : Bool := decide (1024 < e.Call.Data.length) || decide (1024 < e.Answer.Data.length)
def bigB (l : List Ev) : Bool := decide (120 < l.length) || anyI l bgF
def wtF (t : Int) (_ : Nat) (e : Ev) : Bool := decide (e.Txn = t) && ans e 3 0
theorem wt_any {l : List Ev} {t : Int} : anyI l (wtF t) = writesB l t := by
  unfold anyI writesB wtF
  rw [Bool.eq_iff_iff, List.any_eq_true, List.any_eq_true]
  constructor
  · rintro ⟨i, hi, h⟩
    have hi := List.mem_range.1 hi
    rw [List.getD_eq_getElem?_getD, List.getElem?_eq_getElem hi] at h
    exact ⟨_, List.getElem_mem hi, h⟩
  · rintro ⟨e, he, h⟩
    obtain ⟨i, hi, rfl⟩ := List.mem_iff_getElem.1 he
    exact ⟨i, List.mem_range.2 hi, by rw [List.getD_eq_getElem?_getD, List.getElem?_eq_getElem hi]; exact h⟩
/-- the place of a first call -/
def FcZ (l : List Ev) (t z : Int) : Prop := z = -1 ∨ ∃ f, ∃ hf : f < l.length, z = (f : Int) ∧ l[f].Txn = t ∧ goesOn l[f] = true
theorem chk_zero {l : List Ev} (h : checkL l = 0) : earlyB l = false ∧ lateB l = false := by
  cases a : formB l <;> cases b : twiceB l <;> cases c : deniedB l <;> cases d : earlyB l <;> cases e : lateB l <;> simp_all [checkL, checks, firstG]
def skB (l : List Ev) (e : Ev) : Bool := !(ans e 9 0 || (ans e 7 0 || (ans e 4 0 && writesB l e.Txn)))
section
variable {l : List Ev} {e : Ev}
theorem sk_1 (h : ¬ e.Kind = 2) : Value.bool true = Value.bool (skB l e) := by simp [skB, ans, h]
theorem sk_2 (h : e.Kind = 2) (h2 : ¬ e.Answer.Code = 0) : Value.bool true = Value.bool (skB l e) := by simp [skB, ans, h2]
theorem sk_3 (h : e.Kind = 2) (h2 : e.Answer.Code = 0) (h9 : ¬ e.Call.Kind = 9) (h7 : ¬ e.Call.Kind = 7) (h4 : ¬ e.Call.Kind = 4) : Value.bool true = Value.bool (skB l e) := by simp [skB, ans, h9, h7, h4]
theorem sk_4 (h : e.Kind = 2) (h2 : e.Answer.Code = 0) (h4 : e.Call.Kind = 4) : Value.bool (!writesB l e.Txn) = Value.bool (skB l e) := by simp [skB, ans, h, h2, h4]
theorem sk_5 (h : e.Kind = 2) (h2 : e.Answer.Code = 0) (h7 : e.Call.Kind = 7) : Value.bool false = Value.bool (skB l e) := by simp [skB, ans, h, h2, h7]
theorem sk_6 (h : e.Kind = 2) (h2 : e.Answer.Code = 0) (h9 : e.Call.Kind = 9) : Value.bool false = Value.bool (skB l e) := by simp [skB, ans, h, h2, h9]
theorem sk_no (h : skB l e = false) : ans e 9 0 = true ∨ ans e 7 0 = true ∨ (ans e 4 0 = true ∧ writesB l e.Txn = true) := by
  unfold skB at h
  cases a : ans e 9 0 <;> cases b : ans e 7 0 <;> simp_all
theorem fc_no {l : List Ev} {b k a : Nat} {z : Int} (hb : b < (orderL l).length) (hfc : FcZ l ((orderL l).getD b 0) z) (hzk : (k : Int) < z) (hba : (b : Int) ≤ (a : Int))
    (hlaw : ∀ (b : Nat) (hb : b < (orderL l).length) (f : Nat) (hf : f < l.length), l[f].Txn = (orderL l)[b] → goesOn l[f] = true → k < f → ¬ b ≤ a) : False := by
  rcases hfc with q | ⟨f, hf, q, ht, hg⟩
  · omega
  · exact hlaw b hb f hf (by rw [ht, List.getD_eq_getElem?_getD, List.getElem?_eq_getElem hb]; rfl) hg (by omega) (by omega)
theorem goes_of {e : Ev} (h : e.Kind = 1) (h2 : e.Call.Kind = 2 ∨ e.Call.Kind = 3 ∨ e.Call.Kind = 4) : goesOn e = true := by
  unfold goesOn
  rcases h2 with q | q | q <;> simp [h, q]
end
set_option maxHeartbeats 2000000 in
theorem big_ok (v : Value) (l : List Ev) (w : World) (hv : Evs w v l) : FnOk Try.prog 11 [v] w (fun r w' => r = .bool (bigB l) ∧ Ext w w') := by
  have hle := hv.le
  obtain ⟨cs, hr, hel⟩ := hv
  refine FnOk.enter (rs := [2]) Try.func11 rfl Try.ntmps11 Try.results11 rfl rfl ?_
  refine WF.seq ?_
  refine WF.region ?_
  refine WL.va rfl rfl rfl (X.assignB rfl) ?_
  refine WL.nil ?_
  refine thn_n ?_
  refine WF.seq ?_
  refine WF.seq ?_
  refine WF.region ?_
  refine WL.va rfl rfl rfl (X.move rfl) ?_
  refine WL.va rfl rfl rfl (X.len hr rfl Try.underlying26) ?_
  refine WL.va rfl rfl rfl (X.gtr rfl rfl) ?_
  refine WL.nil ?_
  refine thn_n ?_
  refine WF.cond rfl (fun h0_2 => ?_) (fun h0_2 => ?_)
  · have gh0_2 := (of_decide_eq_true h0_2)
    have hbig : bigB l = true := by unfold bigB; rw [decide_eq_true (by have := gh0_2; omega)]; rfl
    refine WF.seq ?_
    refine WF.region ?_
    refine WL.va rfl rfl rfl (X.assignB rfl) ?_
    refine WL.nil ?_
    refine thn_n ?_
    refine WF.ret ?_
    refine thn_r ?_
    refine fin_r ?_
    exact ⟨congrArg Value.bool hbig.symm, (Ext.refl _)⟩
  · have gh0_2 := (of_decide_eq_false h0_2)
    have hlen : l.length ≤ 120 := by have := gh0_2; omega
    refine WF.skip ?_
    refine thn_n ?_
    refine WF.seq ?_
    refine WF.seq ?_
    refine WF.region ?_
    refine WL.va rfl rfl rfl (X.assignI rfl) ?_
    refine WL.nil ?_
    refine thn_n ?_
    refine WF.block ?_
    refine WF.named (fun F5 hF6 => ?_)
    refine WF.loopN (fun mL0 f' w' => ∃ (k : Nat), mL0 = l.length - k ∧ f' 3 = .int .i64 (k : Int) ∧ Agree [0, 4, 5, 6] f' F5 ∧ Ext w w' ∧ k ≤ l.length ∧ NoI l bgF k) ?_ ?_
    · exact ⟨_, 0, rfl, (congrFun hF6 3), (Agree.refl _ _), (Ext.refl _), ⟨Nat.zero_le _, NoI.z⟩⟩
    · rintro mL0 fL0 wL0 ⟨k, hmL0, e3_L0, hAL0, hwL0, ⟨hk0, hno⟩⟩
      refine WF.seq ?_
      refine WF.seq ?_
      refine WF.region ?_
      refine WL.va rfl rfl rfl (X.moveI e3_L0) ?_
      refine WL.va rfl rfl rfl (X.move ((hAL0.eq 0).trans (congrFun hF6 0))) ?_
      refine WL.va rfl rfl rfl (X.len hr rfl Try.underlying26) ?_
      refine WL.va rfl rfl rfl (X.lss rfl rfl) ?_
      refine WL.nil ?_
      refine thn_n ?_
      refine WF.cond rfl (fun h1_7 => ?_) (fun h1_7 => ?_)
      · have gh1_7 := (of_decide_eq_true h1_7)
        have hk : k < l.length := by have := gh1_7; omega
        obtain ⟨d, d2, hcs, hd1, hd2⟩ := hel k hk
        refine WF.skip ?_
        refine thn_n ?_
        refine WF.seq ?_
        refine WF.block ?_
        refine WF.seq ?_
        refine WF.region ?_
        refine WL.va rfl rfl rfl (X.move ((hAL0.eq 0).trans (congrFun hF6 0))) ?_
        refine WL.va rfl rfl rfl (X.moveI e3_L0) ?_
        refine WL.va rfl rfl rfl (X.idx hr rfl rfl hk Try.underlying26 Try.sizeOf42) ?_
        refine WL.va rfl rfl rfl (X.fieldAddrA rfl Try.underlying42 rfl rfl Try.sizeOf38) ?_
        refine WL.va rfl rfl rfl (X.fieldAddrAA (off := 12) rfl Try.underlying38 rfl rfl Try.sizeOf36) ?_
        refine WL.va rfl rfl rfl (X.loadE hr hwL0 rfl hk ((el_get hcs 15 (by decide)).trans rfl) Try.isAgg36) ?_
        refine WL.va rfl rfl rfl (X.len hd1 rfl Try.underlying36) ?_
        refine WL.va rfl rfl rfl (X.gtr rfl rfl) ?_
        refine WL.va rfl rfl rfl (X.moveB rfl) ?_
        refine WL.split (j := 8) rfl (fun h10 => ?_) (fun h10 => ?_)
        · have gh10 := (of_decide_eq_true h10)
          have hbig : bigB l = true := by unfold bigB; rw [anyI_true (f := bgF) hk (by unfold bgF; rw [decide_eq_true (p := 1024 < (l[k]'hk).Call.Data.length) (by have := gh10; omega)]; rfl)]; simp
          refine WL.p rfl rfl rfl (congrArg some h10) ?_
          refine WL.p rfl rfl rfl (congrArg some h10) ?_
          refine WL.p rfl rfl rfl (congrArg some h10) ?_
          refine WL.p rfl rfl rfl (congrArg some h10) ?_
          refine WL.p rfl rfl rfl (congrArg some h10) ?_
          refine WL.p rfl rfl rfl (congrArg some h10) ?_
          refine WL.p rfl rfl rfl (congrArg some h10) ?_
          refine WL.p rfl rfl rfl (congrArg some h10) ?_
          refine WL.va rfl rfl rfl (X.pickT rfl h10 rfl) ?_
          refine WL.nil ?_
          refine thn_n ?_
          refine WF.cond_t rfl ?_
          refine WF.seq ?_
          refine WF.region ?_
          refine WL.va rfl rfl rfl (X.assignB rfl) ?_
          refine WL.nil ?_
          refine thn_n ?_
          refine WF.ret ?_
          refine blk_r ?_
          refine thn_r ?_
          refine thn_r ?_
          refine blk_r ?_
          refine thn_r ?_
          refine fin_r ?_
          exact ⟨congrArg Value.bool hbig.symm, hwL0⟩
        · have gh10 := (of_decide_eq_false h10)
          have hc1 := gh10
          refine WL.vg rfl (congrArg some h10) rfl rfl (X.move ((hAL0.eq 0).trans (congrFun hF6 0))) ?_
          refine WL.vg rfl (congrArg some h10) rfl rfl (X.moveI e3_L0) ?_
          refine WL.vg rfl (congrArg some h10) rfl rfl (X.idx hr rfl rfl hk Try.underlying26 Try.sizeOf42) ?_
          refine WL.vg rfl (congrArg some h10) rfl rfl (X.fieldAddrA rfl Try.underlying42 rfl rfl Try.sizeOf40) ?_
          refine WL.vg rfl (congrArg some h10) rfl rfl (X.fieldAddrAA (off := 2) rfl Try.underlying40 rfl rfl Try.sizeOf36) ?_
          refine WL.vg rfl (congrArg some h10) rfl rfl (X.loadE hr hwL0 rfl hk ((el_get hcs 18 (by decide)).trans rfl) Try.isAgg36) ?_
          refine WL.vg rfl (congrArg some h10) rfl rfl (X.len hd2 rfl Try.underlying36) ?_
          refine WL.vg rfl (congrArg some h10) rfl rfl (X.gtr rfl rfl) ?_
          refine WL.va rfl rfl rfl (X.pickF rfl h10 rfl) ?_
          refine WL.nil ?_
          refine thn_n ?_
          refine WF.cond rfl (fun h2_13 => ?_) (fun h2_13 => ?_)
          · have gh2_13 := (of_decide_eq_true h2_13)
            have hbig : bigB l = true := by unfold bigB; rw [anyI_true (f := bgF) hk (by unfold bgF; rw [decide_eq_true (p := 1024 < (l[k]'hk).Answer.Data.length) (by have := gh2_13; omega)]; simp)]; simp
            refine WF.seq ?_
            refine WF.region ?_
            refine WL.va rfl rfl rfl (X.assignB rfl) ?_
            refine WL.nil ?_
            refine thn_n ?_
            refine WF.ret ?_
            refine blk_r ?_
            refine thn_r ?_
            refine thn_r ?_
            refine blk_r ?_
            refine thn_r ?_
            refine fin_r ?_
            exact ⟨congrArg Value.bool hbig.symm, hwL0⟩
          · have gh2_13 := (of_decide_eq_false h2_13)
            have hfk : bgF k (l[k]'hk) = false := by unfold bgF; rw [decide_eq_false (p := 1024 < (l[k]'hk).Answer.Data.length) (by have := gh2_13; omega), decide_eq_false (p := 1024 < (l[k]'hk).Call.Data.length) (by omega)]; rfl
            refine WF.skip ?_
            refine blk_n ?_
            refine thn_n ?_
            refine WF.region ?_
            refine WL.va rfl rfl rfl (X.moveI e3_L0) ?_
            refine WL.va rfl rfl rfl (X.add rfl rfl (w64 (by omega))) ?_
            refine WL.va rfl rfl rfl (X.assignI rfl) ?_
            refine WL.nil ?_
            exact thn_n ⟨_, (by omega), k + 1, rfl, rfl, (by repeat (first | exact hAL0 | refine Agree.put ?_ rfl | refine Agree.named hF6 ?_)), hwL0, ⟨by omega, hno.s hk hfk⟩⟩
      · have gh1_7 := (of_decide_eq_false h1_7)
        have hk : l.length ≤ k := by have := gh1_7; omega
        refine WF.exit ?_
        refine thn_x ?_
        refine thn_x ?_
        refine blk_eq ?_
        refine thn_n ?_
        refine WF.seq ?_
        refine WF.region ?_
        refine WL.va rfl rfl rfl (X.assignB rfl) ?_
        refine WL.nil ?_
        refine thn_n ?_
        refine WF.ret ?_
        refine fin_r ?_
        exact ⟨congrArg Value.bool (show false = bigB l by unfold bigB; rw [decide_eq_false (by omega), anyI_false hno hk]; rfl), hwL0⟩

set_option maxHeartbeats 2000000 in
theorem lwrites_ok (v : Value) (l : List Ev) (t : Int) (w : World) (hv : Evs w v l) : FnOk Try.prog 13 [v, i64 t] w (fun r w' => r = .bool (writesB l t) ∧ Ext w w') := by
  have hle := hv.le
  obtain ⟨cs, hr, hel⟩ := hv
  refine FnOk.enter (rs := [4]) Try.func13 rfl Try.ntmps13 Try.results13 rfl rfl ?_
  refine WF.seq ?_
  refine WF.region ?_
  refine WL.va rfl rfl rfl (X.assignB rfl) ?_
  refine WL.nil ?_
  refine thn_n ?_
  refine WF.seq ?_
  refine WF.seq ?_
  refine WF.region ?_
  refine WL.va rfl rfl rfl (X.assignI rfl) ?_
  refine WL.nil ?_
  refine thn_n ?_
  refine WF.block ?_
  refine WF.named (fun F2 hF3 => ?_)
  refine WF.loopN (fun mL0 f' w' => ∃ (k : Nat), mL0 = l.length - k ∧ f' 5 = .int .i64 (k : Int) ∧ Agree [0, 1] f' F2 ∧ Ext w w' ∧ k ≤ l.length ∧ NoI l (wtF t) k) ?_ ?_
  · exact ⟨_, 0, rfl, (congrFun hF3 5), (Agree.refl _ _), (Ext.refl _), ⟨Nat.zero_le _, NoI.z⟩⟩
  · rintro mL0 fL0 wL0 ⟨k, hmL0, e5_L0, hAL0, hwL0, ⟨hk0, hno⟩⟩
    refine WF.seq ?_
    refine WF.seq ?_
    refine WF.region ?_
    refine WL.va rfl rfl rfl (X.moveI e5_L0) ?_
    refine WL.va rfl rfl rfl (X.move ((hAL0.eq 0).trans (congrFun hF3 0))) ?_
    refine WL.va rfl rfl rfl (X.len hr rfl Try.underlying26) ?_
    refine WL.va rfl rfl rfl (X.lss rfl rfl) ?_
    refine WL.nil ?_
    refine thn_n ?_
    refine WF.cond rfl (fun h0_4 => ?_) (fun h0_4 => ?_)
    · have gh0_4 := (of_decide_eq_true h0_4)
      have hk : k < l.length := by have := gh0_4; omega
      obtain ⟨d, d2, hcs, hd1, hd2⟩ := hel k hk
      refine WF.skip ?_
      refine thn_n ?_
      refine WF.seq ?_
      refine WF.block ?_
      refine WF.seq ?_
      refine WF.region ?_
      refine WL.va rfl rfl rfl (X.move ((hAL0.eq 0).trans (congrFun hF3 0))) ?_
      refine WL.va rfl rfl rfl (X.moveI e5_L0) ?_
      refine WL.va rfl rfl rfl (X.idx hr rfl rfl hk Try.underlying26 Try.sizeOf42) ?_
      refine WL.va rfl rfl rfl (X.fieldAddrA rfl Try.underlying42 rfl rfl Try.sizeOf3) ?_
      refine WL.va rfl rfl rfl (X.loadE hr hwL0 rfl hk ((el_get hcs 0 (by decide)).trans rfl) Try.isAgg3) ?_
      refine WL.va rfl rfl rfl (X.eql rfl rfl) ?_
      refine WL.va rfl rfl rfl (X.moveB rfl) ?_
      refine WL.split (j := 6) rfl (fun h7 => ?_) (fun h7 => ?_)
      · have gh7 := (of_decide_eq_true h7)
        have c1 : (l[k]'hk).Kind = 2 := gh7
        refine WL.vg rfl (congrArg some h7) rfl rfl (X.move ((hAL0.eq 0).trans (congrFun hF3 0))) ?_
        refine WL.vg rfl (congrArg some h7) rfl rfl (X.moveI e5_L0) ?_
        refine WL.vg rfl (congrArg some h7) rfl rfl (X.idx hr rfl rfl hk Try.underlying26 Try.sizeOf42) ?_
        refine WL.vg rfl (congrArg some h7) rfl rfl (X.fieldAddrA rfl Try.underlying42 rfl rfl Try.sizeOf3) ?_
        refine WL.vg rfl (congrArg some h7) rfl rfl (X.loadE hr hwL0 rfl hk ((el_get hcs 2 (by decide)).trans rfl) Try.isAgg3) ?_
        refine WL.vg rfl (congrArg some h7) rfl rfl (X.moveI ((hAL0.eq 1).trans (congrFun hF3 1))) ?_
        refine WL.vg rfl (congrArg some h7) rfl rfl (X.eql rfl rfl) ?_
        refine WL.va rfl rfl rfl (X.pickT rfl h7 rfl) ?_
        refine WL.va rfl rfl rfl (X.moveB rfl) ?_
        refine WL.split (j := 15) rfl (fun h9 => ?_) (fun h9 => ?_)
        · have gh9 := (of_decide_eq_true h9)
          have c2 : (l[k]'hk).Txn = t := gh9
          refine WL.vg rfl (congrArg some h9) rfl rfl (X.move ((hAL0.eq 0).trans (congrFun hF3 0))) ?_
          refine WL.vg rfl (congrArg some h9) rfl rfl (X.moveI e5_L0) ?_
          refine WL.vg rfl (congrArg some h9) rfl rfl (X.idx hr rfl rfl hk Try.underlying26 Try.sizeOf42) ?_
          refine WL.vg rfl (congrArg some h9) rfl rfl (X.fieldAddrA rfl Try.underlying42 rfl rfl Try.sizeOf38) ?_
          refine WL.vg rfl (congrArg some h9) rfl rfl (X.fieldAddrAA (off := 0) rfl Try.underlying38 rfl rfl Try.sizeOf3) ?_
          refine WL.vg rfl (congrArg some h9) rfl rfl (X.loadE hr hwL0 rfl hk ((el_get hcs 3 (by decide)).trans rfl) Try.isAgg3) ?_
          refine WL.vg rfl (congrArg some h9) rfl rfl (X.eql rfl rfl) ?_
          refine WL.va rfl rfl rfl (X.pickT rfl h9 rfl) ?_
          refine WL.va rfl rfl rfl (X.moveB rfl) ?_
          refine WL.split (j := 24) rfl (fun h11 => ?_) (fun h11 => ?_)
          · have gh11 := (of_decide_eq_true h11)
            have c3 : (l[k]'hk).Call.Kind = 3 := gh11
            refine WL.vg rfl (congrArg some h11) rfl rfl (X.move ((hAL0.eq 0).trans (congrFun hF3 0))) ?_
            refine WL.vg rfl (congrArg some h11) rfl rfl (X.moveI e5_L0) ?_
            refine WL.vg rfl (congrArg some h11) rfl rfl (X.idx hr rfl rfl hk Try.underlying26 Try.sizeOf42) ?_
            refine WL.vg rfl (congrArg some h11) rfl rfl (X.fieldAddrA rfl Try.underlying42 rfl rfl Try.sizeOf40) ?_
            refine WL.vg rfl (congrArg some h11) rfl rfl (X.fieldAddrAA (off := 0) rfl Try.underlying40 rfl rfl Try.sizeOf29) ?_
            refine WL.vg rfl (congrArg some h11) rfl rfl (X.loadE hr hwL0 rfl hk ((el_get hcs 16 (by decide)).trans rfl) Try.isAgg29) ?_
            refine WL.vg rfl (congrArg some h11) rfl rfl (X.eql rfl rfl) ?_
            refine WL.va rfl rfl rfl (X.pickT rfl h11 rfl) ?_
            refine WL.nil ?_
            refine thn_n ?_
            refine WF.cond rfl (fun h1_12 => ?_) (fun h1_12 => ?_)
            · have gh1_12 := (of_decide_eq_true h1_12)
              have c4 : (l[k]'hk).Answer.Code = 0 := gh1_12
              have hy : wtF t k (l[k]'hk) = true := by simp [wtF, ans, c1, c2, c3, c4]
              refine WF.seq ?_
              refine WF.region ?_
              refine WL.va rfl rfl rfl (X.assignB rfl) ?_
              refine WL.nil ?_
              refine thn_n ?_
              refine WF.ret ?_
              refine blk_r ?_
              refine thn_r ?_
              refine thn_r ?_
              refine blk_r ?_
              refine thn_r ?_
              refine fin_r ?_
              exact ⟨congrArg Value.bool (show true = writesB l t by rw [← wt_any, anyI_true (f := wtF t) hk hy]), hwL0⟩
            · have gh1_12 := (of_decide_eq_false h1_12)
              have hfk : wtF t k (l[k]'hk) = false := by simp [wtF, ans, gh1_12]
              refine WF.skip ?_
              refine blk_n ?_
              refine thn_n ?_
              refine WF.region ?_
              refine WL.va rfl rfl rfl (X.moveI e5_L0) ?_
              refine WL.va rfl rfl rfl (X.add rfl rfl (w64 (by omega))) ?_
              refine WL.va rfl rfl rfl (X.assignI rfl) ?_
              refine WL.nil ?_
              exact thn_n ⟨_, (by omega), k + 1, rfl, rfl, (by repeat (first | exact hAL0 | refine Agree.put ?_ rfl | refine Agree.named hF3 ?_)), hwL0, ⟨by omega, hno.s hk hfk⟩⟩
          · have gh11 := (of_decide_eq_false h11)
            have hfk : wtF t k (l[k]'hk) = false := by simp [wtF, ans, gh11]
            refine WL.p rfl rfl rfl (congrArg some h11) ?_
            refine WL.p rfl rfl rfl (congrArg some h11) ?_
            refine WL.p rfl rfl rfl (congrArg some h11) ?_
            refine WL.p rfl rfl rfl (congrArg some h11) ?_
            refine WL.p rfl rfl rfl (congrArg some h11) ?_
            refine WL.p rfl rfl rfl (congrArg some h11) ?_
            refine WL.p rfl rfl rfl (congrArg some h11) ?_
            refine WL.va rfl rfl rfl (X.pickF rfl h11 rfl) ?_
            refine WL.nil ?_
            refine thn_n ?_
            refine WF.cond_f rfl ?_
            refine WF.skip ?_
            refine blk_n ?_
            refine thn_n ?_
            refine WF.region ?_
            refine WL.va rfl rfl rfl (X.moveI e5_L0) ?_
            refine WL.va rfl rfl rfl (X.add rfl rfl (w64 (by omega))) ?_
            refine WL.va rfl rfl rfl (X.assignI rfl) ?_
            refine WL.nil ?_
            exact thn_n ⟨_, (by omega), k + 1, rfl, rfl, (by repeat (first | exact hAL0 | refine Agree.put ?_ rfl | refine Agree.named hF3 ?_)), hwL0, ⟨by omega, hno.s hk hfk⟩⟩
        · have gh9 := (of_decide_eq_false h9)
          have hfk : wtF t k (l[k]'hk) = false := by simp [wtF, ans, gh9]
          refine WL.p rfl rfl rfl (congrArg some h9) ?_
          refine WL.p rfl rfl rfl (congrArg some h9) ?_
          refine WL.p rfl rfl rfl (congrArg some h9) ?_
          refine WL.p rfl rfl rfl (congrArg some h9) ?_
          refine WL.p rfl rfl rfl (congrArg some h9) ?_
          refine WL.p rfl rfl rfl (congrArg some h9) ?_
          refine WL.p rfl rfl rfl (congrArg some h9) ?_
          refine WL.va rfl rfl rfl (X.pickF rfl h9 rfl) ?_
          refine WL.va rfl rfl rfl (X.moveB rfl) ?_
          refine WL.p rfl rfl rfl rfl ?_
          refine WL.p rfl rfl rfl rfl ?_
          refine WL.p rfl rfl rfl rfl ?_
          refine WL.p rfl rfl rfl rfl ?_
          refine WL.p rfl rfl rfl rfl ?_
          refine WL.p rfl rfl rfl rfl ?_
          refine WL.p rfl rfl rfl rfl ?_
          refine WL.va rfl rfl rfl (X.pickF rfl rfl rfl) ?_
          refine WL.nil ?_
          refine thn_n ?_
          refine WF.cond_f rfl ?_
          refine WF.skip ?_
          refine blk_n ?_
          refine thn_n ?_
          refine WF.region ?_
          refine WL.va rfl rfl rfl (X.moveI e5_L0) ?_
          refine WL.va rfl rfl rfl (X.add rfl rfl (w64 (by omega))) ?_
          refine WL.va rfl rfl rfl (X.assignI rfl) ?_
          refine WL.nil ?_
          exact thn_n ⟨_, (by omega), k + 1, rfl, rfl, (by repeat (first | exact hAL0 | refine Agree.put ?_ rfl | refine Agree.named hF3 ?_)), hwL0, ⟨by omega, hno.s hk hfk⟩⟩
      · have gh7 := (of_decide_eq_false h7)
        have hfk : wtF t k (l[k]'hk) = false := by simp [wtF, ans, gh7]
        refine WL.p rfl rfl rfl (congrArg some h7) ?_
        refine WL.p rfl rfl rfl (congrArg some h7) ?_
        refine WL.p rfl rfl rfl (congrArg some h7) ?_
        refine WL.p rfl rfl rfl (congrArg some h7) ?_
        refine WL.p rfl rfl rfl (congrArg some h7) ?_
        refine WL.p rfl rfl rfl (congrArg some h7) ?_
        refine WL.p rfl rfl rfl (congrArg some h7) ?_
        refine WL.va rfl rfl rfl (X.pickF rfl h7 rfl) ?_
        refine WL.va rfl rfl rfl (X.moveB rfl) ?_
        refine WL.p rfl rfl rfl rfl ?_
        refine WL.p rfl rfl rfl rfl ?_
        refine WL.p rfl rfl rfl rfl ?_
        refine WL.p rfl rfl rfl rfl ?_
        refine WL.p rfl rfl rfl rfl ?_
        refine WL.p rfl rfl rfl rfl ?_
        refine WL.p rfl rfl rfl rfl ?_
        refine WL.va rfl rfl rfl (X.pickF rfl rfl rfl) ?_
        refine WL.va rfl rfl rfl (X.moveB rfl) ?_
        refine WL.p rfl rfl rfl rfl ?_
        refine WL.p rfl rfl rfl rfl ?_
        refine WL.p rfl rfl rfl rfl ?_
        refine WL.p rfl rfl rfl rfl ?_
        refine WL.p rfl rfl rfl rfl ?_
        refine WL.p rfl rfl rfl rfl ?_
        refine WL.p rfl rfl rfl rfl ?_
        refine WL.va rfl rfl rfl (X.pickF rfl rfl rfl) ?_
        refine WL.nil ?_
        refine thn_n ?_
        refine WF.cond_f rfl ?_
        refine WF.skip ?_
        refine blk_n ?_
        refine thn_n ?_
        refine WF.region ?_
        refine WL.va rfl rfl rfl (X.moveI e5_L0) ?_
        refine WL.va rfl rfl rfl (X.add rfl rfl (w64 (by omega))) ?_
        refine WL.va rfl rfl rfl (X.assignI rfl) ?_
        refine WL.nil ?_
        exact thn_n ⟨_, (by omega), k + 1, rfl, rfl, (by repeat (first | exact hAL0 | refine Agree.put ?_ rfl | refine Agree.named hF3 ?_)), hwL0, ⟨by omega, hno.s hk hfk⟩⟩
    · have gh0_4 := (of_decide_eq_false h0_4)
      have hk : l.length ≤ k := by have := gh0_4; omega
      refine WF.exit ?_
      refine thn_x ?_
      refine thn_x ?_
      refine blk_eq ?_
      refine thn_n ?_
      refine WF.seq ?_
      refine WF.region ?_
      refine WL.va rfl rfl rfl (X.assignB rfl) ?_
      refine WL.nil ?_
      refine thn_n ?_
      refine WF.ret ?_
      refine fin_r ?_
      exact ⟨congrArg Value.bool (show false = writesB l t by rw [← wt_any, anyI_false hno hk]), hwL0⟩

set_option maxHeartbeats 2000000 in
theorem firstCall_ok (v : Value) (l : List Ev) (t : Int) (w : World) (hv : Evs w v l) : FnOk Try.prog 15 [v, i64 t] w (fun r w' => (∃ z, r = i64 z ∧ FcZ l t z) ∧ Ext w w') := by
  have hle := hv.le
  obtain ⟨cs, hr, hel⟩ := hv
  refine FnOk.enter (rs := [4]) Try.func15 rfl Try.ntmps15 Try.results15 rfl rfl ?_
  refine WF.seq ?_
  refine WF.region ?_
  refine WL.va rfl rfl rfl (X.assignI rfl) ?_
  refine WL.nil ?_
  refine thn_n ?_
  refine WF.seq ?_
  refine WF.seq ?_
  refine WF.region ?_
  refine WL.va rfl rfl rfl (X.assignI rfl) ?_
  refine WL.nil ?_
  refine thn_n ?_
  refine WF.block ?_
  refine WF.named (fun F1 hF2 => ?_)
  refine WF.loopN (fun mL0 f' w' => ∃ (k : Nat), mL0 = l.length - k ∧ f' 5 = .int .i64 (k : Int) ∧ Agree [0, 1] f' F1 ∧ Ext w w' ∧ k ≤ l.length) ?_ ?_
  · exact ⟨_, 0, rfl, (congrFun hF2 5), (Agree.refl _ _), (Ext.refl _), Nat.zero_le _⟩
  · rintro mL0 fL0 wL0 ⟨k, hmL0, e5_L0, hAL0, hwL0, hk0⟩
    refine WF.seq ?_
    refine WF.seq ?_
    refine WF.region ?_
    refine WL.va rfl rfl rfl (X.moveI e5_L0) ?_
    refine WL.va rfl rfl rfl (X.move ((hAL0.eq 0).trans (congrFun hF2 0))) ?_
    refine WL.va rfl rfl rfl (X.len hr rfl Try.underlying26) ?_
    refine WL.va rfl rfl rfl (X.lss rfl rfl) ?_
    refine WL.nil ?_
    refine thn_n ?_
    refine WF.cond rfl (fun h0_3 => ?_) (fun h0_3 => ?_)
    · have gh0_3 := (of_decide_eq_true h0_3)
      have hk : k < l.length := by have := gh0_3; omega
      obtain ⟨d, d2, hcs, hd1, hd2⟩ := hel k hk
      refine WF.skip ?_
      refine thn_n ?_
      refine WF.seq ?_
      refine WF.block ?_
      refine WF.seq ?_
      refine WF.region ?_
      refine WL.va rfl rfl rfl (X.move ((hAL0.eq 0).trans (congrFun hF2 0))) ?_
      refine WL.va rfl rfl rfl (X.moveI e5_L0) ?_
      refine WL.va rfl rfl rfl (X.idx hr rfl rfl hk Try.underlying26 Try.sizeOf42) ?_
      refine WL.va rfl rfl rfl (X.fieldAddrA rfl Try.underlying42 rfl rfl Try.sizeOf38) ?_
      refine WL.va rfl rfl rfl (X.fieldAddrAA (off := 0) rfl Try.underlying38 rfl rfl Try.sizeOf3) ?_
      refine WL.va rfl rfl rfl (X.loadE hr hwL0 rfl hk ((el_get hcs 3 (by decide)).trans rfl) Try.isAgg3) ?_
      refine WL.va rfl rfl rfl (X.assignI rfl) ?_
      refine WL.nil ?_
      refine thn_n ?_
      refine WF.seq ?_
      refine WF.region ?_
      refine WL.va rfl rfl rfl (X.move ((hAL0.eq 0).trans (congrFun hF2 0))) ?_
      refine WL.va rfl rfl rfl (X.moveI e5_L0) ?_
      refine WL.va rfl rfl rfl (X.idx hr rfl rfl hk Try.underlying26 Try.sizeOf42) ?_
      refine WL.va rfl rfl rfl (X.fieldAddrA rfl Try.underlying42 rfl rfl Try.sizeOf3) ?_
      refine WL.va rfl rfl rfl (X.loadE hr hwL0 rfl hk ((el_get hcs 0 (by decide)).trans rfl) Try.isAgg3) ?_
      refine WL.va rfl rfl rfl (X.eql rfl rfl) ?_
      refine WL.va rfl rfl rfl (X.moveB rfl) ?_
      refine WL.split (j := 6) rfl (fun h6 => ?_) (fun h6 => ?_)
      · have gh6 := (of_decide_eq_true h6)
        have c1 : (l[k]'hk).Kind = 1 := gh6
        refine WL.vg rfl (congrArg some h6) rfl rfl (X.move ((hAL0.eq 0).trans (congrFun hF2 0))) ?_
        refine WL.vg rfl (congrArg some h6) rfl rfl (X.moveI e5_L0) ?_
        refine WL.vg rfl (congrArg some h6) rfl rfl (X.idx hr rfl rfl hk Try.underlying26 Try.sizeOf42) ?_
        refine WL.vg rfl (congrArg some h6) rfl rfl (X.fieldAddrA rfl Try.underlying42 rfl rfl Try.sizeOf3) ?_
        refine WL.vg rfl (congrArg some h6) rfl rfl (X.loadE hr hwL0 rfl hk ((el_get hcs 2 (by decide)).trans rfl) Try.isAgg3) ?_
        refine WL.vg rfl (congrArg some h6) rfl rfl (X.moveI ((hAL0.eq 1).trans (congrFun hF2 1))) ?_
        refine WL.vg rfl (congrArg some h6) rfl rfl (X.eql rfl rfl) ?_
        refine WL.va rfl rfl rfl (X.pickT rfl h6 rfl) ?_
        refine WL.va rfl rfl rfl (X.moveB rfl) ?_
        refine WL.split (j := 15) rfl (fun h8 => ?_) (fun h8 => ?_)
        · have gh8 := (of_decide_eq_true h8)
          have c2 : (l[k]'hk).Txn = t := gh8
          refine WL.vg rfl (congrArg some h8) rfl rfl (X.moveI rfl) ?_
          refine WL.vg rfl (congrArg some h8) rfl rfl (X.eql rfl rfl) ?_
          refine WL.vg rfl (congrArg some h8) rfl rfl (X.moveB rfl) ?_
          refine WL.split (j := 18) rfl (fun h10 => ?_) (fun h10 => ?_)
          · have gh10 := (of_decide_eq_true h10)
            have hy : FcZ l t (k : Int) := .inr ⟨k, hk, rfl, c2, goes_of c1 (.inl gh10)⟩
            refine WL.p rfl rfl rfl (congrArg some h10) ?_
            refine WL.p rfl rfl rfl (congrArg some h10) ?_
            refine WL.vg rfl (congrArg some h8) rfl rfl (X.pickT rfl h10 rfl) ?_
            refine WL.vg rfl (congrArg some h8) rfl rfl (X.moveB rfl) ?_
            refine WL.p rfl rfl rfl rfl ?_
            refine WL.p rfl rfl rfl rfl ?_
            refine WL.vg rfl (congrArg some h8) rfl rfl (X.pickT rfl rfl rfl) ?_
            refine WL.va rfl rfl rfl (X.pickT rfl h8 rfl) ?_
            refine WL.nil ?_
            refine thn_n ?_
            refine WF.cond_t rfl ?_
            refine WF.seq ?_
            refine WF.region ?_
            refine WL.va rfl rfl rfl (X.moveI e5_L0) ?_
            refine WL.va rfl rfl rfl (X.assignI rfl) ?_
            refine WL.nil ?_
            refine thn_n ?_
            refine WF.ret ?_
            refine blk_r ?_
            refine thn_r ?_
            refine thn_r ?_
            refine blk_r ?_
            refine thn_r ?_
            refine fin_r ?_
            exact ⟨⟨_, rfl, hy⟩, hwL0⟩
          · have gh10 := (of_decide_eq_false h10)
            refine WL.vg rfl (congrArg some h10) rfl rfl (X.moveI rfl) ?_
            refine WL.vg rfl (congrArg some h10) rfl rfl (X.eql rfl rfl) ?_
            refine WL.vg rfl (congrArg some h8) rfl rfl (X.pickF rfl h10 rfl) ?_
            refine WL.vg rfl (congrArg some h8) rfl rfl (X.moveB rfl) ?_
            refine WL.split (j := 22) rfl (fun h14 => ?_) (fun h14 => ?_)
            · have gh14 := (of_decide_eq_true h14)
              have hy : FcZ l t (k : Int) := .inr ⟨k, hk, rfl, c2, goes_of c1 (.inr (.inl gh14))⟩
              refine WL.p rfl rfl rfl (congrArg some h14) ?_
              refine WL.p rfl rfl rfl (congrArg some h14) ?_
              refine WL.vg rfl (congrArg some h8) rfl rfl (X.pickT rfl h14 rfl) ?_
              refine WL.va rfl rfl rfl (X.pickT rfl h8 rfl) ?_
              refine WL.nil ?_
              refine thn_n ?_
              refine WF.cond_t rfl ?_
              refine WF.seq ?_
              refine WF.region ?_
              refine WL.va rfl rfl rfl (X.moveI e5_L0) ?_
              refine WL.va rfl rfl rfl (X.assignI rfl) ?_
              refine WL.nil ?_
              refine thn_n ?_
              refine WF.ret ?_
              refine blk_r ?_
              refine thn_r ?_
              refine thn_r ?_
              refine blk_r ?_
              refine thn_r ?_
              refine fin_r ?_
              exact ⟨⟨_, rfl, hy⟩, hwL0⟩
            · have gh14 := (of_decide_eq_false h14)
              refine WL.vg rfl (congrArg some h14) rfl rfl (X.moveI rfl) ?_
              refine WL.vg rfl (congrArg some h14) rfl rfl (X.eql rfl rfl) ?_
              refine WL.vg rfl (congrArg some h8) rfl rfl (X.pickF rfl h14 rfl) ?_
              refine WL.va rfl rfl rfl (X.pickT rfl h8 rfl) ?_
              refine WL.nil ?_
              refine thn_n ?_
              refine WF.cond rfl (fun h1_16 => ?_) (fun h1_16 => ?_)
              · have gh1_16 := (of_decide_eq_true h1_16)
                have hy : FcZ l t (k : Int) := .inr ⟨k, hk, rfl, c2, goes_of c1 (.inr (.inr gh1_16))⟩
                refine WF.seq ?_
                refine WF.region ?_
                refine WL.va rfl rfl rfl (X.moveI e5_L0) ?_
                refine WL.va rfl rfl rfl (X.assignI rfl) ?_
                refine WL.nil ?_
                refine thn_n ?_
                refine WF.ret ?_
                refine blk_r ?_
                refine thn_r ?_
                refine thn_r ?_
                refine blk_r ?_
                refine thn_r ?_
                refine fin_r ?_
                exact ⟨⟨_, rfl, hy⟩, hwL0⟩
              · have gh1_16 := (of_decide_eq_false h1_16)
                refine WF.skip ?_
                refine blk_n ?_
                refine thn_n ?_
                refine WF.region ?_
                refine WL.va rfl rfl rfl (X.moveI e5_L0) ?_
                refine WL.va rfl rfl rfl (X.add rfl rfl (w64 (by omega))) ?_
                refine WL.va rfl rfl rfl (X.assignI rfl) ?_
                refine WL.nil ?_
                exact thn_n ⟨_, (by omega), k + 1, rfl, rfl, (by repeat (first | exact hAL0 | refine Agree.put ?_ rfl | refine Agree.named hF2 ?_)), hwL0, (by omega)⟩
        · have gh8 := (of_decide_eq_false h8)
          refine WL.p rfl rfl rfl (congrArg some h8) ?_
          refine WL.p rfl rfl rfl (congrArg some h8) ?_
          refine WL.p rfl rfl rfl (congrArg some h8) ?_
          refine WL.pn rfl rfl rfl rfl ?_
          refine WL.pn rfl rfl rfl rfl ?_
          refine WL.p rfl rfl rfl (congrArg some h8) ?_
          refine WL.p rfl rfl rfl (congrArg some h8) ?_
          refine WL.pn rfl rfl rfl rfl ?_
          refine WL.pn rfl rfl rfl rfl ?_
          refine WL.p rfl rfl rfl (congrArg some h8) ?_
          refine WL.va rfl rfl rfl (X.pickF rfl h8 rfl) ?_
          refine WL.nil ?_
          refine thn_n ?_
          refine WF.cond_f rfl ?_
          refine WF.skip ?_
          refine blk_n ?_
          refine thn_n ?_
          refine WF.region ?_
          refine WL.va rfl rfl rfl (X.moveI e5_L0) ?_
          refine WL.va rfl rfl rfl (X.add rfl rfl (w64 (by omega))) ?_
          refine WL.va rfl rfl rfl (X.assignI rfl) ?_
          refine WL.nil ?_
          exact thn_n ⟨_, (by omega), k + 1, rfl, rfl, (by repeat (first | exact hAL0 | refine Agree.put ?_ rfl | refine Agree.named hF2 ?_)), hwL0, (by omega)⟩
      · have gh6 := (of_decide_eq_false h6)
        refine WL.p rfl rfl rfl (congrArg some h6) ?_
        refine WL.p rfl rfl rfl (congrArg some h6) ?_
        refine WL.p rfl rfl rfl (congrArg some h6) ?_
        refine WL.p rfl rfl rfl (congrArg some h6) ?_
        refine WL.p rfl rfl rfl (congrArg some h6) ?_
        refine WL.p rfl rfl rfl (congrArg some h6) ?_
        refine WL.p rfl rfl rfl (congrArg some h6) ?_
        refine WL.va rfl rfl rfl (X.pickF rfl h6 rfl) ?_
        refine WL.va rfl rfl rfl (X.moveB rfl) ?_
        refine WL.p rfl rfl rfl rfl ?_
        refine WL.p rfl rfl rfl rfl ?_
        refine WL.p rfl rfl rfl rfl ?_
        refine WL.pn rfl rfl rfl rfl ?_
        refine WL.pn rfl rfl rfl rfl ?_
        refine WL.p rfl rfl rfl rfl ?_
        refine WL.p rfl rfl rfl rfl ?_
        refine WL.pn rfl rfl rfl rfl ?_
        refine WL.pn rfl rfl rfl rfl ?_
        refine WL.p rfl rfl rfl rfl ?_
        refine WL.va rfl rfl rfl (X.pickF rfl rfl rfl) ?_
        refine WL.nil ?_
        refine thn_n ?_
        refine WF.cond_f rfl ?_
        refine WF.skip ?_
        refine blk_n ?_
        refine thn_n ?_
        refine WF.region ?_
        refine WL.va rfl rfl rfl (X.moveI e5_L0) ?_
        refine WL.va rfl rfl rfl (X.add rfl rfl (w64 (by omega))) ?_
        refine WL.va rfl rfl rfl (X.assignI rfl) ?_
        refine WL.nil ?_
        exact thn_n ⟨_, (by omega), k + 1, rfl, rfl, (by repeat (first | exact hAL0 | refine Agree.put ?_ rfl | refine Agree.named hF2 ?_)), hwL0, (by omega)⟩
    · have gh0_3 := (of_decide_eq_false h0_3)
      have hk : l.length ≤ k := by have := gh0_3; omega
      refine WF.exit ?_
      refine thn_x ?_
      refine thn_x ?_
      refine blk_eq ?_
      refine thn_n ?_
      refine WF.seq ?_
      refine WF.region ?_
      refine WL.va rfl rfl rfl (X.assignI rfl) ?_
      refine WL.nil ?_
      refine thn_n ?_
      refine WF.ret ?_
      refine fin_r ?_
      exact ⟨⟨_, rfl, .inl rfl⟩, hwL0⟩

set_option maxHeartbeats 8000000 in
theorem witnessReal_walk (v : Value) (l : List Ev) (w : World) (hv : Evs w v l) : FnOk Try.prog 4 [v] w (fun r w' => r = .bool true ∧ Ext w w') := by
  have hv0 := hv
  have hle := hv.le
  obtain ⟨cs, hr, hel⟩ := hv
  refine FnOk.enter (rs := [2]) Try.func4 rfl Try.ntmps4 Try.results4 rfl rfl ?_
  refine WF.seq ?_
  refine WF.region ?_
  refine WL.va rfl rfl rfl (X.assignB rfl) ?_
  refine WL.nil ?_
  refine thn_n ?_
  refine WF.seq ?_
  refine WF.seq ?_
  refine WF.region ?_
  refine WL.va rfl rfl rfl (X.move rfl) ?_
  refine WL.c rfl rfl rfl (X.call Try.call11 (evl_cons rfl evl_nil)) (big_ok _ l _ (hv0.ext (Ext.refl w))) ?_
  rintro v3 w2 ⟨rfl, hx4⟩
  refine WL.va rfl rfl rfl (X.moveB rfl) ?_
  refine WL.split (j := 2) rfl (fun h6 => ?_) (fun h6 => ?_)
  · have gh6 := h6
    refine WL.p rfl rfl rfl (congrArg some h6) ?_
    refine WL.p rfl rfl rfl (congrArg some h6) ?_
    refine WL.p rfl rfl rfl (congrArg some h6) ?_
    refine WL.va rfl rfl rfl (X.pickT rfl h6 rfl) ?_
    refine WL.nil ?_
    refine thn_n ?_
    refine WF.cond_t rfl ?_
    refine WF.seq ?_
    refine WF.region ?_
    refine WL.c rfl rfl rfl (X.call Try.call7 evl_nil) (works_ok _) ?_
    rintro v9 w8 ⟨rfl, hx10⟩
    refine WL.va rfl rfl rfl (X.assignB rfl) ?_
    refine WL.nil ?_
    refine thn_n ?_
    refine WF.ret ?_
    refine thn_r ?_
    refine fin_r ?_
    exact ⟨rfl, (Ext.trans hx4 hx10)⟩
  · have gh6 := h6
    have hlen : l.length ≤ 120 := by
      have h0 : bigB l = false := gh6
      unfold bigB at h0
      have := of_decide_eq_false (Bool.or_eq_false_iff.1 h0).1
      omega
    refine WL.vg rfl (congrArg some h6) rfl rfl (X.move rfl) ?_
    refine WL.cg rfl (congrArg some h6) rfl rfl (X.call Try.call9 (evl_cons rfl evl_nil)) (check_ok _ l _ (hv0.ext hx4) (by omega)) ?_
    rintro v13 w12 ⟨rfl, hx14⟩
    refine WL.vg rfl (congrArg some h6) rfl rfl (X.neq rfl rfl) ?_
    refine WL.va rfl rfl rfl (X.pickF rfl h6 rfl) ?_
    refine WL.nil ?_
    refine thn_n ?_
    refine WF.cond rfl (fun h0_15 => ?_) (fun h0_15 => ?_)
    · have gh0_15 := (of_decide_eq_true h0_15)
      refine WF.seq ?_
      refine WF.region ?_
      refine WL.c rfl rfl rfl (X.call Try.call7 evl_nil) (works_ok _) ?_
      rintro v18 w17 ⟨rfl, hx19⟩
      refine WL.va rfl rfl rfl (X.assignB rfl) ?_
      refine WL.nil ?_
      refine thn_n ?_
      refine WF.ret ?_
      refine thn_r ?_
      refine fin_r ?_
      exact ⟨rfl, (Ext.trans (Ext.trans hx4 hx14) hx19)⟩
    · have gh0_15 := (Decidable.of_not_not (of_decide_eq_false h0_15))
      have hc0 : checkL l = 0 := gh0_15
      obtain ⟨hea, hla⟩ := chk_zero hc0
      refine WF.skip ?_
      refine thn_n ?_
      refine WF.seq ?_
      refine WF.region ?_
      refine WL.va rfl rfl rfl (X.move rfl) ?_
      refine WL.c rfl rfl rfl (X.call Try.call12 (evl_cons rfl evl_nil)) (order_ok _ l _ (hv0.ext (Ext.trans hx4 hx14)) (by omega)) ?_
      rintro v21 wO ⟨hov, hx22⟩
      have hol := order_len (l := l)
      refine WL.va rfl rfl rfl (X.assign rfl) ?_
      refine WL.nil ?_
      refine thn_n ?_
      refine WF.seq ?_
      refine WF.seq ?_
      refine WF.region ?_
      refine WL.va rfl rfl rfl (X.assignI rfl) ?_
      refine WL.nil ?_
      refine thn_n ?_
      refine WF.block ?_
      refine WF.named (fun F23 hF24 => ?_)
      refine WF.loopN (fun mL0 f' w' => ∃ (k : Nat), mL0 = l.length - k ∧ f' 4 = .int .i64 (k : Int) ∧ Agree [0, 3, 10, 11, 12, 13, 14, 15, 16, 18, 19] f' F23 ∧ Ext wO w' ∧ k ≤ l.length) ?_ ?_
      · exact ⟨_, 0, rfl, (congrFun hF24 4), (Agree.refl _ _), (Ext.refl _), Nat.zero_le _⟩
      · rintro mL0 fL0 wL0 ⟨k, hmL0, e4_L0, hAL0, hwL0, hk0⟩
        refine WF.seq ?_
        refine WF.seq ?_
        refine WF.region ?_
        refine WL.va rfl rfl rfl (X.moveI e4_L0) ?_
        refine WL.va rfl rfl rfl (X.move ((hAL0.eq 0).trans (congrFun hF24 0))) ?_
        refine WL.va rfl rfl rfl (X.len hr rfl Try.underlying26) ?_
        refine WL.va rfl rfl rfl (X.lss rfl rfl) ?_
        refine WL.nil ?_
        refine thn_n ?_
        refine WF.cond rfl (fun h1_25 => ?_) (fun h1_25 => ?_)
        · have gh1_25 := (of_decide_eq_true h1_25)
          have hk : k < l.length := by have := gh1_25; omega
          obtain ⟨d, d2, hcs, hd1, hd2⟩ := hel k hk
          refine WF.skip ?_
          refine thn_n ?_
          refine WF.seq ?_
          refine WF.block ?_
          refine WF.seq ?_
          refine WF.region ?_
          refine WL.va rfl rfl rfl (X.move ((hAL0.eq 0).trans (congrFun hF24 0))) ?_
          refine WL.va rfl rfl rfl (X.moveI e4_L0) ?_
          refine WL.va rfl rfl rfl (X.idx hr rfl rfl hk Try.underlying26 Try.sizeOf42) ?_
          refine WL.va rfl rfl rfl (X.loadEl hr (Ext.trans (Ext.trans (Ext.trans hx4 hx14) hx22) hwL0) rfl hk hcs Try.isAgg42 Try.sizeOf42) ?_
          refine WL.op rfl (OW.allocO (cs := [i64 0, i64 0, i64 0, i64 0, i64 0, i64 0, i64 0, i64 0, i64 0, i64 0, i64 0, i64 0, i64 0, i64 0, i64 0, .slice none 0 0, i64 0, i64 0, .slice none 0 0]) Try.zeroValue42 rfl ?_ (by decide))
          intro g5 w27 heg5 hlg5 hO5 hx29
          have := World.grownBy.size hx29
          refine WL.op rfl (OW.storeOA hO5 rfl rfl rfl (ev_ones hd1 hd2) Try.sizeOf42 ?_)
          intro w31 hO5 hx33
          have := World.grownBy.size hx33
          replace hO5 : Blk _ _ _ (Ev.c (l[k]'hk) d d2) := hO5
          refine WL.nil ?_
          refine thn_n ?_
          refine WF.seq ?_
          refine WF.region ?_
          refine WL.va rfl rfl rfl (X.fieldAddrO (off := 3) rfl Try.underlying42 rfl rfl Try.sizeOf38) ?_
          refine WL.va rfl rfl rfl (X.fieldAddrP (off := 0) rfl Try.underlying38 rfl rfl Try.sizeOf3) ?_
          refine WL.va rfl rfl rfl (X.loadO hO5 (Ext.refl _) rfl rfl Try.isAgg3) ?_
          refine WL.va rfl rfl rfl (X.assignI rfl) ?_
          refine WL.nil ?_
          refine thn_n ?_
          refine WF.seq ?_
          refine WF.named (fun F35 hF36 => ?_)
          refine WF.cut (fun f' w' => f' 60 = .bool (skB l (l[k]'hk)) ∧ Agree [0, 3, 4, 5, 6, 10, 11, 12, 13, 14, 15, 16, 18, 19, 20, 21, 22, 23, 26, 27, 28, 29, 30, 31, 32] f' F35 ∧ Ext w31 w') ?_ ?_
          · refine WF.region ?_
            refine WL.va rfl rfl rfl (X.fieldAddrO (off := 0) (congrFun hF36 5) Try.underlying42 rfl rfl Try.sizeOf3) ?_
            refine WL.va rfl rfl rfl (X.loadO hO5 (Ext.refl _) rfl rfl Try.isAgg3) ?_
            refine WL.va rfl rfl rfl (X.neq rfl rfl) ?_
            refine WL.va rfl rfl rfl (X.moveB rfl) ?_
            refine WL.split (j := 3) rfl (fun h38 => ?_) (fun h38 => ?_)
            · have gh38 := (of_decide_eq_true h38)
              have e2 : ¬ (l[k]'hk).Kind = 2 := gh38
              refine WL.p rfl rfl rfl (congrArg some h38) ?_
              refine WL.p rfl rfl rfl (congrArg some h38) ?_
              refine WL.p rfl rfl rfl (congrArg some h38) ?_
              refine WL.p rfl rfl rfl (congrArg some h38) ?_
              refine WL.va rfl rfl rfl (X.pickT rfl h38 rfl) ?_
              refine WL.va rfl rfl rfl (X.moveB rfl) ?_
              refine WL.p rfl rfl rfl rfl ?_
              refine WL.p rfl rfl rfl rfl ?_
              refine WL.p rfl rfl rfl rfl ?_
              refine WL.pn rfl rfl rfl rfl ?_
              refine WL.pn rfl rfl rfl rfl ?_
              refine WL.p rfl rfl rfl rfl ?_
              refine WL.p rfl rfl rfl rfl ?_
              refine WL.pn rfl rfl rfl rfl ?_
              refine WL.pn rfl rfl rfl rfl ?_
              refine WL.pn rfl rfl rfl rfl ?_
              refine WL.pn rfl rfl rfl rfl ?_
              refine WL.pn rfl rfl rfl rfl ?_
              refine WL.pn rfl rfl rfl rfl ?_
              refine WL.pn rfl rfl rfl rfl ?_
              refine WL.pn rfl rfl rfl rfl ?_
              refine WL.pn rfl rfl rfl rfl ?_
              refine WL.p rfl rfl rfl rfl ?_
              refine WL.va rfl rfl rfl (X.pickT rfl rfl rfl) ?_
              refine WL.nil ?_
              refine thn_n ?_
              exact ⟨(Eq.trans rfl (by first | exact sk_1 e2 | exact sk_2 e2 ec | exact sk_3 e2 ec k9 k7 k4 | exact sk_4 e2 ec k4 | exact sk_5 e2 ec k7 | exact sk_6 e2 ec k9)), (by repeat (first | exact (Agree.refl _ F35) | refine Agree.put ?_ rfl | refine Agree.sub hAL0 rfl ?_ | refine Agree.named hF36 ?_ | refine Agree.named hF24 ?_)), (Ext.refl _)⟩
            · have gh38 := (Decidable.of_not_not (of_decide_eq_false h38))
              have e2 : (l[k]'hk).Kind = 2 := gh38
              refine WL.vg rfl (congrArg some h38) rfl rfl (X.fieldAddrO (off := 16) (congrFun hF36 5) Try.underlying42 rfl rfl Try.sizeOf40) ?_
              refine WL.vg rfl (congrArg some h38) rfl rfl (X.fieldAddrP (off := 0) rfl Try.underlying40 rfl rfl Try.sizeOf29) ?_
              refine WL.vg rfl (congrArg some h38) rfl rfl (X.loadO hO5 (Ext.refl _) rfl rfl Try.isAgg29) ?_
              refine WL.vg rfl (congrArg some h38) rfl rfl (X.neq rfl rfl) ?_
              refine WL.va rfl rfl rfl (X.pickF rfl h38 rfl) ?_
              refine WL.va rfl rfl rfl (X.moveB rfl) ?_
              refine WL.split (j := 9) rfl (fun h42 => ?_) (fun h42 => ?_)
              · have gh42 := (of_decide_eq_true h42)
                have ec : ¬ (l[k]'hk).Answer.Code = 0 := gh42
                refine WL.p rfl rfl rfl (congrArg some h42) ?_
                refine WL.p rfl rfl rfl (congrArg some h42) ?_
                refine WL.p rfl rfl rfl (congrArg some h42) ?_
                refine WL.pn rfl rfl rfl rfl ?_
                refine WL.pn rfl rfl rfl rfl ?_
                refine WL.p rfl rfl rfl (congrArg some h42) ?_
                refine WL.p rfl rfl rfl (congrArg some h42) ?_
                refine WL.pn rfl rfl rfl rfl ?_
                refine WL.pn rfl rfl rfl rfl ?_
                refine WL.pn rfl rfl rfl rfl ?_
                refine WL.pn rfl rfl rfl rfl ?_
                refine WL.pn rfl rfl rfl rfl ?_
                refine WL.pn rfl rfl rfl rfl ?_
                refine WL.pn rfl rfl rfl rfl ?_
                refine WL.pn rfl rfl rfl rfl ?_
                refine WL.pn rfl rfl rfl rfl ?_
                refine WL.p rfl rfl rfl (congrArg some h42) ?_
                refine WL.va rfl rfl rfl (X.pickT rfl h42 rfl) ?_
                refine WL.nil ?_
                refine thn_n ?_
                exact ⟨(Eq.trans rfl (by first | exact sk_1 e2 | exact sk_2 e2 ec | exact sk_3 e2 ec k9 k7 k4 | exact sk_4 e2 ec k4 | exact sk_5 e2 ec k7 | exact sk_6 e2 ec k9)), (by repeat (first | exact (Agree.refl _ F35) | refine Agree.put ?_ rfl | refine Agree.sub hAL0 rfl ?_ | refine Agree.named hF36 ?_ | refine Agree.named hF24 ?_)), (Ext.refl _)⟩
              · have gh42 := (Decidable.of_not_not (of_decide_eq_false h42))
                have ec : (l[k]'hk).Answer.Code = 0 := gh42
                refine WL.vg rfl (congrArg some h42) rfl rfl (X.moveI (congrFun hF36 6)) ?_
                refine WL.vg rfl (congrArg some h42) rfl rfl (X.neq rfl rfl) ?_
                refine WL.vg rfl (congrArg some h42) rfl rfl (X.moveB rfl) ?_
                refine WL.split (j := 12) rfl (fun h45 => ?_) (fun h45 => ?_)
                · have gh45 := (of_decide_eq_true h45)
                  have k9 : ¬ (l[k]'hk).Call.Kind = 9 := gh45
                  refine WL.vg rfl (congrArg some h45) rfl rfl (X.moveI (congrFun hF36 6)) ?_
                  refine WL.vg rfl (congrArg some h45) rfl rfl (X.neq rfl rfl) ?_
                  refine WL.vg rfl (congrArg some h42) rfl rfl (X.pickT rfl h45 rfl) ?_
                  refine WL.vg rfl (congrArg some h42) rfl rfl (X.moveB rfl) ?_
                  refine WL.split (j := 16) rfl (fun h47 => ?_) (fun h47 => ?_)
                  · have gh47 := (of_decide_eq_true h47)
                    have k7 : ¬ (l[k]'hk).Call.Kind = 7 := gh47
                    refine WL.vg rfl (congrArg some h47) rfl rfl (X.moveI (congrFun hF36 6)) ?_
                    refine WL.vg rfl (congrArg some h47) rfl rfl (X.neq rfl rfl) ?_
                    refine WL.vg rfl (congrArg some h47) rfl rfl (X.moveB rfl) ?_
                    refine WL.split (j := 19) rfl (fun h49 => ?_) (fun h49 => ?_)
                    · have gh49 := (of_decide_eq_true h49)
                      have k4 : ¬ (l[k]'hk).Call.Kind = 4 := gh49
                      refine WL.p rfl rfl rfl (congrArg some h49) ?_
                      refine WL.p rfl rfl rfl (congrArg some h49) ?_
                      refine WL.p rfl rfl rfl (congrArg some h49) ?_
                      refine WL.p rfl rfl rfl (congrArg some h49) ?_
                      refine WL.p rfl rfl rfl (congrArg some h49) ?_
                      refine WL.vg rfl (congrArg some h47) rfl rfl (X.pickT rfl h49 rfl) ?_
                      refine WL.vg rfl (congrArg some h42) rfl rfl (X.pickT rfl h47 rfl) ?_
                      refine WL.va rfl rfl rfl (X.pickF rfl h42 rfl) ?_
                      refine WL.nil ?_
                      refine thn_n ?_
                      exact ⟨(Eq.trans rfl (by first | exact sk_1 e2 | exact sk_2 e2 ec | exact sk_3 e2 ec k9 k7 k4 | exact sk_4 e2 ec k4 | exact sk_5 e2 ec k7 | exact sk_6 e2 ec k9)), (by repeat (first | exact (Agree.refl _ F35) | refine Agree.put ?_ rfl | refine Agree.sub hAL0 rfl ?_ | refine Agree.named hF36 ?_ | refine Agree.named hF24 ?_)), (Ext.refl _)⟩
                    · have gh49 := (Decidable.of_not_not (of_decide_eq_false h49))
                      have k4 : (l[k]'hk).Call.Kind = 4 := gh49
                      refine WL.vg rfl (congrArg some h49) rfl rfl (X.move ((congrFun hF36 0).trans ((hAL0.eq 0).trans (congrFun hF24 0)))) ?_
                      refine WL.vg rfl (congrArg some h49) rfl rfl (X.fieldAddrO (off := 2) (congrFun hF36 5) Try.underlying42 rfl rfl Try.sizeOf3) ?_
                      refine WL.vg rfl (congrArg some h49) rfl rfl (X.loadO hO5 (Ext.refl _) rfl rfl Try.isAgg3) ?_
                      refine WL.cg rfl (congrArg some h49) rfl rfl (X.call Try.call13 (evl_cons rfl (evl_cons (v := (i64 (l[k]'hk).Txn)) rfl evl_nil))) (lwrites_ok _ l (l[k]'hk).Txn _ (hv0.ext (Ext.trans (Ext.trans (Ext.trans (Ext.trans hx4 hx14) hx22) hwL0) (Ext.store hx29 hx33 (by omega))))) ?_
                      rintro v52 w51 ⟨rfl, hx53⟩
                      have := World.grownBy.size hx53
                      refine WL.vg rfl (congrArg some h49) rfl rfl (X.not rfl) ?_
                      refine WL.vg rfl (congrArg some h47) rfl rfl (X.pickF rfl h49 rfl) ?_
                      refine WL.vg rfl (congrArg some h42) rfl rfl (X.pickT rfl h47 rfl) ?_
                      refine WL.va rfl rfl rfl (X.pickF rfl h42 rfl) ?_
                      refine WL.nil ?_
                      refine thn_n ?_
                      exact ⟨(Eq.trans rfl (by first | exact sk_1 e2 | exact sk_2 e2 ec | exact sk_3 e2 ec k9 k7 k4 | exact sk_4 e2 ec k4 | exact sk_5 e2 ec k7 | exact sk_6 e2 ec k9)), (by repeat (first | exact (Agree.refl _ F35) | refine Agree.put ?_ rfl | refine Agree.sub hAL0 rfl ?_ | refine Agree.named hF36 ?_ | refine Agree.named hF24 ?_)), hx53⟩
                  · have gh47 := (Decidable.of_not_not (of_decide_eq_false h47))
                    have k7 : (l[k]'hk).Call.Kind = 7 := gh47
                    refine WL.p rfl rfl rfl (congrArg some h47) ?_
                    refine WL.p rfl rfl rfl (congrArg some h47) ?_
                    refine WL.p rfl rfl rfl (congrArg some h47) ?_
                    refine WL.pn rfl rfl rfl rfl ?_
                    refine WL.pn rfl rfl rfl rfl ?_
                    refine WL.pn rfl rfl rfl rfl ?_
                    refine WL.pn rfl rfl rfl rfl ?_
                    refine WL.pn rfl rfl rfl rfl ?_
                    refine WL.p rfl rfl rfl (congrArg some h47) ?_
                    refine WL.vg rfl (congrArg some h42) rfl rfl (X.pickF rfl h47 rfl) ?_
                    refine WL.va rfl rfl rfl (X.pickF rfl h42 rfl) ?_
                    refine WL.nil ?_
                    refine thn_n ?_
                    exact ⟨(Eq.trans rfl (by first | exact sk_1 e2 | exact sk_2 e2 ec | exact sk_3 e2 ec k9 k7 k4 | exact sk_4 e2 ec k4 | exact sk_5 e2 ec k7 | exact sk_6 e2 ec k9)), (by repeat (first | exact (Agree.refl _ F35) | refine Agree.put ?_ rfl | refine Agree.sub hAL0 rfl ?_ | refine Agree.named hF36 ?_ | refine Agree.named hF24 ?_)), (Ext.refl _)⟩
                · have gh45 := (Decidable.of_not_not (of_decide_eq_false h45))
                  have k9 : (l[k]'hk).Call.Kind = 9 := gh45
                  refine WL.p rfl rfl rfl (congrArg some h45) ?_
                  refine WL.p rfl rfl rfl (congrArg some h45) ?_
                  refine WL.vg rfl (congrArg some h42) rfl rfl (X.pickF rfl h45 rfl) ?_
                  refine WL.vg rfl (congrArg some h42) rfl rfl (X.moveB rfl) ?_
                  refine WL.p rfl rfl rfl rfl ?_
                  refine WL.p rfl rfl rfl rfl ?_
                  refine WL.p rfl rfl rfl rfl ?_
                  refine WL.pn rfl rfl rfl rfl ?_
                  refine WL.pn rfl rfl rfl rfl ?_
                  refine WL.pn rfl rfl rfl rfl ?_
                  refine WL.pn rfl rfl rfl rfl ?_
                  refine WL.pn rfl rfl rfl rfl ?_
                  refine WL.p rfl rfl rfl rfl ?_
                  refine WL.vg rfl (congrArg some h42) rfl rfl (X.pickF rfl rfl rfl) ?_
                  refine WL.va rfl rfl rfl (X.pickF rfl h42 rfl) ?_
                  refine WL.nil ?_
                  refine thn_n ?_
                  exact ⟨(Eq.trans rfl (by first | exact sk_1 e2 | exact sk_2 e2 ec | exact sk_3 e2 ec k9 k7 k4 | exact sk_4 e2 ec k4 | exact sk_5 e2 ec k7 | exact sk_6 e2 ec k9)), (by repeat (first | exact (Agree.refl _ F35) | refine Agree.put ?_ rfl | refine Agree.sub hAL0 rfl ?_ | refine Agree.named hF36 ?_ | refine Agree.named hF24 ?_)), (Ext.refl _)⟩
          · rintro fCr9 wCr9 ⟨e60_Cr9, hACr9, hwCr9⟩
            have := World.grownBy.size hwCr9
            refine WF.cond e60_Cr9 (fun h2_59 => ?_) (fun h2_59 => ?_)
            · have gh2_59 := h2_59
              refine WF.exit ?_
              refine thn_x ?_
              refine blk_eq ?_
              refine thn_n ?_
              refine WF.region ?_
              refine WL.va rfl rfl rfl (X.moveI ((hACr9.eq 4).trans ((congrFun hF36 4).trans e4_L0))) ?_
              refine WL.va rfl rfl rfl (X.add rfl rfl (w64 (by omega))) ?_
              refine WL.va rfl rfl rfl (X.assignI rfl) ?_
              refine WL.nil ?_
              exact thn_n ⟨_, (by omega), k + 1, rfl, rfl, (by repeat (first | exact hAL0 | refine Agree.put ?_ rfl | refine Agree.sub hACr9 rfl ?_ | refine Agree.named hF36 ?_ | refine Agree.named hF24 ?_)), (Ext.trans (Ext.trans hwL0 (Ext.store hx29 hx33 (by omega))) hwCr9), (by omega)⟩
            · have gh2_59 := h2_59
              have hs := sk_no gh2_59
              refine WF.skip ?_
              refine thn_n ?_
              refine WF.seq ?_
              refine WF.region ?_
              refine WL.va rfl rfl rfl (X.move ((hACr9.eq 3).trans ((congrFun hF36 3).trans ((hAL0.eq 3).trans (congrFun hF24 3))))) ?_
              refine WL.va rfl rfl rfl (X.fieldAddrO (off := 2) ((hACr9.eq 5).trans (congrFun hF36 5)) Try.underlying42 rfl rfl Try.sizeOf3) ?_
              refine WL.va rfl rfl rfl (X.loadO hO5 hwCr9 rfl rfl Try.isAgg3) ?_
              refine WL.c rfl rfl rfl (X.call Try.call14 (evl_cons rfl (evl_cons (v := (i64 (l[k]'hk).Txn)) rfl evl_nil))) (place_ok _ (orderL l) (l[k]'hk).Txn _ (Row.ext (show Ints _ _ (orderL l) from Row.of_own hov) (Ext.trans (Ext.trans hwL0 (Ext.store hx29 hx33 (by omega))) hwCr9)) (by omega)) ?_
              rintro v62 w61 ⟨rfl, hx63⟩
              have := World.grownBy.size hx63
              obtain ⟨a, ha, hlaw⟩ := real_law hea hla hk hs
              have hz : placeZ (orderL l) (l[k]'hk).Txn = (a : Int) := by unfold placeZ; rw [ha]
              refine WL.va rfl rfl rfl (X.assignI rfl) ?_
              refine WL.nil ?_
              refine thn_n ?_
              refine WF.seq ?_
              refine WF.seq ?_
              refine WF.region ?_
              refine WL.va rfl rfl rfl (X.moveI rfl) ?_
              refine WL.va rfl rfl rfl (X.lss rfl rfl) ?_
              refine WL.nil ?_
              refine thn_n ?_
              refine WF.cond rfl (fun h3_65 => ?_) (fun h3_65 => ?_)
              · have gh3_65 := (of_decide_eq_true h3_65)
                exact absurd gh3_65 (by rw [hz]; omega)
              · have gh3_65 := (of_decide_eq_false h3_65)
                refine WF.skip ?_
                refine thn_n ?_
                refine WF.seq ?_
                refine WF.region ?_
                refine WL.va rfl rfl rfl (X.assignI rfl) ?_
                refine WL.nil ?_
                refine thn_n ?_
                refine WF.block ?_
                refine WF.named (fun F67 hF68 => ?_)
                refine WF.loopN (fun mL1 f' w' => ∃ (b : Nat), mL1 = (orderL l).length - b ∧ f' 8 = .int .i64 (b : Int) ∧ Agree [0, 3, 4, 5, 6, 7, 10, 11, 12, 13, 14, 15, 16, 18, 19, 20, 21, 22, 23, 26, 27, 28, 29, 30, 31, 32, 60, 61, 62, 63, 64, 65, 66] f' F67 ∧ Ext wO w' ∧ b ≤ (orderL l).length) ?_ ?_
                · exact ⟨_, 0, rfl, (congrFun hF68 8), (Agree.refl _ _), (Ext.trans (Ext.trans (Ext.trans hwL0 (Ext.store hx29 hx33 (by omega))) hwCr9) hx63), Nat.zero_le _⟩
                · rintro mL1 fL1 wL1 ⟨b, hmL1, e8_L1, hAL1, hwL1, hb0⟩
                  have := World.grownBy.size hwL1
                  refine WF.seq ?_
                  refine WF.seq ?_
                  refine WF.region ?_
                  refine WL.va rfl rfl rfl (X.moveI e8_L1) ?_
                  refine WL.va rfl rfl rfl (X.move ((hAL1.eq 3).trans ((congrFun hF68 3).trans ((hACr9.eq 3).trans ((congrFun hF36 3).trans ((hAL0.eq 3).trans (congrFun hF24 3))))))) ?_
                  refine WL.va rfl rfl rfl (X.len (show Ints _ _ (orderL l) from Row.of_own hov) rfl Try.underlying34) ?_
                  refine WL.va rfl rfl rfl (X.lss rfl rfl) ?_
                  refine WL.nil ?_
                  refine thn_n ?_
                  refine WF.cond rfl (fun h4_69 => ?_) (fun h4_69 => ?_)
                  · have gh4_69 := (of_decide_eq_true h4_69)
                    have hb : b < (orderL l).length := by have := gh4_69; omega
                    refine WF.skip ?_
                    refine thn_n ?_
                    refine WF.seq ?_
                    refine WF.block ?_
                    refine WF.seq ?_
                    refine WF.region ?_
                    refine WL.va rfl rfl rfl (X.move ((hAL1.eq 0).trans ((congrFun hF68 0).trans ((hACr9.eq 0).trans ((congrFun hF36 0).trans ((hAL0.eq 0).trans (congrFun hF24 0))))))) ?_
                    refine WL.va rfl rfl rfl (X.move ((hAL1.eq 3).trans ((congrFun hF68 3).trans ((hACr9.eq 3).trans ((congrFun hF36 3).trans ((hAL0.eq 3).trans (congrFun hF24 3))))))) ?_
                    refine WL.va rfl rfl rfl (X.moveI e8_L1) ?_
                    refine WL.va rfl rfl rfl (X.idx (show Ints _ _ (orderL l) from Row.of_own hov) rfl rfl hb Try.underlying34 Try.sizeOf3) ?_
                    refine WL.va rfl rfl rfl (X.loadI (show Ints _ _ (orderL l) from Row.of_own hov) hwL1 rfl hb Try.isAgg3) ?_
                    refine WL.c rfl rfl rfl (X.call Try.call15 (evl_cons rfl (evl_cons (v := (i64 ((orderL l).getD b 0))) rfl evl_nil))) (firstCall_ok _ l ((orderL l).getD b 0) _ (hv0.ext (Ext.trans (Ext.trans (Ext.trans hx4 hx14) hx22) hwL1))) ?_
                    rintro v72 w71 ⟨⟨z, rfl, hfc⟩, hx73⟩
                    have := World.grownBy.size hx73
                    refine WL.va rfl rfl rfl (X.assignI rfl) ?_
                    refine WL.nil ?_
                    refine thn_n ?_
                    refine WF.seq ?_
                    refine WF.region ?_
                    refine WL.va rfl rfl rfl (X.moveI rfl) ?_
                    refine WL.va rfl rfl rfl (X.moveI ((hAL1.eq 4).trans ((congrFun hF68 4).trans ((hACr9.eq 4).trans ((congrFun hF36 4).trans e4_L0))))) ?_
                    refine WL.va rfl rfl rfl (X.gtr rfl rfl) ?_
                    refine WL.va rfl rfl rfl (X.moveB rfl) ?_
                    refine WL.split (j := 3) rfl (fun h75 => ?_) (fun h75 => ?_)
                    · have gh75 := (of_decide_eq_true h75)
                      have hzk := gh75
                      refine WL.vg rfl (congrArg some h75) rfl rfl (X.moveI e8_L1) ?_
                      refine WL.vg rfl (congrArg some h75) rfl rfl (X.moveI ((hAL1.eq 7).trans (congrFun hF68 7))) ?_
                      refine WL.vg rfl (congrArg some h75) rfl rfl (X.leq rfl rfl) ?_
                      refine WL.va rfl rfl rfl (X.pickT rfl h75 rfl) ?_
                      refine WL.nil ?_
                      refine thn_n ?_
                      refine WF.cond rfl (fun h5_76 => ?_) (fun h5_76 => ?_)
                      · have gh5_76 := (of_decide_eq_true h5_76)
                        exact (fc_no hb hfc hzk (hz ▸ gh5_76) hlaw).elim
                      · have gh5_76 := (of_decide_eq_false h5_76)
                        refine WF.skip ?_
                        refine blk_n ?_
                        refine thn_n ?_
                        refine WF.region ?_
                        refine WL.va rfl rfl rfl (X.moveI e8_L1) ?_
                        refine WL.va rfl rfl rfl (X.add rfl rfl (w64 (by omega))) ?_
                        refine WL.va rfl rfl rfl (X.assignI rfl) ?_
                        refine WL.nil ?_
                        exact thn_n ⟨_, (by omega), b + 1, rfl, rfl, (by repeat (first | exact hAL1 | refine Agree.put ?_ rfl | refine Agree.sub hACr9 rfl ?_ | refine Agree.sub hAL0 rfl ?_ | refine Agree.named hF68 ?_ | refine Agree.named hF36 ?_ | refine Agree.named hF24 ?_)), (Ext.trans hwL1 hx73), (by omega)⟩
                    · have gh75 := (of_decide_eq_false h75)
                      refine WL.p rfl rfl rfl (congrArg some h75) ?_
                      refine WL.p rfl rfl rfl (congrArg some h75) ?_
                      refine WL.p rfl rfl rfl (congrArg some h75) ?_
                      refine WL.va rfl rfl rfl (X.pickF rfl h75 rfl) ?_
                      refine WL.nil ?_
                      refine thn_n ?_
                      refine WF.cond_f rfl ?_
                      refine WF.skip ?_
                      refine blk_n ?_
                      refine thn_n ?_
                      refine WF.region ?_
                      refine WL.va rfl rfl rfl (X.moveI e8_L1) ?_
                      refine WL.va rfl rfl rfl (X.add rfl rfl (w64 (by omega))) ?_
                      refine WL.va rfl rfl rfl (X.assignI rfl) ?_
                      refine WL.nil ?_
                      exact thn_n ⟨_, (by omega), b + 1, rfl, rfl, (by repeat (first | exact hAL1 | refine Agree.put ?_ rfl | refine Agree.sub hACr9 rfl ?_ | refine Agree.sub hAL0 rfl ?_ | refine Agree.named hF68 ?_ | refine Agree.named hF36 ?_ | refine Agree.named hF24 ?_)), (Ext.trans hwL1 hx73), (by omega)⟩
                  · have gh4_69 := (of_decide_eq_false h4_69)
                    refine WF.exit ?_
                    refine thn_x ?_
                    refine thn_x ?_
                    refine blk_eq ?_
                    refine blk_n ?_
                    refine thn_n ?_
                    refine WF.region ?_
                    refine WL.va rfl rfl rfl (X.moveI ((hAL1.eq 4).trans ((congrFun hF68 4).trans ((hACr9.eq 4).trans ((congrFun hF36 4).trans e4_L0))))) ?_
                    refine WL.va rfl rfl rfl (X.add rfl rfl (w64 (by omega))) ?_
                    refine WL.va rfl rfl rfl (X.assignI rfl) ?_
                    refine WL.nil ?_
                    exact thn_n ⟨_, (by omega), k + 1, rfl, rfl, (by repeat (first | exact hAL0 | refine Agree.put ?_ rfl | refine Agree.sub hAL1 rfl ?_ | refine Agree.sub hACr9 rfl ?_ | refine Agree.named hF68 ?_ | refine Agree.named hF36 ?_ | refine Agree.named hF24 ?_)), hwL1, (by omega)⟩
        · have gh1_25 := (of_decide_eq_false h1_25)
          have hk : l.length ≤ k := by have := gh1_25; omega
          refine WF.exit ?_
          refine thn_x ?_
          refine thn_x ?_
          refine blk_eq ?_
          refine thn_n ?_
          refine WF.seq ?_
          refine WF.region ?_
          refine WL.c rfl rfl rfl (X.call Try.call7 evl_nil) (works_ok _) ?_
          rintro v80 w79 ⟨rfl, hx81⟩
          refine WL.va rfl rfl rfl (X.assignB rfl) ?_
          refine WL.nil ?_
          refine thn_n ?_
          refine WF.ret ?_
          refine fin_r ?_
          exact ⟨rfl, (Ext.trans (Ext.trans (Ext.trans (Ext.trans hx4 hx14) hx22) hwL0) hx81)⟩

end Go.Proofs.Ytobjmehppmhkdaa
