/- The walks of the document's answer: ok, Chosen, under, block, odd, not, says. -/
import Derived.Test.YtobjmehppmhkdaaKnA
import Derived.Test.YtobjmehppmhkdaaKnw
import Derived.Test.YtobjmehppmhkdaaWitQ
namespace Go.Proofs.Ytobjmehppmhkdaa
open Go Go.RowKit Kf
set_option maxRecDepth 20000

section
variable {l : List Ev} {k n : Nat} {t c : Int} {s s' : Int × Bool} {e : Ev}
theorem any_t (hk : k < l.length) (hn : k < n) (h3 : l[k].Kind = 3) (ht : l[k].Txn = t) : true = rchosen l t n := by
  unfold rchosen
  refine (List.any_eq_true.2 ⟨l[k], ?_, by simp [chs, h3, ht]⟩).symm
  exact List.mem_iff_getElem.2 ⟨k, by simp; omega, by simp⟩
theorem any_s (hk : k < l.length) (h0 : (l.take k).any (chs t) = false) (h : chs t l[k] = false) : (l.take (k + 1)).any (chs t) = false := by
  rw [List.take_succ_eq_append_getElem hk, List.any_append, h0]; simp [h]
theorem und_next (hk : k < l.length) (hs : s = (l.take k).foldl (undF c) (0, false)) (h : undF c s l[k] = s') : s' = (l.take (k + 1)).foldl (undF c) (0, false) := by
  rw [List.take_succ_eq_append_getElem hk, List.foldl_append, ← hs]; exact h.symm
theorem und_x (h0 : ¬ e.Client = c) : undF c s e = s := by unfold undF; rw [if_neg h0]
theorem und_11 (h0 : e.Client = c) (h1 : e.Kind = 1) (h2 : e.Kind = 2) : undF c s e = (e.Call.Kind, false) := by omega
theorem und_10 (h0 : e.Client = c) (h1 : e.Kind = 1) (h2 : ¬ e.Kind = 2) : undF c s e = (e.Call.Kind, true) := by unfold undF; rw [if_pos h0, if_neg h2, if_pos h1]
theorem und_01 (h0 : e.Client = c) (h1 : ¬ e.Kind = 1) (h2 : e.Kind = 2) : undF c s e = (s.1, false) := by unfold undF; rw [if_pos h0, if_pos h2, if_neg h1]
theorem und_00 (h0 : e.Client = c) (h1 : ¬ e.Kind = 1) (h2 : ¬ e.Kind = 2) : undF c s e = s := by unfold undF; rw [if_pos h0, if_neg h2, if_neg h1]
def badK (e : Ev) : Bool := decide ((¬ e.Kind = 1 ∧ ¬ e.Kind = 2) ∨ e.Client < 1 ∨ 4 < e.Client)
theorem bk_1 (h1 : ¬ e.Kind = 1) (h2 : ¬ e.Kind = 2) : Value.bool true = Value.bool (badK e) := by simp [badK, h1, h2]
theorem bk_2 (h : e.Client < 1) : Value.bool true = Value.bool (badK e) := by simp [badK, h]
theorem bk_3 (hk : e.Kind = 1) (hc : ¬ e.Client < 1) : Value.bool (decide (4 < e.Client)) = Value.bool (badK e) := by simp [badK, hk]; omega
theorem bk_4 (hk : e.Kind = 2) (hc : ¬ e.Client < 1) : Value.bool (decide (4 < e.Client)) = Value.bool (badK e) := by simp [badK, hk]; omega
variable {i : Nat}
theorem or_3 (h : e.Kind = 3) : Value.bool false = Value.bool (oddR l i e) := by unfold oddR; rw [if_pos h]
theorem or_k (h3 : ¬ e.Kind = 3) (h : badK e = true) : Value.bool true = Value.bool (oddR l i e) := by unfold oddR; rw [if_neg h3, if_pos (of_decide_eq_true h)]
theorem or_c (h3 : ¬ e.Kind = 3) (h : badK e = false) (h1 : e.Kind = 1) : Value.bool (underL l e.Client i).2 = Value.bool (oddR l i e) := by unfold oddR; rw [if_neg h3, if_neg (of_decide_eq_false h), if_pos h1]
theorem or_u (h3 : ¬ e.Kind = 3) (h : badK e = false) (h1 : ¬ e.Kind = 1) (h2 : (underL l e.Client i).2 = false) : Value.bool true = Value.bool (oddR l i e) := by unfold oddR; rw [if_neg h3, if_neg (of_decide_eq_false h), if_neg h1, if_pos (.inl h2)]
theorem or_v (h3 : ¬ e.Kind = 3) (h : badK e = false) (h1 : ¬ e.Kind = 1) (h2 : ¬ (underL l e.Client i).1 = e.Call.Kind) : Value.bool true = Value.bool (oddR l i e) := by unfold oddR; rw [if_neg h3, if_neg (of_decide_eq_false h), if_neg h1, if_pos (.inr h2)]
theorem or_o (h3 : ¬ e.Kind = 3) (h : badK e = false) (h1 : ¬ e.Kind = 1) (h2 : (underL l e.Client i).2 = true) (h4 : (underL l e.Client i).1 = e.Call.Kind) : Value.bool (oddB e) = Value.bool (oddR l i e) := by unfold oddR; rw [if_neg h3, if_neg (of_decide_eq_false h), if_neg h1, if_neg (by rw [h2, h4]; simp)]
theorem dn_5 (h : ans e 5 0 = true) : Value.bool true = Value.bool (deniesB e) := by simp [deniesB, h]
theorem dn_k (h5 : ans e 5 0 = false) (h : ¬ e.Kind = 2) : Value.bool false = Value.bool (deniesB e) := by simp [deniesB, h5, ans, h]
theorem dn_c (h5 : ans e 5 0 = false) (h : ¬ e.Answer.Code = 24) : Value.bool false = Value.bool (deniesB e) := by rw [show deniesB e = (ans e 4 24 || (ans e 7 24 || (ans e 9 24 || (ans e 2 24 || ans e 5 0)))) from rfl, h5]; simp [ans, h]
theorem dn_4 (hk : e.Kind = 2) (hc : e.Answer.Code = 24) (h : e.Call.Kind = 4) : Value.bool true = Value.bool (deniesB e) := by simp [deniesB, ans, hk, hc, h]
theorem dn_7 (hk : e.Kind = 2) (hc : e.Answer.Code = 24) (h : e.Call.Kind = 7) : Value.bool true = Value.bool (deniesB e) := by simp [deniesB, ans, hk, hc, h]
theorem dn_9 (hk : e.Kind = 2) (hc : e.Answer.Code = 24) (h : e.Call.Kind = 9) : Value.bool true = Value.bool (deniesB e) := by simp [deniesB, ans, hk, hc, h]
theorem dn_2 (h5 : ans e 5 0 = false) (hk : e.Kind = 2) (hc : e.Answer.Code = 24) (h4 : ¬ e.Call.Kind = 4) (h7 : ¬ e.Call.Kind = 7) (h9 : ¬ e.Call.Kind = 9) : Value.bool (decide (e.Call.Kind = 2)) = Value.bool (deniesB e) := by
  rw [show deniesB e = (ans e 4 24 || (ans e 7 24 || (ans e 9 24 || (ans e 2 24 || ans e 5 0)))) from rfl, h5]; simp [ans, hk, hc, h4, h7, h9]
def tcF (t : Int) (_ : Nat) (x : Ev) : Bool := toB x t
theorem tc_any : anyI l (tcF t) = touchesB l t := by
  unfold anyI touchesB tcF
  rw [Bool.eq_iff_iff, List.any_eq_true, List.any_eq_true]
  constructor
  · rintro ⟨i, hi, h⟩
    have hi := List.mem_range.1 hi
    rw [List.getD_eq_getElem?_getD, List.getElem?_eq_getElem hi] at h
    exact ⟨_, List.getElem_mem hi, h⟩
  · rintro ⟨e, he, h⟩
    obtain ⟨i, hi, rfl⟩ := List.mem_iff_getElem.1 he
    exact ⟨i, List.mem_range.2 hi, by rw [List.getD_eq_getElem?_getD, List.getElem?_eq_getElem hi]; exact h⟩
theorem say_7 (h : ans e 7 0 = true) : Value.bool true = Value.bool (saysB l e) := by simp [saysB, h]
theorem say_9 (h : ans e 9 0 = true) : Value.bool true = Value.bool (saysB l e) := by simp [saysB, h]
theorem say_n (h7 : ans e 7 0 = false) (h9 : ans e 9 0 = false) (h : ans e 4 0 = false) : Value.bool false = Value.bool (saysB l e) := by simp [saysB, h7, h9, h]
theorem say_t (h : ans e 4 0 = true) (ht : touchesB l e.Txn = true) : Value.bool true = Value.bool (saysB l e) := by simp [saysB, h, ht]
theorem say_f (h7 : ans e 7 0 = false) (h9 : ans e 9 0 = false) (ht : touchesB l e.Txn = false) : Value.bool false = Value.bool (saysB l e) := by simp [saysB, h7, h9, ht]
end
set_option maxHeartbeats 1000000 in
theorem rok_ok (e : Ev) (d d2 : Value) (kind : Int) (w : World) : FnOk Try.prog 85 [agg (e.c d d2), i64 kind] w (fun r w' => r = .bool (ans e kind 0) ∧ Ext w w') := by
  refine FnOk.enter (rs := [4]) Try.func85 rfl Try.ntmps85 Try.results85 rfl rfl ?_
  refine WF.seq ?_
  refine WF.region ?_
  refine WL.op rfl (OW.boxA (cs := (e.c d d2)) rfl ?_ (by decide))
  intro g2 w1 heg2 hlg2 hO2 hx3
  have := World.grownBy.size hx3
  refine WL.va rfl rfl rfl (X.assignB rfl) ?_
  refine WL.nil ?_
  refine thn_n ?_
  refine WF.seq ?_
  refine WF.region ?_
  refine WL.va rfl rfl rfl (X.fieldAddrO (off := 0) rfl Try.underlying42 rfl rfl Try.sizeOf3) ?_
  refine WL.va rfl rfl rfl (X.loadO hO2 (Ext.refl _) rfl rfl Try.isAgg3) ?_
  refine WL.va rfl rfl rfl (X.eql rfl rfl) ?_
  refine WL.va rfl rfl rfl (X.moveB rfl) ?_
  refine WL.split (j := 3) rfl (fun h7 => ?_) (fun h7 => ?_)
  · have gh7 := (of_decide_eq_true h7)
    have k1 : e.Kind = 2 := gh7
    refine WL.vg rfl (congrArg some h7) rfl rfl (X.fieldAddrO (off := 3) rfl Try.underlying42 rfl rfl Try.sizeOf38) ?_
    refine WL.vg rfl (congrArg some h7) rfl rfl (X.fieldAddrP (off := 0) rfl Try.underlying38 rfl rfl Try.sizeOf3) ?_
    refine WL.vg rfl (congrArg some h7) rfl rfl (X.loadO hO2 (Ext.refl _) rfl rfl Try.isAgg3) ?_
    refine WL.vg rfl (congrArg some h7) rfl rfl (X.moveI rfl) ?_
    refine WL.vg rfl (congrArg some h7) rfl rfl (X.eql rfl rfl) ?_
    refine WL.va rfl rfl rfl (X.pickT rfl h7 rfl) ?_
    refine WL.va rfl rfl rfl (X.moveB rfl) ?_
    refine WL.split (j := 10) rfl (fun h9 => ?_) (fun h9 => ?_)
    · have gh9 := (of_decide_eq_true h9)
      have k2 : e.Call.Kind = kind := gh9
      refine WL.vg rfl (congrArg some h9) rfl rfl (X.fieldAddrO (off := 16) rfl Try.underlying42 rfl rfl Try.sizeOf40) ?_
      refine WL.vg rfl (congrArg some h9) rfl rfl (X.fieldAddrP (off := 0) rfl Try.underlying40 rfl rfl Try.sizeOf29) ?_
      refine WL.vg rfl (congrArg some h9) rfl rfl (X.loadO hO2 (Ext.refl _) rfl rfl Try.isAgg29) ?_
      refine WL.vg rfl (congrArg some h9) rfl rfl (X.eql rfl rfl) ?_
      refine WL.va rfl rfl rfl (X.pickT rfl h9 rfl) ?_
      refine WL.va rfl rfl rfl (X.assignB rfl) ?_
      refine WL.nil ?_
      refine thn_n ?_
      refine WF.ret ?_
      refine fin_r ?_
      exact ⟨by first | exact congrArg Value.bool (ans_a k1 k2) | exact congrArg Value.bool (ans_b k1) | exact congrArg Value.bool (ans_c k1 k2), hx3⟩
    · have gh9 := (of_decide_eq_false h9)
      have k2 : ¬ e.Call.Kind = kind := gh9
      refine WL.p rfl rfl rfl (congrArg some h9) ?_
      refine WL.p rfl rfl rfl (congrArg some h9) ?_
      refine WL.p rfl rfl rfl (congrArg some h9) ?_
      refine WL.p rfl rfl rfl (congrArg some h9) ?_
      refine WL.va rfl rfl rfl (X.pickF rfl h9 rfl) ?_
      refine WL.va rfl rfl rfl (X.assignB rfl) ?_
      refine WL.nil ?_
      refine thn_n ?_
      refine WF.ret ?_
      refine fin_r ?_
      exact ⟨by first | exact congrArg Value.bool (ans_a k1 k2) | exact congrArg Value.bool (ans_b k1) | exact congrArg Value.bool (ans_c k1 k2), hx3⟩
  · have gh7 := (of_decide_eq_false h7)
    have k1 : ¬ e.Kind = 2 := gh7
    refine WL.p rfl rfl rfl (congrArg some h7) ?_
    refine WL.p rfl rfl rfl (congrArg some h7) ?_
    refine WL.p rfl rfl rfl (congrArg some h7) ?_
    refine WL.p rfl rfl rfl (congrArg some h7) ?_
    refine WL.p rfl rfl rfl (congrArg some h7) ?_
    refine WL.va rfl rfl rfl (X.pickF rfl h7 rfl) ?_
    refine WL.va rfl rfl rfl (X.moveB rfl) ?_
    refine WL.p rfl rfl rfl rfl ?_
    refine WL.p rfl rfl rfl rfl ?_
    refine WL.p rfl rfl rfl rfl ?_
    refine WL.p rfl rfl rfl rfl ?_
    refine WL.va rfl rfl rfl (X.pickF rfl rfl rfl) ?_
    refine WL.va rfl rfl rfl (X.assignB rfl) ?_
    refine WL.nil ?_
    refine thn_n ?_
    refine WF.ret ?_
    refine fin_r ?_
    exact ⟨by first | exact congrArg Value.bool (ans_a k1 k2) | exact congrArg Value.bool (ans_b k1) | exact congrArg Value.bool (ans_c k1 k2), hx3⟩

set_option maxHeartbeats 1000000 in
theorem rchosen_ok (v : Value) (l : List Ev) (t : Int) (n : Nat) (w : World) (hv : Evs w v l) (hn : n ≤ l.length) : FnOk Try.prog 77 [v, i64 t, i64 (n : Int)] w (fun r w' => r = .bool (rchosen l t n) ∧ Ext w w') := by
  have hle := hv.le
  obtain ⟨cs, hr, hel⟩ := hv
  refine FnOk.enter (rs := [6]) Try.func77 rfl Try.ntmps77 Try.results77 rfl rfl ?_
  refine WF.seq ?_
  refine WF.region ?_
  refine WL.va rfl rfl rfl (X.assignB rfl) ?_
  refine WL.nil ?_
  refine thn_n ?_
  refine WF.seq ?_
  refine WF.seq ?_
  refine WF.region ?_
  refine WL.va rfl rfl rfl (X.assignI rfl) ?_
  refine WL.nil ?_
  refine thn_n ?_
  refine WF.block ?_
  refine WF.named (fun F2 hF3 => ?_)
  refine WF.loopN (fun mL0 f' w' => ∃ (k : Nat), mL0 = n - k ∧ f' 7 = .int .i64 (k : Int) ∧ Agree [0, 1, 2] f' F2 ∧ Ext w w' ∧ k ≤ n ∧ (l.take k).any (chs t) = false) ?_ ?_
  · exact ⟨_, 0, rfl, (congrFun hF3 7), (Agree.refl _ _), (Ext.refl _), ⟨Nat.zero_le _, rfl⟩⟩
  · rintro mL0 fL0 wL0 ⟨k, hmL0, e7_L0, hAL0, hwL0, ⟨hk0, hn0⟩⟩
    refine WF.seq ?_
    refine WF.seq ?_
    refine WF.region ?_
    refine WL.va rfl rfl rfl (X.moveI e7_L0) ?_
    refine WL.va rfl rfl rfl (X.moveI ((hAL0.eq 2).trans (congrFun hF3 2))) ?_
    refine WL.va rfl rfl rfl (X.lss rfl rfl) ?_
    refine WL.nil ?_
    refine thn_n ?_
    refine WF.cond rfl (fun h0_4 => ?_) (fun h0_4 => ?_)
    · have gh0_4 := (of_decide_eq_true h0_4)
      have hkn : k < n := by have := gh0_4; omega
      have hk : k < l.length := by omega
      obtain ⟨d, d2, hcs, hd1, hd2⟩ := hel k hk
      refine WF.skip ?_
      refine thn_n ?_
      refine WF.seq ?_
      refine WF.block ?_
      refine WF.seq ?_
      refine WF.region ?_
      refine WL.va rfl rfl rfl (X.move ((hAL0.eq 0).trans (congrFun hF3 0))) ?_
      refine WL.va rfl rfl rfl (X.moveI e7_L0) ?_
      refine WL.va rfl rfl rfl (X.idx hr rfl rfl hk Try.underlying26 Try.sizeOf42) ?_
      refine WL.va rfl rfl rfl (X.fieldAddrA rfl Try.underlying42 rfl rfl Try.sizeOf3) ?_
      refine WL.va rfl rfl rfl (X.loadE hr hwL0 rfl hk ((el_get hcs 0 (by decide)).trans rfl) Try.isAgg3) ?_
      refine WL.va rfl rfl rfl (X.eql rfl rfl) ?_
      refine WL.va rfl rfl rfl (X.moveB rfl) ?_
      refine WL.split (j := 6) rfl (fun h7 => ?_) (fun h7 => ?_)
      · have gh7 := (of_decide_eq_true h7)
        have c1 : (l[k]'hk).Kind = 3 := gh7
        refine WL.vg rfl (congrArg some h7) rfl rfl (X.move ((hAL0.eq 0).trans (congrFun hF3 0))) ?_
        refine WL.vg rfl (congrArg some h7) rfl rfl (X.moveI e7_L0) ?_
        refine WL.vg rfl (congrArg some h7) rfl rfl (X.idx hr rfl rfl hk Try.underlying26 Try.sizeOf42) ?_
        refine WL.vg rfl (congrArg some h7) rfl rfl (X.fieldAddrA rfl Try.underlying42 rfl rfl Try.sizeOf3) ?_
        refine WL.vg rfl (congrArg some h7) rfl rfl (X.loadE hr hwL0 rfl hk ((el_get hcs 2 (by decide)).trans rfl) Try.isAgg3) ?_
        refine WL.vg rfl (congrArg some h7) rfl rfl (X.moveI ((hAL0.eq 1).trans (congrFun hF3 1))) ?_
        refine WL.vg rfl (congrArg some h7) rfl rfl (X.eql rfl rfl) ?_
        refine WL.va rfl rfl rfl (X.pickT rfl h7 rfl) ?_
        refine WL.nil ?_
        refine thn_n ?_
        refine WF.cond rfl (fun h1_8 => ?_) (fun h1_8 => ?_)
        · have gh1_8 := (of_decide_eq_true h1_8)
          have c2 : (l[k]'hk).Txn = t := gh1_8
          refine WF.seq ?_
          refine WF.region ?_
          refine WL.va rfl rfl rfl (X.assignB rfl) ?_
          refine WL.nil ?_
          refine thn_n ?_
          refine WF.ret ?_
          refine blk_r ?_
          refine thn_r ?_
          refine thn_r ?_
          refine blk_r ?_
          refine thn_r ?_
          refine fin_r ?_
          exact ⟨congrArg Value.bool (any_t hk hkn c1 c2), hwL0⟩
        · have gh1_8 := (of_decide_eq_false h1_8)
          have hno : chs t (l[k]'hk) = false := by simp [chs, gh1_8]
          refine WF.skip ?_
          refine blk_n ?_
          refine thn_n ?_
          refine WF.region ?_
          refine WL.va rfl rfl rfl (X.moveI e7_L0) ?_
          refine WL.va rfl rfl rfl (X.add rfl rfl (w64 (by omega))) ?_
          refine WL.va rfl rfl rfl (X.assignI rfl) ?_
          refine WL.nil ?_
          exact thn_n ⟨_, (by omega), k + 1, rfl, rfl, (by repeat (first | exact hAL0 | refine Agree.put ?_ rfl | refine Agree.named hF3 ?_)), hwL0, ⟨by omega, any_s hk hn0 hno⟩⟩
      · have gh7 := (of_decide_eq_false h7)
        have hno : chs t (l[k]'hk) = false := by simp [chs, gh7]
        refine WL.p rfl rfl rfl (congrArg some h7) ?_
        refine WL.p rfl rfl rfl (congrArg some h7) ?_
        refine WL.p rfl rfl rfl (congrArg some h7) ?_
        refine WL.p rfl rfl rfl (congrArg some h7) ?_
        refine WL.p rfl rfl rfl (congrArg some h7) ?_
        refine WL.p rfl rfl rfl (congrArg some h7) ?_
        refine WL.p rfl rfl rfl (congrArg some h7) ?_
        refine WL.va rfl rfl rfl (X.pickF rfl h7 rfl) ?_
        refine WL.nil ?_
        refine thn_n ?_
        refine WF.cond_f rfl ?_
        refine WF.skip ?_
        refine blk_n ?_
        refine thn_n ?_
        refine WF.region ?_
        refine WL.va rfl rfl rfl (X.moveI e7_L0) ?_
        refine WL.va rfl rfl rfl (X.add rfl rfl (w64 (by omega))) ?_
        refine WL.va rfl rfl rfl (X.assignI rfl) ?_
        refine WL.nil ?_
        exact thn_n ⟨_, (by omega), k + 1, rfl, rfl, (by repeat (first | exact hAL0 | refine Agree.put ?_ rfl | refine Agree.named hF3 ?_)), hwL0, ⟨by omega, any_s hk hn0 hno⟩⟩
    · have gh0_4 := (of_decide_eq_false h0_4)
      have hk : n ≤ k := by have := gh0_4; omega
      obtain rfl : k = n := by omega
      refine WF.exit ?_
      refine thn_x ?_
      refine thn_x ?_
      refine blk_eq ?_
      refine thn_n ?_
      refine WF.seq ?_
      refine WF.region ?_
      refine WL.va rfl rfl rfl (X.assignB rfl) ?_
      refine WL.nil ?_
      refine thn_n ?_
      refine WF.ret ?_
      refine fin_r ?_
      exact ⟨congrArg Value.bool hn0.symm, hwL0⟩

set_option maxHeartbeats 2000000 in
theorem under_ok (v : Value) (l : List Ev) (c : Int) (n : Nat) (w : World) (hv : Evs w v l) (hn : n ≤ l.length) : FnOk Try.prog 88 [v, i64 c, i64 (n : Int)] w (fun r w' => r = .tuple #[i64 (underL l c n).1, .bool (underL l c n).2] ∧ Ext w w') := by
  have hle := hv.le
  obtain ⟨cs, hr, hel⟩ := hv
  refine FnOk.enter (rs := [6, 7]) Try.func88 rfl Try.ntmps88 Try.results88 rfl rfl ?_
  refine WF.seq ?_
  refine WF.region ?_
  refine WL.va rfl rfl rfl (X.assignI rfl) ?_
  refine WL.va rfl rfl rfl (X.assignB rfl) ?_
  refine WL.nil ?_
  refine thn_n ?_
  refine WF.seq ?_
  refine WF.region ?_
  refine WL.va rfl rfl rfl (X.assignI rfl) ?_
  refine WL.nil ?_
  refine thn_n ?_
  refine WF.seq ?_
  refine WF.region ?_
  refine WL.va rfl rfl rfl (X.assignB rfl) ?_
  refine WL.nil ?_
  refine thn_n ?_
  refine WF.seq ?_
  refine WF.seq ?_
  refine WF.region ?_
  refine WL.va rfl rfl rfl (X.assignI rfl) ?_
  refine WL.nil ?_
  refine thn_n ?_
  refine WF.block ?_
  refine WF.named (fun F3 hF4 => ?_)
  refine WF.loopN (fun mL0 f' w' => ∃ (k : Nat) (s : Int × Bool), mL0 = n - k ∧ f' 10 = .int .i64 (k : Int) ∧ f' 8 = i64 s.1 ∧ f' 9 = .bool s.2 ∧ Agree [0, 1, 2, 6, 7] f' F3 ∧ Ext w w' ∧ k ≤ n ∧ s = (l.take k).foldl (undF c) (0, false)) ?_ ?_
  · exact ⟨_, 0, (0, false), rfl, (congrFun hF4 10), (congrFun hF4 8), (congrFun hF4 9), (Agree.refl _ _), (Ext.refl _), ⟨Nat.zero_le _, rfl⟩⟩
  · rintro mL0 fL0 wL0 ⟨k, s, hmL0, e10_L0, e8_L0, e9_L0, hAL0, hwL0, ⟨hk0, hs⟩⟩
    refine WF.seq ?_
    refine WF.seq ?_
    refine WF.region ?_
    refine WL.va rfl rfl rfl (X.moveI e10_L0) ?_
    refine WL.va rfl rfl rfl (X.moveI ((hAL0.eq 2).trans (congrFun hF4 2))) ?_
    refine WL.va rfl rfl rfl (X.lss rfl rfl) ?_
    refine WL.nil ?_
    refine thn_n ?_
    refine WF.cond rfl (fun h0_6 => ?_) (fun h0_6 => ?_)
    · have gh0_6 := (of_decide_eq_true h0_6)
      have hkn : k < n := by have := gh0_6; omega
      have hk : k < l.length := by omega
      obtain ⟨d, d2, hcs, hd1, hd2⟩ := hel k hk
      refine WF.skip ?_
      refine thn_n ?_
      refine WF.seq ?_
      refine WF.block ?_
      refine WF.seq ?_
      refine WF.seq ?_
      refine WF.region ?_
      refine WL.va rfl rfl rfl (X.move ((hAL0.eq 0).trans (congrFun hF4 0))) ?_
      refine WL.va rfl rfl rfl (X.moveI e10_L0) ?_
      refine WL.va rfl rfl rfl (X.idx hr rfl rfl hk Try.underlying26 Try.sizeOf42) ?_
      refine WL.va rfl rfl rfl (X.fieldAddrA rfl Try.underlying42 rfl rfl Try.sizeOf3) ?_
      refine WL.va rfl rfl rfl (X.loadE hr hwL0 rfl hk ((el_get hcs 1 (by decide)).trans rfl) Try.isAgg3) ?_
      refine WL.va rfl rfl rfl (X.moveI ((hAL0.eq 1).trans (congrFun hF4 1))) ?_
      refine WL.va rfl rfl rfl (X.neq rfl rfl) ?_
      refine WL.nil ?_
      refine thn_n ?_
      refine WF.cond rfl (fun h1_8 => ?_) (fun h1_8 => ?_)
      · have gh1_8 := (of_decide_eq_true h1_8)
        have c0n : ¬ (l[k]'hk).Client = c := gh1_8
        refine WF.exit ?_
        refine thn_x ?_
        refine blk_eq ?_
        refine thn_n ?_
        refine WF.region ?_
        refine WL.va rfl rfl rfl (X.moveI e10_L0) ?_
        refine WL.va rfl rfl rfl (X.add rfl rfl (w64 (by omega))) ?_
        refine WL.va rfl rfl rfl (X.assignI rfl) ?_
        refine WL.nil ?_
        first | exact thn_n ⟨_, (by omega), k + 1, s, rfl, rfl, e8_L0, e9_L0, (by repeat (first | exact hAL0 | refine Agree.put ?_ rfl | refine Agree.named hF4 ?_)), hwL0, ⟨by omega, und_next hk hs (und_x c0n)⟩⟩ | exact thn_n ⟨_, (by omega), k + 1, s, rfl, rfl, e8_L0, e9_L0, (by repeat (first | exact hAL0 | refine Agree.put ?_ rfl | refine Agree.named hF4 ?_)), hwL0, ⟨by omega, und_next hk hs (und_00 c0 c1n c2n)⟩⟩ | exact thn_n ⟨_, (by omega), k + 1, ((l[k]'hk).Call.Kind, false), rfl, rfl, e8_L0, e9_L0, (by repeat (first | exact hAL0 | refine Agree.put ?_ rfl | refine Agree.named hF4 ?_)), hwL0, ⟨by omega, und_next hk hs (und_11 c0 c1 c2)⟩⟩ | exact thn_n ⟨_, (by omega), k + 1, ((l[k]'hk).Call.Kind, true), rfl, rfl, e8_L0, e9_L0, (by repeat (first | exact hAL0 | refine Agree.put ?_ rfl | refine Agree.named hF4 ?_)), hwL0, ⟨by omega, und_next hk hs (und_10 c0 c1 c2n)⟩⟩ | exact thn_n ⟨_, (by omega), k + 1, (s.1, false), rfl, rfl, e8_L0, e9_L0, (by repeat (first | exact hAL0 | refine Agree.put ?_ rfl | refine Agree.named hF4 ?_)), hwL0, ⟨by omega, und_next hk hs (und_01 c0 c1n c2)⟩⟩
      · have gh1_8 := (Decidable.of_not_not (of_decide_eq_false h1_8))
        have c0 : (l[k]'hk).Client = c := gh1_8
        refine WF.skip ?_
        refine thn_n ?_
        refine WF.seq ?_
        refine WF.seq ?_
        refine WF.region ?_
        refine WL.va rfl rfl rfl (X.move ((hAL0.eq 0).trans (congrFun hF4 0))) ?_
        refine WL.va rfl rfl rfl (X.moveI e10_L0) ?_
        refine WL.va rfl rfl rfl (X.idx hr rfl rfl hk Try.underlying26 Try.sizeOf42) ?_
        refine WL.va rfl rfl rfl (X.fieldAddrA rfl Try.underlying42 rfl rfl Try.sizeOf3) ?_
        refine WL.va rfl rfl rfl (X.loadE hr hwL0 rfl hk ((el_get hcs 0 (by decide)).trans rfl) Try.isAgg3) ?_
        refine WL.va rfl rfl rfl (X.eql rfl rfl) ?_
        refine WL.nil ?_
        refine thn_n ?_
        refine WF.cond rfl (fun h2_10 => ?_) (fun h2_10 => ?_)
        · have gh2_10 := (of_decide_eq_true h2_10)
          have c1 : (l[k]'hk).Kind = 1 := gh2_10
          refine WF.seq ?_
          refine WF.region ?_
          refine WL.va rfl rfl rfl (X.move ((hAL0.eq 0).trans (congrFun hF4 0))) ?_
          refine WL.va rfl rfl rfl (X.moveI e10_L0) ?_
          refine WL.va rfl rfl rfl (X.idx hr rfl rfl hk Try.underlying26 Try.sizeOf42) ?_
          refine WL.va rfl rfl rfl (X.fieldAddrA rfl Try.underlying42 rfl rfl Try.sizeOf38) ?_
          refine WL.va rfl rfl rfl (X.fieldAddrAA (off := 0) rfl Try.underlying38 rfl rfl Try.sizeOf3) ?_
          refine WL.va rfl rfl rfl (X.loadE hr hwL0 rfl hk ((el_get hcs 3 (by decide)).trans rfl) Try.isAgg3) ?_
          refine WL.va rfl rfl rfl (X.assignI rfl) ?_
          refine WL.nil ?_
          refine thn_n ?_
          refine WF.region ?_
          refine WL.va rfl rfl rfl (X.assignB rfl) ?_
          refine WL.nil ?_
          refine thn_n ?_
          refine WF.seq ?_
          refine WF.region ?_
          refine WL.va rfl rfl rfl (X.move ((hAL0.eq 0).trans (congrFun hF4 0))) ?_
          refine WL.va rfl rfl rfl (X.moveI e10_L0) ?_
          refine WL.va rfl rfl rfl (X.idx hr rfl rfl hk Try.underlying26 Try.sizeOf42) ?_
          refine WL.va rfl rfl rfl (X.fieldAddrA rfl Try.underlying42 rfl rfl Try.sizeOf3) ?_
          refine WL.va rfl rfl rfl (X.loadE hr hwL0 rfl hk ((el_get hcs 0 (by decide)).trans rfl) Try.isAgg3) ?_
          refine WL.va rfl rfl rfl (X.eql rfl rfl) ?_
          refine WL.nil ?_
          refine thn_n ?_
          refine WF.cond rfl (fun h3_13 => ?_) (fun h3_13 => ?_)
          · have gh3_13 := (of_decide_eq_true h3_13)
            have c2 : (l[k]'hk).Kind = 2 := gh3_13
            refine WF.region ?_
            refine WL.va rfl rfl rfl (X.assignB rfl) ?_
            refine WL.nil ?_
            refine blk_n ?_
            refine thn_n ?_
            refine WF.region ?_
            refine WL.va rfl rfl rfl (X.moveI e10_L0) ?_
            refine WL.va rfl rfl rfl (X.add rfl rfl (w64 (by omega))) ?_
            refine WL.va rfl rfl rfl (X.assignI rfl) ?_
            refine WL.nil ?_
            first | exact thn_n ⟨_, (by omega), k + 1, s, rfl, rfl, rfl, rfl, (by repeat (first | exact hAL0 | refine Agree.put ?_ rfl | refine Agree.named hF4 ?_)), hwL0, ⟨by omega, und_next hk hs (und_x c0n)⟩⟩ | exact thn_n ⟨_, (by omega), k + 1, s, rfl, rfl, rfl, rfl, (by repeat (first | exact hAL0 | refine Agree.put ?_ rfl | refine Agree.named hF4 ?_)), hwL0, ⟨by omega, und_next hk hs (und_00 c0 c1n c2n)⟩⟩ | exact thn_n ⟨_, (by omega), k + 1, ((l[k]'hk).Call.Kind, false), rfl, rfl, rfl, rfl, (by repeat (first | exact hAL0 | refine Agree.put ?_ rfl | refine Agree.named hF4 ?_)), hwL0, ⟨by omega, und_next hk hs (und_11 c0 c1 c2)⟩⟩ | exact thn_n ⟨_, (by omega), k + 1, ((l[k]'hk).Call.Kind, true), rfl, rfl, rfl, rfl, (by repeat (first | exact hAL0 | refine Agree.put ?_ rfl | refine Agree.named hF4 ?_)), hwL0, ⟨by omega, und_next hk hs (und_10 c0 c1 c2n)⟩⟩ | exact thn_n ⟨_, (by omega), k + 1, (s.1, false), rfl, rfl, rfl, rfl, (by repeat (first | exact hAL0 | refine Agree.put ?_ rfl | refine Agree.named hF4 ?_)), hwL0, ⟨by omega, und_next hk hs (und_01 c0 c1n c2)⟩⟩
          · have gh3_13 := (of_decide_eq_false h3_13)
            have c2n : ¬ (l[k]'hk).Kind = 2 := gh3_13
            refine WF.skip ?_
            refine blk_n ?_
            refine thn_n ?_
            refine WF.region ?_
            refine WL.va rfl rfl rfl (X.moveI e10_L0) ?_
            refine WL.va rfl rfl rfl (X.add rfl rfl (w64 (by omega))) ?_
            refine WL.va rfl rfl rfl (X.assignI rfl) ?_
            refine WL.nil ?_
            first | exact thn_n ⟨_, (by omega), k + 1, s, rfl, rfl, rfl, rfl, (by repeat (first | exact hAL0 | refine Agree.put ?_ rfl | refine Agree.named hF4 ?_)), hwL0, ⟨by omega, und_next hk hs (und_x c0n)⟩⟩ | exact thn_n ⟨_, (by omega), k + 1, s, rfl, rfl, rfl, rfl, (by repeat (first | exact hAL0 | refine Agree.put ?_ rfl | refine Agree.named hF4 ?_)), hwL0, ⟨by omega, und_next hk hs (und_00 c0 c1n c2n)⟩⟩ | exact thn_n ⟨_, (by omega), k + 1, ((l[k]'hk).Call.Kind, false), rfl, rfl, rfl, rfl, (by repeat (first | exact hAL0 | refine Agree.put ?_ rfl | refine Agree.named hF4 ?_)), hwL0, ⟨by omega, und_next hk hs (und_11 c0 c1 c2)⟩⟩ | exact thn_n ⟨_, (by omega), k + 1, ((l[k]'hk).Call.Kind, true), rfl, rfl, rfl, rfl, (by repeat (first | exact hAL0 | refine Agree.put ?_ rfl | refine Agree.named hF4 ?_)), hwL0, ⟨by omega, und_next hk hs (und_10 c0 c1 c2n)⟩⟩ | exact thn_n ⟨_, (by omega), k + 1, (s.1, false), rfl, rfl, rfl, rfl, (by repeat (first | exact hAL0 | refine Agree.put ?_ rfl | refine Agree.named hF4 ?_)), hwL0, ⟨by omega, und_next hk hs (und_01 c0 c1n c2)⟩⟩
        · have gh2_10 := (of_decide_eq_false h2_10)
          have c1n : ¬ (l[k]'hk).Kind = 1 := gh2_10
          refine WF.skip ?_
          refine thn_n ?_
          refine WF.seq ?_
          refine WF.region ?_
          refine WL.va rfl rfl rfl (X.move ((hAL0.eq 0).trans (congrFun hF4 0))) ?_
          refine WL.va rfl rfl rfl (X.moveI e10_L0) ?_
          refine WL.va rfl rfl rfl (X.idx hr rfl rfl hk Try.underlying26 Try.sizeOf42) ?_
          refine WL.va rfl rfl rfl (X.fieldAddrA rfl Try.underlying42 rfl rfl Try.sizeOf3) ?_
          refine WL.va rfl rfl rfl (X.loadE hr hwL0 rfl hk ((el_get hcs 0 (by decide)).trans rfl) Try.isAgg3) ?_
          refine WL.va rfl rfl rfl (X.eql rfl rfl) ?_
          refine WL.nil ?_
          refine thn_n ?_
          refine WF.cond rfl (fun h3_16 => ?_) (fun h3_16 => ?_)
          · have gh3_16 := (of_decide_eq_true h3_16)
            have c2 : (l[k]'hk).Kind = 2 := gh3_16
            refine WF.region ?_
            refine WL.va rfl rfl rfl (X.assignB rfl) ?_
            refine WL.nil ?_
            refine blk_n ?_
            refine thn_n ?_
            refine WF.region ?_
            refine WL.va rfl rfl rfl (X.moveI e10_L0) ?_
            refine WL.va rfl rfl rfl (X.add rfl rfl (w64 (by omega))) ?_
            refine WL.va rfl rfl rfl (X.assignI rfl) ?_
            refine WL.nil ?_
            first | exact thn_n ⟨_, (by omega), k + 1, s, rfl, rfl, e8_L0, rfl, (by repeat (first | exact hAL0 | refine Agree.put ?_ rfl | refine Agree.named hF4 ?_)), hwL0, ⟨by omega, und_next hk hs (und_x c0n)⟩⟩ | exact thn_n ⟨_, (by omega), k + 1, s, rfl, rfl, e8_L0, rfl, (by repeat (first | exact hAL0 | refine Agree.put ?_ rfl | refine Agree.named hF4 ?_)), hwL0, ⟨by omega, und_next hk hs (und_00 c0 c1n c2n)⟩⟩ | exact thn_n ⟨_, (by omega), k + 1, ((l[k]'hk).Call.Kind, false), rfl, rfl, e8_L0, rfl, (by repeat (first | exact hAL0 | refine Agree.put ?_ rfl | refine Agree.named hF4 ?_)), hwL0, ⟨by omega, und_next hk hs (und_11 c0 c1 c2)⟩⟩ | exact thn_n ⟨_, (by omega), k + 1, ((l[k]'hk).Call.Kind, true), rfl, rfl, e8_L0, rfl, (by repeat (first | exact hAL0 | refine Agree.put ?_ rfl | refine Agree.named hF4 ?_)), hwL0, ⟨by omega, und_next hk hs (und_10 c0 c1 c2n)⟩⟩ | exact thn_n ⟨_, (by omega), k + 1, (s.1, false), rfl, rfl, e8_L0, rfl, (by repeat (first | exact hAL0 | refine Agree.put ?_ rfl | refine Agree.named hF4 ?_)), hwL0, ⟨by omega, und_next hk hs (und_01 c0 c1n c2)⟩⟩
          · have gh3_16 := (of_decide_eq_false h3_16)
            have c2n : ¬ (l[k]'hk).Kind = 2 := gh3_16
            refine WF.skip ?_
            refine blk_n ?_
            refine thn_n ?_
            refine WF.region ?_
            refine WL.va rfl rfl rfl (X.moveI e10_L0) ?_
            refine WL.va rfl rfl rfl (X.add rfl rfl (w64 (by omega))) ?_
            refine WL.va rfl rfl rfl (X.assignI rfl) ?_
            refine WL.nil ?_
            first | exact thn_n ⟨_, (by omega), k + 1, s, rfl, rfl, e8_L0, e9_L0, (by repeat (first | exact hAL0 | refine Agree.put ?_ rfl | refine Agree.named hF4 ?_)), hwL0, ⟨by omega, und_next hk hs (und_x c0n)⟩⟩ | exact thn_n ⟨_, (by omega), k + 1, s, rfl, rfl, e8_L0, e9_L0, (by repeat (first | exact hAL0 | refine Agree.put ?_ rfl | refine Agree.named hF4 ?_)), hwL0, ⟨by omega, und_next hk hs (und_00 c0 c1n c2n)⟩⟩ | exact thn_n ⟨_, (by omega), k + 1, ((l[k]'hk).Call.Kind, false), rfl, rfl, e8_L0, e9_L0, (by repeat (first | exact hAL0 | refine Agree.put ?_ rfl | refine Agree.named hF4 ?_)), hwL0, ⟨by omega, und_next hk hs (und_11 c0 c1 c2)⟩⟩ | exact thn_n ⟨_, (by omega), k + 1, ((l[k]'hk).Call.Kind, true), rfl, rfl, e8_L0, e9_L0, (by repeat (first | exact hAL0 | refine Agree.put ?_ rfl | refine Agree.named hF4 ?_)), hwL0, ⟨by omega, und_next hk hs (und_10 c0 c1 c2n)⟩⟩ | exact thn_n ⟨_, (by omega), k + 1, (s.1, false), rfl, rfl, e8_L0, e9_L0, (by repeat (first | exact hAL0 | refine Agree.put ?_ rfl | refine Agree.named hF4 ?_)), hwL0, ⟨by omega, und_next hk hs (und_01 c0 c1n c2)⟩⟩
    · have gh0_6 := (of_decide_eq_false h0_6)
      have hk : n ≤ k := by have := gh0_6; omega
      obtain rfl : k = n := by omega
      refine WF.exit ?_
      refine thn_x ?_
      refine thn_x ?_
      refine blk_eq ?_
      refine thn_n ?_
      refine WF.seq ?_
      refine WF.region ?_
      refine WL.va rfl rfl rfl (X.moveI e8_L0) ?_
      refine WL.va rfl rfl rfl (X.moveB e9_L0) ?_
      refine WL.va rfl rfl rfl (X.assignI rfl) ?_
      refine WL.va rfl rfl rfl (X.assignB rfl) ?_
      refine WL.nil ?_
      refine thn_n ?_
      refine WF.ret ?_
      refine fin_r ?_
      subst hs
      exact ⟨rfl, hwL0⟩

set_option maxHeartbeats 1000000 in
theorem rblock_ok (no : Int) (v : Value) (b : List UInt8) (w : World) (hb : Bytes w v b) : FnOk Try.prog 89 [i64 no, v] w (fun r w' => r = .bool (isBlk no b) ∧ w = w') := by
  refine FnOk.enter (rs := [4]) Try.func89 rfl Try.ntmps89 Try.results89 rfl rfl ?_
  refine WF.seq ?_
  refine WF.region ?_
  refine WL.va rfl rfl rfl (X.assignB rfl) ?_
  refine WL.nil ?_
  refine thn_n ?_
  refine WF.seq ?_
  refine WF.region ?_
  refine WL.va rfl rfl rfl (X.moveI rfl) ?_
  refine WL.va rfl rfl rfl (X.geq rfl rfl) ?_
  refine WL.va rfl rfl rfl (X.moveB rfl) ?_
  refine WL.split (j := 2) rfl (fun h3 => ?_) (fun h3 => ?_)
  · have gh3 := (of_decide_eq_true h3)
    have k1 : 0 ≤ no := by have := gh3; omega
    refine WL.vg rfl (congrArg some h3) rfl rfl (X.moveI rfl) ?_
    refine WL.vg rfl (congrArg some h3) rfl rfl (X.leq rfl rfl) ?_
    refine WL.va rfl rfl rfl (X.pickT rfl h3 rfl) ?_
    refine WL.va rfl rfl rfl (X.moveB rfl) ?_
    refine WL.split (j := 6) rfl (fun h5 => ?_) (fun h5 => ?_)
    · have gh5 := (of_decide_eq_true h5)
      have k2 : no < 64 := by have := gh5; omega
      refine WL.vg rfl (congrArg some h5) rfl rfl (X.move rfl) ?_
      refine WL.vg rfl (congrArg some h5) rfl rfl (X.len hb rfl Try.underlying36) ?_
      refine WL.vg rfl (congrArg some h5) rfl rfl (X.eql rfl rfl) ?_
      refine WL.va rfl rfl rfl (X.pickT rfl h5 rfl) ?_
      refine WL.va rfl rfl rfl (X.assignB rfl) ?_
      refine WL.nil ?_
      refine thn_n ?_
      refine WF.ret ?_
      refine fin_r ?_
      exact ⟨by first | exact congrArg Value.bool (blk_a k1 k2) | exact congrArg Value.bool (blk_b k1) | exact congrArg Value.bool (blk_c k2), rfl⟩
    · have gh5 := (of_decide_eq_false h5)
      have k2 : ¬ no < 64 := by have := gh5; omega
      refine WL.p rfl rfl rfl (congrArg some h5) ?_
      refine WL.p rfl rfl rfl (congrArg some h5) ?_
      refine WL.p rfl rfl rfl (congrArg some h5) ?_
      refine WL.va rfl rfl rfl (X.pickF rfl h5 rfl) ?_
      refine WL.va rfl rfl rfl (X.assignB rfl) ?_
      refine WL.nil ?_
      refine thn_n ?_
      refine WF.ret ?_
      refine fin_r ?_
      exact ⟨by first | exact congrArg Value.bool (blk_a k1 k2) | exact congrArg Value.bool (blk_b k1) | exact congrArg Value.bool (blk_c k2), rfl⟩
  · have gh3 := (of_decide_eq_false h3)
    have k1 : ¬ 0 ≤ no := by have := gh3; omega
    refine WL.p rfl rfl rfl (congrArg some h3) ?_
    refine WL.p rfl rfl rfl (congrArg some h3) ?_
    refine WL.va rfl rfl rfl (X.pickF rfl h3 rfl) ?_
    refine WL.va rfl rfl rfl (X.moveB rfl) ?_
    refine WL.p rfl rfl rfl rfl ?_
    refine WL.p rfl rfl rfl rfl ?_
    refine WL.p rfl rfl rfl rfl ?_
    refine WL.va rfl rfl rfl (X.pickF rfl rfl rfl) ?_
    refine WL.va rfl rfl rfl (X.assignB rfl) ?_
    refine WL.nil ?_
    refine thn_n ?_
    refine WF.ret ?_
    refine fin_r ?_
    exact ⟨by first | exact congrArg Value.bool (blk_a k1 k2) | exact congrArg Value.bool (blk_b k1) | exact congrArg Value.bool (blk_c k2), rfl⟩

set_option maxHeartbeats 4000000 in
theorem odd_ok (v : Value) (l : List Ev) (i : Nat) (w : World) (hv : Evs w v l) (hi : i < l.length) (hl : l.length ≤ 1000000) : FnOk Try.prog 76 [v, i64 (i : Int)] w (fun r w' => r = .bool (oddR l i (l[i]'hi)) ∧ Ext w w') := by
  have hv0 := hv
  have hle := hv.le
  obtain ⟨cs, hr, hel⟩ := hv
  obtain ⟨d, d2, hcs, hd1, hd2⟩ := hel i hi
  refine FnOk.enter (rs := [4]) Try.func76 rfl Try.ntmps76 Try.results76 rfl rfl ?_
  refine WF.seq ?_
  refine WF.region ?_
  refine WL.va rfl rfl rfl (X.assignB rfl) ?_
  refine WL.nil ?_
  refine thn_n ?_
  refine WF.seq ?_
  refine WF.region ?_
  refine WL.va rfl rfl rfl (X.move rfl) ?_
  refine WL.va rfl rfl rfl (X.moveI rfl) ?_
  refine WL.va rfl rfl rfl (X.idx hr rfl rfl hi Try.underlying26 Try.sizeOf42) ?_
  refine WL.va rfl rfl rfl (X.loadEl hr (Ext.refl _) rfl hi hcs Try.isAgg42 Try.sizeOf42) ?_
  refine WL.op rfl (OW.allocO (cs := [i64 0, i64 0, i64 0, i64 0, i64 0, i64 0, i64 0, i64 0, i64 0, i64 0, i64 0, i64 0, i64 0, i64 0, i64 0, .slice none 0 0, i64 0, i64 0, .slice none 0 0]) Try.zeroValue42 rfl ?_ (by decide))
  intro g5 w2 heg5 hlg5 hO5 hx4
  have := World.grownBy.size hx4
  refine WL.op rfl (OW.storeOA hO5 rfl rfl rfl (ev_ones hd1 hd2) Try.sizeOf42 ?_)
  intro w6 hO5 hx8
  have := World.grownBy.size hx8
  replace hO5 : Blk _ _ _ (Ev.c (l[i]'hi) d d2) := hO5
  refine WL.nil ?_
  refine thn_n ?_
  refine WF.seq ?_
  refine WF.seq ?_
  refine WF.region ?_
  refine WL.va rfl rfl rfl (X.fieldAddrO (off := 0) rfl Try.underlying42 rfl rfl Try.sizeOf3) ?_
  refine WL.va rfl rfl rfl (X.loadO hO5 (Ext.refl _) rfl rfl Try.isAgg3) ?_
  refine WL.va rfl rfl rfl (X.eql rfl rfl) ?_
  refine WL.nil ?_
  refine thn_n ?_
  refine WF.cond rfl (fun h0_10 => ?_) (fun h0_10 => ?_)
  · have gh0_10 := (of_decide_eq_true h0_10)
    have h3 : (l[i]'hi).Kind = 3 := gh0_10
    refine WF.seq ?_
    refine WF.region ?_
    refine WL.va rfl rfl rfl (X.assignB rfl) ?_
    refine WL.nil ?_
    refine thn_n ?_
    refine WF.ret ?_
    refine thn_r ?_
    refine fin_r ?_
    exact ⟨by first | exact or_3 h3 | exact or_k h3 hb | exact or_c h3 hb h1 | exact or_u h3 hb h1 u2 | exact or_v h3 hb h1 u1 | exact (od_3 o1).trans (or_o h3 hb h1 u2 u1) | exact (od_4 o1 b2).trans (or_o h3 hb h1 u2 u1) | exact (od_5 o1 b2 b8).trans (or_o h3 hb h1 u2 u1) | exact (od_6 o1 b2 b8).trans (or_o h3 hb h1 u2 u1), (Ext.store hx4 hx8 (by omega))⟩
  · have gh0_10 := (of_decide_eq_false h0_10)
    have h3 : ¬ (l[i]'hi).Kind = 3 := gh0_10
    refine WF.skip ?_
    refine thn_n ?_
    refine WF.seq ?_
    refine WF.named (fun F13 hF14 => ?_)
    refine WF.cut (fun f' w' => f' 32 = .bool (badK (l[i]'hi)) ∧ Agree [0, 1, 4, 5, 8, 9, 10, 11, 12, 13, 14] f' F13 ∧ w6 = w') ?_ ?_
    · refine WF.region ?_
      refine WL.va rfl rfl rfl (X.fieldAddrO (off := 0) (congrFun hF14 5) Try.underlying42 rfl rfl Try.sizeOf3) ?_
      refine WL.va rfl rfl rfl (X.loadO hO5 (Ext.refl _) rfl rfl Try.isAgg3) ?_
      refine WL.va rfl rfl rfl (X.neq rfl rfl) ?_
      refine WL.va rfl rfl rfl (X.moveB rfl) ?_
      refine WL.split (j := 3) rfl (fun h16 => ?_) (fun h16 => ?_)
      · have gh16 := (of_decide_eq_true h16)
        have a1 : ¬ (l[i]'hi).Kind = 1 := gh16
        refine WL.vg rfl (congrArg some h16) rfl rfl (X.fieldAddrO (off := 0) (congrFun hF14 5) Try.underlying42 rfl rfl Try.sizeOf3) ?_
        refine WL.vg rfl (congrArg some h16) rfl rfl (X.loadO hO5 (Ext.refl _) rfl rfl Try.isAgg3) ?_
        refine WL.vg rfl (congrArg some h16) rfl rfl (X.neq rfl rfl) ?_
        refine WL.va rfl rfl rfl (X.pickT rfl h16 rfl) ?_
        refine WL.va rfl rfl rfl (X.moveB rfl) ?_
        refine WL.split (j := 8) rfl (fun h18 => ?_) (fun h18 => ?_)
        · have gh18 := (of_decide_eq_true h18)
          have a2 : ¬ (l[i]'hi).Kind = 2 := gh18
          refine WL.p rfl rfl rfl (congrArg some h18) ?_
          refine WL.p rfl rfl rfl (congrArg some h18) ?_
          refine WL.p rfl rfl rfl (congrArg some h18) ?_
          refine WL.va rfl rfl rfl (X.pickT rfl h18 rfl) ?_
          refine WL.va rfl rfl rfl (X.moveB rfl) ?_
          refine WL.p rfl rfl rfl rfl ?_
          refine WL.p rfl rfl rfl rfl ?_
          refine WL.p rfl rfl rfl rfl ?_
          refine WL.va rfl rfl rfl (X.pickT rfl rfl rfl) ?_
          refine WL.nil ?_
          refine thn_n ?_
          exact ⟨(Eq.trans rfl (by first | exact bk_1 a1 a2 | exact bk_2 a3 | exact bk_3 a1 a3 | exact bk_4 a2 a3)), (by repeat (first | exact (Agree.refl _ F13) | refine Agree.put ?_ rfl | refine Agree.named hF14 ?_)), rfl⟩
        · have gh18 := (Decidable.of_not_not (of_decide_eq_false h18))
          have a2 : (l[i]'hi).Kind = 2 := gh18
          refine WL.vg rfl (congrArg some h18) rfl rfl (X.fieldAddrO (off := 1) (congrFun hF14 5) Try.underlying42 rfl rfl Try.sizeOf3) ?_
          refine WL.vg rfl (congrArg some h18) rfl rfl (X.loadO hO5 (Ext.refl _) rfl rfl Try.isAgg3) ?_
          refine WL.vg rfl (congrArg some h18) rfl rfl (X.lss rfl rfl) ?_
          refine WL.va rfl rfl rfl (X.pickF rfl h18 rfl) ?_
          refine WL.va rfl rfl rfl (X.moveB rfl) ?_
          refine WL.split (j := 13) rfl (fun h22 => ?_) (fun h22 => ?_)
          · have gh22 := (of_decide_eq_true h22)
            have a3 : (l[i]'hi).Client < 1 := gh22
            refine WL.p rfl rfl rfl (congrArg some h22) ?_
            refine WL.p rfl rfl rfl (congrArg some h22) ?_
            refine WL.p rfl rfl rfl (congrArg some h22) ?_
            refine WL.va rfl rfl rfl (X.pickT rfl h22 rfl) ?_
            refine WL.nil ?_
            refine thn_n ?_
            exact ⟨(Eq.trans rfl (by first | exact bk_1 a1 a2 | exact bk_2 a3 | exact bk_3 a1 a3 | exact bk_4 a2 a3)), (by repeat (first | exact (Agree.refl _ F13) | refine Agree.put ?_ rfl | refine Agree.named hF14 ?_)), rfl⟩
          · have gh22 := (of_decide_eq_false h22)
            have a3 : ¬ (l[i]'hi).Client < 1 := gh22
            refine WL.vg rfl (congrArg some h22) rfl rfl (X.fieldAddrO (off := 1) (congrFun hF14 5) Try.underlying42 rfl rfl Try.sizeOf3) ?_
            refine WL.vg rfl (congrArg some h22) rfl rfl (X.loadO hO5 (Ext.refl _) rfl rfl Try.isAgg3) ?_
            refine WL.vg rfl (congrArg some h22) rfl rfl (X.gtr rfl rfl) ?_
            refine WL.va rfl rfl rfl (X.pickF rfl h22 rfl) ?_
            refine WL.nil ?_
            refine thn_n ?_
            exact ⟨(Eq.trans rfl (by first | exact bk_1 a1 a2 | exact bk_2 a3 | exact bk_3 a1 a3 | exact bk_4 a2 a3)), (by repeat (first | exact (Agree.refl _ F13) | refine Agree.put ?_ rfl | refine Agree.named hF14 ?_)), rfl⟩
      · have gh16 := (Decidable.of_not_not (of_decide_eq_false h16))
        have a1 : (l[i]'hi).Kind = 1 := gh16
        refine WL.p rfl rfl rfl (congrArg some h16) ?_
        refine WL.p rfl rfl rfl (congrArg some h16) ?_
        refine WL.p rfl rfl rfl (congrArg some h16) ?_
        refine WL.va rfl rfl rfl (X.pickF rfl h16 rfl) ?_
        refine WL.va rfl rfl rfl (X.moveB rfl) ?_
        refine WL.vg rfl rfl rfl rfl (X.fieldAddrO (off := 1) (congrFun hF14 5) Try.underlying42 rfl rfl Try.sizeOf3) ?_
        refine WL.vg rfl rfl rfl rfl (X.loadO hO5 (Ext.refl _) rfl rfl Try.isAgg3) ?_
        refine WL.vg rfl rfl rfl rfl (X.lss rfl rfl) ?_
        refine WL.va rfl rfl rfl (X.pickF rfl rfl rfl) ?_
        refine WL.va rfl rfl rfl (X.moveB rfl) ?_
        refine WL.split (j := 13) rfl (fun h27 => ?_) (fun h27 => ?_)
        · have gh27 := (of_decide_eq_true h27)
          have a3 : (l[i]'hi).Client < 1 := gh27
          refine WL.p rfl rfl rfl (congrArg some h27) ?_
          refine WL.p rfl rfl rfl (congrArg some h27) ?_
          refine WL.p rfl rfl rfl (congrArg some h27) ?_
          refine WL.va rfl rfl rfl (X.pickT rfl h27 rfl) ?_
          refine WL.nil ?_
          refine thn_n ?_
          exact ⟨(Eq.trans rfl (by first | exact bk_1 a1 a2 | exact bk_2 a3 | exact bk_3 a1 a3 | exact bk_4 a2 a3)), (by repeat (first | exact (Agree.refl _ F13) | refine Agree.put ?_ rfl | refine Agree.named hF14 ?_)), rfl⟩
        · have gh27 := (of_decide_eq_false h27)
          have a3 : ¬ (l[i]'hi).Client < 1 := gh27
          refine WL.vg rfl (congrArg some h27) rfl rfl (X.fieldAddrO (off := 1) (congrFun hF14 5) Try.underlying42 rfl rfl Try.sizeOf3) ?_
          refine WL.vg rfl (congrArg some h27) rfl rfl (X.loadO hO5 (Ext.refl _) rfl rfl Try.isAgg3) ?_
          refine WL.vg rfl (congrArg some h27) rfl rfl (X.gtr rfl rfl) ?_
          refine WL.va rfl rfl rfl (X.pickF rfl h27 rfl) ?_
          refine WL.nil ?_
          refine thn_n ?_
          exact ⟨(Eq.trans rfl (by first | exact bk_1 a1 a2 | exact bk_2 a3 | exact bk_3 a1 a3 | exact bk_4 a2 a3)), (by repeat (first | exact (Agree.refl _ F13) | refine Agree.put ?_ rfl | refine Agree.named hF14 ?_)), rfl⟩
    · rintro fCr4 wCr4 ⟨e32_Cr4, hACr4, rfl⟩
      refine WF.cond e32_Cr4 (fun h1_30 => ?_) (fun h1_30 => ?_)
      · have gh1_30 := h1_30
        have hb : badK (l[i]'hi) = true := gh1_30
        refine WF.seq ?_
        refine WF.region ?_
        refine WL.va rfl rfl rfl (X.assignB rfl) ?_
        refine WL.nil ?_
        refine thn_n ?_
        refine WF.ret ?_
        refine thn_r ?_
        refine fin_r ?_
        exact ⟨by first | exact or_3 h3 | exact or_k h3 hb | exact or_c h3 hb h1 | exact or_u h3 hb h1 u2 | exact or_v h3 hb h1 u1 | exact (od_3 o1).trans (or_o h3 hb h1 u2 u1) | exact (od_4 o1 b2).trans (or_o h3 hb h1 u2 u1) | exact (od_5 o1 b2 b8).trans (or_o h3 hb h1 u2 u1) | exact (od_6 o1 b2 b8).trans (or_o h3 hb h1 u2 u1), (Ext.store hx4 hx8 (by omega))⟩
      · have gh1_30 := h1_30
        have hb : badK (l[i]'hi) = false := gh1_30
        refine WF.skip ?_
        refine thn_n ?_
        refine WF.seq ?_
        refine WF.region ?_
        refine WL.va rfl rfl rfl (X.move ((hACr4.eq 0).trans (congrFun hF14 0))) ?_
        refine WL.va rfl rfl rfl (X.fieldAddrO (off := 1) ((hACr4.eq 5).trans (congrFun hF14 5)) Try.underlying42 rfl rfl Try.sizeOf3) ?_
        refine WL.va rfl rfl rfl (X.loadO hO5 (Ext.refl _) rfl rfl Try.isAgg3) ?_
        refine WL.va rfl rfl rfl (X.moveI ((hACr4.eq 1).trans (congrFun hF14 1))) ?_
        refine WL.c rfl rfl rfl (X.call Try.call88 (evl_cons rfl (evl_cons (v := (i64 (l[i]'hi).Client)) rfl (evl_cons (v := (i64 (i : Int))) rfl evl_nil)))) (under_ok _ l (l[i]'hi).Client i _ (hv0.ext (Ext.store hx4 hx8 (by omega))) (by omega)) ?_
        rintro v34 w33 ⟨rfl, hx35⟩
        have := World.grownBy.size hx35
        refine WL.va rfl rfl rfl (X.move rfl) ?_
        refine WL.va rfl rfl rfl (X.extract rfl rfl) ?_
        refine WL.va rfl rfl rfl (X.extract rfl rfl) ?_
        refine WL.va rfl rfl rfl (X.assignI rfl) ?_
        refine WL.va rfl rfl rfl (X.assignB rfl) ?_
        refine WL.nil ?_
        refine thn_n ?_
        refine WF.seq ?_
        refine WF.seq ?_
        refine WF.region ?_
        refine WL.va rfl rfl rfl (X.fieldAddrO (off := 0) ((hACr4.eq 5).trans (congrFun hF14 5)) Try.underlying42 rfl rfl Try.sizeOf3) ?_
        refine WL.va rfl rfl rfl (X.loadO hO5 hx35 rfl rfl Try.isAgg3) ?_
        refine WL.va rfl rfl rfl (X.eql rfl rfl) ?_
        refine WL.nil ?_
        refine thn_n ?_
        refine WF.cond rfl (fun h2_37 => ?_) (fun h2_37 => ?_)
        · have gh2_37 := (of_decide_eq_true h2_37)
          have h1 : (l[i]'hi).Kind = 1 := gh2_37
          refine WF.seq ?_
          refine WF.region ?_
          refine WL.va rfl rfl rfl (X.moveB rfl) ?_
          refine WL.va rfl rfl rfl (X.assignB rfl) ?_
          refine WL.nil ?_
          refine thn_n ?_
          refine WF.ret ?_
          refine thn_r ?_
          refine fin_r ?_
          exact ⟨by first | exact or_3 h3 | exact or_k h3 hb | exact or_c h3 hb h1 | exact or_u h3 hb h1 u2 | exact or_v h3 hb h1 u1 | exact (od_3 o1).trans (or_o h3 hb h1 u2 u1) | exact (od_4 o1 b2).trans (or_o h3 hb h1 u2 u1) | exact (od_5 o1 b2 b8).trans (or_o h3 hb h1 u2 u1) | exact (od_6 o1 b2 b8).trans (or_o h3 hb h1 u2 u1), (Ext.trans (Ext.store hx4 hx8 (by omega)) hx35)⟩
        · have gh2_37 := (of_decide_eq_false h2_37)
          have h1 : ¬ (l[i]'hi).Kind = 1 := gh2_37
          refine WF.skip ?_
          refine thn_n ?_
          refine WF.seq ?_
          refine WF.seq ?_
          refine WF.region ?_
          refine WL.va rfl rfl rfl (X.moveB rfl) ?_
          refine WL.va rfl rfl rfl (X.not rfl) ?_
          refine WL.va rfl rfl rfl (X.moveB rfl) ?_
          refine WL.split (j := 2) rfl (fun h40 => ?_) (fun h40 => ?_)
          · have gh40 := (nt h40)
            have u2 : (underL l (l[i]'hi).Client i).2 = false := by simpa using gh40
            refine WL.p rfl rfl rfl (congrArg some h40) ?_
            refine WL.p rfl rfl rfl (congrArg some h40) ?_
            refine WL.p rfl rfl rfl (congrArg some h40) ?_
            refine WL.p rfl rfl rfl (congrArg some h40) ?_
            refine WL.p rfl rfl rfl (congrArg some h40) ?_
            refine WL.va rfl rfl rfl (X.pickT rfl h40 rfl) ?_
            refine WL.nil ?_
            refine thn_n ?_
            refine WF.cond_t rfl ?_
            refine WF.seq ?_
            refine WF.region ?_
            refine WL.va rfl rfl rfl (X.assignB rfl) ?_
            refine WL.nil ?_
            refine thn_n ?_
            refine WF.ret ?_
            refine thn_r ?_
            refine fin_r ?_
            exact ⟨by first | exact or_3 h3 | exact or_k h3 hb | exact or_c h3 hb h1 | exact or_u h3 hb h1 u2 | exact or_v h3 hb h1 u1 | exact (od_3 o1).trans (or_o h3 hb h1 u2 u1) | exact (od_4 o1 b2).trans (or_o h3 hb h1 u2 u1) | exact (od_5 o1 b2 b8).trans (or_o h3 hb h1 u2 u1) | exact (od_6 o1 b2 b8).trans (or_o h3 hb h1 u2 u1), (Ext.trans (Ext.store hx4 hx8 (by omega)) hx35)⟩
          · have gh40 := (nf h40)
            have u2 : (underL l (l[i]'hi).Client i).2 = true := by simpa using gh40
            refine WL.vg rfl (congrArg some h40) rfl rfl (X.moveI rfl) ?_
            refine WL.vg rfl (congrArg some h40) rfl rfl (X.fieldAddrO (off := 3) ((hACr4.eq 5).trans (congrFun hF14 5)) Try.underlying42 rfl rfl Try.sizeOf38) ?_
            refine WL.vg rfl (congrArg some h40) rfl rfl (X.fieldAddrP (off := 0) rfl Try.underlying38 rfl rfl Try.sizeOf3) ?_
            refine WL.vg rfl (congrArg some h40) rfl rfl (X.loadO hO5 hx35 rfl rfl Try.isAgg3) ?_
            refine WL.vg rfl (congrArg some h40) rfl rfl (X.neq rfl rfl) ?_
            refine WL.va rfl rfl rfl (X.pickF rfl h40 rfl) ?_
            refine WL.nil ?_
            refine thn_n ?_
            refine WF.cond rfl (fun h3_43 => ?_) (fun h3_43 => ?_)
            · have gh3_43 := (of_decide_eq_true h3_43)
              have u1 : ¬ (underL l (l[i]'hi).Client i).1 = (l[i]'hi).Call.Kind := gh3_43
              refine WF.seq ?_
              refine WF.region ?_
              refine WL.va rfl rfl rfl (X.assignB rfl) ?_
              refine WL.nil ?_
              refine thn_n ?_
              refine WF.ret ?_
              refine thn_r ?_
              refine fin_r ?_
              exact ⟨by first | exact or_3 h3 | exact or_k h3 hb | exact or_c h3 hb h1 | exact or_u h3 hb h1 u2 | exact or_v h3 hb h1 u1 | exact (od_3 o1).trans (or_o h3 hb h1 u2 u1) | exact (od_4 o1 b2).trans (or_o h3 hb h1 u2 u1) | exact (od_5 o1 b2 b8).trans (or_o h3 hb h1 u2 u1) | exact (od_6 o1 b2 b8).trans (or_o h3 hb h1 u2 u1), (Ext.trans (Ext.store hx4 hx8 (by omega)) hx35)⟩
            · have gh3_43 := (Decidable.of_not_not (of_decide_eq_false h3_43))
              have u1 : (underL l (l[i]'hi).Client i).1 = (l[i]'hi).Call.Kind := gh3_43
              refine WF.skip ?_
              refine thn_n ?_
              refine WF.seq ?_
              refine WF.named (fun F46 hF47 => ?_)
              refine WF.cut (fun f' w' => f' 65 = .bool (odd1 (l[i]'hi)) ∧ Agree [0, 1, 4, 5, 6, 7, 8, 9, 10, 11, 12, 13, 14, 32, 33, 34, 35, 36, 37, 38, 39, 40, 41, 42, 43, 45, 46, 47, 48, 49, 50, 51, 52, 53] f' F46 ∧ Ext w33 w') ?_ ?_
              · refine WF.region ?_
                refine WL.va rfl rfl rfl (X.loadOA hO5 hx35 ((congrFun hF47 5).trans ((hACr4.eq 5).trans (congrFun hF14 5))) rfl Try.isAgg42 Try.sizeOf42) ?_
                refine WL.c rfl rfl rfl (X.call Try.call85 (evl_cons (v := (agg (Ev.c (l[i]'hi) d d2))) rfl (evl_cons (v := (i64 3)) rfl evl_nil))) (rok_ok (l[i]'hi) d d2 3 _) ?_
                rintro v49 w48 ⟨rfl, hx50⟩
                have := World.grownBy.size hx50
                refine WL.va rfl rfl rfl (X.moveB rfl) ?_
                refine WL.split (j := 2) rfl (fun h52 => ?_) (fun h52 => ?_)
                · have gh52 := h52
                  have b3 : ans (l[i]'hi) 3 0 = true := gh52
                  refine WL.vg rfl (congrArg some h52) rfl rfl (X.fieldAddrO (off := 3) ((congrFun hF47 5).trans ((hACr4.eq 5).trans (congrFun hF14 5))) Try.underlying42 rfl rfl Try.sizeOf38) ?_
                  refine WL.vg rfl (congrArg some h52) rfl rfl (X.fieldAddrP (off := 1) rfl Try.underlying38 rfl rfl Try.sizeOf3) ?_
                  refine WL.vg rfl (congrArg some h52) rfl rfl (X.loadO hO5 (Ext.trans hx35 hx50) rfl rfl Try.isAgg3) ?_
                  refine WL.vg rfl (congrArg some h52) rfl rfl (X.fieldAddrO (off := 3) ((congrFun hF47 5).trans ((hACr4.eq 5).trans (congrFun hF14 5))) Try.underlying42 rfl rfl Try.sizeOf38) ?_
                  refine WL.vg rfl (congrArg some h52) rfl rfl (X.fieldAddrP (off := 12) rfl Try.underlying38 rfl rfl Try.sizeOf36) ?_
                  refine WL.vg rfl (congrArg some h52) rfl rfl (X.loadO hO5 (Ext.trans hx35 hx50) rfl rfl Try.isAgg36) ?_
                  refine WL.cg rfl (congrArg some h52) rfl rfl (X.call Try.call89 (evl_cons (v := (i64 (l[i]'hi).Call.Block)) rfl (evl_cons rfl evl_nil))) (rblock_ok (l[i]'hi).Call.Block _ (l[i]'hi).Call.Data _ (Row.ext hd1 (Ext.trans (Ext.trans (Ext.store hx4 hx8 (by omega)) hx35) hx50))) ?_
                  rintro v54 w53 ⟨rfl, rfl⟩
                  refine WL.vg rfl (congrArg some h52) rfl rfl (X.not rfl) ?_
                  refine WL.va rfl rfl rfl (X.pickT rfl h52 rfl) ?_
                  refine WL.nil ?_
                  refine thn_n ?_
                  exact ⟨(Eq.trans rfl (by first | exact od_1 b3 | exact od_2 b3)), (by repeat (first | exact (Agree.refl _ F46) | refine Agree.put ?_ rfl | refine Agree.sub hACr4 rfl ?_ | refine Agree.named hF47 ?_ | refine Agree.named hF14 ?_)), hx50⟩
                · have gh52 := h52
                  have b3 : ans (l[i]'hi) 3 0 = false := gh52
                  refine WL.p rfl rfl rfl (congrArg some h52) ?_
                  refine WL.p rfl rfl rfl (congrArg some h52) ?_
                  refine WL.p rfl rfl rfl (congrArg some h52) ?_
                  refine WL.p rfl rfl rfl (congrArg some h52) ?_
                  refine WL.p rfl rfl rfl (congrArg some h52) ?_
                  refine WL.p rfl rfl rfl (congrArg some h52) ?_
                  refine WL.p rfl rfl rfl (congrArg some h52) ?_
                  refine WL.p rfl rfl rfl (congrArg some h52) ?_
                  refine WL.va rfl rfl rfl (X.pickF rfl h52 rfl) ?_
                  refine WL.nil ?_
                  refine thn_n ?_
                  exact ⟨(Eq.trans rfl (by first | exact od_1 b3 | exact od_2 b3)), (by repeat (first | exact (Agree.refl _ F46) | refine Agree.put ?_ rfl | refine Agree.sub hACr4 rfl ?_ | refine Agree.named hF47 ?_ | refine Agree.named hF14 ?_)), hx50⟩
              · rintro fCr11 wCr11 ⟨e65_Cr11, hACr11, hwCr11⟩
                have := World.grownBy.size hwCr11
                refine WF.cond e65_Cr11 (fun h4_59 => ?_) (fun h4_59 => ?_)
                · have gh4_59 := h4_59
                  have o1 : odd1 (l[i]'hi) = true := gh4_59
                  refine WF.seq ?_
                  refine WF.region ?_
                  refine WL.va rfl rfl rfl (X.assignB rfl) ?_
                  refine WL.nil ?_
                  refine thn_n ?_
                  refine WF.ret ?_
                  refine thn_r ?_
                  refine fin_r ?_
                  exact ⟨by first | exact or_3 h3 | exact or_k h3 hb | exact or_c h3 hb h1 | exact or_u h3 hb h1 u2 | exact or_v h3 hb h1 u1 | exact (od_3 o1).trans (or_o h3 hb h1 u2 u1) | exact (od_4 o1 b2).trans (or_o h3 hb h1 u2 u1) | exact (od_5 o1 b2 b8).trans (or_o h3 hb h1 u2 u1) | exact (od_6 o1 b2 b8).trans (or_o h3 hb h1 u2 u1), (Ext.trans (Ext.trans (Ext.store hx4 hx8 (by omega)) hx35) hwCr11)⟩
                · have gh4_59 := h4_59
                  have o1 : odd1 (l[i]'hi) = false := gh4_59
                  refine WF.skip ?_
                  refine thn_n ?_
                  refine WF.seq ?_
                  refine WF.region ?_
                  refine WL.va rfl rfl rfl (X.loadOA hO5 (Ext.trans hx35 hwCr11) ((hACr11.eq 5).trans ((congrFun hF47 5).trans ((hACr4.eq 5).trans (congrFun hF14 5)))) rfl Try.isAgg42 Try.sizeOf42) ?_
                  refine WL.c rfl rfl rfl (X.call Try.call85 (evl_cons (v := (agg (Ev.c (l[i]'hi) d d2))) rfl (evl_cons (v := (i64 2)) rfl evl_nil))) (rok_ok (l[i]'hi) d d2 2 _) ?_
                  rintro v63 w62 ⟨rfl, hx65⟩
                  have := World.grownBy.size hx65
                  refine WL.va rfl rfl rfl (X.moveB rfl) ?_
                  refine WL.split (j := 2) rfl (fun h67 => ?_) (fun h67 => ?_)
                  · have gh67 := h67
                    have b2 : ans (l[i]'hi) 2 0 = true := gh67
                    refine WL.p rfl rfl rfl (congrArg some h67) ?_
                    refine WL.p rfl rfl rfl (congrArg some h67) ?_
                    refine WL.va rfl rfl rfl (X.pickT rfl h67 rfl) ?_
                    refine WL.va rfl rfl rfl (X.moveB rfl) ?_
                    refine WL.vg rfl rfl rfl rfl (X.fieldAddrO (off := 3) ((hACr11.eq 5).trans ((congrFun hF47 5).trans ((hACr4.eq 5).trans (congrFun hF14 5)))) Try.underlying42 rfl rfl Try.sizeOf38) ?_
                    refine WL.vg rfl rfl rfl rfl (X.fieldAddrP (off := 1) rfl Try.underlying38 rfl rfl Try.sizeOf3) ?_
                    refine WL.vg rfl rfl rfl rfl (X.loadO hO5 (Ext.trans (Ext.trans hx35 hwCr11) hx65) rfl rfl Try.isAgg3) ?_
                    refine WL.vg rfl rfl rfl rfl (X.fieldAddrO (off := 16) ((hACr11.eq 5).trans ((congrFun hF47 5).trans ((hACr4.eq 5).trans (congrFun hF14 5)))) Try.underlying42 rfl rfl Try.sizeOf40) ?_
                    refine WL.vg rfl rfl rfl rfl (X.fieldAddrP (off := 2) rfl Try.underlying40 rfl rfl Try.sizeOf36) ?_
                    refine WL.vg rfl rfl rfl rfl (X.loadO hO5 (Ext.trans (Ext.trans hx35 hwCr11) hx65) rfl rfl Try.isAgg36) ?_
                    refine WL.cg rfl rfl rfl rfl (X.call Try.call89 (evl_cons (v := (i64 (l[i]'hi).Call.Block)) rfl (evl_cons rfl evl_nil))) (rblock_ok (l[i]'hi).Call.Block _ (l[i]'hi).Answer.Data _ (Row.ext hd2 (Ext.trans (Ext.trans (Ext.trans (Ext.store hx4 hx8 (by omega)) hx35) hwCr11) hx65))) ?_
                    rintro v70 w69 ⟨rfl, rfl⟩
                    refine WL.vg rfl rfl rfl rfl (X.not rfl) ?_
                    refine WL.va rfl rfl rfl (X.pickT rfl rfl rfl) ?_
                    refine WL.va rfl rfl rfl (X.assignB rfl) ?_
                    refine WL.nil ?_
                    refine thn_n ?_
                    refine WF.ret ?_
                    refine fin_r ?_
                    exact ⟨by first | exact or_3 h3 | exact or_k h3 hb | exact or_c h3 hb h1 | exact or_u h3 hb h1 u2 | exact or_v h3 hb h1 u1 | exact (od_3 o1).trans (or_o h3 hb h1 u2 u1) | exact (od_4 o1 b2).trans (or_o h3 hb h1 u2 u1) | exact (od_5 o1 b2 b8).trans (or_o h3 hb h1 u2 u1) | exact (od_6 o1 b2 b8).trans (or_o h3 hb h1 u2 u1), (Ext.trans (Ext.trans (Ext.trans (Ext.store hx4 hx8 (by omega)) hx35) hwCr11) hx65)⟩
                  · have gh67 := h67
                    have b2 : ans (l[i]'hi) 2 0 = false := gh67
                    refine WL.vg rfl (congrArg some h67) rfl rfl (X.loadOA hO5 (Ext.trans (Ext.trans hx35 hwCr11) hx65) ((hACr11.eq 5).trans ((congrFun hF47 5).trans ((hACr4.eq 5).trans (congrFun hF14 5)))) rfl Try.isAgg42 Try.sizeOf42) ?_
                    refine WL.cg rfl (congrArg some h67) rfl rfl (X.call Try.call85 (evl_cons (v := (agg (Ev.c (l[i]'hi) d d2))) rfl (evl_cons (v := (i64 8)) rfl evl_nil))) (rok_ok (l[i]'hi) d d2 8 _) ?_
                    rintro v75 w74 ⟨rfl, hx76⟩
                    have := World.grownBy.size hx76
                    refine WL.va rfl rfl rfl (X.pickF rfl h67 rfl) ?_
                    refine WL.va rfl rfl rfl (X.moveB rfl) ?_
                    refine WL.split (j := 6) rfl (fun h78 => ?_) (fun h78 => ?_)
                    · have gh78 := h78
                      have b8 : ans (l[i]'hi) 8 0 = true := gh78
                      refine WL.vg rfl (congrArg some h78) rfl rfl (X.fieldAddrO (off := 3) ((hACr11.eq 5).trans ((congrFun hF47 5).trans ((hACr4.eq 5).trans (congrFun hF14 5)))) Try.underlying42 rfl rfl Try.sizeOf38) ?_
                      refine WL.vg rfl (congrArg some h78) rfl rfl (X.fieldAddrP (off := 1) rfl Try.underlying38 rfl rfl Try.sizeOf3) ?_
                      refine WL.vg rfl (congrArg some h78) rfl rfl (X.loadO hO5 (Ext.trans (Ext.trans (Ext.trans hx35 hwCr11) hx65) hx76) rfl rfl Try.isAgg3) ?_
                      refine WL.vg rfl (congrArg some h78) rfl rfl (X.fieldAddrO (off := 16) ((hACr11.eq 5).trans ((congrFun hF47 5).trans ((hACr4.eq 5).trans (congrFun hF14 5)))) Try.underlying42 rfl rfl Try.sizeOf40) ?_
                      refine WL.vg rfl (congrArg some h78) rfl rfl (X.fieldAddrP (off := 2) rfl Try.underlying40 rfl rfl Try.sizeOf36) ?_
                      refine WL.vg rfl (congrArg some h78) rfl rfl (X.loadO hO5 (Ext.trans (Ext.trans (Ext.trans hx35 hwCr11) hx65) hx76) rfl rfl Try.isAgg36) ?_
                      refine WL.cg rfl (congrArg some h78) rfl rfl (X.call Try.call89 (evl_cons (v := (i64 (l[i]'hi).Call.Block)) rfl (evl_cons rfl evl_nil))) (rblock_ok (l[i]'hi).Call.Block _ (l[i]'hi).Answer.Data _ (Row.ext hd2 (Ext.trans (Ext.trans (Ext.trans (Ext.trans (Ext.store hx4 hx8 (by omega)) hx35) hwCr11) hx65) hx76))) ?_
                      rintro v80 w79 ⟨rfl, rfl⟩
                      refine WL.vg rfl (congrArg some h78) rfl rfl (X.not rfl) ?_
                      refine WL.va rfl rfl rfl (X.pickT rfl h78 rfl) ?_
                      refine WL.va rfl rfl rfl (X.assignB rfl) ?_
                      refine WL.nil ?_
                      refine thn_n ?_
                      refine WF.ret ?_
                      refine fin_r ?_
                      exact ⟨by first | exact or_3 h3 | exact or_k h3 hb | exact or_c h3 hb h1 | exact or_u h3 hb h1 u2 | exact or_v h3 hb h1 u1 | exact (od_3 o1).trans (or_o h3 hb h1 u2 u1) | exact (od_4 o1 b2).trans (or_o h3 hb h1 u2 u1) | exact (od_5 o1 b2 b8).trans (or_o h3 hb h1 u2 u1) | exact (od_6 o1 b2 b8).trans (or_o h3 hb h1 u2 u1), (Ext.trans (Ext.trans (Ext.trans (Ext.trans (Ext.store hx4 hx8 (by omega)) hx35) hwCr11) hx65) hx76)⟩
                    · have gh78 := h78
                      have b8 : ans (l[i]'hi) 8 0 = false := gh78
                      refine WL.p rfl rfl rfl (congrArg some h78) ?_
                      refine WL.p rfl rfl rfl (congrArg some h78) ?_
                      refine WL.p rfl rfl rfl (congrArg some h78) ?_
                      refine WL.p rfl rfl rfl (congrArg some h78) ?_
                      refine WL.p rfl rfl rfl (congrArg some h78) ?_
                      refine WL.p rfl rfl rfl (congrArg some h78) ?_
                      refine WL.p rfl rfl rfl (congrArg some h78) ?_
                      refine WL.p rfl rfl rfl (congrArg some h78) ?_
                      refine WL.va rfl rfl rfl (X.pickF rfl h78 rfl) ?_
                      refine WL.va rfl rfl rfl (X.assignB rfl) ?_
                      refine WL.nil ?_
                      refine thn_n ?_
                      refine WF.ret ?_
                      refine fin_r ?_
                      exact ⟨by first | exact or_3 h3 | exact or_k h3 hb | exact or_c h3 hb h1 | exact or_u h3 hb h1 u2 | exact or_v h3 hb h1 u1 | exact (od_3 o1).trans (or_o h3 hb h1 u2 u1) | exact (od_4 o1 b2).trans (or_o h3 hb h1 u2 u1) | exact (od_5 o1 b2 b8).trans (or_o h3 hb h1 u2 u1) | exact (od_6 o1 b2 b8).trans (or_o h3 hb h1 u2 u1), (Ext.trans (Ext.trans (Ext.trans (Ext.trans (Ext.store hx4 hx8 (by omega)) hx35) hwCr11) hx65) hx76)⟩

set_option maxHeartbeats 2000000 in
theorem rnot_ok (e : Ev) (d d2 : Value) (w : World) : FnOk Try.prog 78 [agg (e.c d d2)] w (fun r w' => r = .bool (deniesB e) ∧ Ext w w') := by
  refine FnOk.enter (rs := [2]) Try.func78 rfl Try.ntmps78 Try.results78 rfl rfl ?_
  refine WF.seq ?_
  refine WF.region ?_
  refine WL.op rfl (OW.boxA (cs := (e.c d d2)) rfl ?_ (by decide))
  intro g1 w1 heg1 hlg1 hO1 hx3
  have := World.grownBy.size hx3
  refine WL.va rfl rfl rfl (X.assignB rfl) ?_
  refine WL.nil ?_
  refine thn_n ?_
  refine WF.seq ?_
  refine WF.seq ?_
  refine WF.region ?_
  refine WL.va rfl rfl rfl (X.loadOA hO1 (Ext.refl _) rfl rfl Try.isAgg42 Try.sizeOf42) ?_
  refine WL.c rfl rfl rfl (X.call Try.call85 (evl_cons (v := (agg (Ev.c e d d2))) rfl (evl_cons (v := (i64 5)) rfl evl_nil))) (rok_ok e d d2 5 _) ?_
  rintro v7 w6 ⟨rfl, hx8⟩
  have := World.grownBy.size hx8
  refine WL.nil ?_
  refine thn_n ?_
  refine WF.cond rfl (fun h0_9 => ?_) (fun h0_9 => ?_)
  · have gh0_9 := h0_9
    have a5 : ans e 5 0 = true := gh0_9
    refine WF.seq ?_
    refine WF.region ?_
    refine WL.va rfl rfl rfl (X.assignB rfl) ?_
    refine WL.nil ?_
    refine thn_n ?_
    refine WF.ret ?_
    refine thn_r ?_
    refine fin_r ?_
    exact ⟨by first | exact dn_5 a5 | exact dn_k a5 k1 | exact dn_c a5 k2 | exact dn_4 k1 k2 k4 | exact dn_7 k1 k2 k7 | exact dn_9 k1 k2 k9 | exact dn_2 a5 k1 k2 k4 k7 k9, (Ext.trans hx3 hx8)⟩
  · have gh0_9 := h0_9
    have a5 : ans e 5 0 = false := gh0_9
    refine WF.skip ?_
    refine thn_n ?_
    refine WF.seq ?_
    refine WF.region ?_
    refine WL.va rfl rfl rfl (X.fieldAddrO (off := 3) rfl Try.underlying42 rfl rfl Try.sizeOf38) ?_
    refine WL.va rfl rfl rfl (X.fieldAddrP (off := 0) rfl Try.underlying38 rfl rfl Try.sizeOf3) ?_
    refine WL.va rfl rfl rfl (X.loadO hO1 hx8 rfl rfl Try.isAgg3) ?_
    refine WL.va rfl rfl rfl (X.assignI rfl) ?_
    refine WL.nil ?_
    refine thn_n ?_
    refine WF.seq ?_
    refine WF.region ?_
    refine WL.va rfl rfl rfl (X.fieldAddrO (off := 0) rfl Try.underlying42 rfl rfl Try.sizeOf3) ?_
    refine WL.va rfl rfl rfl (X.loadO hO1 hx8 rfl rfl Try.isAgg3) ?_
    refine WL.va rfl rfl rfl (X.eql rfl rfl) ?_
    refine WL.va rfl rfl rfl (X.moveB rfl) ?_
    refine WL.split (j := 3) rfl (fun h13 => ?_) (fun h13 => ?_)
    · have gh13 := (of_decide_eq_true h13)
      have k1 : e.Kind = 2 := gh13
      refine WL.vg rfl (congrArg some h13) rfl rfl (X.fieldAddrO (off := 16) rfl Try.underlying42 rfl rfl Try.sizeOf40) ?_
      refine WL.vg rfl (congrArg some h13) rfl rfl (X.fieldAddrP (off := 0) rfl Try.underlying40 rfl rfl Try.sizeOf29) ?_
      refine WL.vg rfl (congrArg some h13) rfl rfl (X.loadO hO1 hx8 rfl rfl Try.isAgg29) ?_
      refine WL.vg rfl (congrArg some h13) rfl rfl (X.eql rfl rfl) ?_
      refine WL.va rfl rfl rfl (X.pickT rfl h13 rfl) ?_
      refine WL.va rfl rfl rfl (X.moveB rfl) ?_
      refine WL.split (j := 9) rfl (fun h15 => ?_) (fun h15 => ?_)
      · have gh15 := (of_decide_eq_true h15)
        have k2 : e.Answer.Code = 24 := gh15
        refine WL.vg rfl (congrArg some h15) rfl rfl (X.moveI rfl) ?_
        refine WL.vg rfl (congrArg some h15) rfl rfl (X.eql rfl rfl) ?_
        refine WL.vg rfl (congrArg some h15) rfl rfl (X.moveB rfl) ?_
        refine WL.split (j := 12) rfl (fun h17 => ?_) (fun h17 => ?_)
        · have gh17 := (of_decide_eq_true h17)
          have k4 : e.Call.Kind = 4 := gh17
          refine WL.p rfl rfl rfl (congrArg some h17) ?_
          refine WL.p rfl rfl rfl (congrArg some h17) ?_
          refine WL.vg rfl (congrArg some h15) rfl rfl (X.pickT rfl h17 rfl) ?_
          refine WL.vg rfl (congrArg some h15) rfl rfl (X.moveB rfl) ?_
          refine WL.p rfl rfl rfl rfl ?_
          refine WL.p rfl rfl rfl rfl ?_
          refine WL.vg rfl (congrArg some h15) rfl rfl (X.pickT rfl rfl rfl) ?_
          refine WL.vg rfl (congrArg some h15) rfl rfl (X.moveB rfl) ?_
          refine WL.p rfl rfl rfl rfl ?_
          refine WL.p rfl rfl rfl rfl ?_
          refine WL.vg rfl (congrArg some h15) rfl rfl (X.pickT rfl rfl rfl) ?_
          refine WL.va rfl rfl rfl (X.pickT rfl h15 rfl) ?_
          refine WL.va rfl rfl rfl (X.assignB rfl) ?_
          refine WL.nil ?_
          refine thn_n ?_
          refine WF.ret ?_
          refine fin_r ?_
          exact ⟨by first | exact dn_5 a5 | exact dn_k a5 k1 | exact dn_c a5 k2 | exact dn_4 k1 k2 k4 | exact dn_7 k1 k2 k7 | exact dn_9 k1 k2 k9 | exact dn_2 a5 k1 k2 k4 k7 k9, (Ext.trans hx3 hx8)⟩
        · have gh17 := (of_decide_eq_false h17)
          have k4 : ¬ e.Call.Kind = 4 := gh17
          refine WL.vg rfl (congrArg some h17) rfl rfl (X.moveI rfl) ?_
          refine WL.vg rfl (congrArg some h17) rfl rfl (X.eql rfl rfl) ?_
          refine WL.vg rfl (congrArg some h15) rfl rfl (X.pickF rfl h17 rfl) ?_
          refine WL.vg rfl (congrArg some h15) rfl rfl (X.moveB rfl) ?_
          refine WL.split (j := 16) rfl (fun h22 => ?_) (fun h22 => ?_)
          · have gh22 := (of_decide_eq_true h22)
            have k7 : e.Call.Kind = 7 := gh22
            refine WL.p rfl rfl rfl (congrArg some h22) ?_
            refine WL.p rfl rfl rfl (congrArg some h22) ?_
            refine WL.vg rfl (congrArg some h15) rfl rfl (X.pickT rfl h22 rfl) ?_
            refine WL.vg rfl (congrArg some h15) rfl rfl (X.moveB rfl) ?_
            refine WL.p rfl rfl rfl rfl ?_
            refine WL.p rfl rfl rfl rfl ?_
            refine WL.vg rfl (congrArg some h15) rfl rfl (X.pickT rfl rfl rfl) ?_
            refine WL.va rfl rfl rfl (X.pickT rfl h15 rfl) ?_
            refine WL.va rfl rfl rfl (X.assignB rfl) ?_
            refine WL.nil ?_
            refine thn_n ?_
            refine WF.ret ?_
            refine fin_r ?_
            exact ⟨by first | exact dn_5 a5 | exact dn_k a5 k1 | exact dn_c a5 k2 | exact dn_4 k1 k2 k4 | exact dn_7 k1 k2 k7 | exact dn_9 k1 k2 k9 | exact dn_2 a5 k1 k2 k4 k7 k9, (Ext.trans hx3 hx8)⟩
          · have gh22 := (of_decide_eq_false h22)
            have k7 : ¬ e.Call.Kind = 7 := gh22
            refine WL.vg rfl (congrArg some h22) rfl rfl (X.moveI rfl) ?_
            refine WL.vg rfl (congrArg some h22) rfl rfl (X.eql rfl rfl) ?_
            refine WL.vg rfl (congrArg some h15) rfl rfl (X.pickF rfl h22 rfl) ?_
            refine WL.vg rfl (congrArg some h15) rfl rfl (X.moveB rfl) ?_
            refine WL.split (j := 20) rfl (fun h26 => ?_) (fun h26 => ?_)
            · have gh26 := (of_decide_eq_true h26)
              have k9 : e.Call.Kind = 9 := gh26
              refine WL.p rfl rfl rfl (congrArg some h26) ?_
              refine WL.p rfl rfl rfl (congrArg some h26) ?_
              refine WL.vg rfl (congrArg some h15) rfl rfl (X.pickT rfl h26 rfl) ?_
              refine WL.va rfl rfl rfl (X.pickT rfl h15 rfl) ?_
              refine WL.va rfl rfl rfl (X.assignB rfl) ?_
              refine WL.nil ?_
              refine thn_n ?_
              refine WF.ret ?_
              refine fin_r ?_
              exact ⟨by first | exact dn_5 a5 | exact dn_k a5 k1 | exact dn_c a5 k2 | exact dn_4 k1 k2 k4 | exact dn_7 k1 k2 k7 | exact dn_9 k1 k2 k9 | exact dn_2 a5 k1 k2 k4 k7 k9, (Ext.trans hx3 hx8)⟩
            · have gh26 := (of_decide_eq_false h26)
              have k9 : ¬ e.Call.Kind = 9 := gh26
              refine WL.vg rfl (congrArg some h26) rfl rfl (X.moveI rfl) ?_
              refine WL.vg rfl (congrArg some h26) rfl rfl (X.eql rfl rfl) ?_
              refine WL.vg rfl (congrArg some h15) rfl rfl (X.pickF rfl h26 rfl) ?_
              refine WL.va rfl rfl rfl (X.pickT rfl h15 rfl) ?_
              refine WL.va rfl rfl rfl (X.assignB rfl) ?_
              refine WL.nil ?_
              refine thn_n ?_
              refine WF.ret ?_
              refine fin_r ?_
              exact ⟨by first | exact dn_5 a5 | exact dn_k a5 k1 | exact dn_c a5 k2 | exact dn_4 k1 k2 k4 | exact dn_7 k1 k2 k7 | exact dn_9 k1 k2 k9 | exact dn_2 a5 k1 k2 k4 k7 k9, (Ext.trans hx3 hx8)⟩
      · have gh15 := (of_decide_eq_false h15)
        have k2 : ¬ e.Answer.Code = 24 := gh15
        refine WL.p rfl rfl rfl (congrArg some h15) ?_
        refine WL.p rfl rfl rfl (congrArg some h15) ?_
        refine WL.p rfl rfl rfl (congrArg some h15) ?_
        refine WL.pn rfl rfl rfl rfl ?_
        refine WL.pn rfl rfl rfl rfl ?_
        refine WL.p rfl rfl rfl (congrArg some h15) ?_
        refine WL.p rfl rfl rfl (congrArg some h15) ?_
        refine WL.pn rfl rfl rfl rfl ?_
        refine WL.pn rfl rfl rfl rfl ?_
        refine WL.p rfl rfl rfl (congrArg some h15) ?_
        refine WL.p rfl rfl rfl (congrArg some h15) ?_
        refine WL.pn rfl rfl rfl rfl ?_
        refine WL.pn rfl rfl rfl rfl ?_
        refine WL.p rfl rfl rfl (congrArg some h15) ?_
        refine WL.va rfl rfl rfl (X.pickF rfl h15 rfl) ?_
        refine WL.va rfl rfl rfl (X.assignB rfl) ?_
        refine WL.nil ?_
        refine thn_n ?_
        refine WF.ret ?_
        refine fin_r ?_
        exact ⟨by first | exact dn_5 a5 | exact dn_k a5 k1 | exact dn_c a5 k2 | exact dn_4 k1 k2 k4 | exact dn_7 k1 k2 k7 | exact dn_9 k1 k2 k9 | exact dn_2 a5 k1 k2 k4 k7 k9, (Ext.trans hx3 hx8)⟩
    · have gh13 := (of_decide_eq_false h13)
      have k1 : ¬ e.Kind = 2 := gh13
      refine WL.p rfl rfl rfl (congrArg some h13) ?_
      refine WL.p rfl rfl rfl (congrArg some h13) ?_
      refine WL.p rfl rfl rfl (congrArg some h13) ?_
      refine WL.p rfl rfl rfl (congrArg some h13) ?_
      refine WL.va rfl rfl rfl (X.pickF rfl h13 rfl) ?_
      refine WL.va rfl rfl rfl (X.moveB rfl) ?_
      refine WL.p rfl rfl rfl rfl ?_
      refine WL.p rfl rfl rfl rfl ?_
      refine WL.p rfl rfl rfl rfl ?_
      refine WL.pn rfl rfl rfl rfl ?_
      refine WL.pn rfl rfl rfl rfl ?_
      refine WL.p rfl rfl rfl rfl ?_
      refine WL.p rfl rfl rfl rfl ?_
      refine WL.pn rfl rfl rfl rfl ?_
      refine WL.pn rfl rfl rfl rfl ?_
      refine WL.p rfl rfl rfl rfl ?_
      refine WL.p rfl rfl rfl rfl ?_
      refine WL.pn rfl rfl rfl rfl ?_
      refine WL.pn rfl rfl rfl rfl ?_
      refine WL.p rfl rfl rfl rfl ?_
      refine WL.va rfl rfl rfl (X.pickF rfl rfl rfl) ?_
      refine WL.va rfl rfl rfl (X.assignB rfl) ?_
      refine WL.nil ?_
      refine thn_n ?_
      refine WF.ret ?_
      refine fin_r ?_
      exact ⟨by first | exact dn_5 a5 | exact dn_k a5 k1 | exact dn_c a5 k2 | exact dn_4 k1 k2 k4 | exact dn_7 k1 k2 k7 | exact dn_9 k1 k2 k9 | exact dn_2 a5 k1 k2 k4 k7 k9, (Ext.trans hx3 hx8)⟩

set_option maxHeartbeats 4000000 in
theorem says_ok (v : Value) (l : List Ev) (e : Ev) (d d2 : Value) (w : World) (hv : Evs w v l) : FnOk Try.prog 79 [v, agg (e.c d d2)] w (fun r w' => r = .bool (saysB l e) ∧ Ext w w') := by
  have hle := hv.le
  obtain ⟨cs, hr, hel⟩ := hv
  refine FnOk.enter (rs := [4]) Try.func79 rfl Try.ntmps79 Try.results79 rfl rfl ?_
  refine WF.seq ?_
  refine WF.region ?_
  refine WL.op rfl (OW.boxA (cs := (e.c d d2)) rfl ?_ (by decide))
  intro g3 wb heg3 hlg3 hO3 hx2
  have := World.grownBy.size hx2
  refine WL.va rfl rfl rfl (X.assignB rfl) ?_
  refine WL.nil ?_
  refine thn_n ?_
  refine WF.seq ?_
  refine WF.seq ?_
  refine WF.region ?_
  refine WL.va rfl rfl rfl (X.loadOA hO3 (Ext.refl _) rfl rfl Try.isAgg42 Try.sizeOf42) ?_
  refine WL.c rfl rfl rfl (X.call Try.call85 (evl_cons (v := (agg (Ev.c e d d2))) rfl (evl_cons (v := (i64 7)) rfl evl_nil))) (rok_ok e d d2 7 _) ?_
  rintro v6 w5 ⟨rfl, hx7⟩
  have := World.grownBy.size hx7
  refine WL.va rfl rfl rfl (X.moveB rfl) ?_
  refine WL.split (j := 2) rfl (fun h9 => ?_) (fun h9 => ?_)
  · have gh9 := h9
    have a7 : ans e 7 0 = true := gh9
    refine WL.p rfl rfl rfl (congrArg some h9) ?_
    refine WL.p rfl rfl rfl (congrArg some h9) ?_
    refine WL.va rfl rfl rfl (X.pickT rfl h9 rfl) ?_
    refine WL.nil ?_
    refine thn_n ?_
    refine WF.cond_t rfl ?_
    refine WF.seq ?_
    refine WF.region ?_
    refine WL.va rfl rfl rfl (X.assignB rfl) ?_
    refine WL.nil ?_
    refine thn_n ?_
    refine WF.ret ?_
    refine thn_r ?_
    refine fin_r ?_
    exact ⟨by first | exact say_7 a7 | exact say_9 a9, (Ext.trans hx2 hx7)⟩
  · have gh9 := h9
    have a7 : ans e 7 0 = false := gh9
    refine WL.vg rfl (congrArg some h9) rfl rfl (X.loadOA hO3 hx7 rfl rfl Try.isAgg42 Try.sizeOf42) ?_
    refine WL.cg rfl (congrArg some h9) rfl rfl (X.call Try.call85 (evl_cons (v := (agg (Ev.c e d d2))) rfl (evl_cons (v := (i64 9)) rfl evl_nil))) (rok_ok e d d2 9 _) ?_
    rintro v13 w12 ⟨rfl, hx14⟩
    have := World.grownBy.size hx14
    refine WL.va rfl rfl rfl (X.pickF rfl h9 rfl) ?_
    refine WL.nil ?_
    refine thn_n ?_
    refine WF.cond rfl (fun h0_15 => ?_) (fun h0_15 => ?_)
    · have gh0_15 := h0_15
      have a9 : ans e 9 0 = true := gh0_15
      refine WF.seq ?_
      refine WF.region ?_
      refine WL.va rfl rfl rfl (X.assignB rfl) ?_
      refine WL.nil ?_
      refine thn_n ?_
      refine WF.ret ?_
      refine thn_r ?_
      refine fin_r ?_
      exact ⟨by first | exact say_7 a7 | exact say_9 a9, (Ext.trans (Ext.trans hx2 hx7) hx14)⟩
    · have gh0_15 := h0_15
      have a9 : ans e 9 0 = false := gh0_15
      refine WF.skip ?_
      refine thn_n ?_
      refine WF.seq ?_
      refine WF.seq ?_
      refine WF.region ?_
      refine WL.va rfl rfl rfl (X.loadOA hO3 (Ext.trans hx7 hx14) rfl rfl Try.isAgg42 Try.sizeOf42) ?_
      refine WL.c rfl rfl rfl (X.call Try.call85 (evl_cons (v := (agg (Ev.c e d d2))) rfl (evl_cons (v := (i64 4)) rfl evl_nil))) (rok_ok e d d2 4 _) ?_
      rintro v19 w18 ⟨rfl, hx20⟩
      have := World.grownBy.size hx20
      refine WL.va rfl rfl rfl (X.not rfl) ?_
      refine WL.nil ?_
      refine thn_n ?_
      refine WF.cond rfl (fun h1_22 => ?_) (fun h1_22 => ?_)
      · have gh1_22 := (nt h1_22)
        have a4 : ans e 4 0 = false := gh1_22
        refine WF.seq ?_
        refine WF.region ?_
        refine WL.va rfl rfl rfl (X.assignB rfl) ?_
        refine WL.nil ?_
        refine thn_n ?_
        refine WF.ret ?_
        refine thn_r ?_
        refine fin_r ?_
        exact ⟨say_n a7 a9 a4, (Ext.trans (Ext.trans (Ext.trans hx2 hx7) hx14) hx20)⟩
      · have gh1_22 := (nf h1_22)
        have a4 : ans e 4 0 = true := gh1_22
        refine WF.skip ?_
        refine thn_n ?_
        refine WF.seq ?_
        refine WF.seq ?_
        refine WF.region ?_
        refine WL.va rfl rfl rfl (X.assignI rfl) ?_
        refine WL.nil ?_
        refine thn_n ?_
        refine WF.block ?_
        refine WF.named (fun F25 hF26 => ?_)
        refine WF.loopN (fun mL0 f' w' => ∃ (k : Nat), mL0 = l.length - k ∧ f' 5 = .int .i64 (k : Int) ∧ Agree [0, 1, 3, 6, 7, 8, 9, 10, 11, 12, 13, 14] f' F25 ∧ Ext wb w' ∧ k ≤ l.length ∧ NoI l (tcF e.Txn) k) ?_ ?_
        · exact ⟨_, 0, rfl, (congrFun hF26 5), (Agree.refl _ _), (Ext.trans (Ext.trans hx7 hx14) hx20), ⟨Nat.zero_le _, NoI.z⟩⟩
        · rintro mL0 fL0 wL0 ⟨k, hmL0, e5_L0, hAL0, hwL0, ⟨hk0, hno⟩⟩
          have := World.grownBy.size hwL0
          refine WF.seq ?_
          refine WF.seq ?_
          refine WF.region ?_
          refine WL.va rfl rfl rfl (X.moveI e5_L0) ?_
          refine WL.va rfl rfl rfl (X.move ((hAL0.eq 0).trans (congrFun hF26 0))) ?_
          refine WL.va rfl rfl rfl (X.len hr rfl Try.underlying26) ?_
          refine WL.va rfl rfl rfl (X.lss rfl rfl) ?_
          refine WL.nil ?_
          refine thn_n ?_
          refine WF.cond rfl (fun h2_27 => ?_) (fun h2_27 => ?_)
          · have gh2_27 := (of_decide_eq_true h2_27)
            have hk : k < l.length := by have := gh2_27; omega
            obtain ⟨d1, d3, hcs, hd1, hd2⟩ := hel k hk
            refine WF.skip ?_
            refine thn_n ?_
            refine WF.seq ?_
            refine WF.block ?_
            refine WF.seq ?_
            refine WF.drawn (.q 0 (.q 1 (.q 2 (.q 3 (.q 4 (.q 5 (.q 6 (.q 7 (.q 8 (.q 9 (.q 10 (.q 11 (.q 12 (.l 13 (.q 14 (.q 15 (.q 16 (.q 17 (.q 18 (.l 19 (.q 20 (.q 21 .nil)))))))))))))))))))))) (fun w' => Ext wL0 w') 22 (by kernel_rfl) (by kernel_rfl) (Ext.drew _) ?_
            have := World.grownBy.size (Ext.drew wL0)
            refine WO.q rfl rfl rfl rfl (fun w' hE29 => (X.move ((hAL0.eq 0).trans (congrFun hF26 0)))) ?_
            refine WO.q rfl rfl rfl rfl (fun w' hE29 => (X.moveI e5_L0)) ?_
            refine WO.q rfl rfl rfl rfl (fun w' hE29 => (X.idx hr rfl rfl hk Try.underlying26 Try.sizeOf42)) ?_
            refine WO.q rfl rfl rfl rfl (fun w' hE29 => (X.fieldAddrA rfl Try.underlying42 rfl rfl Try.sizeOf3)) ?_
            refine WO.q rfl rfl rfl rfl (fun w' hE29 => (X.loadE hr (Ext.trans (Ext.trans hx2 hwL0) hE29) rfl hk ((el_get hcs 2 (by decide)).trans rfl) Try.isAgg3)) ?_
            refine WO.q rfl rfl rfl rfl (fun w' hE29 => (X.fieldAddrO (off := 2) ((hAL0.eq 3).trans (congrFun hF26 3)) Try.underlying42 rfl rfl Try.sizeOf3)) ?_
            refine WO.q rfl rfl rfl rfl (fun w' hE29 => (X.loadO hO3 (Ext.trans hwL0 hE29) rfl rfl Try.isAgg3)) ?_
            refine WO.q rfl rfl rfl rfl (fun w' hE29 => (X.eql rfl rfl)) ?_
            refine WO.q rfl rfl rfl rfl (fun w' hE29 => (X.moveB rfl)) ?_
            refine WO.split (j := 8) rfl (fun h31 => ?_) (fun h31 => ?_)
            · have gh31 := (of_decide_eq_true h31)
              have c1 : (l[k]'hk).Txn = e.Txn := gh31
              refine WO.qg rfl rfl (congrArg some h31) rfl rfl (fun w' hE29 => (X.move ((hAL0.eq 0).trans (congrFun hF26 0)))) ?_
              refine WO.qg rfl rfl (congrArg some h31) rfl rfl (fun w' hE29 => (X.moveI e5_L0)) ?_
              refine WO.qg rfl rfl (congrArg some h31) rfl rfl (fun w' hE29 => (X.idx hr rfl rfl hk Try.underlying26 Try.sizeOf42)) ?_
              refine WO.qg rfl rfl (congrArg some h31) rfl rfl (fun w' hE29 => (X.loadEl hr (Ext.trans (Ext.trans hx2 hwL0) hE29) rfl hk hcs Try.isAgg42 Try.sizeOf42)) ?_
              refine WO.l ?_
              refine LO.gog rfl rfl (congrArg some h31) (OW.enter rfl (by decide) (X.call Try.call85 (evl_cons (v := (agg (Ev.c (l[k]'hk) d1 d3))) rfl (evl_cons (v := (i64 3)) rfl evl_nil))) (rok_ok (l[k]'hk) d1 d3 3 _) ?_)
              rintro v33 w32 ⟨rfl, hx34⟩
              have := World.grownBy.size hx34
              refine ⟨(Ext.trans (Ext.drew _) hx34), ?_⟩
              refine WO.qg rfl rfl (congrArg some h31) rfl rfl (fun w' hE29 => (X.moveB rfl)) ?_
              refine WO.split (j := 14) rfl (fun h36 => ?_) (fun h36 => ?_)
              · have gh36 := h36
                have hy : tcF e.Txn k (l[k]'hk) = true := by simp [tcF, toB, c1, gh36]
                refine WO.qp rfl rfl rfl rfl (congrArg some h36) ?_
                refine WO.qp rfl rfl rfl rfl (congrArg some h36) ?_
                refine WO.qp rfl rfl rfl rfl (congrArg some h36) ?_
                refine WO.qp rfl rfl rfl rfl (congrArg some h36) ?_
                refine WO.l ?_
                refine LO.pass rfl (Ext.trans (Ext.drew _) hx34) rfl rfl rfl (congrArg some h36) ?_
                refine WO.qg rfl rfl (congrArg some h31) rfl rfl (fun w' hE29 => (X.pickT rfl h36 rfl)) ?_
                refine WO.q rfl rfl rfl rfl (fun w' hE29 => (X.pickT rfl h31 rfl)) ?_
                refine WO.nil ?_
                refine WL.nil ?_
                refine thn_n ?_
                refine WF.cond_t rfl ?_
                refine WF.seq ?_
                refine WF.region ?_
                refine WL.va rfl rfl rfl (X.assignB rfl) ?_
                refine WL.nil ?_
                refine thn_n ?_
                refine WF.ret ?_
                refine blk_r ?_
                refine thn_r ?_
                refine thn_r ?_
                refine blk_r ?_
                refine thn_r ?_
                refine fin_r ?_
                exact ⟨say_t a4 (by rw [← tc_any, anyI_true (f := tcF e.Txn) hk hy]), (Ext.trans (Ext.trans (Ext.trans hx2 hwL0) (Ext.drew _)) hx34)⟩
              · have gh36 := h36
                have c3 : ans (l[k]'hk) 3 0 = false := gh36
                refine WO.qg rfl rfl (congrArg some h36) rfl rfl (fun w' hE29 => (X.move ((hAL0.eq 0).trans (congrFun hF26 0)))) ?_
                refine WO.qg rfl rfl (congrArg some h36) rfl rfl (fun w' hE29 => (X.moveI e5_L0)) ?_
                refine WO.qg rfl rfl (congrArg some h36) rfl rfl (fun w' hE29 => (X.idx hr rfl rfl hk Try.underlying26 Try.sizeOf42)) ?_
                refine WO.qg rfl rfl (congrArg some h36) rfl rfl (fun w' hE29 => (X.loadEl hr (Ext.trans (Ext.trans hx2 hwL0) hE29) rfl hk hcs Try.isAgg42 Try.sizeOf42)) ?_
                refine WO.l ?_
                refine LO.gog rfl rfl (congrArg some h36) (OW.enter rfl (by decide) (X.call Try.call85 (evl_cons (v := (agg (Ev.c (l[k]'hk) d1 d3))) rfl (evl_cons (v := (i64 2)) rfl evl_nil))) (rok_ok (l[k]'hk) d1 d3 2 _) ?_)
                rintro v40 w39 ⟨rfl, hx41⟩
                have := World.grownBy.size hx41
                refine ⟨(Ext.trans (Ext.trans (Ext.drew _) hx34) hx41), ?_⟩
                refine WO.qg rfl rfl (congrArg some h31) rfl rfl (fun w' hE29 => (X.pickF rfl h36 rfl)) ?_
                refine WO.q rfl rfl rfl rfl (fun w' hE29 => (X.pickT rfl h31 rfl)) ?_
                refine WO.nil ?_
                refine WL.nil ?_
                refine thn_n ?_
                refine WF.cond rfl (fun h3_42 => ?_) (fun h3_42 => ?_)
                · have gh3_42 := h3_42
                  have hy : tcF e.Txn k (l[k]'hk) = true := by simp [tcF, toB, c1, gh3_42]
                  refine WF.seq ?_
                  refine WF.region ?_
                  refine WL.va rfl rfl rfl (X.assignB rfl) ?_
                  refine WL.nil ?_
                  refine thn_n ?_
                  refine WF.ret ?_
                  refine blk_r ?_
                  refine thn_r ?_
                  refine thn_r ?_
                  refine blk_r ?_
                  refine thn_r ?_
                  refine fin_r ?_
                  exact ⟨say_t a4 (by rw [← tc_any, anyI_true (f := tcF e.Txn) hk hy]), (Ext.trans (Ext.trans (Ext.trans (Ext.trans hx2 hwL0) (Ext.drew _)) hx34) hx41)⟩
                · have gh3_42 := h3_42
                  have hfk : tcF e.Txn k (l[k]'hk) = false := by simp [tcF, toB, c3, gh3_42]
                  refine WF.skip ?_
                  refine blk_n ?_
                  refine thn_n ?_
                  refine WF.region ?_
                  refine WL.va rfl rfl rfl (X.moveI e5_L0) ?_
                  refine WL.va rfl rfl rfl (X.add rfl rfl (w64 (by omega))) ?_
                  refine WL.va rfl rfl rfl (X.assignI rfl) ?_
                  refine WL.nil ?_
                  exact thn_n ⟨_, (by omega), k + 1, rfl, rfl, (by repeat (first | exact hAL0 | refine Agree.put ?_ rfl | refine Agree.named hF26 ?_)), (Ext.trans (Ext.trans (Ext.trans hwL0 (Ext.drew _)) hx34) hx41), ⟨by omega, hno.s hk hfk⟩⟩
            · have gh31 := (of_decide_eq_false h31)
              have hfk : tcF e.Txn k (l[k]'hk) = false := by simp [tcF, toB, gh31]
              refine WO.qp rfl rfl rfl rfl (congrArg some h31) ?_
              refine WO.qp rfl rfl rfl rfl (congrArg some h31) ?_
              refine WO.qp rfl rfl rfl rfl (congrArg some h31) ?_
              refine WO.qp rfl rfl rfl rfl (congrArg some h31) ?_
              refine WO.l ?_
              refine LO.pass rfl (Ext.drew _) rfl rfl rfl (congrArg some h31) ?_
              refine WO.qp rfl rfl rfl rfl (congrArg some h31) ?_
              refine WO.qpn rfl rfl rfl rfl rfl ?_
              refine WO.qpn rfl rfl rfl rfl rfl ?_
              refine WO.qpn rfl rfl rfl rfl rfl ?_
              refine WO.qpn rfl rfl rfl rfl rfl ?_
              refine WO.l ?_
              refine LO.passn rfl (Ext.drew _) rfl rfl rfl rfl ?_
              refine WO.qp rfl rfl rfl rfl (congrArg some h31) ?_
              refine WO.q rfl rfl rfl rfl (fun w' hE29 => (X.pickF rfl h31 rfl)) ?_
              refine WO.nil ?_
              refine WL.nil ?_
              refine thn_n ?_
              refine WF.cond_f rfl ?_
              refine WF.skip ?_
              refine blk_n ?_
              refine thn_n ?_
              refine WF.region ?_
              refine WL.va rfl rfl rfl (X.moveI e5_L0) ?_
              refine WL.va rfl rfl rfl (X.add rfl rfl (w64 (by omega))) ?_
              refine WL.va rfl rfl rfl (X.assignI rfl) ?_
              refine WL.nil ?_
              exact thn_n ⟨_, (by omega), k + 1, rfl, rfl, (by repeat (first | exact hAL0 | refine Agree.put ?_ rfl | refine Agree.named hF26 ?_)), (Ext.trans hwL0 (Ext.drew _)), ⟨by omega, hno.s hk hfk⟩⟩
          · have gh2_27 := (of_decide_eq_false h2_27)
            have hk : l.length ≤ k := by have := gh2_27; omega
            refine WF.exit ?_
            refine thn_x ?_
            refine thn_x ?_
            refine blk_eq ?_
            refine thn_n ?_
            refine WF.seq ?_
            refine WF.region ?_
            refine WL.va rfl rfl rfl (X.assignB rfl) ?_
            refine WL.nil ?_
            refine thn_n ?_
            refine WF.ret ?_
            refine fin_r ?_
            exact ⟨say_f a7 a9 (by rw [← tc_any, anyI_false hno hk]), (Ext.trans hx2 hwL0)⟩

end Go.Proofs.Ytobjmehppmhkdaa
