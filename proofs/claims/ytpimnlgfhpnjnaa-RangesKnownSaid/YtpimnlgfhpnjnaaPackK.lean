/- The walks of pack: each function comes to what Pk says. -/
import Derived.Test.YtpimnlgfhpnjnaaChecked
import Derived.Test.YtpimnlgfhpnjnaaPk
namespace Go.Proofs.Ytpimnlgfhpnjnaa
open Go Go.RowKit Kf
set_option maxRecDepth 20000

theorem kept_ne0 {la l : List UInt8} (h : (la.length : Int) ≠ (l.length : Int) + 5) : la ≠ l ++ List.replicate 5 0xA5 := fun e => by
  apply h; rw [e]; simp
theorem kept_ne1 {la l : List UInt8} (h : decide ((la.drop 0).take (l.length - 0) = l) = false) : la ≠ l ++ List.replicate 5 0xA5 := fun e => by
  rw [e] at h; simp at h
theorem kept_ne2 {la l : List UInt8} {k : Nat} (h1 : l.length ≤ k) (h2 : k < l.length + 5) (h : ¬ la.getD k 0 = 0xA5) : la ≠ l ++ List.replicate 5 0xA5 := fun e => by
  apply h
  rw [e, List.getD_eq_getElem?_getD, List.getElem?_append_right h1, List.getElem?_replicate, if_pos (by omega)]
  rfl
theorem kept_eq {la l : List UInt8} (h : la.length = l.length + 5) (hp : decide ((la.drop 0).take (l.length - 0) = l) = true) (hm : ∀ i, l.length ≤ i → i < la.length → la.getD i 0 = 0xA5) : la = l ++ List.replicate 5 0xA5 := by
  have hp := of_decide_eq_true hp
  simp only [List.drop_zero, Nat.sub_zero] at hp
  conv => lhs; rw [← List.take_append_drop l.length la, hp]
  congr 1
  apply List.ext_getElem?
  intro i
  rw [List.getElem?_drop, List.getElem?_replicate]
  by_cases hi : i < 5
  · rw [if_pos hi]
    have := hm (l.length + i) (by omega) (by omega)
    rw [List.getD_eq_getElem?_getD, List.getElem?_eq_getElem (by omega)] at this
    rw [List.getElem?_eq_getElem (by omega)]
    simpa using this
  · rw [if_neg hi, List.getElem?_eq_none (by omega)]
theorem lent_part {w : World} {B : Nat} {v : Value} {l : List UInt8} (ho : OwnB w B 5 v (l ++ List.replicate 5 0xA5)) : Bytes w (Kf.part v 0 l.length 1) l := by
  have := Bytes.part (Bytes.of_own ho) 0 l.length (Nat.zero_le _) (by simp)
  simpa using this
theorem spoil_trans {a b c : World} {r : Option Nat} (h : a.grownBy b r) (k : b.grownBy c r) : a.grownBy c r :=
  ⟨k.os.trans h.os, k.tape.trans h.tape, k.output.trans h.output, Nat.le_trans h.size k.size, fun i hi hn => (k.block i (Nat.lt_of_lt_of_le hi h.size) hn).trans (h.block i hi hn)⟩
theorem lent_step1 {l L : List UInt8} {k : Nat} {w : World} {B : Nat} {v : Value} (_hk : k ≤ l.length + 5) (hL : L.length = l.length + 5) (hLk : L.take k = (l ++ List.replicate 5 0xA5).take k) (h : k < l.length)
    (ho : OwnB w B 5 v ((L.set k 0xA5).set k (l.getD k 0))) : k + 1 ≤ l.length + 5 ∧ ((L.set k 0xA5).set k (l.getD k 0)).length = l.length + 5 ∧ ((L.set k 0xA5).set k (l.getD k 0)).take (k + 1) = (l ++ List.replicate 5 0xA5).take (k + 1) ∧ OwnB w B 5 v ((L.set k 0xA5).set k (l.getD k 0)) := by
  refine ⟨by omega, by simp [hL], ?_, ho⟩
  rw [List.set_set, take_set_succ _ _ _ (by omega), hLk, take_getD _ _ (by simp; omega)]
  rw [List.getD_eq_getElem?_getD, List.getD_eq_getElem?_getD, List.getElem?_append_left h]
theorem lent_step2 {l L : List UInt8} {k : Nat} {w : World} {B : Nat} {v : Value} (_hk : k ≤ l.length + 5) (hL : L.length = l.length + 5) (hLk : L.take k = (l ++ List.replicate 5 0xA5).take k) (h : l.length ≤ k) (h2 : k < l.length + 5)
    (ho : OwnB w B 5 v (L.set k 0xA5)) : k + 1 ≤ l.length + 5 ∧ (L.set k 0xA5).length = l.length + 5 ∧ (L.set k 0xA5).take (k + 1) = (l ++ List.replicate 5 0xA5).take (k + 1) ∧ OwnB w B 5 v (L.set k 0xA5) := by
  refine ⟨by omega, by simp [hL], ?_, ho⟩
  rw [take_set_succ _ _ _ (by omega), hLk, take_getD _ _ (by simp; omega)]
  have : (l ++ List.replicate 5 (0xA5 : UInt8)).getD k 0 = 0xA5 := by
    simp only [List.getD_eq_getElem?_getD]
    rw [List.getElem?_append_right h, List.getElem?_replicate, if_pos (by omega)]
    rfl
  rw [this]
theorem sameBytes_ok (va vb : Value) (la lb : List UInt8) (w : World) (ha : Bytes w va la) (hb : Bytes w vb lb) : FnOk Try.prog 27 [va, vb] w (fun r w' => r = .bool (decide (la = lb)) ∧ Ext w w') := by
  have hla := ha.le64
  have hlb := hb.le64
  refine FnOk.enter (rs := [4]) Try.func27 rfl Try.ntmps27 Try.results27 rfl rfl ?_
  refine WF.seq ?_
  refine WF.region ?_
  refine WL.va rfl rfl rfl (X.assignB rfl) ?_
  refine WL.nil ?_
  refine thn_n ?_
  refine WF.seq ?_
  refine WF.seq ?_
  refine WF.region ?_
  refine WL.va rfl rfl rfl (X.move rfl) ?_
  refine WL.va rfl rfl rfl (X.len ha rfl Try.underlying46) ?_
  refine WL.va rfl rfl rfl (X.move rfl) ?_
  refine WL.va rfl rfl rfl (X.len hb rfl Try.underlying46) ?_
  refine WL.va rfl rfl rfl (X.neq rfl rfl) ?_
  refine WL.nil ?_
  refine thn_n ?_
  refine WF.cond rfl (fun h0_2 => ?_) (fun h0_2 => ?_)
  · have gh0_2 := (of_decide_eq_true h0_2)
    have hlen := gh0_2
    have hne : la ≠ lb := fun e => by rw [e] at gh0_2; exact gh0_2 rfl
    refine WF.seq ?_
    refine WF.region ?_
    refine WL.va rfl rfl rfl (X.assignB rfl) ?_
    refine WL.nil ?_
    refine thn_n ?_
    refine WF.ret ?_
    refine thn_r ?_
    refine fin_r ?_
    exact ⟨congrArg Value.bool (decide_eq_false hne).symm, (Ext.refl _)⟩
  · have gh0_2 := (Decidable.of_not_not (of_decide_eq_false h0_2))
    have hlen := gh0_2
    refine WF.skip ?_
    refine thn_n ?_
    refine WF.seq ?_
    refine WF.seq ?_
    refine WF.region ?_
    refine WL.va rfl rfl rfl (X.assignI rfl) ?_
    refine WL.nil ?_
    refine thn_n ?_
    refine WF.block ?_
    refine WF.named (fun F5 hF6 => ?_)
    refine WF.loopN (fun mL0 f' w' => ∃ (k : Nat), mL0 = la.length - k ∧ f' 5 = .int .i64 (k : Int) ∧ Agree [0, 1, 6, 7, 8, 9, 10] f' F5 ∧ Ext w w' ∧ k ≤ la.length ∧ la.take k = lb.take k) ?_ ?_
    · exact ⟨_, 0, rfl, (congrFun hF6 5), (Agree.refl _ _), (Ext.refl _), ⟨Nat.zero_le _, rfl⟩⟩
    · rintro mL0 fL0 wL0 ⟨k, hmL0, e5_L0, hAL0, hwL0, ⟨hk, hkk⟩⟩
      refine WF.seq ?_
      refine WF.seq ?_
      refine WF.region ?_
      refine WL.va rfl rfl rfl (X.moveI e5_L0) ?_
      refine WL.va rfl rfl rfl (X.move ((hAL0.eq 0).trans (congrFun hF6 0))) ?_
      refine WL.va rfl rfl rfl (X.len ha rfl Try.underlying46) ?_
      refine WL.va rfl rfl rfl (X.lss rfl rfl) ?_
      refine WL.nil ?_
      refine thn_n ?_
      refine WF.cond rfl (fun h1_7 => ?_) (fun h1_7 => ?_)
      · have gh1_7 := (of_decide_eq_true h1_7)
        have hlt := gh1_7
        refine WF.skip ?_
        refine thn_n ?_
        refine WF.seq ?_
        refine WF.block ?_
        refine WF.seq ?_
        refine WF.drawn (.q 0 (.q 1 (.q 2 (.q 3 (.q 4 (.q 5 (.q 6 (.q 7 (.q 8 .nil))))))))) (fun w' => Ext wL0 w') 9 (by kernel_rfl) (by kernel_rfl) (Ext.drew _) ?_
        refine WO.q rfl rfl rfl rfl (fun w' hE9 => (X.move ((hAL0.eq 0).trans (congrFun hF6 0)))) ?_
        refine WO.q rfl rfl rfl rfl (fun w' hE9 => (X.moveI e5_L0)) ?_
        refine WO.q rfl rfl rfl rfl (fun w' hE9 => (X.idx ha rfl rfl (by omega) Try.underlying46 Try.sizeOf5)) ?_
        refine WO.q rfl rfl rfl rfl (fun w' hE9 => (X.loadB ha (Ext.trans hwL0 hE9) rfl (by omega) Try.isAgg5)) ?_
        refine WO.q rfl rfl rfl rfl (fun w' hE9 => (X.move ((hAL0.eq 1).trans (congrFun hF6 1)))) ?_
        refine WO.q rfl rfl rfl rfl (fun w' hE9 => (X.moveI e5_L0)) ?_
        refine WO.q rfl rfl rfl rfl (fun w' hE9 => (X.idx hb rfl rfl (by omega) Try.underlying46 Try.sizeOf5)) ?_
        refine WO.q rfl rfl rfl rfl (fun w' hE9 => (X.loadB hb (Ext.trans hwL0 hE9) rfl (by omega) Try.isAgg5)) ?_
        refine WO.q rfl rfl rfl rfl (fun w' hE9 => (X.neq rfl rfl)) ?_
        refine WO.nil ?_
        refine WL.nil ?_
        refine thn_n ?_
        refine WF.cond rfl (fun h2_10 => ?_) (fun h2_10 => ?_)
        · have gh2_10 := (of_decide_eq_true h2_10)
          have hne : la ≠ lb := fun e => gh2_10 (by subst e; rfl)
          refine WF.seq ?_
          refine WF.region ?_
          refine WL.va rfl rfl rfl (X.assignB rfl) ?_
          refine WL.nil ?_
          refine thn_n ?_
          refine WF.ret ?_
          refine blk_r ?_
          refine thn_r ?_
          refine thn_r ?_
          refine blk_r ?_
          refine thn_r ?_
          refine fin_r ?_
          exact ⟨congrArg Value.bool (decide_eq_false hne).symm, (Ext.trans hwL0 (Ext.drew _))⟩
        · have gh2_10 := (Decidable.of_not_not (of_decide_eq_false h2_10))
          have heq := gh2_10
          refine WF.skip ?_
          refine blk_n ?_
          refine thn_n ?_
          refine WF.region ?_
          refine WL.va rfl rfl rfl (X.moveI e5_L0) ?_
          refine WL.va rfl rfl rfl (X.add rfl rfl (w64 (by omega))) ?_
          refine WL.va rfl rfl rfl (X.assignI rfl) ?_
          refine WL.nil ?_
          exact thn_n ⟨_, (by omega), k + 1, rfl, rfl, (by repeat (first | exact hAL0 | refine Agree.put ?_ rfl | refine Agree.named hF6 ?_)), (Ext.trans hwL0 (Ext.drew _)), ⟨by omega, by rw [take_getD _ _ (by omega), take_getD _ _ (by omega), hkk, byte_eq heq]⟩⟩
      · have gh1_7 := (of_decide_eq_false h1_7)
        have hlt := gh1_7
        refine WF.exit ?_
        refine thn_x ?_
        refine thn_x ?_
        refine blk_eq ?_
        refine thn_n ?_
        refine WF.seq ?_
        refine WF.region ?_
        refine WL.va rfl rfl rfl (X.assignB rfl) ?_
        refine WL.nil ?_
        refine thn_n ?_
        refine WF.ret ?_
        refine fin_r ?_
        exact ⟨congrArg Value.bool (decide_eq_true (by rw [List.take_of_length_le (by omega), List.take_of_length_le (by omega)] at hkk; exact hkk)).symm, hwL0⟩

theorem copyBytes_ok (v : Value) (l : List UInt8) (w : World) (hb : Bytes w v l) (hm : l.length ≤ 140737488355328) : FnOk Try.prog 85 [v] w (fun r w' => OwnB w' w.heap.size 5 r l ∧ Ext w w') := by
  have hl := hb.le64
  refine FnOk.enter (rs := [2]) Try.func85 rfl Try.ntmps85 Try.results85 rfl rfl ?_
  refine WF.seq ?_
  refine WF.region ?_
  refine WL.va rfl rfl rfl (X.assign rfl) ?_
  refine WL.nil ?_
  refine thn_n ?_
  refine WF.seq ?_
  refine WF.region ?_
  refine WL.va rfl rfl rfl (X.assign rfl) ?_
  refine WL.nil ?_
  refine thn_n ?_
  refine WF.seq ?_
  refine WF.seq ?_
  refine WF.region ?_
  refine WL.va rfl rfl rfl (X.assignI rfl) ?_
  refine WL.nil ?_
  refine thn_n ?_
  refine WF.block ?_
  refine WF.named (fun F1 hF2 => ?_)
  refine WF.loopN (fun mL0 f' w' => ∃ (k : Nat) (vo : Value), mL0 = l.length - k ∧ f' 4 = .int .i64 (k : Int) ∧ f' 3 = vo ∧ Agree [0, 2] f' F1 ∧ Ext w w' ∧ k ≤ l.length ∧ OwnB w' w.heap.size 5 vo (l.take k)) ?_ ?_
  · exact ⟨_, 0, (.slice none 0 0), rfl, (congrFun hF2 4), (congrFun hF2 3), (Agree.refl _ _), (Ext.refl _), ⟨Nat.zero_le _, OwnB.nil _ _ _⟩⟩
  · rintro mL0 fL0 wL0 ⟨k, vo, hmL0, e4_L0, e3_L0, hAL0, hwL0, ⟨hk, ho⟩⟩
    refine WF.seq ?_
    refine WF.seq ?_
    refine WF.region ?_
    refine WL.va rfl rfl rfl (X.moveI e4_L0) ?_
    refine WL.va rfl rfl rfl (X.move ((hAL0.eq 0).trans (congrFun hF2 0))) ?_
    refine WL.va rfl rfl rfl (X.len hb rfl Try.underlying46) ?_
    refine WL.va rfl rfl rfl (X.lss rfl rfl) ?_
    refine WL.nil ?_
    refine thn_n ?_
    refine WF.cond rfl (fun h0_3 => ?_) (fun h0_3 => ?_)
    · have gh0_3 := (of_decide_eq_true h0_3)
      refine WF.skip ?_
      refine thn_n ?_
      refine WF.seq ?_
      refine WF.block ?_
      refine WF.region ?_
      refine WL.va rfl rfl rfl (X.move e3_L0) ?_
      refine WL.va rfl rfl rfl (X.move ((hAL0.eq 0).trans (congrFun hF2 0))) ?_
      refine WL.va rfl rfl rfl (X.moveI e4_L0) ?_
      refine WL.va rfl rfl rfl (X.idx hb rfl rfl (by omega) Try.underlying46 Try.sizeOf5) ?_
      refine WL.va rfl rfl rfl (X.loadB hb hwL0 rfl (by omega) Try.isAgg5) ?_
      refine WL.op rfl (OW.lits (vs := [u8 (l.getD k 0)]) (evp_cons rfl evp_nil) Try.underlying46 Try.sizeOf5 Try.zeroValue5 ⟨rfl, trivial⟩ rfl rfl rfl ?_ (by decide))
      intro v6 w5 ho8 hx7
      have ho1 := ho.ext hx7
      refine WL.op rfl (OW.appendB ho1 (show Bytes _ _ [(l.getD k 0)] from Row.of_own ho8) rfl rfl Try.underlying46 Try.type5 rfl rfl rfl rfl (by simp; omega) ((Ext.trans hwL0 hx7)).size ?_ (by decide))
      intro v10 w9 ho12 hx11 hmvhx11
      have ho2 := ho12
      refine WL.va rfl rfl rfl (X.assign rfl) ?_
      refine WL.nil ?_
      refine blk_n ?_
      refine thn_n ?_
      refine WF.region ?_
      refine WL.va rfl rfl rfl (X.moveI e4_L0) ?_
      refine WL.va rfl rfl rfl (X.add rfl rfl (w64 (by omega))) ?_
      refine WL.va rfl rfl rfl (X.assignI rfl) ?_
      refine WL.nil ?_
      exact thn_n ⟨_, (by omega), k + 1, _, rfl, rfl, rfl, (by repeat (first | exact hAL0 | refine Agree.put ?_ rfl | refine Agree.named hF2 ?_)), (Ext.own (Ext.trans hwL0 hx7) ho1 (Nat.le_refl _) hx11), ⟨by omega, by rw [take_getD _ _ (by omega)]; exact ho2⟩⟩
    · have gh0_3 := (of_decide_eq_false h0_3)
      refine WF.exit ?_
      refine thn_x ?_
      refine thn_x ?_
      refine blk_eq ?_
      refine thn_n ?_
      refine WF.seq ?_
      refine WF.region ?_
      refine WL.va rfl rfl rfl (X.move e3_L0) ?_
      refine WL.va rfl rfl rfl (X.assign rfl) ?_
      refine WL.nil ?_
      refine thn_n ?_
      refine WF.ret ?_
      refine fin_r ?_
      exact ⟨by rw [show l.take k = l from List.take_of_length_le (by omega)] at ho; exact ho, hwL0⟩

theorem lentBytes_ok (v : Value) (l : List UInt8) (w : World) (hb : Bytes w v l) (hm : l.length ≤ 281474976710651) : FnOk Try.prog 31 [v] w (fun r w' => OwnB w' w.heap.size 5 r (l ++ List.replicate 5 0xA5) ∧ Ext w w') := by
  have hl := hb.le64
  refine FnOk.enter (rs := [2]) Try.func31 rfl Try.ntmps31 Try.results31 rfl rfl ?_
  refine WF.seq ?_
  refine WF.region ?_
  refine WL.va rfl rfl rfl (X.assign rfl) ?_
  refine WL.nil ?_
  refine thn_n ?_
  refine WF.seq ?_
  refine WF.region ?_
  refine WL.va rfl rfl rfl (X.move rfl) ?_
  refine WL.va rfl rfl rfl (X.len hb rfl Try.underlying46) ?_
  refine WL.va rfl rfl rfl (X.add rfl rfl (w64 (by omega))) ?_
  refine WL.op rfl (OW.makeB (n := l.length + 5) rfl rfl Try.underlying46 Try.type5 rfl rfl rfl (by omega) ?_ (by decide))
  intro v2 w1 ho4 hx3
  have hmk := ho4
  obtain ⟨vm, hvm⟩ : ∃ vm, vm = v2 := ⟨_, rfl⟩
  subst hvm
  refine WL.va rfl rfl rfl (X.assign rfl) ?_
  refine WL.nil ?_
  refine thn_n ?_
  refine WF.seq ?_
  refine WF.seq ?_
  refine WF.region ?_
  refine WL.va rfl rfl rfl (X.assignI rfl) ?_
  refine WL.nil ?_
  refine thn_n ?_
  refine WF.block ?_
  refine WF.named (fun F5 hF6 => ?_)
  refine WF.loopN (fun mL0 f' w' => ∃ (k : Nat) (L : List UInt8), mL0 = l.length + 5 - k ∧ f' 4 = .int .i64 (k : Int) ∧ Agree [0, 2, 3, 5, 6, 7, 8] f' F5 ∧ Ext w w' ∧ k ≤ l.length + 5 ∧ L.length = l.length + 5 ∧ L.take k = (l ++ List.replicate 5 0xA5).take k ∧ OwnB w' w.heap.size 5 vm L) ?_ ?_
  · exact ⟨_, 0, List.replicate (l.length + 5) 0, rfl, (congrFun hF6 4), (Agree.refl _ _), hx3, ⟨Nat.zero_le _, by simp, by simp, hmk⟩⟩
  · rintro mL0 fL0 wL0 ⟨k, L, hmL0, e4_L0, hAL0, hwL0, ⟨hk, hL, hLk, ho⟩⟩
    refine WF.seq ?_
    refine WF.seq ?_
    refine WF.region ?_
    refine WL.va rfl rfl rfl (X.moveI e4_L0) ?_
    refine WL.va rfl rfl rfl (X.move ((hAL0.eq 3).trans (congrFun hF6 3))) ?_
    refine WL.va rfl rfl rfl (X.len (Bytes.of_own ho) rfl Try.underlying46) ?_
    refine WL.va rfl rfl rfl (X.lss rfl rfl) ?_
    refine WL.nil ?_
    refine thn_n ?_
    refine WF.cond rfl (fun h0_7 => ?_) (fun h0_7 => ?_)
    · have gh0_7 := (of_decide_eq_true h0_7)
      refine WF.skip ?_
      refine thn_n ?_
      refine WF.seq ?_
      refine WF.block ?_
      refine WF.seq ?_
      refine WF.region ?_
      refine WL.va rfl rfl rfl (X.move ((hAL0.eq 3).trans (congrFun hF6 3))) ?_
      refine WL.va rfl rfl rfl (X.moveI e4_L0) ?_
      refine WL.va rfl rfl rfl (X.idx (Bytes.of_own ho) rfl rfl (by omega) Try.underlying46 Try.sizeOf5) ?_
      refine WL.op rfl (OW.storeB (c := 0xA5) ho (by omega) rfl rfl Try.sizeOf5 ?_)
      intro w9 ho12 hx11
      have ho1 := ho12
      refine WL.nil ?_
      refine thn_n ?_
      refine WF.seq ?_
      refine WF.region ?_
      refine WL.va rfl rfl rfl (X.moveI e4_L0) ?_
      refine WL.va rfl rfl rfl (X.move ((hAL0.eq 0).trans (congrFun hF6 0))) ?_
      refine WL.va rfl rfl rfl (X.len hb rfl Try.underlying46) ?_
      refine WL.va rfl rfl rfl (X.lss rfl rfl) ?_
      refine WL.nil ?_
      refine thn_n ?_
      refine WF.cond rfl (fun h1_13 => ?_) (fun h1_13 => ?_)
      · have gh1_13 := (of_decide_eq_true h1_13)
        have hlt := gh1_13
        refine WF.region ?_
        refine WL.va rfl rfl rfl (X.move ((hAL0.eq 3).trans (congrFun hF6 3))) ?_
        refine WL.va rfl rfl rfl (X.moveI e4_L0) ?_
        refine WL.va rfl rfl rfl (X.move ((hAL0.eq 0).trans (congrFun hF6 0))) ?_
        refine WL.va rfl rfl rfl (X.moveI e4_L0) ?_
        refine WL.va rfl rfl rfl (X.idx hb rfl rfl (by omega) Try.underlying46 Try.sizeOf5) ?_
        refine WL.va rfl rfl rfl (X.loadB hb (Ext.own hwL0 ho (Nat.le_refl _) hx11) rfl (by omega) Try.isAgg5) ?_
        refine WL.va rfl rfl rfl (X.idx (Bytes.of_own ho) rfl rfl (by omega) Try.underlying46 Try.sizeOf5) ?_
        refine WL.op rfl (OW.storeB ho1 (by simp; omega) rfl rfl Try.sizeOf5 ?_)
        intro w15 ho18 hx17
        have ho2 := ho18
        refine WL.nil ?_
        refine blk_n ?_
        refine thn_n ?_
        refine WF.region ?_
        refine WL.va rfl rfl rfl (X.moveI e4_L0) ?_
        refine WL.va rfl rfl rfl (X.add rfl rfl (w64 (by omega))) ?_
        refine WL.va rfl rfl rfl (X.assignI rfl) ?_
        refine WL.nil ?_
        exact thn_n ⟨_, (by omega), k + 1, _, rfl, rfl, (by repeat (first | exact hAL0 | refine Agree.put ?_ rfl | refine Agree.named hF6 ?_)), (Ext.own (Ext.own hwL0 ho (Nat.le_refl _) hx11) ho1 (Nat.le_refl _) hx17), (by first | exact lent_step1 hk hL hLk (by omega) ho2 | exact lent_step2 hk hL hLk (by omega) (by omega) ho1)⟩
      · have gh1_13 := (of_decide_eq_false h1_13)
        have hlt := gh1_13
        refine WF.skip ?_
        refine blk_n ?_
        refine thn_n ?_
        refine WF.region ?_
        refine WL.va rfl rfl rfl (X.moveI e4_L0) ?_
        refine WL.va rfl rfl rfl (X.add rfl rfl (w64 (by omega))) ?_
        refine WL.va rfl rfl rfl (X.assignI rfl) ?_
        refine WL.nil ?_
        exact thn_n ⟨_, (by omega), k + 1, _, rfl, rfl, (by repeat (first | exact hAL0 | refine Agree.put ?_ rfl | refine Agree.named hF6 ?_)), (Ext.own hwL0 ho (Nat.le_refl _) hx11), (by first | exact lent_step1 hk hL hLk (by omega) ho2 | exact lent_step2 hk hL hLk (by omega) (by omega) ho1)⟩
    · have gh0_7 := (of_decide_eq_false h0_7)
      refine WF.exit ?_
      refine thn_x ?_
      refine thn_x ?_
      refine blk_eq ?_
      refine thn_n ?_
      refine WF.seq ?_
      refine WF.region ?_
      refine WL.va rfl rfl rfl (X.move ((hAL0.eq 3).trans (congrFun hF6 3))) ?_
      refine WL.va rfl rfl rfl (X.assign rfl) ?_
      refine WL.nil ?_
      refine thn_n ?_
      refine WF.ret ?_
      refine fin_r ?_
      exact ⟨by rw [show L = l ++ List.replicate 5 0xA5 from by rw [List.take_of_length_le (by omega), List.take_of_length_le (by simp; omega)] at hLk; exact hLk] at ho; exact ho, hwL0⟩

theorem keptBytes_ok (va vl : Value) (la l : List UInt8) (w : World) (ha : Bytes w va la) (hb : Bytes w vl l) (hm : l.length ≤ 281474976710651) : FnOk Try.prog 38 [va, vl] w (fun r w' => r = .bool (decide (la = l ++ List.replicate 5 0xA5)) ∧ Ext w w') := by
  have hla := ha.le
  have hlb := hb.le
  unfold maxLen at hla hlb
  refine FnOk.enter (rs := [4]) Try.func38 rfl Try.ntmps38 Try.results38 rfl rfl ?_
  refine WF.seq ?_
  refine WF.region ?_
  refine WL.va rfl rfl rfl (X.assignB rfl) ?_
  refine WL.nil ?_
  refine thn_n ?_
  refine WF.seq ?_
  refine WF.seq ?_
  refine WF.region ?_
  refine WL.va rfl rfl rfl (X.move rfl) ?_
  refine WL.va rfl rfl rfl (X.len ha rfl Try.underlying46) ?_
  refine WL.va rfl rfl rfl (X.move rfl) ?_
  refine WL.va rfl rfl rfl (X.len hb rfl Try.underlying46) ?_
  refine WL.va rfl rfl rfl (X.add rfl rfl (w64 (by omega))) ?_
  refine WL.va rfl rfl rfl (X.neq rfl rfl) ?_
  refine WL.va rfl rfl rfl (X.moveB rfl) ?_
  refine WL.split (j := 6) rfl (fun h3 => ?_) (fun h3 => ?_)
  · have gh3 := (of_decide_eq_true h3)
    refine WL.p rfl rfl rfl (congrArg some h3) ?_
    refine WL.p rfl rfl rfl (congrArg some h3) ?_
    refine WL.p rfl rfl rfl (congrArg some h3) ?_
    refine WL.p rfl rfl rfl (congrArg some h3) ?_
    refine WL.p rfl rfl rfl (congrArg some h3) ?_
    refine WL.p rfl rfl rfl (congrArg some h3) ?_
    refine WL.p rfl rfl rfl (congrArg some h3) ?_
    refine WL.va rfl rfl rfl (X.pickT rfl h3 rfl) ?_
    refine WL.nil ?_
    refine thn_n ?_
    refine WF.cond_t rfl ?_
    refine WF.seq ?_
    refine WF.region ?_
    refine WL.va rfl rfl rfl (X.assignB rfl) ?_
    refine WL.nil ?_
    refine thn_n ?_
    refine WF.ret ?_
    refine thn_r ?_
    refine fin_r ?_
    first | exact ⟨congrArg Value.bool (decide_eq_false (kept_ne0 (by omega))).symm, (Ext.refl _)⟩ | exact ⟨congrArg Value.bool (decide_eq_false (kept_ne1 (by assumption))).symm, (Ext.refl _)⟩
  · have gh3 := (Decidable.of_not_not (of_decide_eq_false h3))
    refine WL.vg rfl (congrArg some h3) rfl rfl (X.move rfl) ?_
    refine WL.vg rfl (congrArg some h3) rfl rfl (X.move rfl) ?_
    refine WL.vg rfl (congrArg some h3) rfl rfl (X.len hb rfl Try.underlying46) ?_
    refine WL.vg rfl (congrArg some h3) rfl rfl (X.slH ha rfl rfl (by omega) Try.underlying46 Try.sizeOf5) ?_
    refine WL.vg rfl (congrArg some h3) rfl rfl (X.move rfl) ?_
    refine WL.cg rfl (congrArg some h3) rfl rfl (X.call Try.call27 (evl_cons rfl (evl_cons rfl evl_nil))) (sameBytes_ok _ _ _ _ _ (Bytes.part ha 0 l.length (Nat.zero_le _) (by omega)) hb) ?_
    rintro v7 w6 ⟨rfl, hx8⟩
    refine WL.vg rfl (congrArg some h3) rfl rfl (X.not rfl) ?_
    refine WL.va rfl rfl rfl (X.pickF rfl h3 rfl) ?_
    refine WL.nil ?_
    refine thn_n ?_
    refine WF.cond rfl (fun h0_10 => ?_) (fun h0_10 => ?_)
    · have gh0_10 := (nt h0_10)
      have hq := gh0_10
      refine WF.seq ?_
      refine WF.region ?_
      refine WL.va rfl rfl rfl (X.assignB rfl) ?_
      refine WL.nil ?_
      refine thn_n ?_
      refine WF.ret ?_
      refine thn_r ?_
      refine fin_r ?_
      first | exact ⟨congrArg Value.bool (decide_eq_false (kept_ne0 (by omega))).symm, hx8⟩ | exact ⟨congrArg Value.bool (decide_eq_false (kept_ne1 (by assumption))).symm, hx8⟩
    · have gh0_10 := (nf h0_10)
      have hq := gh0_10
      refine WF.skip ?_
      refine thn_n ?_
      refine WF.seq ?_
      refine WF.seq ?_
      refine WF.region ?_
      refine WL.va rfl rfl rfl (X.move rfl) ?_
      refine WL.va rfl rfl rfl (X.len hb rfl Try.underlying46) ?_
      refine WL.va rfl rfl rfl (X.assignI rfl) ?_
      refine WL.nil ?_
      refine thn_n ?_
      refine WF.block ?_
      refine WF.named (fun F13 hF14 => ?_)
      refine WF.loopN (fun mL0 f' w' => ∃ (k : Nat), mL0 = la.length - k ∧ f' 5 = .int .i64 (k : Int) ∧ Agree [0, 1, 6, 7, 8, 9, 10, 11, 12, 13, 14, 15, 16, 17, 18, 19, 20, 21, 22] f' F13 ∧ Ext w w' ∧ l.length ≤ k ∧ k ≤ la.length ∧ ∀ i, l.length ≤ i → i < k → la.getD i 0 = 0xA5) ?_ ?_
      · exact ⟨_, l.length, rfl, (congrFun hF14 5), (Agree.refl _ _), hx8, ⟨Nat.le_refl _, by omega, by intro i h1 h2; omega⟩⟩
      · rintro mL0 fL0 wL0 ⟨k, hmL0, e5_L0, hAL0, hwL0, ⟨hk0, hk, hkk⟩⟩
        refine WF.seq ?_
        refine WF.seq ?_
        refine WF.region ?_
        refine WL.va rfl rfl rfl (X.moveI e5_L0) ?_
        refine WL.va rfl rfl rfl (X.move ((hAL0.eq 0).trans (congrFun hF14 0))) ?_
        refine WL.va rfl rfl rfl (X.len ha rfl Try.underlying46) ?_
        refine WL.va rfl rfl rfl (X.lss rfl rfl) ?_
        refine WL.nil ?_
        refine thn_n ?_
        refine WF.cond rfl (fun h1_15 => ?_) (fun h1_15 => ?_)
        · have gh1_15 := (of_decide_eq_true h1_15)
          have hlt := gh1_15
          refine WF.skip ?_
          refine thn_n ?_
          refine WF.seq ?_
          refine WF.block ?_
          refine WF.seq ?_
          refine WF.region ?_
          refine WL.va rfl rfl rfl (X.move ((hAL0.eq 0).trans (congrFun hF14 0))) ?_
          refine WL.va rfl rfl rfl (X.moveI e5_L0) ?_
          refine WL.va rfl rfl rfl (X.idx ha rfl rfl (by omega) Try.underlying46 Try.sizeOf5) ?_
          refine WL.va rfl rfl rfl (X.loadB ha hwL0 rfl (by omega) Try.isAgg5) ?_
          refine WL.va rfl rfl rfl (X.neq rfl rfl) ?_
          refine WL.nil ?_
          refine thn_n ?_
          refine WF.cond rfl (fun h2_17 => ?_) (fun h2_17 => ?_)
          · have gh2_17 := (of_decide_eq_true h2_17)
            have hne : la ≠ l ++ List.replicate 5 0xA5 := kept_ne2 (by omega) (by omega) (fun e => gh2_17 (by rw [e]; rfl))
            refine WF.seq ?_
            refine WF.region ?_
            refine WL.va rfl rfl rfl (X.assignB rfl) ?_
            refine WL.nil ?_
            refine thn_n ?_
            refine WF.ret ?_
            refine blk_r ?_
            refine thn_r ?_
            refine thn_r ?_
            refine blk_r ?_
            refine thn_r ?_
            refine fin_r ?_
            exact ⟨congrArg Value.bool (decide_eq_false hne).symm, hwL0⟩
          · have gh2_17 := (Decidable.of_not_not (of_decide_eq_false h2_17))
            have hm5 : ((la.getD k 0).toNat : Int) = ((0xA5 : UInt8).toNat : Int) := gh2_17
            refine WF.skip ?_
            refine blk_n ?_
            refine thn_n ?_
            refine WF.region ?_
            refine WL.va rfl rfl rfl (X.moveI e5_L0) ?_
            refine WL.va rfl rfl rfl (X.add rfl rfl (w64 (by omega))) ?_
            refine WL.va rfl rfl rfl (X.assignI rfl) ?_
            refine WL.nil ?_
            exact thn_n ⟨_, (by omega), k + 1, rfl, rfl, (by repeat (first | exact hAL0 | refine Agree.put ?_ rfl | refine Agree.named hF14 ?_)), hwL0, ⟨by omega, by omega, fun i h1 h2 => by rcases Nat.lt_succ_iff_lt_or_eq.1 h2 with h | rfl; exact hkk i h1 h; exact byte_eq hm5⟩⟩
        · have gh1_15 := (of_decide_eq_false h1_15)
          have hlt := gh1_15
          refine WF.exit ?_
          refine thn_x ?_
          refine thn_x ?_
          refine blk_eq ?_
          refine thn_n ?_
          refine WF.seq ?_
          refine WF.region ?_
          refine WL.va rfl rfl rfl (X.assignB rfl) ?_
          refine WL.nil ?_
          refine thn_n ?_
          refine WF.ret ?_
          refine fin_r ?_
          exact ⟨congrArg Value.bool (decide_eq_true (kept_eq (by omega) (by assumption) (fun i h1 h2 => hkk i h1 (by omega)))).symm, hwL0⟩

theorem pick_ok (k n : Int) (w : World) (_hk : -9223372036854775808 ≤ k ∧ k ≤ 9223372036854775807) (hn : -9223372036854775808 ≤ n ∧ n ≤ 9223372036854775807) : FnOk Try.prog 42 [i64 k, i64 n] w (fun r w' => (∃ p : Int, r = i64 p ∧ (n < 1 → p = 0) ∧ (1 ≤ n → 0 ≤ p ∧ p < n)) ∧ w = w') := by
  refine FnOk.enter (rs := [4]) Try.func42 rfl Try.ntmps42 Try.results42 rfl rfl ?_
  refine WF.seq ?_
  refine WF.region ?_
  refine WL.va rfl rfl rfl (X.assignI rfl) ?_
  refine WL.nil ?_
  refine thn_n ?_
  refine WF.seq ?_
  refine WF.seq ?_
  refine WF.region ?_
  refine WL.va rfl rfl rfl (X.moveI rfl) ?_
  refine WL.va rfl rfl rfl (X.lss rfl rfl) ?_
  refine WL.nil ?_
  refine thn_n ?_
  refine WF.cond rfl (fun h0_1 => ?_) (fun h0_1 => ?_)
  · have gh0_1 := (of_decide_eq_true h0_1)
    have hq := gh0_1
    refine WF.seq ?_
    refine WF.region ?_
    refine WL.va rfl rfl rfl (X.assignI rfl) ?_
    refine WL.nil ?_
    refine thn_n ?_
    refine WF.ret ?_
    refine thn_r ?_
    refine fin_r ?_
    exact ⟨⟨0, rfl, fun _ => rfl, fun h => by omega⟩, rfl⟩
  · have gh0_1 := (of_decide_eq_false h0_1)
    have hq := gh0_1
    have hr1 := Int.tmod_lt_of_pos k (show 0 < n by omega)
    have hr2 := Int.lt_tmod_of_pos k (show 0 < n by omega)
    refine WF.skip ?_
    refine thn_n ?_
    refine WF.seq ?_
    refine WF.region ?_
    refine WL.va rfl rfl rfl (X.moveI rfl) ?_
    refine WL.va rfl rfl rfl (X.moveI rfl) ?_
    refine WL.va rfl rfl rfl (X.rem rfl rfl (by omega) rfl) ?_
    refine WL.va rfl rfl rfl (X.assignI rfl) ?_
    refine WL.nil ?_
    refine thn_n ?_
    refine WF.seq ?_
    refine WF.seq ?_
    refine WF.region ?_
    refine WL.va rfl rfl rfl (X.moveI rfl) ?_
    refine WL.va rfl rfl rfl (X.lss rfl rfl) ?_
    refine WL.nil ?_
    refine thn_n ?_
    refine WF.cond rfl (fun h1_3 => ?_) (fun h1_3 => ?_)
    · have gh1_3 := (of_decide_eq_true h1_3)
      have hlt := gh1_3
      refine WF.region ?_
      refine WL.va rfl rfl rfl (X.moveI rfl) ?_
      refine WL.va rfl rfl rfl (X.moveI rfl) ?_
      refine WL.va rfl rfl rfl (X.add rfl rfl (w64 (by omega))) ?_
      refine WL.va rfl rfl rfl (X.assignI rfl) ?_
      refine WL.nil ?_
      refine thn_n ?_
      refine WF.seq ?_
      refine WF.region ?_
      refine WL.va rfl rfl rfl (X.moveI rfl) ?_
      refine WL.va rfl rfl rfl (X.assignI rfl) ?_
      refine WL.nil ?_
      refine thn_n ?_
      refine WF.ret ?_
      refine fin_r ?_
      exact ⟨⟨_, rfl, fun h => by omega, fun _ => ⟨by omega, by omega⟩⟩, rfl⟩
    · have gh1_3 := (of_decide_eq_false h1_3)
      have hlt := gh1_3
      refine WF.skip ?_
      refine thn_n ?_
      refine WF.seq ?_
      refine WF.region ?_
      refine WL.va rfl rfl rfl (X.moveI rfl) ?_
      refine WL.va rfl rfl rfl (X.assignI rfl) ?_
      refine WL.nil ?_
      refine thn_n ?_
      refine WF.ret ?_
      refine fin_r ?_
      exact ⟨⟨_, rfl, fun h => by omega, fun _ => ⟨by omega, by omega⟩⟩, rfl⟩

theorem keptI_ne0 {la l : List Int} (h : (la.length : Int) ≠ (l.length : Int) + 5) : la ≠ l ++ List.replicate 5 (-77) := fun e => by
  apply h; rw [e]; simp
theorem keptI_ne1 {la l : List Int} (h : decide ((la.drop 0).take (l.length - 0) = l) = false) : la ≠ l ++ List.replicate 5 (-77) := fun e => by
  rw [e] at h; simp at h
theorem keptI_ne2 {la l : List Int} {k : Nat} (h1 : l.length ≤ k) (h2 : k < l.length + 5) (h : ¬ la.getD k 0 = (-77)) : la ≠ l ++ List.replicate 5 (-77) := fun e => by
  apply h
  rw [e, List.getD_eq_getElem?_getD, List.getElem?_append_right h1, List.getElem?_replicate, if_pos (by omega)]
  rfl
theorem keptI_eq {la l : List Int} (h : la.length = l.length + 5) (hp : decide ((la.drop 0).take (l.length - 0) = l) = true) (hm : ∀ i, l.length ≤ i → i < la.length → la.getD i 0 = (-77)) : la = l ++ List.replicate 5 (-77) := by
  have hp := of_decide_eq_true hp
  simp only [List.drop_zero, Nat.sub_zero] at hp
  conv => lhs; rw [← List.take_append_drop l.length la, hp]
  congr 1
  apply List.ext_getElem?
  intro i
  rw [List.getElem?_drop, List.getElem?_replicate]
  by_cases hi : i < 5
  · rw [if_pos hi]
    have := hm (l.length + i) (by omega) (by omega)
    rw [List.getD_eq_getElem?_getD, List.getElem?_eq_getElem (by omega)] at this
    rw [List.getElem?_eq_getElem (by omega)]
    simpa using this
  · rw [if_neg hi, List.getElem?_eq_none (by omega)]
theorem lentI_part {w : World} {B : Nat} {v : Value} {l : List Int} (ho : OwnI w B 3 v (l ++ List.replicate 5 (-77))) : Ints w (Kf.part v 0 l.length 1) l := by
  have := Ints.part (Ints.of_own ho) 0 l.length (Nat.zero_le _) (by simp)
  simpa using this

theorem lentI_step1 {l L : List Int} {k : Nat} {w : World} {B : Nat} {v : Value} (_hk : k ≤ l.length + 5) (hL : L.length = l.length + 5) (hLk : L.take k = (l ++ List.replicate 5 (-77)).take k) (h : k < l.length)
    (ho : OwnI w B 3 v ((L.set k (-77)).set k (l.getD k 0))) : k + 1 ≤ l.length + 5 ∧ ((L.set k (-77)).set k (l.getD k 0)).length = l.length + 5 ∧ ((L.set k (-77)).set k (l.getD k 0)).take (k + 1) = (l ++ List.replicate 5 (-77)).take (k + 1) ∧ OwnI w B 3 v ((L.set k (-77)).set k (l.getD k 0)) := by
  refine ⟨by omega, by simp [hL], ?_, ho⟩
  rw [List.set_set, take_set_succ _ _ _ (by omega), hLk, takeI _ _ (by simp; omega)]
  rw [List.getD_eq_getElem?_getD, List.getD_eq_getElem?_getD, List.getElem?_append_left h]
theorem lentI_step2 {l L : List Int} {k : Nat} {w : World} {B : Nat} {v : Value} (_hk : k ≤ l.length + 5) (hL : L.length = l.length + 5) (hLk : L.take k = (l ++ List.replicate 5 (-77)).take k) (h : l.length ≤ k) (h2 : k < l.length + 5)
    (ho : OwnI w B 3 v (L.set k (-77))) : k + 1 ≤ l.length + 5 ∧ (L.set k (-77)).length = l.length + 5 ∧ (L.set k (-77)).take (k + 1) = (l ++ List.replicate 5 (-77)).take (k + 1) ∧ OwnI w B 3 v (L.set k (-77)) := by
  refine ⟨by omega, by simp [hL], ?_, ho⟩
  rw [take_set_succ _ _ _ (by omega), hLk, takeI _ _ (by simp; omega)]
  have : (l ++ List.replicate 5 (-77 : Int)).getD k 0 = (-77) := by
    simp only [List.getD_eq_getElem?_getD]
    rw [List.getElem?_append_right h, List.getElem?_replicate, if_pos (by omega)]
    rfl
  rw [this]
theorem sameInts_ok (va vb : Value) (la lb : List Int) (w : World) (ha : Ints w va la) (hb : Ints w vb lb) : FnOk Try.prog 93 [va, vb] w (fun r w' => r = .bool (decide (la = lb)) ∧ Ext w w') := by
  have hla := ha.le64
  have hlb := hb.le64
  refine FnOk.enter (rs := [4]) Try.func93 rfl Try.ntmps93 Try.results93 rfl rfl ?_
  refine WF.seq ?_
  refine WF.region ?_
  refine WL.va rfl rfl rfl (X.assignB rfl) ?_
  refine WL.nil ?_
  refine thn_n ?_
  refine WF.seq ?_
  refine WF.seq ?_
  refine WF.region ?_
  refine WL.va rfl rfl rfl (X.move rfl) ?_
  refine WL.va rfl rfl rfl (X.len ha rfl Try.underlying69) ?_
  refine WL.va rfl rfl rfl (X.move rfl) ?_
  refine WL.va rfl rfl rfl (X.len hb rfl Try.underlying69) ?_
  refine WL.va rfl rfl rfl (X.neq rfl rfl) ?_
  refine WL.nil ?_
  refine thn_n ?_
  refine WF.cond rfl (fun h0_2 => ?_) (fun h0_2 => ?_)
  · have gh0_2 := (of_decide_eq_true h0_2)
    have hlen := gh0_2
    have hne : la ≠ lb := fun e => by rw [e] at gh0_2; exact gh0_2 rfl
    refine WF.seq ?_
    refine WF.region ?_
    refine WL.va rfl rfl rfl (X.assignB rfl) ?_
    refine WL.nil ?_
    refine thn_n ?_
    refine WF.ret ?_
    refine thn_r ?_
    refine fin_r ?_
    exact ⟨congrArg Value.bool (decide_eq_false hne).symm, (Ext.refl _)⟩
  · have gh0_2 := (Decidable.of_not_not (of_decide_eq_false h0_2))
    have hlen := gh0_2
    refine WF.skip ?_
    refine thn_n ?_
    refine WF.seq ?_
    refine WF.seq ?_
    refine WF.region ?_
    refine WL.va rfl rfl rfl (X.assignI rfl) ?_
    refine WL.nil ?_
    refine thn_n ?_
    refine WF.block ?_
    refine WF.named (fun F5 hF6 => ?_)
    refine WF.loopN (fun mL0 f' w' => ∃ (k : Nat), mL0 = la.length - k ∧ f' 5 = .int .i64 (k : Int) ∧ Agree [0, 1, 6, 7, 8, 9, 10] f' F5 ∧ Ext w w' ∧ k ≤ la.length ∧ la.take k = lb.take k) ?_ ?_
    · exact ⟨_, 0, rfl, (congrFun hF6 5), (Agree.refl _ _), (Ext.refl _), ⟨Nat.zero_le _, rfl⟩⟩
    · rintro mL0 fL0 wL0 ⟨k, hmL0, e5_L0, hAL0, hwL0, ⟨hk, hkk⟩⟩
      refine WF.seq ?_
      refine WF.seq ?_
      refine WF.region ?_
      refine WL.va rfl rfl rfl (X.moveI e5_L0) ?_
      refine WL.va rfl rfl rfl (X.move ((hAL0.eq 0).trans (congrFun hF6 0))) ?_
      refine WL.va rfl rfl rfl (X.len ha rfl Try.underlying69) ?_
      refine WL.va rfl rfl rfl (X.lss rfl rfl) ?_
      refine WL.nil ?_
      refine thn_n ?_
      refine WF.cond rfl (fun h1_7 => ?_) (fun h1_7 => ?_)
      · have gh1_7 := (of_decide_eq_true h1_7)
        have hlt := gh1_7
        refine WF.skip ?_
        refine thn_n ?_
        refine WF.seq ?_
        refine WF.block ?_
        refine WF.seq ?_
        refine WF.drawn (.q 0 (.q 1 (.q 2 (.q 3 (.q 4 (.q 5 (.q 6 (.q 7 (.q 8 .nil))))))))) (fun w' => Ext wL0 w') 9 (by kernel_rfl) (by kernel_rfl) (Ext.drew _) ?_
        refine WO.q rfl rfl rfl rfl (fun w' hE9 => (X.move ((hAL0.eq 0).trans (congrFun hF6 0)))) ?_
        refine WO.q rfl rfl rfl rfl (fun w' hE9 => (X.moveI e5_L0)) ?_
        refine WO.q rfl rfl rfl rfl (fun w' hE9 => (X.idx ha rfl rfl (by omega) Try.underlying69 Try.sizeOf3)) ?_
        refine WO.q rfl rfl rfl rfl (fun w' hE9 => (X.loadI ha (Ext.trans hwL0 hE9) rfl (by omega) Try.isAgg3)) ?_
        refine WO.q rfl rfl rfl rfl (fun w' hE9 => (X.move ((hAL0.eq 1).trans (congrFun hF6 1)))) ?_
        refine WO.q rfl rfl rfl rfl (fun w' hE9 => (X.moveI e5_L0)) ?_
        refine WO.q rfl rfl rfl rfl (fun w' hE9 => (X.idx hb rfl rfl (by omega) Try.underlying69 Try.sizeOf3)) ?_
        refine WO.q rfl rfl rfl rfl (fun w' hE9 => (X.loadI hb (Ext.trans hwL0 hE9) rfl (by omega) Try.isAgg3)) ?_
        refine WO.q rfl rfl rfl rfl (fun w' hE9 => (X.neq rfl rfl)) ?_
        refine WO.nil ?_
        refine WL.nil ?_
        refine thn_n ?_
        refine WF.cond rfl (fun h2_10 => ?_) (fun h2_10 => ?_)
        · have gh2_10 := (of_decide_eq_true h2_10)
          have hne : la ≠ lb := fun e => gh2_10 (by subst e; rfl)
          refine WF.seq ?_
          refine WF.region ?_
          refine WL.va rfl rfl rfl (X.assignB rfl) ?_
          refine WL.nil ?_
          refine thn_n ?_
          refine WF.ret ?_
          refine blk_r ?_
          refine thn_r ?_
          refine thn_r ?_
          refine blk_r ?_
          refine thn_r ?_
          refine fin_r ?_
          exact ⟨congrArg Value.bool (decide_eq_false hne).symm, (Ext.trans hwL0 (Ext.drew _))⟩
        · have gh2_10 := (Decidable.of_not_not (of_decide_eq_false h2_10))
          have heq := gh2_10
          refine WF.skip ?_
          refine blk_n ?_
          refine thn_n ?_
          refine WF.region ?_
          refine WL.va rfl rfl rfl (X.moveI e5_L0) ?_
          refine WL.va rfl rfl rfl (X.add rfl rfl (w64 (by omega))) ?_
          refine WL.va rfl rfl rfl (X.assignI rfl) ?_
          refine WL.nil ?_
          exact thn_n ⟨_, (by omega), k + 1, rfl, rfl, (by repeat (first | exact hAL0 | refine Agree.put ?_ rfl | refine Agree.named hF6 ?_)), (Ext.trans hwL0 (Ext.drew _)), ⟨by omega, by rw [takeI _ _ (by omega), takeI _ _ (by omega), hkk, heq]⟩⟩
      · have gh1_7 := (of_decide_eq_false h1_7)
        have hlt := gh1_7
        refine WF.exit ?_
        refine thn_x ?_
        refine thn_x ?_
        refine blk_eq ?_
        refine thn_n ?_
        refine WF.seq ?_
        refine WF.region ?_
        refine WL.va rfl rfl rfl (X.assignB rfl) ?_
        refine WL.nil ?_
        refine thn_n ?_
        refine WF.ret ?_
        refine fin_r ?_
        exact ⟨congrArg Value.bool (decide_eq_true (by rw [List.take_of_length_le (by omega), List.take_of_length_le (by omega)] at hkk; exact hkk)).symm, hwL0⟩

theorem grown_moved {a b c : World} {v v' : Value} (h : a.grownBy b v.ownBlock) (hm : Moved a v v') (g : b.grownBy c v'.ownBlock) : a.grownBy c v.ownBlock := by
  refine ⟨g.os.trans h.os, g.tape.trans h.tape, g.output.trans h.output, Nat.le_trans h.size g.size, fun i hi hn => ?_⟩
  refine (g.block i (Nat.lt_of_lt_of_le hi h.size) fun e => ?_).trans (h.block i hi hn)
  rcases hm with hm | hm
  · rw [hm] at e; exact hn e
  · have := hm i e.symm; omega
theorem moved_moved {a b : World} {v v' v'' : Value} (h : a.heap.size ≤ b.heap.size) (hm : Moved a v v') (g : Moved b v' v'') : Moved a v v'' := by
  rcases g with g | g
  · rcases hm with hm | hm
    · exact .inl (g.trans hm)
    · exact .inr fun k hk => hm k (g ▸ hk)
  · exact .inr fun k hk => Nat.le_trans h (g k hk)
theorem seg_addr {D v : Value} {lo hi k : Nat} {f : Fr} {x : Operand} (hs : Seg D v lo hi) (hk : lo + k < hi) (h : ev f x = .pointer (some ((base v).add (k * 1)))) : ev f x = .pointer (some ((base D).add ((lo + k) * 1))) := by
  rw [h, Nat.mul_one, Nat.mul_one, hs.addr hk]
theorem seg_bytes {w : World} {B : Nat} {D v : Value} {L : List UInt8} {lo hi : Nat} (hs : Seg D v lo hi) (ho : OwnB w B 5 D L) (hhi : hi ≤ L.length) : Bytes w v ((L.drop lo).take (hi - lo)) := by
  have := hs.row ho hhi
  have e : ((L.drop lo).take (hi - lo)).length = hi - lo := by simp; have := hs.le; omega
  unfold Bytes
  rw [e, List.map_take, List.map_drop]
  exact this
theorem spoilSeg_ok (D v : Value) (L0 : List UInt8) (lo hi : Nat) (w : World) (B : Nat) (ho0 : OwnB w B 5 D L0) (hs : Seg D v lo hi) (hhi : hi ≤ L0.length) : FnOk Try.prog 49 [v] w (fun _ w' => (∃ L', OwnB w' B 5 D L' ∧ L'.length = L0.length ∧ ∀ i, hi ≤ i → L'.getD i 0 = L0.getD i 0) ∧ w.grownBy w' D.ownBlock) := by
  have hb := Bytes.of_own ho0
  have hl := hb.le64
  have hle := hs.le
  refine FnOk.enter (rs := []) Try.func49 rfl Try.ntmps49 Try.results49 rfl rfl ?_
  refine WF.seq ?_
  refine WF.region ?_
  refine WL.va rfl rfl rfl (X.assignI rfl) ?_
  refine WL.nil ?_
  refine thn_n ?_
  refine WF.block ?_
  refine WF.named (fun F1 hF2 => ?_)
  refine WF.loopN (fun mL0 f' w' => ∃ (k : Nat) (L : List UInt8), mL0 = hi - lo - k ∧ f' 2 = .int .i64 (k : Int) ∧ Agree [0] f' F1 ∧ w.grownBy w' D.ownBlock ∧ k ≤ hi - lo ∧ L.length = L0.length ∧ OwnB w' B 5 D L ∧ ∀ i, hi ≤ i → L.getD i 0 = L0.getD i 0) ?_ ?_
  · exact ⟨_, 0, L0, rfl, (congrFun hF2 2), (Agree.refl _ _), (World.grownBy.refl _ _), ⟨Nat.zero_le _, rfl, ho0, fun _ _ => rfl⟩⟩
  · rintro mL0 fL0 wL0 ⟨k, L, hmL0, e2_L0, hAL0, hwL0, ⟨hk, hL, ho, hat⟩⟩
    have hSl : ((L.drop lo).take (hi - lo)).length = hi - lo := by simp; omega
    refine WF.seq ?_
    refine WF.seq ?_
    refine WF.region ?_
    refine WL.va rfl rfl rfl (X.moveI e2_L0) ?_
    refine WL.va rfl rfl rfl (X.move ((hAL0.eq 0).trans (congrFun hF2 0))) ?_
    refine WL.va rfl rfl rfl (X.len (seg_bytes hs ho (by omega)) rfl Try.underlying46) ?_
    refine WL.va rfl rfl rfl (X.lss rfl rfl) ?_
    refine WL.nil ?_
    refine thn_n ?_
    refine WF.cond rfl (fun h0_3 => ?_) (fun h0_3 => ?_)
    · have gh0_3 := (of_decide_eq_true h0_3)
      refine WF.skip ?_
      refine thn_n ?_
      refine WF.seq ?_
      refine WF.block ?_
      refine WF.region ?_
      refine WL.va rfl rfl rfl (X.move ((hAL0.eq 0).trans (congrFun hF2 0))) ?_
      refine WL.va rfl rfl rfl (X.moveI e2_L0) ?_
      refine WL.va rfl rfl rfl (X.move ((hAL0.eq 0).trans (congrFun hF2 0))) ?_
      refine WL.va rfl rfl rfl (X.moveI e2_L0) ?_
      refine WL.va rfl rfl rfl (X.idx (seg_bytes hs ho (by omega)) rfl rfl (by omega) Try.underlying46 Try.sizeOf5) ?_
      refine WL.va rfl rfl rfl (X.loadB (seg_bytes hs ho (by omega)) (Ext.refl _) rfl (by omega) Try.isAgg5) ?_
      refine WL.va rfl rfl rfl (X.xor rfl rfl (xor8 _ 0x5A)) ?_
      refine WL.va rfl rfl rfl (X.idx (seg_bytes hs ho (by omega)) rfl rfl (by omega) Try.underlying46 Try.sizeOf5) ?_
      refine WL.op rfl (OW.storeB ho (by omega) (seg_addr hs (by omega) rfl) rfl Try.sizeOf5 ?_)
      intro w5 ho8 hx7
      have ho1 := ho8
      have hg1 := hx7
      refine WL.nil ?_
      refine blk_n ?_
      refine thn_n ?_
      refine WF.region ?_
      refine WL.va rfl rfl rfl (X.moveI e2_L0) ?_
      refine WL.va rfl rfl rfl (X.add rfl rfl (w64 (by omega))) ?_
      refine WL.va rfl rfl rfl (X.assignI rfl) ?_
      refine WL.nil ?_
      exact thn_n ⟨_, (by omega), k + 1, _, rfl, rfl, (by repeat (first | exact hAL0 | refine Agree.put ?_ rfl | refine Agree.named hF2 ?_)), (grown2 hwL0 hg1), ⟨by omega, by simp [hL], ho1, fun i hi2 => by rw [← hat i hi2]; simp [List.getElem?_set_ne (show lo + k ≠ i by omega)]⟩⟩
    · have gh0_3 := (of_decide_eq_false h0_3)
      refine WF.exit ?_
      refine thn_x ?_
      refine thn_x ?_
      refine blk_eq ?_
      refine fin_n ?_
      exact ⟨⟨_, ho, hL, hat⟩, hwL0⟩

theorem spoilBytes_ok (v : Value) (l : List UInt8) (w : World) (B : Nat) (ho : OwnB w B 5 v l) : FnOk Try.prog 49 [v] w (fun _ w' => (∃ l', OwnB w' B 5 v l') ∧ w.grownBy w' v.ownBlock) :=
  FnOk.mono (spoilSeg_ok v v l 0 l.length w B ho (Seg.self ho) (Nat.le_refl _)) fun _ _ h => ⟨⟨h.1.choose, h.1.choose_spec.1⟩, h.2⟩
theorem shr_byte2 (v : Int) (k : Nat) (hk : k < 8) : IntKind.u8.wrap ((IntKind.u64.wrap v).fdiv (2 ^ (min ((8 * (7 - (k : Int)))).toNat IntKind.u64.bits))) = ((Pk.byteAt (Pk.bits v) (7 - k)).toNat : Int) := by
  have := Pk.shr_byte v (7 - k) (by omega)
  rwa [show ((7 - k : Nat) : Int) = 7 - (k : Int) by omega] at this
theorem number_ok (v : Value) (l : List UInt8) (n : Int) (w : World) (B : Nat) (ho0 : OwnB w B 5 v l) (hB : B ≤ w.heap.size) (hl : l.length ≤ 140737488355320) : FnOk Try.prog 99 [v, i64 n] w (fun r w' => OwnB w' B 5 r (l ++ Pk.enc n) ∧ w.grownBy w' v.ownBlock ∧ Moved w v r) := by
  refine FnOk.enter (rs := [4]) Try.func99 rfl Try.ntmps99 Try.results99 rfl rfl ?_
  refine WF.seq ?_
  refine WF.region ?_
  refine WL.va rfl rfl rfl (X.assign rfl) ?_
  refine WL.nil ?_
  refine thn_n ?_
  refine WF.seq ?_
  refine WF.seq ?_
  refine WF.region ?_
  refine WL.va rfl rfl rfl (X.assignI rfl) ?_
  refine WL.nil ?_
  refine thn_n ?_
  refine WF.block ?_
  refine WF.named (fun F1 hF2 => ?_)
  refine WF.loopN (fun mL0 f' w' => ∃ (k : Nat) (vo : Value), mL0 = 8 - k ∧ f' 5 = .int .i64 (7 - (k : Int)) ∧ f' 0 = vo ∧ Agree [1, 4] f' F1 ∧ w.grownBy w' v.ownBlock ∧ k ≤ 8 ∧ OwnB w' B 5 vo (l ++ (Pk.enc n).take k) ∧ Moved w v vo) ?_ ?_
  · exact ⟨_, 0, v, rfl, (congrFun hF2 5), (congrFun hF2 0), (Agree.refl _ _), (World.grownBy.refl _ _), ⟨Nat.zero_le _, (by simpa using ho0), .inl rfl⟩⟩
  · rintro mL0 fL0 wL0 ⟨k, vo, hmL0, e5_L0, e0_L0, hAL0, hwL0, ⟨hk, ho, hm0⟩⟩
    have hB0 := hwL0.size
    refine WF.seq ?_
    refine WF.seq ?_
    refine WF.region ?_
    refine WL.va rfl rfl rfl (X.moveI e5_L0) ?_
    refine WL.va rfl rfl rfl (X.geq rfl rfl) ?_
    refine WL.nil ?_
    refine thn_n ?_
    refine WF.cond rfl (fun h0_3 => ?_) (fun h0_3 => ?_)
    · have gh0_3 := (of_decide_eq_true h0_3)
      refine WF.skip ?_
      refine thn_n ?_
      refine WF.seq ?_
      refine WF.block ?_
      refine WF.region ?_
      refine WL.va rfl rfl rfl (X.move e0_L0) ?_
      refine WL.va rfl rfl rfl (X.moveI ((hAL0.eq 1).trans (congrFun hF2 1))) ?_
      refine WL.va rfl rfl rfl (X.conv rfl (congrArg Option.isSome Try.underlying3) Try.underlying126 rfl) ?_
      refine WL.va rfl rfl rfl (X.moveI e5_L0) ?_
      refine WL.va rfl rfl rfl (X.mul rfl rfl (w64 (by omega))) ?_
      refine WL.va rfl rfl rfl (X.shr rfl rfl (by omega) rfl) ?_
      refine WL.va rfl rfl rfl (X.conv rfl (congrArg Option.isSome Try.underlying126) Try.underlying5 (shr_byte2 n k (by omega))) ?_
      refine WL.op rfl (OW.lits (vs := [u8 (Pk.byteAt (Pk.bits n) (7 - k))]) (evp_cons rfl evp_nil) Try.underlying46 Try.sizeOf5 Try.zeroValue5 ⟨rfl, trivial⟩ rfl rfl rfl ?_ (by decide))
      intro v6 w5 ho8 hx7
      have ho1 := ho.ext hx7
      have hx1 := hx7
      refine WL.op rfl (OW.appendB ho1 (show Bytes _ _ [(Pk.byteAt (Pk.bits n) (7 - k))] from Row.of_own ho8) rfl rfl Try.underlying46 Try.type5 rfl rfl rfl rfl (by simp [Pk.enc_len]; omega) (Nat.le_trans hB (Nat.le_trans hB0 (hx7).size)) ?_ (by decide))
      intro v10 w9 ho12 hx11 hmvhx11
      have ho2 := ho12
      have hg1 := ext_grown hx1 hx11
      have hmv1 : Moved wL0 vo v10 := moved_moved hx1.size (.inl rfl) hmvhx11
      refine WL.va rfl rfl rfl (X.assign rfl) ?_
      refine WL.nil ?_
      refine blk_n ?_
      refine thn_n ?_
      refine WF.region ?_
      refine WL.va rfl rfl rfl (X.moveI e5_L0) ?_
      refine WL.va rfl rfl rfl (X.sub rfl rfl (w64 (by omega))) ?_
      refine WL.va rfl rfl rfl (X.assignI rfl) ?_
      refine WL.nil ?_
      exact thn_n ⟨_, (by omega), k + 1, _, rfl, (congrArg (Value.int .i64) (by omega)), rfl, (by repeat (first | exact hAL0 | refine Agree.put ?_ rfl | refine Agree.named hF2 ?_)), (grown_moved hwL0 hm0 hg1), ⟨by omega, by rw [Pk.enc_drop n k (by omega), ← List.append_assoc]; exact ho2, moved_moved hB0 hm0 hmv1⟩⟩
    · have gh0_3 := (of_decide_eq_false h0_3)
      refine WF.exit ?_
      refine thn_x ?_
      refine thn_x ?_
      refine blk_eq ?_
      refine thn_n ?_
      refine WF.seq ?_
      refine WF.region ?_
      refine WL.va rfl rfl rfl (X.move e0_L0) ?_
      refine WL.va rfl rfl rfl (X.assign rfl) ?_
      refine WL.nil ?_
      refine thn_n ?_
      refine WF.ret ?_
      refine fin_r ?_
      exact ⟨by rw [show (Pk.enc n).take k = Pk.enc n from List.take_of_length_le (by rw [Pk.enc_len]; omega)] at ho; exact ho, hwL0, hm0⟩

theorem room_ok (v : Value) (l : List UInt8) (n : Nat) (w : World) (hb : Bytes w v l) (hn : l.length + n ≤ 140737488355328) : FnOk Try.prog 100 [v, i64 (n : Int)] w (fun r w' => OwnB w' w.heap.size 5 r l ∧ Ext w w') := by
  refine FnOk.enter (rs := [4]) Try.func100 rfl Try.ntmps100 Try.results100 rfl rfl ?_
  refine WF.seq ?_
  refine WF.region ?_
  refine WL.va rfl rfl rfl (X.assign rfl) ?_
  refine WL.nil ?_
  refine thn_n ?_
  refine WF.seq ?_
  refine WF.region ?_
  refine WL.va rfl rfl rfl (X.move rfl) ?_
  refine WL.va rfl rfl rfl (X.len hb rfl Try.underlying46) ?_
  refine WL.va rfl rfl rfl (X.moveI rfl) ?_
  refine WL.va rfl rfl rfl (X.add rfl rfl (w64 (by omega))) ?_
  refine WL.op rfl (OW.make0B (n := l.length + n) rfl rfl Try.underlying46 Try.type5 rfl rfl rfl (by omega) ?_ (by decide))
  intro v2 w1 ho4 hx3
  have hm := ho4
  have hx1 := hx3
  refine WL.va rfl rfl rfl (X.move rfl) ?_
  refine WL.op rfl (OW.appendB hm (hb.ext hx3) rfl rfl Try.underlying46 Try.type5 rfl rfl rfl rfl (by simp; omega) (hx1.size) ?_ (by decide))
  intro v6 w5 ho8 hx7 hmvhx7
  have ho := ho8
  refine WL.va rfl rfl rfl (X.assign rfl) ?_
  refine WL.nil ?_
  refine thn_n ?_
  refine WF.ret ?_
  refine fin_r ?_
  rw [List.nil_append] at ho; exact ⟨ho, (Ext.own hx1 hm (Nat.le_refl _) hx7)⟩

theorem int_ok (v : Value) (l : List UInt8) (n : Int) (w : World) (hb : Bytes w v l) (hn : l.length + 8 ≤ 140737488355320) : FnOk Try.prog 62 [v, i64 n] w (fun r w' => OwnB w' w.heap.size 5 r (l ++ Pk.enc n) ∧ Ext w w') := by
  refine FnOk.enter (rs := [4]) Try.func62 rfl Try.ntmps62 Try.results62 rfl rfl ?_
  refine WF.seq ?_
  refine WF.region ?_
  refine WL.va rfl rfl rfl (X.assign rfl) ?_
  refine WL.nil ?_
  refine thn_n ?_
  refine WF.seq ?_
  refine WF.region ?_
  refine WL.va rfl rfl rfl (X.move rfl) ?_
  refine WL.c rfl rfl rfl (X.call Try.call100 (evl_cons rfl (evl_cons rfl evl_nil))) (room_ok _ _ 8 _ hb (by omega)) ?_
  rintro v2 w1 ⟨ho, hx3⟩
  have hx1 := hx3
  refine WL.va rfl rfl rfl (X.moveI rfl) ?_
  refine WL.c rfl rfl rfl (X.call Try.call99 (evl_cons rfl (evl_cons rfl evl_nil))) (number_ok _ _ _ _ _ ho hx1.size (by omega)) ?_
  rintro v5 w4 ⟨ho2, hx6, _⟩
  refine WL.va rfl rfl rfl (X.assign rfl) ?_
  refine WL.nil ?_
  refine thn_n ?_
  refine WF.ret ?_
  refine fin_r ?_
  exact ⟨ho2, (Ext.own hx1 ho (Nat.le_refl _) hx6)⟩

theorem blob_ok (v : Value) (l : List UInt8) (u : Value) (p : List UInt8) (w : World) (hb : Bytes w v l) (hp : Bytes w u p) (hn : l.length + p.length + 8 ≤ 140737488355320) : FnOk Try.prog 80 [v, u] w (fun r w' => OwnB w' w.heap.size 5 r (l ++ Pk.blob p) ∧ Ext w w') := by
  refine FnOk.enter (rs := [4]) Try.func80 rfl Try.ntmps80 Try.results80 rfl rfl ?_
  refine WF.seq ?_
  refine WF.region ?_
  refine WL.va rfl rfl rfl (X.assign rfl) ?_
  refine WL.nil ?_
  refine thn_n ?_
  refine WF.seq ?_
  refine WF.region ?_
  refine WL.va rfl rfl rfl (X.move rfl) ?_
  refine WL.va rfl rfl rfl (X.move rfl) ?_
  refine WL.va rfl rfl rfl (X.len hp rfl Try.underlying46) ?_
  refine WL.va rfl rfl rfl (X.add rfl rfl (w64 (by omega))) ?_
  refine WL.c rfl rfl rfl (X.call Try.call100 (evl_cons rfl (evl_cons rfl evl_nil))) (room_ok _ _ (8 + p.length) _ hb (by omega)) ?_
  rintro v2 w1 ⟨ho, hx3⟩
  have hx1 := hx3
  refine WL.va rfl rfl rfl (X.move rfl) ?_
  refine WL.va rfl rfl rfl (X.len hp rfl Try.underlying46) ?_
  refine WL.c rfl rfl rfl (X.call Try.call99 (evl_cons rfl (evl_cons rfl evl_nil))) (number_ok _ _ _ _ _ ho hx1.size (by omega)) ?_
  rintro v5 w4 ⟨ho2, hx6, hm2⟩
  have hx2 := Ext.own hx1 ho (Nat.le_refl _) hx6
  refine WL.va rfl rfl rfl (X.move rfl) ?_
  refine WL.op rfl (OW.appendB ho2 (hp.ext (Ext.own hx1 ho (Nat.le_refl _) hx6)) rfl rfl Try.underlying46 Try.type5 rfl rfl rfl rfl (by simp [Pk.enc_len]; omega) (hx2.size) ?_ (by decide))
  intro v8 w7 ho10 hx9 hmvhx9
  have ho3 := ho10
  refine WL.va rfl rfl rfl (X.assign rfl) ?_
  refine WL.nil ?_
  refine thn_n ?_
  refine WF.ret ?_
  refine fin_r ?_
  exact ⟨by unfold Pk.blob; rw [← List.append_assoc]; exact ho3, (Ext.own hx2 ho2 (Nat.le_refl _) hx9)⟩

theorem refInt_step {n : Int} {i : Nat} (hi : i ≤ 7) : (Pk.enc n).take ((7 - ((i : Int) - 1))).toNat = (Pk.enc n).take ((7 - (i : Int))).toNat ++ [(Pk.low (Pk.bits n) 8).getD i 0] := by
  rw [show (7 - ((i : Int) - 1)).toNat = (7 - i) + 1 by omega, show (7 - (i : Int)).toNat = 7 - i by omega, Pk.enc_drop n (7 - i) (by omega), Pk.low_at _ _ _ (by omega), show 7 - (7 - i) = i by omega]
theorem refInt_ok (v : Value) (l : List UInt8) (n : Int) (w : World) (hb : Bytes w v l) (hn : l.length + 8 ≤ 140737488355320) : FnOk Try.prog 64 [v, i64 n] w (fun r w' => OwnB w' w.heap.size 5 r (l ++ Pk.enc n) ∧ Ext w w') := by
  have hbl := Pk.bits_lt n
  refine FnOk.enter (rs := [4]) Try.func64 rfl Try.ntmps64 Try.results64 rfl rfl ?_
  refine WF.seq ?_
  refine WF.region ?_
  refine WL.va rfl rfl rfl (X.assign rfl) ?_
  refine WL.nil ?_
  refine thn_n ?_
  refine WF.seq ?_
  refine WF.region ?_
  refine WL.va rfl rfl rfl (X.assign rfl) ?_
  refine WL.nil ?_
  refine thn_n ?_
  refine WF.seq ?_
  refine WF.region ?_
  refine WL.va rfl rfl rfl (X.moveI rfl) ?_
  refine WL.va rfl rfl rfl (X.conv rfl (congrArg Option.isSome Try.underlying3) Try.underlying126 (Pk.wrap_u64 n)) ?_
  refine WL.va rfl rfl rfl (X.assignI rfl) ?_
  refine WL.nil ?_
  refine thn_n ?_
  refine WF.seq ?_
  refine WF.seq ?_
  refine WF.region ?_
  refine WL.va rfl rfl rfl (X.assignI rfl) ?_
  refine WL.nil ?_
  refine thn_n ?_
  refine WF.block ?_
  refine WF.named (fun F1 hF2 => ?_)
  refine WF.loopN (fun mL0 f' w' => ∃ (k : Nat) (vo : Value), mL0 = 8 - k ∧ f' 7 = .int .i64 (k : Int) ∧ f' 5 = vo ∧ f' 6 = .int .u64 ((Pk.upper (Pk.bits n) k : Nat) : Int) ∧ Agree [0, 1, 4, 11, 12] f' F1 ∧ Ext w w' ∧ k ≤ 8 ∧ OwnB w' w.heap.size 5 vo (Pk.low (Pk.bits n) k)) ?_ ?_
  · exact ⟨_, 0, (.slice none 0 0), rfl, (congrFun hF2 7), (congrFun hF2 5), (congrFun hF2 6), (Agree.refl _ _), (Ext.refl _), ⟨Nat.zero_le _, OwnB.nil _ _ _⟩⟩
  · rintro mL0 fL0 wL0 ⟨k, vo, hmL0, e7_L0, e5_L0, e6_L0, hAL0, hwL0, ⟨hk, ho⟩⟩
    have hll := Pk.low_len (Pk.bits n) k
    refine WF.seq ?_
    refine WF.seq ?_
    refine WF.region ?_
    refine WL.va rfl rfl rfl (X.moveI e7_L0) ?_
    refine WL.va rfl rfl rfl (X.lss rfl rfl) ?_
    refine WL.nil ?_
    refine thn_n ?_
    refine WF.cond rfl (fun h0_3 => ?_) (fun h0_3 => ?_)
    · have gh0_3 := (of_decide_eq_true h0_3)
      refine WF.skip ?_
      refine thn_n ?_
      refine WF.seq ?_
      refine WF.block ?_
      refine WF.seq ?_
      refine WF.region ?_
      refine WL.va rfl rfl rfl (X.move e5_L0) ?_
      refine WL.va rfl rfl rfl (X.moveI e6_L0) ?_
      refine WL.va rfl rfl rfl (X.rem rfl rfl (by omega) (Pk.remU _)) ?_
      refine WL.va rfl rfl rfl (X.conv rfl (congrArg Option.isSome Try.underlying126) Try.underlying5 (Pk.low8 _)) ?_
      refine WL.op rfl (OW.lits (vs := [u8 (UInt8.ofNat (Pk.upper (Pk.bits n) k % 256))]) (evp_cons rfl evp_nil) Try.underlying46 Try.sizeOf5 Try.zeroValue5 ⟨rfl, trivial⟩ rfl rfl rfl ?_ (by decide))
      intro v6 w5 ho8 hx7
      have ho1 := ho.ext hx7
      refine WL.op rfl (OW.appendB ho1 (show Bytes _ _ [(UInt8.ofNat (Pk.upper (Pk.bits n) k % 256))] from Row.of_own ho8) rfl rfl Try.underlying46 Try.type5 rfl rfl rfl rfl (by simp; omega) ((Ext.trans hwL0 hx7)).size ?_ (by decide))
      intro v10 w9 ho12 hx11 hmvhx11
      have ho2 := ho12
      refine WL.va rfl rfl rfl (X.assign rfl) ?_
      refine WL.nil ?_
      refine thn_n ?_
      refine WF.region ?_
      refine WL.va rfl rfl rfl (X.moveI e6_L0) ?_
      refine WL.va rfl rfl rfl (X.quo rfl rfl (by omega) (Pk.quoU (by have := Pk.upper_le (Pk.bits n) k; omega))) ?_
      refine WL.va rfl rfl rfl (X.assignI rfl) ?_
      refine WL.nil ?_
      refine blk_n ?_
      refine thn_n ?_
      refine WF.region ?_
      refine WL.va rfl rfl rfl (X.moveI e7_L0) ?_
      refine WL.va rfl rfl rfl (X.add rfl rfl (w64 (by omega))) ?_
      refine WL.va rfl rfl rfl (X.assignI rfl) ?_
      refine WL.nil ?_
      exact thn_n ⟨_, (by omega), k + 1, _, rfl, rfl, rfl, rfl, (by repeat (first | exact hAL0 | refine Agree.put ?_ rfl | refine Agree.named hF2 ?_)), (Ext.own (Ext.trans hwL0 hx7) ho1 (Nat.le_refl _) hx11), ⟨by omega, ho2⟩⟩
    · have gh0_3 := (of_decide_eq_false h0_3)
      refine WF.exit ?_
      refine thn_x ?_
      refine thn_x ?_
      refine blk_eq ?_
      refine thn_n ?_
      refine WF.seq ?_
      refine WF.region ?_
      refine WL.va rfl rfl rfl (X.assign rfl) ?_
      have hk8 : k = 8 := by omega
      subst hk8
      have hlow := ho
      refine WL.nil ?_
      refine thn_n ?_
      refine WF.seq ?_
      refine WF.seq ?_
      refine WF.region ?_
      refine WL.va rfl rfl rfl (X.assignI rfl) ?_
      refine WL.nil ?_
      refine thn_n ?_
      refine WF.block ?_
      refine WF.named (fun F13 hF14 => ?_)
      refine WF.loopN (fun mL1 f' w' => ∃ (j : Nat) (vc : Value), mL1 = l.length - j ∧ f' 9 = .int .i64 (j : Int) ∧ f' 8 = vc ∧ Agree [0, 1, 4, 5, 6, 7, 11, 12, 13, 14] f' F13 ∧ Ext wL0 w' ∧ j ≤ l.length ∧ OwnB w' wL0.heap.size 5 vc (l.take j)) ?_ ?_
      · exact ⟨_, 0, (.slice none 0 0), rfl, (congrFun hF14 9), (congrFun hF14 8), (Agree.refl _ _), (Ext.refl _), ⟨Nat.zero_le _, OwnB.nil _ _ _⟩⟩
      · rintro mL1 fL1 wL1 ⟨j, vc, hmL1, e9_L1, e8_L1, hAL1, hwL1, ⟨hj, hc⟩⟩
        refine WF.seq ?_
        refine WF.seq ?_
        refine WF.region ?_
        refine WL.va rfl rfl rfl (X.moveI e9_L1) ?_
        refine WL.va rfl rfl rfl (X.move ((hAL1.eq 0).trans ((congrFun hF14 0).trans ((hAL0.eq 0).trans (congrFun hF2 0))))) ?_
        refine WL.va rfl rfl rfl (X.len hb rfl Try.underlying46) ?_
        refine WL.va rfl rfl rfl (X.lss rfl rfl) ?_
        refine WL.nil ?_
        refine thn_n ?_
        refine WF.cond rfl (fun h1_15 => ?_) (fun h1_15 => ?_)
        · have gh1_15 := (of_decide_eq_true h1_15)
          refine WF.skip ?_
          refine thn_n ?_
          refine WF.seq ?_
          refine WF.block ?_
          refine WF.region ?_
          refine WL.va rfl rfl rfl (X.move e8_L1) ?_
          refine WL.va rfl rfl rfl (X.move ((hAL1.eq 0).trans ((congrFun hF14 0).trans ((hAL0.eq 0).trans (congrFun hF2 0))))) ?_
          refine WL.va rfl rfl rfl (X.moveI e9_L1) ?_
          refine WL.va rfl rfl rfl (X.idx hb rfl rfl (by omega) Try.underlying46 Try.sizeOf5) ?_
          refine WL.va rfl rfl rfl (X.loadB hb (Ext.trans hwL0 hwL1) rfl (by omega) Try.isAgg5) ?_
          refine WL.op rfl (OW.lits (vs := [u8 (l.getD j 0)]) (evp_cons rfl evp_nil) Try.underlying46 Try.sizeOf5 Try.zeroValue5 ⟨rfl, trivial⟩ rfl rfl rfl ?_ (by decide))
          intro v18 w17 ho20 hx19
          have hc1 := hc.ext hx19
          refine WL.op rfl (OW.appendB hc1 (show Bytes _ _ [(l.getD j 0)] from Row.of_own ho20) rfl rfl Try.underlying46 Try.type5 rfl rfl rfl rfl (by simp; omega) ((Ext.trans hwL1 hx19)).size ?_ (by decide))
          intro v22 w21 ho24 hx23 hmvhx23
          have hc2 := ho24
          refine WL.va rfl rfl rfl (X.assign rfl) ?_
          refine WL.nil ?_
          refine blk_n ?_
          refine thn_n ?_
          refine WF.region ?_
          refine WL.va rfl rfl rfl (X.moveI e9_L1) ?_
          refine WL.va rfl rfl rfl (X.add rfl rfl (w64 (by omega))) ?_
          refine WL.va rfl rfl rfl (X.assignI rfl) ?_
          refine WL.nil ?_
          exact thn_n ⟨_, (by omega), j + 1, _, rfl, rfl, rfl, (by repeat (first | exact hAL1 | refine Agree.put ?_ rfl | refine Agree.sub hAL0 rfl ?_ | refine Agree.named hF14 ?_ | refine Agree.named hF2 ?_)), (Ext.own (Ext.trans hwL1 hx19) hc1 (Nat.le_refl _) hx23), ⟨by omega, by rw [take_getD _ _ (by omega)]; exact hc2⟩⟩
        · have gh1_15 := (of_decide_eq_false h1_15)
          refine WF.exit ?_
          refine thn_x ?_
          refine thn_x ?_
          refine blk_eq ?_
          refine thn_n ?_
          refine WF.seq ?_
          refine WF.seq ?_
          refine WF.region ?_
          refine WL.va rfl rfl rfl (X.assignI rfl) ?_
          refine WL.nil ?_
          refine thn_n ?_
          refine WF.block ?_
          refine WF.named (fun F25 hF26 => ?_)
          refine WF.loopN (fun mL2 f' w' => ∃ (z : Int) (vd : Value), mL2 = (z + 1).toNat ∧ f' 10 = .int .i64 z ∧ f' 8 = vd ∧ Agree [0, 1, 4, 5, 6, 7, 9, 11, 12, 13, 14, 25, 26, 27, 28] f' F25 ∧ Ext wL0 w' ∧ -1 ≤ z ∧ z ≤ 7 ∧ OwnB w' wL0.heap.size 5 vd (l ++ (Pk.enc n).take (7 - z).toNat)) ?_ ?_
          · exact ⟨_, 7, _, rfl, (congrFun hF26 10), ((congrFun hF26 8).trans e8_L1), (Agree.refl _ _), hwL1, ⟨by omega, by omega, by rw [show l.take j = l from List.take_of_length_le (by omega)] at hc; rw [show (Pk.enc n).take (7 - (7 : Int)).toNat = [] from rfl, List.append_nil]; exact hc⟩⟩
          · rintro mL2 fL2 wL2 ⟨z, vd, hmL2, e10_L2, e8_L2, hAL2, hwL2, ⟨hz1, hz2, hd⟩⟩
            refine WF.seq ?_
            refine WF.seq ?_
            refine WF.region ?_
            refine WL.va rfl rfl rfl (X.moveI e10_L2) ?_
            refine WL.va rfl rfl rfl (X.geq rfl rfl) ?_
            refine WL.nil ?_
            refine thn_n ?_
            refine WF.cond rfl (fun h2_27 => ?_) (fun h2_27 => ?_)
            · have gh2_27 := (of_decide_eq_true h2_27)
              obtain ⟨i, rfl⟩ := Int.eq_ofNat_of_zero_le gh2_27
              refine WF.skip ?_
              refine thn_n ?_
              refine WF.seq ?_
              refine WF.block ?_
              refine WF.region ?_
              refine WL.va rfl rfl rfl (X.move e8_L2) ?_
              refine WL.va rfl rfl rfl (X.move ((hAL2.eq 5).trans ((congrFun hF26 5).trans ((hAL1.eq 5).trans ((congrFun hF14 5).trans e5_L0))))) ?_
              refine WL.va rfl rfl rfl (X.moveI e10_L2) ?_
              refine WL.va rfl rfl rfl (X.idx (Bytes.of_own hlow) rfl rfl (by omega) Try.underlying46 Try.sizeOf5) ?_
              refine WL.va rfl rfl rfl (X.loadB (Bytes.of_own hlow) hwL2 rfl (by omega) Try.isAgg5) ?_
              refine WL.op rfl (OW.lits (vs := [u8 ((Pk.low (Pk.bits n) 8).getD i 0)]) (evp_cons rfl evp_nil) Try.underlying46 Try.sizeOf5 Try.zeroValue5 ⟨rfl, trivial⟩ rfl rfl rfl ?_ (by decide))
              intro v30 w29 ho32 hx31
              have hd1 := hd.ext hx31
              refine WL.op rfl (OW.appendB hd1 (show Bytes _ _ [((Pk.low (Pk.bits n) 8).getD i 0)] from Row.of_own ho32) rfl rfl Try.underlying46 Try.type5 rfl rfl rfl rfl (by simp [Pk.enc_len]; omega) ((Ext.trans hwL2 hx31)).size ?_ (by decide))
              intro v34 w33 ho36 hx35 hmvhx35
              have hd2 := ho36
              refine WL.va rfl rfl rfl (X.assign rfl) ?_
              refine WL.nil ?_
              refine blk_n ?_
              refine thn_n ?_
              refine WF.region ?_
              refine WL.va rfl rfl rfl (X.moveI e10_L2) ?_
              refine WL.va rfl rfl rfl (X.sub rfl rfl (w64 (by omega))) ?_
              refine WL.va rfl rfl rfl (X.assignI rfl) ?_
              refine WL.nil ?_
              exact thn_n ⟨_, (by omega), (i : Int) - 1, _, rfl, rfl, rfl, (by repeat (first | exact hAL2 | refine Agree.put ?_ rfl | refine Agree.sub hAL1 rfl ?_ | refine Agree.sub hAL0 rfl ?_ | refine Agree.named hF26 ?_ | refine Agree.named hF14 ?_ | refine Agree.named hF2 ?_)), (Ext.own (Ext.trans hwL2 hx31) hd1 (Nat.le_refl _) hx35), ⟨by omega, by omega, by rw [refInt_step (by omega), ← List.append_assoc]; exact hd2⟩⟩
            · have gh2_27 := (of_decide_eq_false h2_27)
              refine WF.exit ?_
              refine thn_x ?_
              refine thn_x ?_
              refine blk_eq ?_
              refine thn_n ?_
              refine WF.seq ?_
              refine WF.region ?_
              refine WL.va rfl rfl rfl (X.move e8_L2) ?_
              refine WL.va rfl rfl rfl (X.assign rfl) ?_
              refine WL.nil ?_
              refine thn_n ?_
              refine WF.ret ?_
              refine fin_r ?_
              exact ⟨own_mono (by rw [show (Pk.enc n).take (7 - z).toNat = Pk.enc n from List.take_of_length_le (by rw [Pk.enc_len]; omega)] at hd; exact hd) hwL0.size, (Ext.trans hwL0 hwL2)⟩

theorem refBlob_ok (v : Value) (l : List UInt8) (u : Value) (p : List UInt8) (w : World) (hb : Bytes w v l) (hp : Bytes w u p) (hn : l.length + p.length + 8 ≤ 140737488355320) : FnOk Try.prog 82 [v, u] w (fun r w' => OwnB w' w.heap.size 5 r (l ++ Pk.blob p) ∧ Ext w w') := by
  refine FnOk.enter (rs := [4]) Try.func82 rfl Try.ntmps82 Try.results82 rfl rfl ?_
  refine WF.seq ?_
  refine WF.region ?_
  refine WL.va rfl rfl rfl (X.assign rfl) ?_
  refine WL.nil ?_
  refine thn_n ?_
  refine WF.seq ?_
  refine WF.region ?_
  refine WL.va rfl rfl rfl (X.move rfl) ?_
  refine WL.va rfl rfl rfl (X.move rfl) ?_
  refine WL.va rfl rfl rfl (X.len hp rfl Try.underlying46) ?_
  refine WL.c rfl rfl rfl (X.call Try.call64 (evl_cons rfl (evl_cons rfl evl_nil))) (refInt_ok _ _ _ _ hb (by omega)) ?_
  rintro v2 w1 ⟨ho, hx3⟩
  refine WL.va rfl rfl rfl (X.assign rfl) ?_
  refine WL.nil ?_
  refine thn_n ?_
  refine WF.seq ?_
  refine WF.seq ?_
  refine WF.region ?_
  refine WL.va rfl rfl rfl (X.assignI rfl) ?_
  refine WL.nil ?_
  refine thn_n ?_
  refine WF.block ?_
  refine WF.named (fun F4 hF5 => ?_)
  refine WF.loopN (fun mL0 f' w' => ∃ (k : Nat) (vo : Value), mL0 = p.length - k ∧ f' 6 = .int .i64 (k : Int) ∧ f' 5 = vo ∧ Agree [0, 1, 4, 7, 8, 9, 10] f' F4 ∧ Ext w w' ∧ k ≤ p.length ∧ OwnB w' w.heap.size 5 vo (l ++ Pk.enc p.length ++ p.take k)) ?_ ?_
  · exact ⟨_, 0, _, rfl, (congrFun hF5 6), (congrFun hF5 5), (Agree.refl _ _), hx3, ⟨Nat.zero_le _, by rw [List.take_zero, List.append_nil]; exact ho⟩⟩
  · rintro mL0 fL0 wL0 ⟨k, vo, hmL0, e6_L0, e5_L0, hAL0, hwL0, ⟨hk, ho3⟩⟩
    refine WF.seq ?_
    refine WF.seq ?_
    refine WF.region ?_
    refine WL.va rfl rfl rfl (X.moveI e6_L0) ?_
    refine WL.va rfl rfl rfl (X.move ((hAL0.eq 1).trans (congrFun hF5 1))) ?_
    refine WL.va rfl rfl rfl (X.len hp rfl Try.underlying46) ?_
    refine WL.va rfl rfl rfl (X.lss rfl rfl) ?_
    refine WL.nil ?_
    refine thn_n ?_
    refine WF.cond rfl (fun h0_6 => ?_) (fun h0_6 => ?_)
    · have gh0_6 := (of_decide_eq_true h0_6)
      refine WF.skip ?_
      refine thn_n ?_
      refine WF.seq ?_
      refine WF.block ?_
      refine WF.region ?_
      refine WL.va rfl rfl rfl (X.move e5_L0) ?_
      refine WL.va rfl rfl rfl (X.move ((hAL0.eq 1).trans (congrFun hF5 1))) ?_
      refine WL.va rfl rfl rfl (X.moveI e6_L0) ?_
      refine WL.va rfl rfl rfl (X.idx hp rfl rfl (by omega) Try.underlying46 Try.sizeOf5) ?_
      refine WL.va rfl rfl rfl (X.loadB hp hwL0 rfl (by omega) Try.isAgg5) ?_
      refine WL.op rfl (OW.lits (vs := [u8 (p.getD k 0)]) (evp_cons rfl evp_nil) Try.underlying46 Try.sizeOf5 Try.zeroValue5 ⟨rfl, trivial⟩ rfl rfl rfl ?_ (by decide))
      intro v9 w8 ho11 hx10
      have ho1 := ho3.ext hx10
      refine WL.op rfl (OW.appendB ho1 (show Bytes _ _ [(p.getD k 0)] from Row.of_own ho11) rfl rfl Try.underlying46 Try.type5 rfl rfl rfl rfl (by simp [Pk.enc_len]; omega) ((Ext.trans hwL0 hx10)).size ?_ (by decide))
      intro v13 w12 ho15 hx14 hmvhx14
      have ho2 := ho15
      refine WL.va rfl rfl rfl (X.assign rfl) ?_
      refine WL.nil ?_
      refine blk_n ?_
      refine thn_n ?_
      refine WF.region ?_
      refine WL.va rfl rfl rfl (X.moveI e6_L0) ?_
      refine WL.va rfl rfl rfl (X.add rfl rfl (w64 (by omega))) ?_
      refine WL.va rfl rfl rfl (X.assignI rfl) ?_
      refine WL.nil ?_
      exact thn_n ⟨_, (by omega), k + 1, _, rfl, rfl, rfl, (by repeat (first | exact hAL0 | refine Agree.put ?_ rfl | refine Agree.named hF5 ?_)), (Ext.own (Ext.trans hwL0 hx10) ho1 (Nat.le_refl _) hx14), ⟨by omega, by rw [take_getD _ _ (by omega), ← List.append_assoc]; exact ho2⟩⟩
    · have gh0_6 := (of_decide_eq_false h0_6)
      refine WF.exit ?_
      refine thn_x ?_
      refine thn_x ?_
      refine blk_eq ?_
      refine thn_n ?_
      refine WF.seq ?_
      refine WF.region ?_
      refine WL.va rfl rfl rfl (X.move e5_L0) ?_
      refine WL.va rfl rfl rfl (X.assign rfl) ?_
      refine WL.nil ?_
      refine thn_n ?_
      refine WF.ret ?_
      refine fin_r ?_
      exact ⟨by rw [show p.take k = p from List.take_of_length_le (by omega)] at ho3; unfold Pk.blob; rw [← List.append_assoc]; exact ho3, hwL0⟩

end Go.Proofs.Ytpimnlgfhpnjnaa
