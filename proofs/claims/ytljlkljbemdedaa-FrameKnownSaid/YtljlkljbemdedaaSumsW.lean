/- The walks of the check sums: each function comes to what Crc says. -/
import Derived.Test.YtljlkljbemdedaaProg
import Derived.Test.YtljlkljbemdedaaBits
import Derived.Test.YtljlkljbemdedaaCrc
namespace Go.Proofs.Ytljlkljbemdedaa
open Go Go.RowKit Kf

theorem kept_ne0 {la l : List UInt8} (h : (la.length : Int) ≠ (l.length : Int) + 5) : la ≠ l ++ List.replicate 5 0xA5 := fun e => by
  apply h; rw [e]; simp
theorem kept_ne1 {la l : List UInt8} (h : decide ((la.drop 0).take (l.length - 0) = l) = false) : la ≠ l ++ List.replicate 5 0xA5 := fun e => by
  rw [e] at h; simp at h
theorem kept_ne2 {la l : List UInt8} {k : Nat} (h1 : l.length ≤ k) (h2 : k < l.length + 5) (h : ¬ la.getD k 0 = 0xA5) : la ≠ l ++ List.replicate 5 0xA5 := fun e => by
  apply h
  rw [e, List.getD_eq_getElem?_getD, List.getElem?_append_right h1, List.getElem?_replicate, if_pos (by omega)]
  rfl
theorem kept_eq {la l : List UInt8} (h : la.length = l.length + 5) (hp : decide ((la.drop 0).take (l.length - 0) = l) = true) (hm : ∀ i, l.length ≤ i → i < la.length → la.getD i 0 = 0xA5) : la = l ++ List.replicate 5 0xA5 := by
  have hp := of_decide_eq_true hp
  simp only [List.drop_zero, Nat.sub_zero] at hp
  conv => lhs; rw [← List.take_append_drop l.length la, hp]
  congr 1
  apply List.ext_getElem?
  intro i
  rw [List.getElem?_drop, List.getElem?_replicate]
  by_cases hi : i < 5
  · rw [if_pos hi]
    have := hm (l.length + i) (by omega) (by omega)
    rw [List.getD_eq_getElem?_getD, List.getElem?_eq_getElem (by omega)] at this
    rw [List.getElem?_eq_getElem (by omega)]
    simpa using this
  · rw [if_neg hi, List.getElem?_eq_none (by omega)]
theorem lent_part {w : World} {B : Nat} {v : Value} {l : List UInt8} (ho : OwnB w B 5 v (l ++ List.replicate 5 0xA5)) : Bytes w (Kf.part v 0 l.length 1) l := by
  have := Bytes.part (Bytes.of_own ho) 0 l.length (Nat.zero_le _) (by simp)
  simpa using this
theorem spoil_trans {a b c : World} {r : Option Nat} (h : a.grownBy b r) (k : b.grownBy c r) : a.grownBy c r :=
  ⟨k.os.trans h.os, k.tape.trans h.tape, k.output.trans h.output, Nat.le_trans h.size k.size, fun i hi hn => (k.block i (Nat.lt_of_lt_of_le hi h.size) hn).trans (h.block i hi hn)⟩
theorem lent_step1 {l L : List UInt8} {k : Nat} {w : World} {B : Nat} {v : Value} (_hk : k ≤ l.length + 5) (hL : L.length = l.length + 5) (hLk : L.take k = (l ++ List.replicate 5 0xA5).take k) (h : k < l.length)
    (ho : OwnB w B 5 v ((L.set k 0xA5).set k (l.getD k 0))) : k + 1 ≤ l.length + 5 ∧ ((L.set k 0xA5).set k (l.getD k 0)).length = l.length + 5 ∧ ((L.set k 0xA5).set k (l.getD k 0)).take (k + 1) = (l ++ List.replicate 5 0xA5).take (k + 1) ∧ OwnB w B 5 v ((L.set k 0xA5).set k (l.getD k 0)) := by
  refine ⟨by omega, by simp [hL], ?_, ho⟩
  rw [List.set_set, take_set_succ _ _ _ (by omega), hLk, take_getD _ _ (by simp; omega)]
  rw [List.getD_eq_getElem?_getD, List.getD_eq_getElem?_getD, List.getElem?_append_left h]
theorem lent_step2 {l L : List UInt8} {k : Nat} {w : World} {B : Nat} {v : Value} (_hk : k ≤ l.length + 5) (hL : L.length = l.length + 5) (hLk : L.take k = (l ++ List.replicate 5 0xA5).take k) (h : l.length ≤ k) (h2 : k < l.length + 5)
    (ho : OwnB w B 5 v (L.set k 0xA5)) : k + 1 ≤ l.length + 5 ∧ (L.set k 0xA5).length = l.length + 5 ∧ (L.set k 0xA5).take (k + 1) = (l ++ List.replicate 5 0xA5).take (k + 1) ∧ OwnB w B 5 v (L.set k 0xA5) := by
  refine ⟨by omega, by simp [hL], ?_, ho⟩
  rw [take_set_succ _ _ _ (by omega), hLk, take_getD _ _ (by simp; omega)]
  have : (l ++ List.replicate 5 (0xA5 : UInt8)).getD k 0 = 0xA5 := by
    simp only [List.getD_eq_getElem?_getD]
    rw [List.getElem?_append_right h, List.getElem?_replicate, if_pos (by omega)]
    rfl
  rw [this]
theorem sameBytes_ok (va vb : Value) (la lb : List UInt8) (w : World) (ha : Bytes w va la) (hb : Bytes w vb lb) : FnOk Try.prog 27 [va, vb] w (fun r w' => r = .bool (decide (la = lb)) ∧ Ext w w') := by
  have hla := ha.le64
  have hlb := hb.le64
  refine FnOk.enter (rs := [4]) Try.func27 rfl Try.ntmps27 Try.results27 rfl rfl ?_
  refine WF.seq ?_
  refine WF.region ?_
  refine WL.va rfl rfl rfl (X.assignB rfl) ?_
  refine WL.nil ?_
  refine thn_n ?_
  refine WF.seq ?_
  refine WF.seq ?_
  refine WF.region ?_
  refine WL.va rfl rfl rfl (X.move rfl) ?_
  refine WL.va rfl rfl rfl (X.len ha rfl Try.underlying22) ?_
  refine WL.va rfl rfl rfl (X.move rfl) ?_
  refine WL.va rfl rfl rfl (X.len hb rfl Try.underlying22) ?_
  refine WL.va rfl rfl rfl (X.neq rfl rfl) ?_
  refine WL.nil ?_
  refine thn_n ?_
  refine WF.cond rfl (fun h0_2 => ?_) (fun h0_2 => ?_)
  · have gh0_2 := (of_decide_eq_true h0_2)
    have hlen := gh0_2
    have hne : la ≠ lb := fun e => by rw [e] at gh0_2; exact gh0_2 rfl
    refine WF.seq ?_
    refine WF.region ?_
    refine WL.va rfl rfl rfl (X.assignB rfl) ?_
    refine WL.nil ?_
    refine thn_n ?_
    refine WF.ret ?_
    refine thn_r ?_
    refine fin_r ?_
    exact ⟨congrArg Value.bool (decide_eq_false hne).symm, (Ext.refl _)⟩
  · have gh0_2 := (Decidable.of_not_not (of_decide_eq_false h0_2))
    have hlen := gh0_2
    refine WF.skip ?_
    refine thn_n ?_
    refine WF.seq ?_
    refine WF.seq ?_
    refine WF.region ?_
    refine WL.va rfl rfl rfl (X.assignI rfl) ?_
    refine WL.nil ?_
    refine thn_n ?_
    refine WF.block ?_
    refine WF.named (fun F5 hF6 => ?_)
    refine WF.loopN (fun mL0 f' w' => ∃ (k : Nat), mL0 = la.length - k ∧ f' 5 = .int .i64 (k : Int) ∧ Agree [0, 1, 6, 7, 8, 9, 10] f' F5 ∧ Ext w w' ∧ k ≤ la.length ∧ la.take k = lb.take k) ?_ ?_
    · exact ⟨_, 0, rfl, (congrFun hF6 5), (Agree.refl _ _), (Ext.refl _), ⟨Nat.zero_le _, rfl⟩⟩
    · rintro mL0 fL0 wL0 ⟨k, hmL0, e5_L0, hAL0, hwL0, ⟨hk, hkk⟩⟩
      refine WF.seq ?_
      refine WF.seq ?_
      refine WF.region ?_
      refine WL.va rfl rfl rfl (X.moveI e5_L0) ?_
      refine WL.va rfl rfl rfl (X.move ((hAL0.eq 0).trans (congrFun hF6 0))) ?_
      refine WL.va rfl rfl rfl (X.len ha rfl Try.underlying22) ?_
      refine WL.va rfl rfl rfl (X.lss rfl rfl) ?_
      refine WL.nil ?_
      refine thn_n ?_
      refine WF.cond rfl (fun h1_7 => ?_) (fun h1_7 => ?_)
      · have gh1_7 := (of_decide_eq_true h1_7)
        have hlt := gh1_7
        refine WF.skip ?_
        refine thn_n ?_
        refine WF.seq ?_
        refine WF.block ?_
        refine WF.seq ?_
        refine WF.drawn (.q 0 (.q 1 (.q 2 (.q 3 (.q 4 (.q 5 (.q 6 (.q 7 (.q 8 .nil))))))))) (fun w' => Ext wL0 w') 9 (by kernel_rfl) (by kernel_rfl) (Ext.drew _) ?_
        refine WO.q rfl rfl rfl rfl (fun w' hE9 => (X.move ((hAL0.eq 0).trans (congrFun hF6 0)))) ?_
        refine WO.q rfl rfl rfl rfl (fun w' hE9 => (X.moveI e5_L0)) ?_
        refine WO.q rfl rfl rfl rfl (fun w' hE9 => (X.idx ha rfl rfl (by omega) Try.underlying22 Try.sizeOf5)) ?_
        refine WO.q rfl rfl rfl rfl (fun w' hE9 => (X.loadB ha (Ext.trans hwL0 hE9) rfl (by omega) Try.isAgg5)) ?_
        refine WO.q rfl rfl rfl rfl (fun w' hE9 => (X.move ((hAL0.eq 1).trans (congrFun hF6 1)))) ?_
        refine WO.q rfl rfl rfl rfl (fun w' hE9 => (X.moveI e5_L0)) ?_
        refine WO.q rfl rfl rfl rfl (fun w' hE9 => (X.idx hb rfl rfl (by omega) Try.underlying22 Try.sizeOf5)) ?_
        refine WO.q rfl rfl rfl rfl (fun w' hE9 => (X.loadB hb (Ext.trans hwL0 hE9) rfl (by omega) Try.isAgg5)) ?_
        refine WO.q rfl rfl rfl rfl (fun w' hE9 => (X.neq rfl rfl)) ?_
        refine WO.nil ?_
        refine WL.nil ?_
        refine thn_n ?_
        refine WF.cond rfl (fun h2_10 => ?_) (fun h2_10 => ?_)
        · have gh2_10 := (of_decide_eq_true h2_10)
          have hne : la ≠ lb := fun e => gh2_10 (by subst e; rfl)
          refine WF.seq ?_
          refine WF.region ?_
          refine WL.va rfl rfl rfl (X.assignB rfl) ?_
          refine WL.nil ?_
          refine thn_n ?_
          refine WF.ret ?_
          refine blk_r ?_
          refine thn_r ?_
          refine thn_r ?_
          refine blk_r ?_
          refine thn_r ?_
          refine fin_r ?_
          exact ⟨congrArg Value.bool (decide_eq_false hne).symm, (Ext.trans hwL0 (Ext.drew _))⟩
        · have gh2_10 := (Decidable.of_not_not (of_decide_eq_false h2_10))
          have heq := gh2_10
          refine WF.skip ?_
          refine blk_n ?_
          refine thn_n ?_
          refine WF.region ?_
          refine WL.va rfl rfl rfl (X.moveI e5_L0) ?_
          refine WL.va rfl rfl rfl (X.add rfl rfl (w64 (by omega))) ?_
          refine WL.va rfl rfl rfl (X.assignI rfl) ?_
          refine WL.nil ?_
          exact thn_n ⟨_, (by omega), k + 1, rfl, rfl, (by repeat (first | exact hAL0 | refine Agree.put ?_ rfl | refine Agree.named hF6 ?_)), (Ext.trans hwL0 (Ext.drew _)), ⟨by omega, by rw [take_getD _ _ (by omega), take_getD _ _ (by omega), hkk, byte_eq heq]⟩⟩
      · have gh1_7 := (of_decide_eq_false h1_7)
        have hlt := gh1_7
        refine WF.exit ?_
        refine thn_x ?_
        refine thn_x ?_
        refine blk_eq ?_
        refine thn_n ?_
        refine WF.seq ?_
        refine WF.region ?_
        refine WL.va rfl rfl rfl (X.assignB rfl) ?_
        refine WL.nil ?_
        refine thn_n ?_
        refine WF.ret ?_
        refine fin_r ?_
        exact ⟨congrArg Value.bool (decide_eq_true (by rw [List.take_of_length_le (by omega), List.take_of_length_le (by omega)] at hkk; exact hkk)).symm, hwL0⟩

theorem copyBytes_ok (v : Value) (l : List UInt8) (w : World) (hb : Bytes w v l) (hm : l.length ≤ 140737488355328) : FnOk Try.prog 21 [v] w (fun r w' => OwnB w' w.heap.size 5 r l ∧ Ext w w') := by
  have hl := hb.le64
  refine FnOk.enter (rs := [2]) Try.func21 rfl Try.ntmps21 Try.results21 rfl rfl ?_
  refine WF.seq ?_
  refine WF.region ?_
  refine WL.va rfl rfl rfl (X.assign rfl) ?_
  refine WL.nil ?_
  refine thn_n ?_
  refine WF.seq ?_
  refine WF.region ?_
  refine WL.va rfl rfl rfl (X.assign rfl) ?_
  refine WL.nil ?_
  refine thn_n ?_
  refine WF.seq ?_
  refine WF.seq ?_
  refine WF.region ?_
  refine WL.va rfl rfl rfl (X.assignI rfl) ?_
  refine WL.nil ?_
  refine thn_n ?_
  refine WF.block ?_
  refine WF.named (fun F1 hF2 => ?_)
  refine WF.loopN (fun mL0 f' w' => ∃ (k : Nat) (vo : Value), mL0 = l.length - k ∧ f' 4 = .int .i64 (k : Int) ∧ f' 3 = vo ∧ Agree [0, 2] f' F1 ∧ Ext w w' ∧ k ≤ l.length ∧ OwnB w' w.heap.size 5 vo (l.take k)) ?_ ?_
  · exact ⟨_, 0, (.slice none 0 0), rfl, (congrFun hF2 4), (congrFun hF2 3), (Agree.refl _ _), (Ext.refl _), ⟨Nat.zero_le _, OwnB.nil _ _ _⟩⟩
  · rintro mL0 fL0 wL0 ⟨k, vo, hmL0, e4_L0, e3_L0, hAL0, hwL0, ⟨hk, ho⟩⟩
    refine WF.seq ?_
    refine WF.seq ?_
    refine WF.region ?_
    refine WL.va rfl rfl rfl (X.moveI e4_L0) ?_
    refine WL.va rfl rfl rfl (X.move ((hAL0.eq 0).trans (congrFun hF2 0))) ?_
    refine WL.va rfl rfl rfl (X.len hb rfl Try.underlying22) ?_
    refine WL.va rfl rfl rfl (X.lss rfl rfl) ?_
    refine WL.nil ?_
    refine thn_n ?_
    refine WF.cond rfl (fun h0_3 => ?_) (fun h0_3 => ?_)
    · have gh0_3 := (of_decide_eq_true h0_3)
      refine WF.skip ?_
      refine thn_n ?_
      refine WF.seq ?_
      refine WF.block ?_
      refine WF.region ?_
      refine WL.va rfl rfl rfl (X.move e3_L0) ?_
      refine WL.va rfl rfl rfl (X.move ((hAL0.eq 0).trans (congrFun hF2 0))) ?_
      refine WL.va rfl rfl rfl (X.moveI e4_L0) ?_
      refine WL.va rfl rfl rfl (X.idx hb rfl rfl (by omega) Try.underlying22 Try.sizeOf5) ?_
      refine WL.va rfl rfl rfl (X.loadB hb hwL0 rfl (by omega) Try.isAgg5) ?_
      refine WL.op rfl (OW.lits (vs := [u8 (l.getD k 0)]) (evp_cons rfl evp_nil) Try.underlying22 Try.sizeOf5 Try.zeroValue5 ⟨rfl, trivial⟩ rfl rfl rfl ?_ (by decide))
      intro v6 w5 ho8 hx7
      have ho1 := ho.ext hx7
      refine WL.op rfl (OW.appendB ho1 (show Bytes _ _ [(l.getD k 0)] from Row.of_own ho8) rfl rfl Try.underlying22 Try.type5 rfl rfl rfl rfl (by simp; omega) ((Ext.trans hwL0 hx7)).size ?_ (by decide))
      intro v10 w9 ho12 hx11 hmvhx11
      have ho2 := ho12
      refine WL.va rfl rfl rfl (X.assign rfl) ?_
      refine WL.nil ?_
      refine blk_n ?_
      refine thn_n ?_
      refine WF.region ?_
      refine WL.va rfl rfl rfl (X.moveI e4_L0) ?_
      refine WL.va rfl rfl rfl (X.add rfl rfl (w64 (by omega))) ?_
      refine WL.va rfl rfl rfl (X.assignI rfl) ?_
      refine WL.nil ?_
      exact thn_n ⟨_, (by omega), k + 1, _, rfl, rfl, rfl, (by repeat (first | exact hAL0 | refine Agree.put ?_ rfl | refine Agree.named hF2 ?_)), (Ext.own (Ext.trans hwL0 hx7) ho1 (Nat.le_refl _) hx11), ⟨by omega, by rw [take_getD _ _ (by omega)]; exact ho2⟩⟩
    · have gh0_3 := (of_decide_eq_false h0_3)
      refine WF.exit ?_
      refine thn_x ?_
      refine thn_x ?_
      refine blk_eq ?_
      refine thn_n ?_
      refine WF.seq ?_
      refine WF.region ?_
      refine WL.va rfl rfl rfl (X.move e3_L0) ?_
      refine WL.va rfl rfl rfl (X.assign rfl) ?_
      refine WL.nil ?_
      refine thn_n ?_
      refine WF.ret ?_
      refine fin_r ?_
      exact ⟨by rw [show l.take k = l from List.take_of_length_le (by omega)] at ho; exact ho, hwL0⟩

theorem lentBytes_ok (v : Value) (l : List UInt8) (w : World) (hb : Bytes w v l) (hm : l.length ≤ 281474976710651) : FnOk Try.prog 14 [v] w (fun r w' => OwnB w' w.heap.size 5 r (l ++ List.replicate 5 0xA5) ∧ Ext w w') := by
  have hl := hb.le64
  refine FnOk.enter (rs := [2]) Try.func14 rfl Try.ntmps14 Try.results14 rfl rfl ?_
  refine WF.seq ?_
  refine WF.region ?_
  refine WL.va rfl rfl rfl (X.assign rfl) ?_
  refine WL.nil ?_
  refine thn_n ?_
  refine WF.seq ?_
  refine WF.region ?_
  refine WL.va rfl rfl rfl (X.move rfl) ?_
  refine WL.va rfl rfl rfl (X.len hb rfl Try.underlying22) ?_
  refine WL.va rfl rfl rfl (X.add rfl rfl (w64 (by omega))) ?_
  refine WL.op rfl (OW.makeB (n := l.length + 5) rfl rfl Try.underlying22 Try.type5 rfl rfl rfl (by omega) ?_ (by decide))
  intro v2 w1 ho4 hx3
  have hmk := ho4
  obtain ⟨vm, hvm⟩ : ∃ vm, vm = v2 := ⟨_, rfl⟩
  subst hvm
  refine WL.va rfl rfl rfl (X.assign rfl) ?_
  refine WL.nil ?_
  refine thn_n ?_
  refine WF.seq ?_
  refine WF.seq ?_
  refine WF.region ?_
  refine WL.va rfl rfl rfl (X.assignI rfl) ?_
  refine WL.nil ?_
  refine thn_n ?_
  refine WF.block ?_
  refine WF.named (fun F5 hF6 => ?_)
  refine WF.loopN (fun mL0 f' w' => ∃ (k : Nat) (L : List UInt8), mL0 = l.length + 5 - k ∧ f' 4 = .int .i64 (k : Int) ∧ Agree [0, 2, 3, 5, 6, 7, 8] f' F5 ∧ Ext w w' ∧ k ≤ l.length + 5 ∧ L.length = l.length + 5 ∧ L.take k = (l ++ List.replicate 5 0xA5).take k ∧ OwnB w' w.heap.size 5 vm L) ?_ ?_
  · exact ⟨_, 0, List.replicate (l.length + 5) 0, rfl, (congrFun hF6 4), (Agree.refl _ _), hx3, ⟨Nat.zero_le _, by simp, by simp, hmk⟩⟩
  · rintro mL0 fL0 wL0 ⟨k, L, hmL0, e4_L0, hAL0, hwL0, ⟨hk, hL, hLk, ho⟩⟩
    refine WF.seq ?_
    refine WF.seq ?_
    refine WF.region ?_
    refine WL.va rfl rfl rfl (X.moveI e4_L0) ?_
    refine WL.va rfl rfl rfl (X.move ((hAL0.eq 3).trans (congrFun hF6 3))) ?_
    refine WL.va rfl rfl rfl (X.len (Bytes.of_own ho) rfl Try.underlying22) ?_
    refine WL.va rfl rfl rfl (X.lss rfl rfl) ?_
    refine WL.nil ?_
    refine thn_n ?_
    refine WF.cond rfl (fun h0_7 => ?_) (fun h0_7 => ?_)
    · have gh0_7 := (of_decide_eq_true h0_7)
      refine WF.skip ?_
      refine thn_n ?_
      refine WF.seq ?_
      refine WF.block ?_
      refine WF.seq ?_
      refine WF.region ?_
      refine WL.va rfl rfl rfl (X.move ((hAL0.eq 3).trans (congrFun hF6 3))) ?_
      refine WL.va rfl rfl rfl (X.moveI e4_L0) ?_
      refine WL.va rfl rfl rfl (X.idx (Bytes.of_own ho) rfl rfl (by omega) Try.underlying22 Try.sizeOf5) ?_
      refine WL.op rfl (OW.storeB (c := 0xA5) ho (by omega) rfl rfl Try.sizeOf5 ?_)
      intro w9 ho12 hx11
      have ho1 := ho12
      refine WL.nil ?_
      refine thn_n ?_
      refine WF.seq ?_
      refine WF.region ?_
      refine WL.va rfl rfl rfl (X.moveI e4_L0) ?_
      refine WL.va rfl rfl rfl (X.move ((hAL0.eq 0).trans (congrFun hF6 0))) ?_
      refine WL.va rfl rfl rfl (X.len hb rfl Try.underlying22) ?_
      refine WL.va rfl rfl rfl (X.lss rfl rfl) ?_
      refine WL.nil ?_
      refine thn_n ?_
      refine WF.cond rfl (fun h1_13 => ?_) (fun h1_13 => ?_)
      · have gh1_13 := (of_decide_eq_true h1_13)
        have hlt := gh1_13
        refine WF.region ?_
        refine WL.va rfl rfl rfl (X.move ((hAL0.eq 3).trans (congrFun hF6 3))) ?_
        refine WL.va rfl rfl rfl (X.moveI e4_L0) ?_
        refine WL.va rfl rfl rfl (X.move ((hAL0.eq 0).trans (congrFun hF6 0))) ?_
        refine WL.va rfl rfl rfl (X.moveI e4_L0) ?_
        refine WL.va rfl rfl rfl (X.idx hb rfl rfl (by omega) Try.underlying22 Try.sizeOf5) ?_
        refine WL.va rfl rfl rfl (X.loadB hb (Ext.own hwL0 ho (Nat.le_refl _) hx11) rfl (by omega) Try.isAgg5) ?_
        refine WL.va rfl rfl rfl (X.idx (Bytes.of_own ho) rfl rfl (by omega) Try.underlying22 Try.sizeOf5) ?_
        refine WL.op rfl (OW.storeB ho1 (by simp; omega) rfl rfl Try.sizeOf5 ?_)
        intro w15 ho18 hx17
        have ho2 := ho18
        refine WL.nil ?_
        refine blk_n ?_
        refine thn_n ?_
        refine WF.region ?_
        refine WL.va rfl rfl rfl (X.moveI e4_L0) ?_
        refine WL.va rfl rfl rfl (X.add rfl rfl (w64 (by omega))) ?_
        refine WL.va rfl rfl rfl (X.assignI rfl) ?_
        refine WL.nil ?_
        exact thn_n ⟨_, (by omega), k + 1, _, rfl, rfl, (by repeat (first | exact hAL0 | refine Agree.put ?_ rfl | refine Agree.named hF6 ?_)), (Ext.own (Ext.own hwL0 ho (Nat.le_refl _) hx11) ho1 (Nat.le_refl _) hx17), (by first | exact lent_step1 hk hL hLk (by omega) ho2 | exact lent_step2 hk hL hLk (by omega) (by omega) ho1)⟩
      · have gh1_13 := (of_decide_eq_false h1_13)
        have hlt := gh1_13
        refine WF.skip ?_
        refine blk_n ?_
        refine thn_n ?_
        refine WF.region ?_
        refine WL.va rfl rfl rfl (X.moveI e4_L0) ?_
        refine WL.va rfl rfl rfl (X.add rfl rfl (w64 (by omega))) ?_
        refine WL.va rfl rfl rfl (X.assignI rfl) ?_
        refine WL.nil ?_
        exact thn_n ⟨_, (by omega), k + 1, _, rfl, rfl, (by repeat (first | exact hAL0 | refine Agree.put ?_ rfl | refine Agree.named hF6 ?_)), (Ext.own hwL0 ho (Nat.le_refl _) hx11), (by first | exact lent_step1 hk hL hLk (by omega) ho2 | exact lent_step2 hk hL hLk (by omega) (by omega) ho1)⟩
    · have gh0_7 := (of_decide_eq_false h0_7)
      refine WF.exit ?_
      refine thn_x ?_
      refine thn_x ?_
      refine blk_eq ?_
      refine thn_n ?_
      refine WF.seq ?_
      refine WF.region ?_
      refine WL.va rfl rfl rfl (X.move ((hAL0.eq 3).trans (congrFun hF6 3))) ?_
      refine WL.va rfl rfl rfl (X.assign rfl) ?_
      refine WL.nil ?_
      refine thn_n ?_
      refine WF.ret ?_
      refine fin_r ?_
      exact ⟨by rw [show L = l ++ List.replicate 5 0xA5 from by rw [List.take_of_length_le (by omega), List.take_of_length_le (by simp; omega)] at hLk; exact hLk] at ho; exact ho, hwL0⟩

theorem keptBytes_ok (va vl : Value) (la l : List UInt8) (w : World) (ha : Bytes w va la) (hb : Bytes w vl l) (hm : l.length ≤ 281474976710651) : FnOk Try.prog 19 [va, vl] w (fun r w' => r = .bool (decide (la = l ++ List.replicate 5 0xA5)) ∧ Ext w w') := by
  have hla := ha.le
  have hlb := hb.le
  unfold maxLen at hla hlb
  refine FnOk.enter (rs := [4]) Try.func19 rfl Try.ntmps19 Try.results19 rfl rfl ?_
  refine WF.seq ?_
  refine WF.region ?_
  refine WL.va rfl rfl rfl (X.assignB rfl) ?_
  refine WL.nil ?_
  refine thn_n ?_
  refine WF.seq ?_
  refine WF.seq ?_
  refine WF.region ?_
  refine WL.va rfl rfl rfl (X.move rfl) ?_
  refine WL.va rfl rfl rfl (X.len ha rfl Try.underlying22) ?_
  refine WL.va rfl rfl rfl (X.move rfl) ?_
  refine WL.va rfl rfl rfl (X.len hb rfl Try.underlying22) ?_
  refine WL.va rfl rfl rfl (X.add rfl rfl (w64 (by omega))) ?_
  refine WL.va rfl rfl rfl (X.neq rfl rfl) ?_
  refine WL.va rfl rfl rfl (X.moveB rfl) ?_
  refine WL.split (j := 6) rfl (fun h3 => ?_) (fun h3 => ?_)
  · have gh3 := (of_decide_eq_true h3)
    refine WL.p rfl rfl rfl (congrArg some h3) ?_
    refine WL.p rfl rfl rfl (congrArg some h3) ?_
    refine WL.p rfl rfl rfl (congrArg some h3) ?_
    refine WL.p rfl rfl rfl (congrArg some h3) ?_
    refine WL.p rfl rfl rfl (congrArg some h3) ?_
    refine WL.p rfl rfl rfl (congrArg some h3) ?_
    refine WL.p rfl rfl rfl (congrArg some h3) ?_
    refine WL.va rfl rfl rfl (X.pickT rfl h3 rfl) ?_
    refine WL.nil ?_
    refine thn_n ?_
    refine WF.cond_t rfl ?_
    refine WF.seq ?_
    refine WF.region ?_
    refine WL.va rfl rfl rfl (X.assignB rfl) ?_
    refine WL.nil ?_
    refine thn_n ?_
    refine WF.ret ?_
    refine thn_r ?_
    refine fin_r ?_
    first | exact ⟨congrArg Value.bool (decide_eq_false (kept_ne0 (by omega))).symm, (Ext.refl _)⟩ | exact ⟨congrArg Value.bool (decide_eq_false (kept_ne1 (by assumption))).symm, (Ext.refl _)⟩
  · have gh3 := (Decidable.of_not_not (of_decide_eq_false h3))
    refine WL.vg rfl (congrArg some h3) rfl rfl (X.move rfl) ?_
    refine WL.vg rfl (congrArg some h3) rfl rfl (X.move rfl) ?_
    refine WL.vg rfl (congrArg some h3) rfl rfl (X.len hb rfl Try.underlying22) ?_
    refine WL.vg rfl (congrArg some h3) rfl rfl (X.slH ha rfl rfl (by omega) Try.underlying22 Try.sizeOf5) ?_
    refine WL.vg rfl (congrArg some h3) rfl rfl (X.move rfl) ?_
    refine WL.cg rfl (congrArg some h3) rfl rfl (X.call Try.call27 (evl_cons rfl (evl_cons rfl evl_nil))) (sameBytes_ok _ _ _ _ _ (Bytes.part ha 0 l.length (Nat.zero_le _) (by omega)) hb) ?_
    rintro v7 w6 ⟨rfl, hx8⟩
    refine WL.vg rfl (congrArg some h3) rfl rfl (X.not rfl) ?_
    refine WL.va rfl rfl rfl (X.pickF rfl h3 rfl) ?_
    refine WL.nil ?_
    refine thn_n ?_
    refine WF.cond rfl (fun h0_10 => ?_) (fun h0_10 => ?_)
    · have gh0_10 := (nt h0_10)
      have hq := gh0_10
      refine WF.seq ?_
      refine WF.region ?_
      refine WL.va rfl rfl rfl (X.assignB rfl) ?_
      refine WL.nil ?_
      refine thn_n ?_
      refine WF.ret ?_
      refine thn_r ?_
      refine fin_r ?_
      first | exact ⟨congrArg Value.bool (decide_eq_false (kept_ne0 (by omega))).symm, hx8⟩ | exact ⟨congrArg Value.bool (decide_eq_false (kept_ne1 (by assumption))).symm, hx8⟩
    · have gh0_10 := (nf h0_10)
      have hq := gh0_10
      refine WF.skip ?_
      refine thn_n ?_
      refine WF.seq ?_
      refine WF.seq ?_
      refine WF.region ?_
      refine WL.va rfl rfl rfl (X.move rfl) ?_
      refine WL.va rfl rfl rfl (X.len hb rfl Try.underlying22) ?_
      refine WL.va rfl rfl rfl (X.assignI rfl) ?_
      refine WL.nil ?_
      refine thn_n ?_
      refine WF.block ?_
      refine WF.named (fun F13 hF14 => ?_)
      refine WF.loopN (fun mL0 f' w' => ∃ (k : Nat), mL0 = la.length - k ∧ f' 5 = .int .i64 (k : Int) ∧ Agree [0, 1, 6, 7, 8, 9, 10, 11, 12, 13, 14, 15, 16, 17, 18, 19, 20, 21, 22] f' F13 ∧ Ext w w' ∧ l.length ≤ k ∧ k ≤ la.length ∧ ∀ i, l.length ≤ i → i < k → la.getD i 0 = 0xA5) ?_ ?_
      · exact ⟨_, l.length, rfl, (congrFun hF14 5), (Agree.refl _ _), hx8, ⟨Nat.le_refl _, by omega, by intro i h1 h2; omega⟩⟩
      · rintro mL0 fL0 wL0 ⟨k, hmL0, e5_L0, hAL0, hwL0, ⟨hk0, hk, hkk⟩⟩
        refine WF.seq ?_
        refine WF.seq ?_
        refine WF.region ?_
        refine WL.va rfl rfl rfl (X.moveI e5_L0) ?_
        refine WL.va rfl rfl rfl (X.move ((hAL0.eq 0).trans (congrFun hF14 0))) ?_
        refine WL.va rfl rfl rfl (X.len ha rfl Try.underlying22) ?_
        refine WL.va rfl rfl rfl (X.lss rfl rfl) ?_
        refine WL.nil ?_
        refine thn_n ?_
        refine WF.cond rfl (fun h1_15 => ?_) (fun h1_15 => ?_)
        · have gh1_15 := (of_decide_eq_true h1_15)
          have hlt := gh1_15
          refine WF.skip ?_
          refine thn_n ?_
          refine WF.seq ?_
          refine WF.block ?_
          refine WF.seq ?_
          refine WF.region ?_
          refine WL.va rfl rfl rfl (X.move ((hAL0.eq 0).trans (congrFun hF14 0))) ?_
          refine WL.va rfl rfl rfl (X.moveI e5_L0) ?_
          refine WL.va rfl rfl rfl (X.idx ha rfl rfl (by omega) Try.underlying22 Try.sizeOf5) ?_
          refine WL.va rfl rfl rfl (X.loadB ha hwL0 rfl (by omega) Try.isAgg5) ?_
          refine WL.va rfl rfl rfl (X.neq rfl rfl) ?_
          refine WL.nil ?_
          refine thn_n ?_
          refine WF.cond rfl (fun h2_17 => ?_) (fun h2_17 => ?_)
          · have gh2_17 := (of_decide_eq_true h2_17)
            have hne : la ≠ l ++ List.replicate 5 0xA5 := kept_ne2 (by omega) (by omega) (fun e => gh2_17 (by rw [e]; rfl))
            refine WF.seq ?_
            refine WF.region ?_
            refine WL.va rfl rfl rfl (X.assignB rfl) ?_
            refine WL.nil ?_
            refine thn_n ?_
            refine WF.ret ?_
            refine blk_r ?_
            refine thn_r ?_
            refine thn_r ?_
            refine blk_r ?_
            refine thn_r ?_
            refine fin_r ?_
            exact ⟨congrArg Value.bool (decide_eq_false hne).symm, hwL0⟩
          · have gh2_17 := (Decidable.of_not_not (of_decide_eq_false h2_17))
            have hm5 : ((la.getD k 0).toNat : Int) = ((0xA5 : UInt8).toNat : Int) := gh2_17
            refine WF.skip ?_
            refine blk_n ?_
            refine thn_n ?_
            refine WF.region ?_
            refine WL.va rfl rfl rfl (X.moveI e5_L0) ?_
            refine WL.va rfl rfl rfl (X.add rfl rfl (w64 (by omega))) ?_
            refine WL.va rfl rfl rfl (X.assignI rfl) ?_
            refine WL.nil ?_
            exact thn_n ⟨_, (by omega), k + 1, rfl, rfl, (by repeat (first | exact hAL0 | refine Agree.put ?_ rfl | refine Agree.named hF14 ?_)), hwL0, ⟨by omega, by omega, fun i h1 h2 => by rcases Nat.lt_succ_iff_lt_or_eq.1 h2 with h | rfl; exact hkk i h1 h; exact byte_eq hm5⟩⟩
        · have gh1_15 := (of_decide_eq_false h1_15)
          have hlt := gh1_15
          refine WF.exit ?_
          refine thn_x ?_
          refine thn_x ?_
          refine blk_eq ?_
          refine thn_n ?_
          refine WF.seq ?_
          refine WF.region ?_
          refine WL.va rfl rfl rfl (X.assignB rfl) ?_
          refine WL.nil ?_
          refine thn_n ?_
          refine WF.ret ?_
          refine fin_r ?_
          exact ⟨congrArg Value.bool (decide_eq_true (kept_eq (by omega) (by assumption) (fun i h1 h2 => hkk i h1 (by omega)))).symm, hwL0⟩

theorem pick_ok (k n : Int) (w : World) (_hk : -9223372036854775808 ≤ k ∧ k ≤ 9223372036854775807) (hn : -9223372036854775808 ≤ n ∧ n ≤ 9223372036854775807) : FnOk Try.prog 22 [i64 k, i64 n] w (fun r w' => (∃ p : Int, r = i64 p ∧ (n < 1 → p = 0) ∧ (1 ≤ n → 0 ≤ p ∧ p < n)) ∧ w = w') := by
  refine FnOk.enter (rs := [4]) Try.func22 rfl Try.ntmps22 Try.results22 rfl rfl ?_
  refine WF.seq ?_
  refine WF.region ?_
  refine WL.va rfl rfl rfl (X.assignI rfl) ?_
  refine WL.nil ?_
  refine thn_n ?_
  refine WF.seq ?_
  refine WF.seq ?_
  refine WF.region ?_
  refine WL.va rfl rfl rfl (X.moveI rfl) ?_
  refine WL.va rfl rfl rfl (X.lss rfl rfl) ?_
  refine WL.nil ?_
  refine thn_n ?_
  refine WF.cond rfl (fun h0_1 => ?_) (fun h0_1 => ?_)
  · have gh0_1 := (of_decide_eq_true h0_1)
    have hq := gh0_1
    refine WF.seq ?_
    refine WF.region ?_
    refine WL.va rfl rfl rfl (X.assignI rfl) ?_
    refine WL.nil ?_
    refine thn_n ?_
    refine WF.ret ?_
    refine thn_r ?_
    refine fin_r ?_
    exact ⟨⟨0, rfl, fun _ => rfl, fun h => by omega⟩, rfl⟩
  · have gh0_1 := (of_decide_eq_false h0_1)
    have hq := gh0_1
    have hr1 := Int.tmod_lt_of_pos k (show 0 < n by omega)
    have hr2 := Int.lt_tmod_of_pos k (show 0 < n by omega)
    refine WF.skip ?_
    refine thn_n ?_
    refine WF.seq ?_
    refine WF.region ?_
    refine WL.va rfl rfl rfl (X.moveI rfl) ?_
    refine WL.va rfl rfl rfl (X.moveI rfl) ?_
    refine WL.va rfl rfl rfl (X.rem rfl rfl (by omega) rfl) ?_
    refine WL.va rfl rfl rfl (X.assignI rfl) ?_
    refine WL.nil ?_
    refine thn_n ?_
    refine WF.seq ?_
    refine WF.seq ?_
    refine WF.region ?_
    refine WL.va rfl rfl rfl (X.moveI rfl) ?_
    refine WL.va rfl rfl rfl (X.lss rfl rfl) ?_
    refine WL.nil ?_
    refine thn_n ?_
    refine WF.cond rfl (fun h1_3 => ?_) (fun h1_3 => ?_)
    · have gh1_3 := (of_decide_eq_true h1_3)
      have hlt := gh1_3
      refine WF.region ?_
      refine WL.va rfl rfl rfl (X.moveI rfl) ?_
      refine WL.va rfl rfl rfl (X.moveI rfl) ?_
      refine WL.va rfl rfl rfl (X.add rfl rfl (w64 (by omega))) ?_
      refine WL.va rfl rfl rfl (X.assignI rfl) ?_
      refine WL.nil ?_
      refine thn_n ?_
      refine WF.seq ?_
      refine WF.region ?_
      refine WL.va rfl rfl rfl (X.moveI rfl) ?_
      refine WL.va rfl rfl rfl (X.assignI rfl) ?_
      refine WL.nil ?_
      refine thn_n ?_
      refine WF.ret ?_
      refine fin_r ?_
      exact ⟨⟨_, rfl, fun h => by omega, fun _ => ⟨by omega, by omega⟩⟩, rfl⟩
    · have gh1_3 := (of_decide_eq_false h1_3)
      have hlt := gh1_3
      refine WF.skip ?_
      refine thn_n ?_
      refine WF.seq ?_
      refine WF.region ?_
      refine WL.va rfl rfl rfl (X.moveI rfl) ?_
      refine WL.va rfl rfl rfl (X.assignI rfl) ?_
      refine WL.nil ?_
      refine thn_n ?_
      refine WF.ret ?_
      refine fin_r ?_
      exact ⟨⟨_, rfl, fun h => by omega, fun _ => ⟨by omega, by omega⟩⟩, rfl⟩

theorem spoilBytes_ok (v : Value) (l : List UInt8) (w : World) (B : Nat) (ho : OwnB w B 5 v l) : FnOk Try.prog 28 [v] w (fun _ w' => (∃ l', OwnB w' B 5 v l') ∧ w.grownBy w' v.ownBlock) := by
  have hb := Bytes.of_own ho
  have hl := hb.le64
  refine FnOk.enter (rs := []) Try.func28 rfl Try.ntmps28 Try.results28 rfl rfl ?_
  refine WF.seq ?_
  refine WF.region ?_
  refine WL.va rfl rfl rfl (X.assignI rfl) ?_
  refine WL.nil ?_
  refine thn_n ?_
  refine WF.block ?_
  refine WF.named (fun F1 hF2 => ?_)
  refine WF.loopN (fun mL0 f' w' => ∃ (k : Nat) (L : List UInt8), mL0 = l.length - k ∧ f' 2 = .int .i64 (k : Int) ∧ Agree [0] f' F1 ∧ w.grownBy w' v.ownBlock ∧ k ≤ l.length ∧ L.length = l.length ∧ OwnB w' B 5 v L) ?_ ?_
  · exact ⟨_, 0, l, rfl, (congrFun hF2 2), (Agree.refl _ _), (World.grownBy.refl _ _), ⟨Nat.zero_le _, rfl, ho⟩⟩
  · rintro mL0 fL0 wL0 ⟨k, L, hmL0, e2_L0, hAL0, hwL0, ⟨hk, hL, ho⟩⟩
    refine WF.seq ?_
    refine WF.seq ?_
    refine WF.region ?_
    refine WL.va rfl rfl rfl (X.moveI e2_L0) ?_
    refine WL.va rfl rfl rfl (X.move ((hAL0.eq 0).trans (congrFun hF2 0))) ?_
    refine WL.va rfl rfl rfl (X.len (Bytes.of_own ho) rfl Try.underlying22) ?_
    refine WL.va rfl rfl rfl (X.lss rfl rfl) ?_
    refine WL.nil ?_
    refine thn_n ?_
    refine WF.cond rfl (fun h0_3 => ?_) (fun h0_3 => ?_)
    · have gh0_3 := (of_decide_eq_true h0_3)
      refine WF.skip ?_
      refine thn_n ?_
      refine WF.seq ?_
      refine WF.block ?_
      refine WF.region ?_
      refine WL.va rfl rfl rfl (X.move ((hAL0.eq 0).trans (congrFun hF2 0))) ?_
      refine WL.va rfl rfl rfl (X.moveI e2_L0) ?_
      refine WL.va rfl rfl rfl (X.move ((hAL0.eq 0).trans (congrFun hF2 0))) ?_
      refine WL.va rfl rfl rfl (X.moveI e2_L0) ?_
      refine WL.va rfl rfl rfl (X.idx (Bytes.of_own ho) rfl rfl (by omega) Try.underlying22 Try.sizeOf5) ?_
      refine WL.va rfl rfl rfl (X.loadB (Bytes.of_own ho) (Ext.refl _) rfl (by omega) Try.isAgg5) ?_
      refine WL.va rfl rfl rfl (X.xor rfl rfl (xor8 _ 0x5A)) ?_
      refine WL.va rfl rfl rfl (X.idx (Bytes.of_own ho) rfl rfl (by omega) Try.underlying22 Try.sizeOf5) ?_
      refine WL.op rfl (OW.storeB ho (by omega) rfl rfl Try.sizeOf5 ?_)
      intro w5 ho8 hx7
      have ho1 := ho8
      have hg1 := hx7
      refine WL.nil ?_
      refine blk_n ?_
      refine thn_n ?_
      refine WF.region ?_
      refine WL.va rfl rfl rfl (X.moveI e2_L0) ?_
      refine WL.va rfl rfl rfl (X.add rfl rfl (w64 (by omega))) ?_
      refine WL.va rfl rfl rfl (X.assignI rfl) ?_
      refine WL.nil ?_
      exact thn_n ⟨_, (by omega), k + 1, _, rfl, rfl, (by repeat (first | exact hAL0 | refine Agree.put ?_ rfl | refine Agree.named hF2 ?_)), (spoil_trans hwL0 hg1), ⟨by omega, by simp [hL], ho1⟩⟩
    · have gh0_3 := (of_decide_eq_false h0_3)
      refine WF.exit ?_
      refine thn_x ?_
      refine thn_x ?_
      refine blk_eq ?_
      refine fin_n ?_
      exact ⟨⟨_, ho⟩, hwL0⟩

theorem more_ok (s : BitVec 32) (v : Value) (l : List UInt8) (w : World) (hb : Bytes w v l) : FnOk Try.prog 17 [u32 s, v] w (fun r w' => r = u32 (Crc.more s l) ∧ w = w') := by
  have hl := hb.le64
  refine FnOk.enter (rs := [4]) Try.func17 rfl Try.ntmps17 Try.results17 rfl rfl ?_
  refine WF.seq ?_
  refine WF.region ?_
  refine WL.va rfl rfl rfl (X.assignI rfl) ?_
  refine WL.nil ?_
  refine thn_n ?_
  refine WF.seq ?_
  refine WF.region ?_
  refine WL.va rfl rfl rfl (X.moveI rfl) ?_
  refine WL.va rfl rfl rfl (X.compl rfl (compl32 _)) ?_
  refine WL.va rfl rfl rfl (X.assignI rfl) ?_
  refine WL.nil ?_
  refine thn_n ?_
  refine WF.seq ?_
  refine WF.seq ?_
  refine WF.region ?_
  refine WL.va rfl rfl rfl (X.move rfl) ?_
  refine WL.va rfl rfl rfl (X.len hb rfl Try.underlying22) ?_
  refine WL.va rfl rfl rfl (X.moveI rfl) ?_
  refine WL.nil ?_
  refine thn_n ?_
  refine WF.block ?_
  refine WF.named (fun F1 hF2 => ?_)
  refine WF.loopN (fun mL0 f' w' => ∃ (k : Nat), mL0 = l.length - k ∧ f' 13 = .int .i64 (k : Int) ∧ f' 5 = u32 (Crc.raw (~~~ s) (l.take k)) ∧ Agree [0, 1, 4, 9, 10, 11, 12] f' F1 ∧ w = w' ∧ k ≤ l.length) ?_ ?_
  · exact ⟨_, 0, rfl, (congrFun hF2 13), (congrFun hF2 5), (Agree.refl _ _), rfl, Nat.zero_le _⟩
  · rintro mL0 fL0 wL0 ⟨k, hmL0, e13_L0, e5_L0, hAL0, rfl, hiL0⟩
    refine WF.seq ?_
    refine WF.region ?_
    refine WL.va rfl rfl rfl (X.lss e13_L0 ((hAL0.eq 12).trans (congrFun hF2 12))) ?_
    refine WL.nil ?_
    refine thn_n ?_
    refine WF.seq ?_
    refine WF.cond rfl (fun h0_3 => ?_) (fun h0_3 => ?_)
    · have gh0_3 := (of_decide_eq_true h0_3)
      refine WF.skip ?_
      refine thn_n ?_
      refine WF.seq ?_
      refine WF.block ?_
      refine WF.seq ?_
      refine WF.region ?_
      refine WL.va rfl rfl rfl (X.idx hb ((hAL0.eq 11).trans (congrFun hF2 11)) e13_L0 (by omega) Try.underlying22 Try.sizeOf5) ?_
      refine WL.va rfl rfl rfl (X.loadB hb (Ext.refl _) rfl (by omega) Try.isAgg5) ?_
      refine WL.va rfl rfl rfl (X.assignI rfl) ?_
      refine WL.nil ?_
      refine thn_n ?_
      refine WF.seq ?_
      refine WF.region ?_
      refine WL.va rfl rfl rfl (X.moveI e5_L0) ?_
      refine WL.va rfl rfl rfl (X.moveI rfl) ?_
      refine WL.va rfl rfl rfl (X.conv rfl (congrArg Option.isSome Try.underlying5) Try.underlying23 (conv8 _)) ?_
      refine WL.va rfl rfl rfl (X.xor rfl rfl (xor32 _ _)) ?_
      refine WL.va rfl rfl rfl (X.assignI rfl) ?_
      refine WL.nil ?_
      refine thn_n ?_
      refine WF.seq ?_
      refine WF.region ?_
      refine WL.va rfl rfl rfl (X.moveI rfl) ?_
      refine WL.nil ?_
      refine thn_n ?_
      refine WF.block ?_
      refine WF.named (fun F5 hF6 => ?_)
      refine WF.loopN (fun mL1 f' w' => ∃ (j : Nat), mL1 = 8 - j ∧ f' 21 = .int .i64 (j : Int) ∧ f' 5 = u32 (Crc.steps j (Crc.raw (~~~ s) (l.take k) ^^^ (l.getD k 0).toBitVec.setWidth 32)) ∧ Agree [0, 1, 4, 7, 9, 10, 11, 12, 13, 14, 15, 16, 17, 18, 19, 20] f' F5 ∧ w = w' ∧ j ≤ 8) ?_ ?_
      · exact ⟨_, 0, rfl, (congrFun hF6 21), (congrFun hF6 5), (Agree.refl _ _), rfl, (by omega)⟩
      · rintro mL1 fL1 wL1 ⟨j, hmL1, e21_L1, e5_L1, hAL1, rfl, hiL1⟩
        refine WF.seq ?_
        refine WF.region ?_
        refine WL.va rfl rfl rfl (X.lss e21_L1 rfl) ?_
        refine WL.nil ?_
        refine thn_n ?_
        refine WF.seq ?_
        refine WF.cond rfl (fun h1_7 => ?_) (fun h1_7 => ?_)
        · have gh1_7 := (of_decide_eq_true h1_7)
          refine WF.skip ?_
          refine thn_n ?_
          refine WF.seq ?_
          refine WF.block ?_
          refine WF.seq ?_
          refine WF.region ?_
          refine WL.va rfl rfl rfl (X.moveI e5_L1) ?_
          refine WL.va rfl rfl rfl (X.and rfl rfl (and32 _ 1#32)) ?_
          refine WL.va rfl rfl rfl (X.assignI rfl) ?_
          refine WL.nil ?_
          refine thn_n ?_
          refine WF.seq ?_
          refine WF.region ?_
          refine WL.va rfl rfl rfl (X.moveI e5_L1) ?_
          refine WL.va rfl rfl rfl (X.shr rfl rfl (by omega) (shr32 _)) ?_
          refine WL.va rfl rfl rfl (X.assignI rfl) ?_
          refine WL.nil ?_
          refine thn_n ?_
          refine WF.seq ?_
          refine WF.region ?_
          refine WL.va rfl rfl rfl (X.moveI rfl) ?_
          refine WL.va rfl rfl rfl (X.eql rfl rfl) ?_
          refine WL.nil ?_
          refine thn_n ?_
          refine WF.cond rfl (fun h2_9 => ?_) (fun h2_9 => ?_)
          · have gh2_9 := (of_decide_eq_true h2_9)
            have hlow := gh2_9
            refine WF.region ?_
            refine WL.va rfl rfl rfl (X.moveI rfl) ?_
            refine WL.va rfl rfl rfl (X.xor rfl rfl (xor32 _ 0x82F63B78#32)) ?_
            refine WL.va rfl rfl rfl (X.assignI rfl) ?_
            refine WL.nil ?_
            refine blk_n ?_
            refine thn_n ?_
            refine WF.region ?_
            refine WL.va rfl rfl rfl (X.add e21_L1 rfl (w64 (by omega))) ?_
            refine WL.va rfl rfl rfl (X.moveI rfl) ?_
            refine WL.nil ?_
            exact thn_n ⟨_, (by omega), j + 1, rfl, rfl, (by rw [Crc.steps_succ]; first | exact congrArg u32 (Crc.step_one hlow) | exact congrArg u32 (Crc.step_zero hlow)), (by repeat (first | exact hAL1 | refine Agree.put ?_ rfl | refine Agree.sub hAL0 rfl ?_ | refine Agree.named hF6 ?_ | refine Agree.named hF2 ?_)), rfl, (by omega)⟩
          · have gh2_9 := (of_decide_eq_false h2_9)
            have hlow := gh2_9
            refine WF.skip ?_
            refine blk_n ?_
            refine thn_n ?_
            refine WF.region ?_
            refine WL.va rfl rfl rfl (X.add e21_L1 rfl (w64 (by omega))) ?_
            refine WL.va rfl rfl rfl (X.moveI rfl) ?_
            refine WL.nil ?_
            exact thn_n ⟨_, (by omega), j + 1, rfl, rfl, (by rw [Crc.steps_succ]; first | exact congrArg u32 (Crc.step_one hlow) | exact congrArg u32 (Crc.step_zero hlow)), (by repeat (first | exact hAL1 | refine Agree.put ?_ rfl | refine Agree.sub hAL0 rfl ?_ | refine Agree.named hF6 ?_ | refine Agree.named hF2 ?_)), rfl, (by omega)⟩
        · have gh1_7 := (of_decide_eq_false h1_7)
          refine WF.exit ?_
          refine thn_x ?_
          refine thn_x ?_
          refine blk_eq ?_
          refine blk_n ?_
          refine thn_n ?_
          refine WF.region ?_
          refine WL.va rfl rfl rfl (X.add ((hAL1.eq 13).trans ((congrFun hF6 13).trans e13_L0)) rfl (w64 (by omega))) ?_
          refine WL.va rfl rfl rfl (X.moveI rfl) ?_
          refine WL.nil ?_
          exact thn_n ⟨_, (by omega), k + 1, rfl, rfl, (by obtain rfl : j = 8 := (by omega); rw [Crc.raw_take (~~~ s) l k (by omega)]; exact e5_L1), (by repeat (first | exact hAL0 | refine Agree.put ?_ rfl | refine Agree.sub hAL1 rfl ?_ | refine Agree.named hF6 ?_ | refine Agree.named hF2 ?_)), rfl, (by omega)⟩
    · have gh0_3 := (of_decide_eq_false h0_3)
      refine WF.exit ?_
      refine thn_x ?_
      refine thn_x ?_
      refine blk_eq ?_
      refine thn_n ?_
      refine WF.seq ?_
      refine WF.region ?_
      refine WL.va rfl rfl rfl (X.moveI e5_L0) ?_
      refine WL.va rfl rfl rfl (X.compl rfl (compl32 _)) ?_
      refine WL.va rfl rfl rfl (X.assignI rfl) ?_
      refine WL.nil ?_
      refine thn_n ?_
      refine WF.ret ?_
      refine fin_r ?_
      exact ⟨by rw [show l.take k = l from List.take_of_length_le (by omega)]; rfl, rfl⟩

theorem refMore_ok (s : BitVec 32) (v : Value) (l : List UInt8) (w : World) (hb : Bytes w v l) : FnOk Try.prog 18 [u32 s, v] w (fun r w' => r = u32 (Crc.more s l) ∧ w = w') := by
  have hl := hb.le64
  refine FnOk.enter (rs := [4]) Try.func18 rfl Try.ntmps18 Try.results18 rfl rfl ?_
  refine WF.seq ?_
  refine WF.region ?_
  refine WL.va rfl rfl rfl (X.assignI rfl) ?_
  refine WL.nil ?_
  refine thn_n ?_
  refine WF.seq ?_
  refine WF.region ?_
  refine WL.va rfl rfl rfl (X.moveI rfl) ?_
  refine WL.va rfl rfl rfl (X.compl rfl (compl32 _)) ?_
  refine WL.va rfl rfl rfl (X.assignI rfl) ?_
  refine WL.nil ?_
  refine thn_n ?_
  refine WF.seq ?_
  refine WF.seq ?_
  refine WF.region ?_
  refine WL.va rfl rfl rfl (X.assignI rfl) ?_
  refine WL.nil ?_
  refine thn_n ?_
  refine WF.block ?_
  refine WF.named (fun F1 hF2 => ?_)
  refine WF.loopN (fun mL0 f' w' => ∃ (k : Nat), mL0 = l.length - k ∧ f' 6 = .int .i64 (k : Int) ∧ f' 5 = u32 (Crc.raw (~~~ s) (l.take k)) ∧ Agree [0, 1, 4, 9, 10] f' F1 ∧ w = w' ∧ k ≤ l.length) ?_ ?_
  · exact ⟨_, 0, rfl, (congrFun hF2 6), (congrFun hF2 5), (Agree.refl _ _), rfl, Nat.zero_le _⟩
  · rintro mL0 fL0 wL0 ⟨k, hmL0, e6_L0, e5_L0, hAL0, rfl, hiL0⟩
    refine WF.seq ?_
    refine WF.seq ?_
    refine WF.region ?_
    refine WL.va rfl rfl rfl (X.moveI e6_L0) ?_
    refine WL.va rfl rfl rfl (X.move ((hAL0.eq 1).trans (congrFun hF2 1))) ?_
    refine WL.va rfl rfl rfl (X.len hb rfl Try.underlying22) ?_
    refine WL.va rfl rfl rfl (X.lss rfl rfl) ?_
    refine WL.nil ?_
    refine thn_n ?_
    refine WF.cond rfl (fun h0_3 => ?_) (fun h0_3 => ?_)
    · have gh0_3 := (of_decide_eq_true h0_3)
      refine WF.skip ?_
      refine thn_n ?_
      refine WF.seq ?_
      refine WF.block ?_
      refine WF.seq ?_
      refine WF.region ?_
      refine WL.va rfl rfl rfl (X.moveI e5_L0) ?_
      refine WL.va rfl rfl rfl (X.move ((hAL0.eq 1).trans (congrFun hF2 1))) ?_
      refine WL.va rfl rfl rfl (X.moveI e6_L0) ?_
      refine WL.va rfl rfl rfl (X.idx hb rfl rfl (by omega) Try.underlying22 Try.sizeOf5) ?_
      refine WL.va rfl rfl rfl (X.loadB hb (Ext.refl _) rfl (by omega) Try.isAgg5) ?_
      refine WL.va rfl rfl rfl (X.conv rfl (congrArg Option.isSome Try.underlying5) Try.underlying23 (conv8 _)) ?_
      refine WL.va rfl rfl rfl (X.xor rfl rfl (xor32 _ _)) ?_
      refine WL.va rfl rfl rfl (X.assignI rfl) ?_
      refine WL.nil ?_
      refine thn_n ?_
      refine WF.seq ?_
      refine WF.region ?_
      refine WL.va rfl rfl rfl (X.assignI rfl) ?_
      refine WL.nil ?_
      refine thn_n ?_
      refine WF.block ?_
      refine WF.named (fun F5 hF6 => ?_)
      refine WF.loopN (fun mL1 f' w' => ∃ (j : Nat), mL1 = 8 - j ∧ f' 7 = .int .i64 (j : Int) ∧ f' 5 = u32 (Crc.steps j (Crc.raw (~~~ s) (l.take k) ^^^ (l.getD k 0).toBitVec.setWidth 32)) ∧ Agree [0, 1, 4, 6, 9, 10, 11, 12, 13, 14, 17, 18, 19, 20, 21, 22, 23] f' F5 ∧ w = w' ∧ j ≤ 8) ?_ ?_
      · exact ⟨_, 0, rfl, (congrFun hF6 7), (congrFun hF6 5), (Agree.refl _ _), rfl, (by omega)⟩
      · rintro mL1 fL1 wL1 ⟨j, hmL1, e7_L1, e5_L1, hAL1, rfl, hiL1⟩
        refine WF.seq ?_
        refine WF.seq ?_
        refine WF.region ?_
        refine WL.va rfl rfl rfl (X.moveI e7_L1) ?_
        refine WL.va rfl rfl rfl (X.lss rfl rfl) ?_
        refine WL.nil ?_
        refine thn_n ?_
        refine WF.cond rfl (fun h1_7 => ?_) (fun h1_7 => ?_)
        · have gh1_7 := (of_decide_eq_true h1_7)
          refine WF.skip ?_
          refine thn_n ?_
          refine WF.seq ?_
          refine WF.block ?_
          refine WF.seq ?_
          refine WF.region ?_
          refine WL.va rfl rfl rfl (X.moveI e5_L1) ?_
          refine WL.va rfl rfl rfl (X.rem rfl rfl (by omega) (rem32 _)) ?_
          refine WL.va rfl rfl rfl (X.assignI rfl) ?_
          refine WL.nil ?_
          refine thn_n ?_
          refine WF.seq ?_
          refine WF.region ?_
          refine WL.va rfl rfl rfl (X.moveI e5_L1) ?_
          refine WL.va rfl rfl rfl (X.quo rfl rfl (by omega) (quo32 _)) ?_
          refine WL.va rfl rfl rfl (X.assignI rfl) ?_
          refine WL.nil ?_
          refine thn_n ?_
          refine WF.seq ?_
          refine WF.region ?_
          refine WL.va rfl rfl rfl (X.moveI rfl) ?_
          refine WL.va rfl rfl rfl (X.eql rfl rfl) ?_
          refine WL.nil ?_
          refine thn_n ?_
          refine WF.cond rfl (fun h2_9 => ?_) (fun h2_9 => ?_)
          · have gh2_9 := (of_decide_eq_true h2_9)
            have hlow := gh2_9
            refine WF.region ?_
            refine WL.va rfl rfl rfl (X.moveI rfl) ?_
            refine WL.va rfl rfl rfl (X.xor rfl rfl (xor32 _ 0x82F63B78#32)) ?_
            refine WL.va rfl rfl rfl (X.assignI rfl) ?_
            refine WL.nil ?_
            refine blk_n ?_
            refine thn_n ?_
            refine WF.region ?_
            refine WL.va rfl rfl rfl (X.moveI e7_L1) ?_
            refine WL.va rfl rfl rfl (X.add rfl rfl (w64 (by omega))) ?_
            refine WL.va rfl rfl rfl (X.assignI rfl) ?_
            refine WL.nil ?_
            exact thn_n ⟨_, (by omega), j + 1, rfl, rfl, (by rw [Crc.steps_succ]; first | exact congrArg u32 (Crc.step_one hlow) | exact congrArg u32 (Crc.step_zero hlow)), (by repeat (first | exact hAL1 | refine Agree.put ?_ rfl | refine Agree.sub hAL0 rfl ?_ | refine Agree.named hF6 ?_ | refine Agree.named hF2 ?_)), rfl, (by omega)⟩
          · have gh2_9 := (of_decide_eq_false h2_9)
            have hlow := gh2_9
            refine WF.skip ?_
            refine blk_n ?_
            refine thn_n ?_
            refine WF.region ?_
            refine WL.va rfl rfl rfl (X.moveI e7_L1) ?_
            refine WL.va rfl rfl rfl (X.add rfl rfl (w64 (by omega))) ?_
            refine WL.va rfl rfl rfl (X.assignI rfl) ?_
            refine WL.nil ?_
            exact thn_n ⟨_, (by omega), j + 1, rfl, rfl, (by rw [Crc.steps_succ]; first | exact congrArg u32 (Crc.step_one hlow) | exact congrArg u32 (Crc.step_zero hlow)), (by repeat (first | exact hAL1 | refine Agree.put ?_ rfl | refine Agree.sub hAL0 rfl ?_ | refine Agree.named hF6 ?_ | refine Agree.named hF2 ?_)), rfl, (by omega)⟩
        · have gh1_7 := (of_decide_eq_false h1_7)
          refine WF.exit ?_
          refine thn_x ?_
          refine thn_x ?_
          refine blk_eq ?_
          refine blk_n ?_
          refine thn_n ?_
          refine WF.region ?_
          refine WL.va rfl rfl rfl (X.moveI ((hAL1.eq 6).trans ((congrFun hF6 6).trans e6_L0))) ?_
          refine WL.va rfl rfl rfl (X.add rfl rfl (w64 (by omega))) ?_
          refine WL.va rfl rfl rfl (X.assignI rfl) ?_
          refine WL.nil ?_
          exact thn_n ⟨_, (by omega), k + 1, rfl, rfl, (by obtain rfl : j = 8 := (by omega); rw [Crc.raw_take (~~~ s) l k (by omega)]; exact e5_L1), (by repeat (first | exact hAL0 | refine Agree.put ?_ rfl | refine Agree.sub hAL1 rfl ?_ | refine Agree.named hF6 ?_ | refine Agree.named hF2 ?_)), rfl, (by omega)⟩
    · have gh0_3 := (of_decide_eq_false h0_3)
      refine WF.exit ?_
      refine thn_x ?_
      refine thn_x ?_
      refine blk_eq ?_
      refine thn_n ?_
      refine WF.seq ?_
      refine WF.region ?_
      refine WL.va rfl rfl rfl (X.moveI e5_L0) ?_
      refine WL.va rfl rfl rfl (X.compl rfl (compl32 _)) ?_
      refine WL.va rfl rfl rfl (X.assignI rfl) ?_
      refine WL.nil ?_
      refine thn_n ?_
      refine WF.ret ?_
      refine fin_r ?_
      exact ⟨by rw [show l.take k = l from List.take_of_length_le (by omega)]; rfl, rfl⟩

theorem of_ok (v : Value) (l : List UInt8) (w : World) (hb : Bytes w v l) : FnOk Try.prog 15 [v] w (fun r w' => r = u32 (Crc.of l) ∧ w = w') := by
  refine FnOk.enter (rs := [2]) Try.func15 rfl Try.ntmps15 Try.results15 rfl rfl ?_
  refine WF.seq ?_
  refine WF.region ?_
  refine WL.va rfl rfl rfl (X.assignI rfl) ?_
  refine WL.nil ?_
  refine thn_n ?_
  refine WF.seq ?_
  refine WF.region ?_
  refine WL.va rfl rfl rfl (X.move rfl) ?_
  refine WL.c rfl rfl rfl (X.call Try.call17 (evl_cons rfl (evl_cons rfl evl_nil))) (more_ok 0 _ _ _ hb) ?_
  rintro v2 w1 ⟨rfl, rfl⟩
  refine WL.va rfl rfl rfl (X.assignI rfl) ?_
  refine WL.nil ?_
  refine thn_n ?_
  refine WF.ret ?_
  refine fin_r ?_
  exact ⟨rfl, rfl⟩

theorem refOf_ok (v : Value) (l : List UInt8) (w : World) (hb : Bytes w v l) : FnOk Try.prog 16 [v] w (fun r w' => r = u32 (Crc.of l) ∧ w = w') := by
  refine FnOk.enter (rs := [2]) Try.func16 rfl Try.ntmps16 Try.results16 rfl rfl ?_
  refine WF.seq ?_
  refine WF.region ?_
  refine WL.va rfl rfl rfl (X.assignI rfl) ?_
  refine WL.nil ?_
  refine thn_n ?_
  refine WF.seq ?_
  refine WF.region ?_
  refine WL.va rfl rfl rfl (X.move rfl) ?_
  refine WL.c rfl rfl rfl (X.call Try.call18 (evl_cons rfl (evl_cons rfl evl_nil))) (refMore_ok 0 _ _ _ hb) ?_
  rintro v2 w1 ⟨rfl, rfl⟩
  refine WL.va rfl rfl rfl (X.assignI rfl) ?_
  refine WL.nil ?_
  refine thn_n ?_
  refine WF.ret ?_
  refine fin_r ?_
  exact ⟨rfl, rfl⟩

theorem known_ok (w : World) : FnOk Try.prog 20 [] w (fun r w' => r = .bool true ∧ Ext w w') := by
  refine FnOk.enter (rs := [0]) Try.func20 rfl Try.ntmps20 Try.results20 rfl rfl ?_
  refine WF.seq ?_
  refine WF.region ?_
  refine WL.va rfl rfl rfl (X.assignB rfl) ?_
  refine WL.nil ?_
  refine thn_n ?_
  refine WF.seq ?_
  refine WF.region ?_
  refine WL.op rfl (OW.lits (vs := [u8 49, u8 50, u8 51, u8 52, u8 53, u8 54, u8 55, u8 56, u8 57]) (evp_cons rfl (evp_cons rfl (evp_cons rfl (evp_cons rfl (evp_cons rfl (evp_cons rfl (evp_cons rfl (evp_cons rfl (evp_cons rfl evp_nil))))))))) Try.underlying22 Try.sizeOf5 Try.zeroValue5 ⟨rfl, rfl, rfl, rfl, rfl, rfl, rfl, rfl, rfl, trivial⟩ rfl rfl rfl ?_ (by decide))
  intro v3 w2 ho5 hx4
  refine WL.op rfl (OW.convB ho5 (by decide) rfl Try.underlying22 Try.underlying5 ?_ (by decide))
  intro w6 ho9 hx8
  refine WL.c rfl rfl rfl (X.call Try.call15 (evl_cons rfl evl_nil)) (of_ok _ _ _ (show Bytes _ _ [49, 50, 51, 52, 53, 54, 55, 56, 57] from ho9)) ?_
  rintro v11 w10 ⟨rfl, rfl⟩
  refine WL.va rfl rfl rfl (X.eql rfl rfl) ?_
  refine WL.va rfl rfl rfl (X.assignB rfl) ?_
  refine WL.nil ?_
  refine thn_n ?_
  refine WF.ret ?_
  refine fin_r ?_
  exact ⟨congrArg Value.bool (decide_eq_true (by decide +kernel)), (Ext.own hx4 ho5 (Nat.le_refl _) hx8)⟩

theorem sumsReckon_walk (v : Value) (l : List UInt8) (s : BitVec 32) (w : World) (hb : Bytes w v l) (hz : l.length ≤ 140737488351232) : FnOk Try.prog 3 [v, u32 s] w (fun r w' => r = .bool true ∧ Ext w w') := by
  refine FnOk.enter (rs := [4]) Try.func3 rfl Try.ntmps3 Try.results3 rfl rfl ?_
  refine WF.seq ?_
  refine WF.region ?_
  refine WL.va rfl rfl rfl (X.assignB rfl) ?_
  refine WL.nil ?_
  refine thn_n ?_
  refine WF.seq ?_
  refine WF.region ?_
  refine WL.va rfl rfl rfl (X.move rfl) ?_
  refine WL.c rfl rfl rfl (X.call Try.call14 (evl_cons rfl evl_nil)) (lentBytes_ok _ _ _ hb (by omega)) ?_
  rintro v3 w2 ⟨ho, hx4⟩
  refine WL.va rfl rfl rfl (X.assign rfl) ?_
  refine WL.nil ?_
  refine thn_n ?_
  refine WF.seq ?_
  refine WF.region ?_
  refine WL.va rfl rfl rfl (X.move rfl) ?_
  refine WL.va rfl rfl rfl (X.move rfl) ?_
  refine WL.va rfl rfl rfl (X.len hb rfl Try.underlying22) ?_
  refine WL.va rfl rfl rfl (X.slH (Bytes.of_own ho) rfl rfl (by simp) Try.underlying22 Try.sizeOf5) ?_
  refine WL.va rfl rfl rfl (X.assign rfl) ?_
  refine WL.nil ?_
  refine thn_n ?_
  refine WF.seq ?_
  refine WF.region ?_
  refine WL.va rfl rfl rfl (X.move rfl) ?_
  refine WL.c rfl rfl rfl (X.call Try.call15 (evl_cons rfl evl_nil)) (of_ok _ _ _ (lent_part ho)) ?_
  rintro v6 w5 ⟨rfl, rfl⟩
  refine WL.va rfl rfl rfl (X.move rfl) ?_
  refine WL.c rfl rfl rfl (X.call Try.call16 (evl_cons rfl evl_nil)) (refOf_ok _ _ _ (hb.ext hx4)) ?_
  rintro v9 w8 ⟨rfl, rfl⟩
  refine WL.va rfl rfl rfl (X.eql rfl rfl) ?_
  refine WL.va rfl rfl rfl (X.moveB rfl) ?_
  refine WL.split (j := 5) rfl (fun h12 => ?_) (fun h12 => ?_)
  · have gh12 := (of_decide_eq_true h12)
    refine WL.vg rfl (congrArg some h12) rfl rfl (X.moveI rfl) ?_
    refine WL.vg rfl (congrArg some h12) rfl rfl (X.move rfl) ?_
    refine WL.cg rfl (congrArg some h12) rfl rfl (X.call Try.call17 (evl_cons rfl (evl_cons rfl evl_nil))) (more_ok s _ _ _ (lent_part ho)) ?_
    rintro v14 w13 ⟨rfl, rfl⟩
    refine WL.vg rfl (congrArg some h12) rfl rfl (X.moveI rfl) ?_
    refine WL.vg rfl (congrArg some h12) rfl rfl (X.move rfl) ?_
    refine WL.cg rfl (congrArg some h12) rfl rfl (X.call Try.call18 (evl_cons rfl (evl_cons rfl evl_nil))) (refMore_ok s _ _ _ (hb.ext hx4)) ?_
    rintro v17 w16 ⟨rfl, rfl⟩
    refine WL.vg rfl (congrArg some h12) rfl rfl (X.eql rfl rfl) ?_
    refine WL.va rfl rfl rfl (X.pickT rfl h12 rfl) ?_
    refine WL.va rfl rfl rfl (X.moveB rfl) ?_
    refine WL.split (j := 14) rfl (fun h20 => ?_) (fun h20 => ?_)
    · have gh20 := (of_decide_eq_true h20)
      refine WL.vg rfl (congrArg some h20) rfl rfl (X.move rfl) ?_
      refine WL.vg rfl (congrArg some h20) rfl rfl (X.move rfl) ?_
      refine WL.cg rfl (congrArg some h20) rfl rfl (X.call Try.call19 (evl_cons rfl (evl_cons rfl evl_nil))) (keptBytes_ok _ _ _ _ _ (Bytes.of_own ho) (hb.ext hx4) (by omega)) ?_
      rintro v22 w21 ⟨rfl, hx23⟩
      refine WL.va rfl rfl rfl (X.pickT rfl h20 rfl) ?_
      refine WL.va rfl rfl rfl (X.assignB rfl) ?_
      refine WL.nil ?_
      refine thn_n ?_
      refine WF.ret ?_
      refine fin_r ?_
      exact ⟨congrArg Value.bool (decide_eq_true rfl), (Ext.trans hx4 hx23)⟩
    · have gh20 := (of_decide_eq_false h20)
      exact absurd rfl gh20
  · have gh12 := (of_decide_eq_false h12)
    exact absurd rfl gh12

theorem sumsPieces_walk (va : Value) (a : List UInt8) (vb : Value) (b : List UInt8) (w : World) (ha : Bytes w va a) (hza : a.length ≤ 140737488351232) (hb : Bytes w vb b) (hzb : b.length ≤ 140737488351232) : FnOk Try.prog 4 [va, vb] w (fun r w' => r = .bool true ∧ Ext w w') := by
  refine FnOk.enter (rs := [4]) Try.func4 rfl Try.ntmps4 Try.results4 rfl rfl ?_
  refine WF.seq ?_
  refine WF.region ?_
  refine WL.va rfl rfl rfl (X.assignB rfl) ?_
  refine WL.nil ?_
  refine thn_n ?_
  refine WF.seq ?_
  refine WF.seq ?_
  refine WF.region ?_
  refine WL.va rfl rfl rfl (X.move rfl) ?_
  refine WL.va rfl rfl rfl (X.len ha rfl Try.underlying22) ?_
  refine WL.va rfl rfl rfl (X.gtr rfl rfl) ?_
  refine WL.va rfl rfl rfl (X.moveB rfl) ?_
  refine WL.split (j := 3) rfl (fun h3 => ?_) (fun h3 => ?_)
  · have gh3 := (of_decide_eq_true h3)
    refine WL.p rfl rfl rfl (congrArg some h3) ?_
    refine WL.p rfl rfl rfl (congrArg some h3) ?_
    refine WL.p rfl rfl rfl (congrArg some h3) ?_
    refine WL.va rfl rfl rfl (X.pickT rfl h3 rfl) ?_
    refine WL.nil ?_
    refine thn_n ?_
    refine WF.cond_t rfl ?_
    refine WF.seq ?_
    refine WF.region ?_
    refine WL.c rfl rfl rfl (X.call Try.call20 evl_nil) (known_ok _) ?_
    rintro v6 w5 ⟨rfl, hx7⟩
    refine WL.va rfl rfl rfl (X.assignB rfl) ?_
    refine WL.nil ?_
    refine thn_n ?_
    refine WF.ret ?_
    refine thn_r ?_
    refine fin_r ?_
    exact ⟨rfl, hx7⟩
  · have gh3 := (of_decide_eq_false h3)
    refine WL.vg rfl (congrArg some h3) rfl rfl (X.move rfl) ?_
    refine WL.vg rfl (congrArg some h3) rfl rfl (X.len hb rfl Try.underlying22) ?_
    refine WL.vg rfl (congrArg some h3) rfl rfl (X.gtr rfl rfl) ?_
    refine WL.va rfl rfl rfl (X.pickF rfl h3 rfl) ?_
    refine WL.nil ?_
    refine thn_n ?_
    refine WF.cond rfl (fun h0_9 => ?_) (fun h0_9 => ?_)
    · have gh0_9 := (of_decide_eq_true h0_9)
      refine WF.seq ?_
      refine WF.region ?_
      refine WL.c rfl rfl rfl (X.call Try.call20 evl_nil) (known_ok _) ?_
      rintro v12 w11 ⟨rfl, hx13⟩
      refine WL.va rfl rfl rfl (X.assignB rfl) ?_
      refine WL.nil ?_
      refine thn_n ?_
      refine WF.ret ?_
      refine thn_r ?_
      refine fin_r ?_
      exact ⟨rfl, hx13⟩
    · have gh0_9 := (of_decide_eq_false h0_9)
      refine WF.skip ?_
      refine thn_n ?_
      refine WF.seq ?_
      refine WF.region ?_
      refine WL.va rfl rfl rfl (X.move rfl) ?_
      refine WL.c rfl rfl rfl (X.call Try.call21 (evl_cons rfl evl_nil)) (copyBytes_ok _ _ _ ha (by omega)) ?_
      rintro v16 w15 ⟨ho, hx17⟩
      refine WL.va rfl rfl rfl (X.move rfl) ?_
      refine WL.op rfl (OW.appendB ho (hb.ext hx17) rfl rfl Try.underlying22 Try.type5 rfl rfl rfl rfl (by omega) (World.grownBy.size hx17) ?_ (by decide))
      intro v19 w18 ho21 hx20 hmvhx20
      have ho2 := ho21
      refine WL.va rfl rfl rfl (X.assign rfl) ?_
      refine WL.nil ?_
      refine thn_n ?_
      refine WF.seq ?_
      refine WF.region ?_
      refine WL.va rfl rfl rfl (X.move rfl) ?_
      refine WL.c rfl rfl rfl (X.call Try.call15 (evl_cons rfl evl_nil)) (of_ok _ _ _ (ha.ext (Ext.own hx17 ho (Nat.le_refl _) hx20))) ?_
      rintro v23 w22 ⟨rfl, rfl⟩
      refine WL.va rfl rfl rfl (X.move rfl) ?_
      refine WL.c rfl rfl rfl (X.call Try.call17 (evl_cons rfl (evl_cons rfl evl_nil))) (more_ok _ _ _ _ (hb.ext (Ext.own hx17 ho (Nat.le_refl _) hx20))) ?_
      rintro v26 w25 ⟨rfl, rfl⟩
      refine WL.va rfl rfl rfl (X.move rfl) ?_
      refine WL.c rfl rfl rfl (X.call Try.call15 (evl_cons rfl evl_nil)) (of_ok _ _ _ (Bytes.of_own ho2)) ?_
      rintro v29 w28 ⟨rfl, rfl⟩
      refine WL.va rfl rfl rfl (X.eql rfl rfl) ?_
      refine WL.va rfl rfl rfl (X.moveB rfl) ?_
      refine WL.split (j := 7) rfl (fun h32 => ?_) (fun h32 => ?_)
      · have gh32 := (of_decide_eq_true h32)
        refine WL.cg rfl (congrArg some h32) rfl rfl (X.call Try.call20 evl_nil) (known_ok _) ?_
        rintro v34 w33 ⟨rfl, hx35⟩
        refine WL.va rfl rfl rfl (X.pickT rfl h32 rfl) ?_
        refine WL.va rfl rfl rfl (X.assignB rfl) ?_
        refine WL.nil ?_
        refine thn_n ?_
        refine WF.ret ?_
        refine fin_r ?_
        exact ⟨rfl, (Ext.trans (Ext.own hx17 ho (Nat.le_refl _) hx20) hx35)⟩
      · have gh32 := (of_decide_eq_false h32)
        exact absurd (congrArg (fun r : BitVec 32 => (r.toNat : Int)) (Crc.more_more 0 _ _)) gh32

theorem low_div (m : BitVec 32) (i : Nat) (hi : i < 32) : ((m.toNat : Int).fdiv (2 ^ (min ((i : Int)).toNat IntKind.u32.bits))).tmod 2 = if m.getLsbD i then 1 else 0 := by
  have e : min ((i : Int)).toNat IntKind.u32.bits = i := by
    show min ((i : Int)).toNat 32 = i
    simp; omega
  rw [e, Int.fdiv_eq_ediv_of_nonneg _ (Int.le_of_lt (Int.pow_pos (by decide)))]
  have e2 : (m.toNat : Int) / 2 ^ i = ((m.toNat / 2 ^ i : Nat) : Int) := by rw [Int.natCast_ediv, Int.natCast_pow]; rfl
  rw [e2, Int.tmod_eq_emod_of_nonneg (Int.natCast_nonneg _)]
  have e3 : m.getLsbD i = decide (m.toNat / 2 ^ i % 2 = 1) := by
    simp only [BitVec.getLsbD, Nat.testBit_eq_decide_div_mod_eq]
  rw [e3]
  have : m.toNat / 2 ^ i % 2 = 0 ∨ m.toNat / 2 ^ i % 2 = 1 := by omega
  rcases this with h | h
  · simp [h]; omega
  · simp [h]; omega
/-- 1 << j as a byte -/
def one8 (j : Nat) : UInt8 := UInt8.ofBitVec (1#8 <<< j)
theorem one8_bit (p j : Nat) (hj : j < 8) : (one8 (p % 8)).toBitVec.getLsbD j = decide (j = p % 8) := by
  have hp : p % 8 < 8 := Nat.mod_lt _ (by decide)
  show (1#8 <<< (p % 8)).getLsbD j = _
  revert hj hp
  generalize p % 8 = q
  intro hj hq
  have : ∀ q : Fin 8, ∀ j : Fin 8, (1#8 <<< q.val).getLsbD j.val = decide (j.val = q.val) := by decide +kernel
  exact this ⟨q, hq⟩ ⟨j, hj⟩
theorem shl8 (n : Int) (h0 : 0 ≤ n) (h8 : n < 8) : IntKind.u8.wrap (1 * 2 ^ (min n.toNat IntKind.u8.bits)) = ((one8 n.toNat).toNat : Int) := by
  obtain ⟨q, rfl⟩ := Int.eq_ofNat_of_zero_le h0
  have : ∀ q : Fin 8, IntKind.u8.wrap (1 * 2 ^ (min ((q.val : Int)).toNat IntKind.u8.bits)) = ((one8 ((q.val : Int)).toNat).toNat : Int) := by decide +kernel
  exact this ⟨q, by omega⟩
/-- what is turned when the first i bits of the mask have been gone through -/
def tog (at_ : Nat) (m : BitVec 32) (len i k : Nat) : Bool := decide (at_ ≤ k) && decide (k < at_ + i) && m.getLsbD (k - at_) && decide (k / 8 < len)
theorem tog_succ (at_ : Nat) (m : BitVec 32) (len i k : Nat) : tog at_ m len (i + 1) k = (tog at_ m len i k ^^ (decide (k = at_ + i) && (m.getLsbD i && decide ((at_ + i) / 8 < len)))) := by
  unfold tog
  by_cases h : k = at_ + i
  · subst h
    have e1 : decide (at_ ≤ at_ + i) = true := decide_eq_true (by omega)
    have e2 : decide (at_ + i < at_ + (i + 1)) = true := decide_eq_true (by omega)
    have e3 : decide (at_ + i < at_ + i) = false := decide_eq_false (by omega)
    have e4 : at_ + i - at_ = i := by omega
    rw [e1, e2, e3, e4]
    simp
  · have e1 : decide (k = at_ + i) = false := by simpa using h
    rw [e1, Bool.false_and, Bool.xor_false]
    by_cases h2 : k < at_ + i
    · have e2 : decide (k < at_ + (i + 1)) = true := decide_eq_true (by omega)
      have e3 : decide (k < at_ + i) = true := by simpa using h2
      rw [e2, e3]
    · have e2 : decide (k < at_ + (i + 1)) = false := decide_eq_false (by omega)
      have e3 : decide (k < at_ + i) = false := by simpa using h2
      rw [e2, e3]
/-- the state of the loop behind i rounds -/
structure Turned (b C : List UInt8) (at_ : Nat) (m : BitVec 32) (i : Nat) (n : Nat) : Prop where
  len : C.length = b.length
  bits : ∀ k, Crc.bit C k = (Crc.bit b k ^^ tog at_ m b.length i k)
  zero : n = 0 ↔ ∀ k, tog at_ m b.length i k = false
  le : n ≤ i
theorem Turned.start (b : List UInt8) (at_ : Nat) (m : BitVec 32) : Turned b b at_ m 0 0 := by
  have h : ∀ k, tog at_ m b.length 0 k = false := fun k => by
    unfold tog
    by_cases h : at_ ≤ k
    · have : decide (k < at_ + 0) = false := decide_eq_false (by omega)
      rw [this]; simp
    · have : decide (at_ ≤ k) = false := by simpa using h
      rw [this]; simp
  exact ⟨rfl, fun k => by rw [h]; simp, by simp [h], Nat.le_refl _⟩
theorem Turned.skip {b C : List UInt8} {at_ : Nat} {m : BitVec 32} {i n : Nat} (h : Turned b C at_ m i n) (hs : (m.getLsbD i && decide ((at_ + i) / 8 < b.length)) = false) : Turned b C at_ m (i + 1) n := by
  have e : ∀ k, tog at_ m b.length (i + 1) k = tog at_ m b.length i k := fun k => by rw [tog_succ, hs]; simp
  exact ⟨h.len, fun k => by rw [e]; exact h.bits k, by simp only [e]; exact h.zero, by have := h.le; omega⟩
theorem Turned.turn {b C : List UInt8} {at_ : Nat} {m : BitVec 32} {i n : Nat} (h : Turned b C at_ m i n) (h1 : m.getLsbD i = true) (h2 : (at_ + i) / 8 < b.length) :
    Turned b (C.set ((at_ + i) / 8) (C.getD ((at_ + i) / 8) 0 ^^^ one8 ((at_ + i) % 8))) at_ m (i + 1) (n + 1) := by
  have hs : (m.getLsbD i && decide ((at_ + i) / 8 < b.length)) = true := by rw [h1]; simpa using h2
  refine ⟨by simp [h.len], fun k => ?_, ?_, by have := h.le; omega⟩
  · rw [Crc.bit_turn C (at_ + i) (one8 ((at_ + i) % 8)) (by rw [h.len]; exact h2) (fun j hj => one8_bit _ _ hj), h.bits, tog_succ, hs, Bool.and_true, Bool.xor_assoc]
  · constructor
    · intro hn; omega
    · intro hall
      exfalso
      have := hall (at_ + i)
      have h0 : tog at_ m b.length i (at_ + i) = false := by
        unfold tog
        have : decide (at_ + i < at_ + i) = false := by simp
        rw [this]; simp
      rw [tog_succ, hs, h0] at this
      simp at this
theorem k8 {q i : Nat} (h : q + i ≤ 4611686018427387904) : IntKind.i64.wrap (((q : Int) + (i : Int)).tdiv 8) = (((q + i) / 8 : Nat) : Int) := by
  rw [Int.tdiv_eq_ediv_of_nonneg (by omega)]
  rw [w64 (by omega)]; omega
theorem k8m (q i : Nat) : ((q : Int) + (i : Int)).tmod 8 = (((q + i) % 8 : Nat) : Int) := by
  rw [Int.tmod_eq_emod_of_nonneg (by omega)]; omega
theorem lay_at {a b : List UInt8} {N k : Nat} (h : k < N) (ha : N ≤ a.length) (hb : N ≤ b.length) : [a.getD k 0 ^^^ b.getD k 0] = [(Crc.lay ((a.drop 0).take (N - 0)) ((b.drop 0).take (N - 0))).getD k 0] := by
  simp only [Crc.lay, List.getD_eq_getElem?_getD, List.drop_zero, Nat.sub_zero, List.getElem?_zipWith, List.getElem?_take, if_pos h]
  rw [List.getElem?_eq_getElem (show k < a.length by omega), List.getElem?_eq_getElem (show k < b.length by omega)]
  rfl
theorem Turned.sum {b C : List UInt8} {at_ : Nat} {m : BitVec 32} {n : Nat} (h : Turned b C at_ m 32 n) : (Crc.of C = Crc.of b) ↔ n = 0 := by
  rw [h.zero]
  refine Crc.seen (at_ := at_) h.len h.bits fun i hi => ?_
  unfold tog at hi
  simp only [Bool.and_eq_true, decide_eq_true_eq] at hi
  omega
theorem Turned.bool {b C : List UInt8} {at_ : Nat} {m : BitVec 32} {n : Nat} (h : Turned b C at_ m 32 n) : (decide (((Crc.of C).toNat : Int) = ((Crc.of b).toNat : Int)) == decide ((n : Int) = 0)) = true := by
  have e := h.sum
  have e1 : (((Crc.of C).toNat : Int) = ((Crc.of b).toNat : Int)) ↔ (Crc.of C = Crc.of b) := ⟨fun h => BitVec.eq_of_toNat_eq (by omega), fun h => by rw [h]⟩
  have e2 : ((n : Int) = 0) ↔ n = 0 := by omega
  rw [beq_iff_eq]
  exact decide_eq_decide.2 (by rw [e1, e2]; exact e)
theorem bit_of1 {c : Bool} (h : (if c then (1 : Int) else 0) = 1) : c = true := by cases c <;> simp_all
theorem bit_of0 {c : Bool} (h : ¬ (if c then (1 : Int) else 0) = 1) : c = false := by cases c <;> simp_all
theorem sumsSeen_walk (v : Value) (b : List UInt8) (at0 : Int) (m : BitVec 32) (w : World) (hb : Bytes w v b) (_hz : b.length ≤ 140737488351232) (hat : -9223372036854775808 ≤ at0 ∧ at0 ≤ 9223372036854775807) : FnOk Try.prog 5 [v, i64 at0, u32 m] w (fun r w' => r = .bool true ∧ Ext w w') := by
  refine FnOk.enter (rs := [6]) Try.func5 rfl Try.ntmps5 Try.results5 rfl rfl ?_
  refine WF.seq ?_
  refine WF.region ?_
  refine WL.va rfl rfl rfl (X.assignB rfl) ?_
  refine WL.nil ?_
  refine thn_n ?_
  refine WF.seq ?_
  refine WF.seq ?_
  refine WF.region ?_
  refine WL.va rfl rfl rfl (X.move rfl) ?_
  refine WL.va rfl rfl rfl (X.len hb rfl Try.underlying22) ?_
  refine WL.va rfl rfl rfl (X.gtr rfl rfl) ?_
  refine WL.nil ?_
  refine thn_n ?_
  refine WF.cond rfl (fun h0_2 => ?_) (fun h0_2 => ?_)
  · have gh0_2 := (of_decide_eq_true h0_2)
    refine WF.seq ?_
    refine WF.region ?_
    refine WL.c rfl rfl rfl (X.call Try.call20 evl_nil) (known_ok _) ?_
    rintro v5 w4 ⟨rfl, hx6⟩
    refine WL.va rfl rfl rfl (X.assignB rfl) ?_
    refine WL.nil ?_
    refine thn_n ?_
    refine WF.ret ?_
    refine thn_r ?_
    refine fin_r ?_
    exact ⟨rfl, hx6⟩
  · have gh0_2 := (of_decide_eq_false h0_2)
    refine WF.skip ?_
    refine thn_n ?_
    refine WF.seq ?_
    refine WF.region ?_
    refine WL.va rfl rfl rfl (X.moveI rfl) ?_
    refine WL.va rfl rfl rfl (X.move rfl) ?_
    refine WL.va rfl rfl rfl (X.len hb rfl Try.underlying22) ?_
    refine WL.va rfl rfl rfl (X.mul rfl rfl (w64 (by omega))) ?_
    refine WL.c rfl rfl rfl (X.call Try.call22 (evl_cons rfl (evl_cons rfl evl_nil))) (pick_ok _ _ _ hat (by omega)) ?_
    rintro v9 w8 ⟨⟨p, rfl, hp0, hp1⟩, rfl⟩
    have hp : 0 ≤ p ∧ p ≤ 8 * b.length := by
      by_cases h : (8 * (b.length : Int)) < 1
      · have := hp0 h; omega
      · have := hp1 (by omega); omega
    clear hp0 hp1
    obtain ⟨q, rfl⟩ := Int.eq_ofNat_of_zero_le hp.1
    refine WL.va rfl rfl rfl (X.assignI rfl) ?_
    refine WL.nil ?_
    refine thn_n ?_
    refine WF.seq ?_
    refine WF.region ?_
    refine WL.va rfl rfl rfl (X.move rfl) ?_
    refine WL.c rfl rfl rfl (X.call Try.call21 (evl_cons rfl evl_nil)) (copyBytes_ok _ _ _ hb (by omega)) ?_
    rintro v12 w11 ⟨hc0, hx13⟩
    obtain ⟨vc, hvc⟩ : ∃ vc, vc = v12 := ⟨_, rfl⟩
    subst hvc
    refine WL.va rfl rfl rfl (X.assign rfl) ?_
    refine WL.nil ?_
    refine thn_n ?_
    refine WF.seq ?_
    refine WF.region ?_
    refine WL.va rfl rfl rfl (X.assignI rfl) ?_
    refine WL.nil ?_
    refine thn_n ?_
    refine WF.seq ?_
    refine WF.seq ?_
    refine WF.region ?_
    refine WL.va rfl rfl rfl (X.assignI rfl) ?_
    refine WL.nil ?_
    refine thn_n ?_
    refine WF.block ?_
    refine WF.named (fun F14 hF15 => ?_)
    refine WF.loopN (fun mL0 f' w' => ∃ (i : Nat) (n : Nat) (C : List UInt8), mL0 = 32 - i ∧ f' 9 = .int .i64 (i : Int) ∧ f' 8 = .int .i64 (n : Int) ∧ Agree [0, 1, 2, 6, 7, 11, 12, 13, 15, 16, 17, 18, 19, 20, 21] f' F14 ∧ Ext w w' ∧ i ≤ 32 ∧ OwnB w' w.heap.size 5 vc C ∧ Turned b C q m i n) ?_ ?_
    · exact ⟨_, 0, 0, b, rfl, (congrFun hF15 9), (congrFun hF15 8), (Agree.refl _ _), hx13, ⟨by omega, hc0, Turned.start _ _ _⟩⟩
    · rintro mL0 fL0 wL0 ⟨i, n, C, hmL0, e9_L0, e8_L0, hAL0, hwL0, ⟨hi, hc, ht⟩⟩
      have hlen := ht.len
      have hle := ht.le
      refine WF.seq ?_
      refine WF.seq ?_
      refine WF.region ?_
      refine WL.va rfl rfl rfl (X.moveI e9_L0) ?_
      refine WL.va rfl rfl rfl (X.lss rfl rfl) ?_
      refine WL.nil ?_
      refine thn_n ?_
      refine WF.cond rfl (fun h1_16 => ?_) (fun h1_16 => ?_)
      · have gh1_16 := (of_decide_eq_true h1_16)
        refine WF.skip ?_
        refine thn_n ?_
        refine WF.seq ?_
        refine WF.block ?_
        refine WF.seq ?_
        refine WF.region ?_
        refine WL.va rfl rfl rfl (X.moveI ((hAL0.eq 1).trans (congrFun hF15 1))) ?_
        refine WL.va rfl rfl rfl (X.moveI e9_L0) ?_
        refine WL.va rfl rfl rfl (X.add rfl rfl (w64 (by omega))) ?_
        refine WL.va rfl rfl rfl (X.assignI rfl) ?_
        refine WL.nil ?_
        refine thn_n ?_
        refine WF.seq ?_
        refine WF.region ?_
        refine WL.va rfl rfl rfl (X.moveI ((hAL0.eq 2).trans (congrFun hF15 2))) ?_
        refine WL.va rfl rfl rfl (X.moveI e9_L0) ?_
        refine WL.va rfl rfl rfl (X.conv rfl (congrArg Option.isSome Try.underlying3) Try.underlying31 (wu64 (by omega))) ?_
        refine WL.va rfl rfl rfl (X.shr rfl rfl (by omega) rfl) ?_
        refine WL.va rfl rfl rfl (X.rem rfl rfl (by omega) (low_div m i (by omega))) ?_
        refine WL.va rfl rfl rfl (X.eql rfl rfl) ?_
        refine WL.va rfl rfl rfl (X.moveB rfl) ?_
        refine WL.split (j := 6) rfl (fun h19 => ?_) (fun h19 => ?_)
        · have gh19 := (of_decide_eq_true h19)
          have hbit := bit_of1 gh19
          refine WL.vg rfl (congrArg some h19) rfl rfl (X.moveI rfl) ?_
          refine WL.vg rfl (congrArg some h19) rfl rfl (X.quo rfl rfl (by omega) (k8 (by omega))) ?_
          refine WL.vg rfl (congrArg some h19) rfl rfl (X.move ((hAL0.eq 7).trans (congrFun hF15 7))) ?_
          refine WL.vg rfl (congrArg some h19) rfl rfl (X.len (Bytes.of_own hc) rfl Try.underlying22) ?_
          refine WL.vg rfl (congrArg some h19) rfl rfl (X.lss rfl rfl) ?_
          refine WL.va rfl rfl rfl (X.pickT rfl h19 rfl) ?_
          refine WL.nil ?_
          refine thn_n ?_
          refine WF.cond rfl (fun h2_20 => ?_) (fun h2_20 => ?_)
          · have gh2_20 := (of_decide_eq_true h2_20)
            refine WF.seq ?_
            refine WF.region ?_
            refine WL.va rfl rfl rfl (X.move ((hAL0.eq 7).trans (congrFun hF15 7))) ?_
            refine WL.va rfl rfl rfl (X.moveI rfl) ?_
            refine WL.va rfl rfl rfl (X.quo rfl rfl (by omega) (k8 (by omega))) ?_
            refine WL.va rfl rfl rfl (X.move ((hAL0.eq 7).trans (congrFun hF15 7))) ?_
            refine WL.va rfl rfl rfl (X.moveI rfl) ?_
            refine WL.va rfl rfl rfl (X.quo rfl rfl (by omega) (k8 (by omega))) ?_
            refine WL.va rfl rfl rfl (X.idx (Bytes.of_own hc) rfl rfl (by omega) Try.underlying22 Try.sizeOf5) ?_
            refine WL.va rfl rfl rfl (X.loadB (Bytes.of_own hc) (Ext.refl _) rfl (by omega) Try.isAgg5) ?_
            refine WL.va rfl rfl rfl (X.moveI rfl) ?_
            refine WL.va rfl rfl rfl (X.rem rfl rfl (by omega) (k8m _ _)) ?_
            refine WL.va rfl rfl rfl (X.conv rfl (congrArg Option.isSome Try.underlying3) Try.underlying31 (wu64 (by omega))) ?_
            refine WL.va rfl rfl rfl (X.shl rfl rfl (by omega) (shl8 _ (by omega) (by omega))) ?_
            refine WL.va rfl rfl rfl (X.xor rfl rfl (xor8 _ _)) ?_
            refine WL.va rfl rfl rfl (X.idx (Bytes.of_own hc) rfl rfl (by omega) Try.underlying22 Try.sizeOf5) ?_
            refine WL.op rfl (OW.storeB hc (by omega) rfl rfl Try.sizeOf5 ?_)
            intro w22 ho25 hx24
            have hc1 := ho25
            refine WL.nil ?_
            refine thn_n ?_
            refine WF.region ?_
            refine WL.va rfl rfl rfl (X.moveI e8_L0) ?_
            refine WL.va rfl rfl rfl (X.add rfl rfl (w64 (by omega))) ?_
            refine WL.va rfl rfl rfl (X.assignI rfl) ?_
            refine WL.nil ?_
            refine blk_n ?_
            refine thn_n ?_
            refine WF.region ?_
            refine WL.va rfl rfl rfl (X.moveI e9_L0) ?_
            refine WL.va rfl rfl rfl (X.add rfl rfl (w64 (by omega))) ?_
            refine WL.va rfl rfl rfl (X.assignI rfl) ?_
            refine WL.nil ?_
            first | exact thn_n ⟨_, (by omega), i + 1, n + 1, _, rfl, rfl, rfl, (by repeat (first | exact hAL0 | refine Agree.put ?_ rfl | refine Agree.named hF15 ?_)), (Ext.own hwL0 hc (Nat.le_refl _) hx24), ⟨by omega, hc1, ht.turn hbit (by omega)⟩⟩ | exact thn_n ⟨_, (by omega), i + 1, n, _, rfl, rfl, rfl, (by repeat (first | exact hAL0 | refine Agree.put ?_ rfl | refine Agree.named hF15 ?_)), (Ext.own hwL0 hc (Nat.le_refl _) hx24), ⟨by omega, hc, ht.skip (by rw [hbit, Bool.false_and])⟩⟩ | exact thn_n ⟨_, (by omega), i + 1, n, _, rfl, rfl, rfl, (by repeat (first | exact hAL0 | refine Agree.put ?_ rfl | refine Agree.named hF15 ?_)), (Ext.own hwL0 hc (Nat.le_refl _) hx24), ⟨by omega, hc, ht.skip (by rw [Bool.and_eq_false_iff]; exact .inr (decide_eq_false (by omega)))⟩⟩
          · have gh2_20 := (of_decide_eq_false h2_20)
            refine WF.skip ?_
            refine blk_n ?_
            refine thn_n ?_
            refine WF.region ?_
            refine WL.va rfl rfl rfl (X.moveI e9_L0) ?_
            refine WL.va rfl rfl rfl (X.add rfl rfl (w64 (by omega))) ?_
            refine WL.va rfl rfl rfl (X.assignI rfl) ?_
            refine WL.nil ?_
            first | exact thn_n ⟨_, (by omega), i + 1, n + 1, _, rfl, rfl, e8_L0, (by repeat (first | exact hAL0 | refine Agree.put ?_ rfl | refine Agree.named hF15 ?_)), hwL0, ⟨by omega, hc1, ht.turn hbit (by omega)⟩⟩ | exact thn_n ⟨_, (by omega), i + 1, n, _, rfl, rfl, e8_L0, (by repeat (first | exact hAL0 | refine Agree.put ?_ rfl | refine Agree.named hF15 ?_)), hwL0, ⟨by omega, hc, ht.skip (by rw [hbit, Bool.false_and])⟩⟩ | exact thn_n ⟨_, (by omega), i + 1, n, _, rfl, rfl, e8_L0, (by repeat (first | exact hAL0 | refine Agree.put ?_ rfl | refine Agree.named hF15 ?_)), hwL0, ⟨by omega, hc, ht.skip (by rw [Bool.and_eq_false_iff]; exact .inr (decide_eq_false (by omega)))⟩⟩
        · have gh19 := (of_decide_eq_false h19)
          have hbit := bit_of0 gh19
          refine WL.p rfl rfl rfl (congrArg some h19) ?_
          refine WL.p rfl rfl rfl (congrArg some h19) ?_
          refine WL.p rfl rfl rfl (congrArg some h19) ?_
          refine WL.p rfl rfl rfl (congrArg some h19) ?_
          refine WL.p rfl rfl rfl (congrArg some h19) ?_
          refine WL.va rfl rfl rfl (X.pickF rfl h19 rfl) ?_
          refine WL.nil ?_
          refine thn_n ?_
          refine WF.cond_f rfl ?_
          refine WF.skip ?_
          refine blk_n ?_
          refine thn_n ?_
          refine WF.region ?_
          refine WL.va rfl rfl rfl (X.moveI e9_L0) ?_
          refine WL.va rfl rfl rfl (X.add rfl rfl (w64 (by omega))) ?_
          refine WL.va rfl rfl rfl (X.assignI rfl) ?_
          refine WL.nil ?_
          first | exact thn_n ⟨_, (by omega), i + 1, n + 1, _, rfl, rfl, e8_L0, (by repeat (first | exact hAL0 | refine Agree.put ?_ rfl | refine Agree.named hF15 ?_)), hwL0, ⟨by omega, hc1, ht.turn hbit (by omega)⟩⟩ | exact thn_n ⟨_, (by omega), i + 1, n, _, rfl, rfl, e8_L0, (by repeat (first | exact hAL0 | refine Agree.put ?_ rfl | refine Agree.named hF15 ?_)), hwL0, ⟨by omega, hc, ht.skip (by rw [hbit, Bool.false_and])⟩⟩ | exact thn_n ⟨_, (by omega), i + 1, n, _, rfl, rfl, e8_L0, (by repeat (first | exact hAL0 | refine Agree.put ?_ rfl | refine Agree.named hF15 ?_)), hwL0, ⟨by omega, hc, ht.skip (by rw [Bool.and_eq_false_iff]; exact .inr (decide_eq_false (by omega)))⟩⟩
      · have gh1_16 := (of_decide_eq_false h1_16)
        refine WF.exit ?_
        refine thn_x ?_
        refine thn_x ?_
        refine blk_eq ?_
        refine thn_n ?_
        refine WF.seq ?_
        refine WF.region ?_
        refine WL.va rfl rfl rfl (X.move ((hAL0.eq 7).trans (congrFun hF15 7))) ?_
        refine WL.c rfl rfl rfl (X.call Try.call15 (evl_cons rfl evl_nil)) (of_ok _ _ _ (Bytes.of_own hc)) ?_
        rintro v28 w27 ⟨rfl, rfl⟩
        refine WL.va rfl rfl rfl (X.move ((hAL0.eq 0).trans (congrFun hF15 0))) ?_
        refine WL.c rfl rfl rfl (X.call Try.call15 (evl_cons rfl evl_nil)) (of_ok _ _ _ (hb.ext hwL0)) ?_
        rintro v31 w30 ⟨rfl, rfl⟩
        refine WL.va rfl rfl rfl (X.eql rfl rfl) ?_
        refine WL.va rfl rfl rfl (X.moveI e8_L0) ?_
        refine WL.va rfl rfl rfl (X.eql rfl rfl) ?_
        refine WL.va rfl rfl rfl (X.eqlB rfl rfl Try.underlying4) ?_
        refine WL.va rfl rfl rfl (X.moveB rfl) ?_
        refine WL.split (j := 8) rfl (fun h36 => ?_) (fun h36 => ?_)
        · have gh36 := h36
          refine WL.cg rfl (congrArg some h36) rfl rfl (X.call Try.call20 evl_nil) (known_ok _) ?_
          rintro v38 w37 ⟨rfl, hx39⟩
          refine WL.va rfl rfl rfl (X.pickT rfl h36 rfl) ?_
          refine WL.va rfl rfl rfl (X.assignB rfl) ?_
          refine WL.nil ?_
          refine thn_n ?_
          refine WF.ret ?_
          refine fin_r ?_
          exact ⟨rfl, (Ext.trans hwL0 hx39)⟩
        · have gh36 := h36
          (obtain rfl : i = 32 := (by omega)); exact absurd ht.bool (by rw [gh36]; simp)

theorem sumsLaid_walk (va : Value) (a : List UInt8) (vb : Value) (b : List UInt8) (w : World) (ha : Bytes w va a) (_hza : a.length ≤ 140737488351232) (hb : Bytes w vb b) (_hzb : b.length ≤ 140737488351232) : FnOk Try.prog 6 [va, vb] w (fun r w' => r = .bool true ∧ Ext w w') := by
  obtain ⟨N, hN⟩ : ∃ N, N = min (min a.length b.length) 65536 := ⟨_, rfl⟩
  have hNa : N ≤ a.length := by omega
  have hNb : N ≤ b.length := by omega
  have ba := Bytes.part ha 0 N (Nat.zero_le _) hNa
  have bb := Bytes.part hb 0 N (Nat.zero_le _) hNb
  refine FnOk.enter (rs := [4]) Try.func6 rfl Try.ntmps6 Try.results6 rfl rfl ?_
  refine WF.seq ?_
  refine WF.region ?_
  refine WL.va rfl rfl rfl (X.assignB rfl) ?_
  refine WL.nil ?_
  refine thn_n ?_
  refine WF.seq ?_
  refine WF.region ?_
  refine WL.va rfl rfl rfl (X.move rfl) ?_
  refine WL.va rfl rfl rfl (X.len ha rfl Try.underlying22) ?_
  refine WL.va rfl rfl rfl (X.move rfl) ?_
  refine WL.va rfl rfl rfl (X.len hb rfl Try.underlying22) ?_
  refine WL.va rfl rfl rfl (X.min3V hN rfl rfl (c := 65536) rfl) ?_
  refine WL.va rfl rfl rfl (X.assignI rfl) ?_
  refine WL.nil ?_
  refine thn_n ?_
  refine WF.seq ?_
  refine WF.region ?_
  refine WL.va rfl rfl rfl (X.moveI rfl) ?_
  refine WL.op rfl (OW.makeB (n := N) rfl rfl Try.underlying22 Try.type5 rfl rfl rfl (by omega) ?_ (by decide))
  intro v3 w2 ho5 hx4
  have hmk := ho5
  obtain ⟨vc, hvm⟩ : ∃ vm, vm = v3 := ⟨_, rfl⟩
  subst hvm
  refine WL.va rfl rfl rfl (X.assign rfl) ?_
  refine WL.nil ?_
  refine thn_n ?_
  refine WF.seq ?_
  refine WF.seq ?_
  refine WF.region ?_
  refine WL.va rfl rfl rfl (X.assignI rfl) ?_
  refine WL.nil ?_
  refine thn_n ?_
  refine WF.block ?_
  refine WF.named (fun F6 hF7 => ?_)
  refine WF.loopN (fun mL0 f' w' => ∃ (k : Nat) (C : List UInt8), mL0 = N - k ∧ f' 7 = .int .i64 (k : Int) ∧ Agree [0, 1, 4, 5, 6, 8, 9, 10, 11, 12, 13, 14] f' F6 ∧ Ext w w' ∧ k ≤ N ∧ C.length = N ∧ C.take k = (Crc.lay ((a.drop 0).take (N - 0)) ((b.drop 0).take (N - 0))).take k ∧ OwnB w' w.heap.size 5 vc C) ?_ ?_
  · exact ⟨_, 0, List.replicate N 0, rfl, (congrFun hF7 7), (Agree.refl _ _), hx4, ⟨Nat.zero_le _, by simp, by simp, hmk⟩⟩
  · rintro mL0 fL0 wL0 ⟨k, C, hmL0, e7_L0, hAL0, hwL0, ⟨hk, hC, hCk, hc⟩⟩
    refine WF.seq ?_
    refine WF.seq ?_
    refine WF.region ?_
    refine WL.va rfl rfl rfl (X.moveI e7_L0) ?_
    refine WL.va rfl rfl rfl (X.moveI ((hAL0.eq 5).trans (congrFun hF7 5))) ?_
    refine WL.va rfl rfl rfl (X.lss rfl rfl) ?_
    refine WL.nil ?_
    refine thn_n ?_
    refine WF.cond rfl (fun h0_8 => ?_) (fun h0_8 => ?_)
    · have gh0_8 := (of_decide_eq_true h0_8)
      refine WF.skip ?_
      refine thn_n ?_
      refine WF.seq ?_
      refine WF.block ?_
      refine WF.drawn (.q 0 (.q 1 (.q 2 (.q 3 (.q 4 (.q 5 (.q 6 (.q 7 (.q 8 (.q 9 (.q 10 (.q 11 .nil)))))))))))) (fun w' => Ext wL0 w') 12 (by kernel_rfl) (by kernel_rfl) (Ext.drew _) ?_
      refine WO.q rfl rfl rfl rfl (fun w' hE10 => (X.move ((hAL0.eq 6).trans (congrFun hF7 6)))) ?_
      refine WO.q rfl rfl rfl rfl (fun w' hE10 => (X.moveI e7_L0)) ?_
      refine WO.q rfl rfl rfl rfl (fun w' hE10 => (X.move ((hAL0.eq 0).trans (congrFun hF7 0)))) ?_
      refine WO.q rfl rfl rfl rfl (fun w' hE10 => (X.moveI e7_L0)) ?_
      refine WO.q rfl rfl rfl rfl (fun w' hE10 => (X.idx ha rfl rfl (by omega) Try.underlying22 Try.sizeOf5)) ?_
      refine WO.q rfl rfl rfl rfl (fun w' hE10 => (X.loadB ha (Ext.trans hwL0 hE10) rfl (by omega) Try.isAgg5)) ?_
      refine WO.q rfl rfl rfl rfl (fun w' hE10 => (X.move ((hAL0.eq 1).trans (congrFun hF7 1)))) ?_
      refine WO.q rfl rfl rfl rfl (fun w' hE10 => (X.moveI e7_L0)) ?_
      refine WO.q rfl rfl rfl rfl (fun w' hE10 => (X.idx hb rfl rfl (by omega) Try.underlying22 Try.sizeOf5)) ?_
      refine WO.q rfl rfl rfl rfl (fun w' hE10 => (X.loadB hb (Ext.trans hwL0 hE10) rfl (by omega) Try.isAgg5)) ?_
      refine WO.q rfl rfl rfl rfl (fun w' hE10 => (X.xor rfl rfl (xor8 _ _))) ?_
      refine WO.q rfl rfl rfl rfl (fun w' hE10 => (X.idx (Bytes.of_own hc) rfl rfl (by omega) Try.underlying22 Try.sizeOf5)) ?_
      refine WO.nil ?_
      refine WL.op rfl (OW.storeB (OwnB.ext hc (Ext.drew _)) (by omega) rfl rfl Try.sizeOf5 ?_)
      intro w11 ho14 hx13
      have hc1 := ho14
      refine WL.nil ?_
      refine blk_n ?_
      refine thn_n ?_
      refine WF.region ?_
      refine WL.va rfl rfl rfl (X.moveI e7_L0) ?_
      refine WL.va rfl rfl rfl (X.add rfl rfl (w64 (by omega))) ?_
      refine WL.va rfl rfl rfl (X.assignI rfl) ?_
      refine WL.nil ?_
      exact thn_n ⟨_, (by omega), k + 1, _, rfl, rfl, (by repeat (first | exact hAL0 | refine Agree.put ?_ rfl | refine Agree.named hF7 ?_)), (Ext.own (Ext.trans hwL0 (Ext.drew _)) (OwnB.ext hc (Ext.drew _)) (Nat.le_refl _) hx13), ⟨by omega, by simp [hC], by rw [take_set_succ _ _ _ (by omega), hCk, take_getD (Crc.lay _ _) k (by simp [Crc.lay]; omega), lay_at (N := N) (by omega) hNa hNb], hc1⟩⟩
    · have gh0_8 := (of_decide_eq_false h0_8)
      have hCC : C = Crc.lay ((a.drop 0).take (N - 0)) ((b.drop 0).take (N - 0)) := by
        obtain rfl : k = N := by omega
        rw [List.take_of_length_le (by omega), List.take_of_length_le (by simp [Crc.lay]; omega)] at hCk; exact hCk
      have hlaid := Crc.laid ((a.drop 0).take (N - 0)) ((b.drop 0).take (N - 0)) (by simp; omega)
      rw [← hCC, show ((a.drop 0).take (N - 0)).length = N by simp; omega] at hlaid
      refine WF.exit ?_
      refine thn_x ?_
      refine thn_x ?_
      refine blk_eq ?_
      refine thn_n ?_
      refine WF.seq ?_
      refine WF.drawn (.q 0 (.q 1 (.q 2 (.q 4 (.q 5 (.q 6 (.q 9 (.q 12 (.b 3 13 (.b 7 13 (.q 8 (.b 10 13 (.q 11 (.l 13 (.l 14 (.q 15 (.q 16 (.l 17 (.q 18 (.q 19 .nil)))))))) (.l 10 (.q 11 (.l 14 (.q 15 (.q 16 (.l 17 (.q 18 (.q 19 .nil)))))))))) (.l 7 (.q 8 (.l 10 (.q 11 (.l 14 (.q 15 (.q 16 (.l 17 (.q 18 (.q 19 .nil))))))))))) (.l 3 (.l 7 (.q 8 (.l 10 (.q 11 (.l 14 (.q 15 (.q 16 (.l 17 (.q 18 (.q 19 .nil)))))))))))))))))))) (fun w' => Ext wL0 w') 20 (by kernel_rfl) (by kernel_rfl) (Ext.drew _) ?_
      refine WO.q rfl rfl rfl rfl (fun w' hE15 => (X.move ((hAL0.eq 0).trans (congrFun hF7 0)))) ?_
      refine WO.q rfl rfl rfl rfl (fun w' hE15 => (X.moveI ((hAL0.eq 5).trans (congrFun hF7 5)))) ?_
      refine WO.q rfl rfl rfl rfl (fun w' hE15 => (X.slH ha rfl rfl (by omega) Try.underlying22 Try.sizeOf5)) ?_
      refine WO.q rfl rfl rfl rfl (fun w' hE15 => (X.move ((hAL0.eq 1).trans (congrFun hF7 1)))) ?_
      refine WO.q rfl rfl rfl rfl (fun w' hE15 => (X.moveI ((hAL0.eq 5).trans (congrFun hF7 5)))) ?_
      refine WO.q rfl rfl rfl rfl (fun w' hE15 => (X.slH hb rfl rfl (by omega) Try.underlying22 Try.sizeOf5)) ?_
      refine WO.q rfl rfl rfl rfl (fun w' hE15 => (X.move ((hAL0.eq 6).trans (congrFun hF7 6)))) ?_
      refine WO.q rfl rfl rfl rfl (fun w' hE15 => (X.moveI ((hAL0.eq 5).trans (congrFun hF7 5)))) ?_
      refine WO.b2 ?_ ?_
      · refine LO.go rfl rfl (OW.enter rfl (by decide) (X.call Try.call15 (evl_cons rfl evl_nil)) (of_ok _ _ _ (ba.ext (Ext.trans hwL0 (Ext.drew _)))) ?_)
        rintro v17 w16 ⟨rfl, rfl⟩
        refine ⟨(Ext.drew _), ?_⟩
        refine WO.b2 ?_ ?_
        · refine LO.go rfl rfl (OW.enter rfl (by decide) (X.call Try.call15 (evl_cons rfl evl_nil)) (of_ok _ _ _ (bb.ext (Ext.trans hwL0 (Ext.drew _)))) ?_)
          rintro v20 w19 ⟨rfl, rfl⟩
          refine ⟨(Ext.drew _), ?_⟩
          refine WO.q rfl rfl rfl rfl (fun w' hE15 => (X.xor rfl rfl (xor32 _ _))) ?_
          refine WO.b2 ?_ ?_
          · refine LO.go rfl rfl (OW.enter rfl (by decide) (X.call Try.call15 (evl_cons rfl evl_nil)) (of_ok _ _ _ (Bytes.of_own (OwnB.ext hc (Ext.drew _)))) ?_)
            rintro v23 w22 ⟨rfl, rfl⟩
            refine ⟨(Ext.drew _), ?_⟩
            refine WO.q rfl rfl rfl rfl (fun w' hE15 => (X.xor rfl rfl (xor32 _ _))) ?_
            refine WO.l ?_
            refine LO.go rfl rfl (OW.makeB (n := N) rfl rfl Try.underlying22 Try.type5 rfl rfl rfl (by omega) ?_ (by decide))
            intro v26 w25 ho28 hx27
            refine ⟨(Ext.trans (Ext.drew _) hx27), ?_⟩
            refine WO.l ?_
            refine LO.go rfl rfl (OW.enter rfl (by decide) (X.call Try.call15 (evl_cons rfl evl_nil)) (of_ok _ _ _ (Bytes.of_own ho28)) ?_)
            rintro v30 w29 ⟨rfl, rfl⟩
            refine ⟨(Ext.trans (Ext.drew _) hx27), ?_⟩
            refine WO.q rfl rfl rfl rfl (fun w' hE15 => (X.eql rfl rfl)) ?_
            refine WO.q rfl rfl rfl rfl (fun w' hE15 => (X.moveB rfl)) ?_
            refine WO.l ?_
            refine LO.split (j := 16) rfl (fun h33 => ?_) (fun h33 => ?_)
            · have gh33 := (of_decide_eq_true h33)
              refine LO.gog rfl rfl (congrArg some h33) (OW.enter rfl (by decide) (X.call Try.call20 evl_nil) (known_ok _) ?_)
              rintro v35 w34 ⟨rfl, hx36⟩
              refine ⟨(Ext.trans (Ext.trans (Ext.drew _) hx27) hx36), ?_⟩
              refine WO.q rfl rfl rfl rfl (fun w' hE15 => (X.pickT rfl h33 rfl)) ?_
              refine WO.q rfl rfl rfl rfl (fun w' hE15 => (X.assignB rfl)) ?_
              refine WO.nil ?_
              refine WL.nil ?_
              refine thn_n ?_
              refine WF.ret ?_
              refine fin_r ?_
              exact ⟨rfl, (Ext.trans (Ext.trans (Ext.trans hwL0 (Ext.drew _)) hx27) hx36)⟩
            · have gh33 := (of_decide_eq_false h33)
              exact absurd (congrArg (fun r : BitVec 32 => (r.toNat : Int)) hlaid) gh33
          · refine LO.go rfl rfl (OW.makeB (n := N) rfl rfl Try.underlying22 Try.type5 rfl rfl rfl (by omega) ?_ (by decide))
            intro v39 w38 ho41 hx40
            refine ⟨(Ext.trans (Ext.drew _) hx40), ?_⟩
            refine WO.l ?_
            refine LO.go rfl rfl (OW.enter rfl (by decide) (X.call Try.call15 (evl_cons rfl evl_nil)) (of_ok _ _ _ (Bytes.of_own (OwnB.ext hc (Ext.trans (Ext.drew _) hx40)))) ?_)
            rintro v43 w42 ⟨rfl, rfl⟩
            refine ⟨(Ext.trans (Ext.drew _) hx40), ?_⟩
            refine WO.q rfl rfl rfl rfl (fun w' hE15 => (X.xor rfl rfl (xor32 _ _))) ?_
            refine WO.l ?_
            refine LO.go rfl rfl (OW.enter rfl (by decide) (X.call Try.call15 (evl_cons rfl evl_nil)) (of_ok _ _ _ (Bytes.of_own ho41)) ?_)
            rintro v46 w45 ⟨rfl, rfl⟩
            refine ⟨(Ext.trans (Ext.drew _) hx40), ?_⟩
            refine WO.q rfl rfl rfl rfl (fun w' hE15 => (X.eql rfl rfl)) ?_
            refine WO.q rfl rfl rfl rfl (fun w' hE15 => (X.moveB rfl)) ?_
            refine WO.l ?_
            refine LO.split (j := 16) rfl (fun h49 => ?_) (fun h49 => ?_)
            · have gh49 := (of_decide_eq_true h49)
              refine LO.gog rfl rfl (congrArg some h49) (OW.enter rfl (by decide) (X.call Try.call20 evl_nil) (known_ok _) ?_)
              rintro v51 w50 ⟨rfl, hx52⟩
              refine ⟨(Ext.trans (Ext.trans (Ext.drew _) hx40) hx52), ?_⟩
              refine WO.q rfl rfl rfl rfl (fun w' hE15 => (X.pickT rfl h49 rfl)) ?_
              refine WO.q rfl rfl rfl rfl (fun w' hE15 => (X.assignB rfl)) ?_
              refine WO.nil ?_
              refine WL.nil ?_
              refine thn_n ?_
              refine WF.ret ?_
              refine fin_r ?_
              exact ⟨rfl, (Ext.trans (Ext.trans (Ext.trans hwL0 (Ext.drew _)) hx40) hx52)⟩
            · have gh49 := (of_decide_eq_false h49)
              exact absurd (congrArg (fun r : BitVec 32 => (r.toNat : Int)) hlaid) gh49
        · refine LO.go rfl rfl (OW.makeB (n := N) rfl rfl Try.underlying22 Try.type5 rfl rfl rfl (by omega) ?_ (by decide))
          intro v55 w54 ho57 hx56
          refine ⟨(Ext.trans (Ext.drew _) hx56), ?_⟩
          refine WO.l ?_
          refine LO.go rfl rfl (OW.enter rfl (by decide) (X.call Try.call15 (evl_cons rfl evl_nil)) (of_ok _ _ _ (bb.ext (Ext.trans (Ext.trans hwL0 (Ext.drew _)) hx56))) ?_)
          rintro v59 w58 ⟨rfl, rfl⟩
          refine ⟨(Ext.trans (Ext.drew _) hx56), ?_⟩
          refine WO.q rfl rfl rfl rfl (fun w' hE15 => (X.xor rfl rfl (xor32 _ _))) ?_
          refine WO.l ?_
          refine LO.go rfl rfl (OW.enter rfl (by decide) (X.call Try.call15 (evl_cons rfl evl_nil)) (of_ok _ _ _ (Bytes.of_own (OwnB.ext hc (Ext.trans (Ext.drew _) hx56)))) ?_)
          rintro v62 w61 ⟨rfl, rfl⟩
          refine ⟨(Ext.trans (Ext.drew _) hx56), ?_⟩
          refine WO.q rfl rfl rfl rfl (fun w' hE15 => (X.xor rfl rfl (xor32 _ _))) ?_
          refine WO.l ?_
          refine LO.go rfl rfl (OW.enter rfl (by decide) (X.call Try.call15 (evl_cons rfl evl_nil)) (of_ok _ _ _ (Bytes.of_own ho57)) ?_)
          rintro v65 w64 ⟨rfl, rfl⟩
          refine ⟨(Ext.trans (Ext.drew _) hx56), ?_⟩
          refine WO.q rfl rfl rfl rfl (fun w' hE15 => (X.eql rfl rfl)) ?_
          refine WO.q rfl rfl rfl rfl (fun w' hE15 => (X.moveB rfl)) ?_
          refine WO.l ?_
          refine LO.split (j := 16) rfl (fun h68 => ?_) (fun h68 => ?_)
          · have gh68 := (of_decide_eq_true h68)
            refine LO.gog rfl rfl (congrArg some h68) (OW.enter rfl (by decide) (X.call Try.call20 evl_nil) (known_ok _) ?_)
            rintro v70 w69 ⟨rfl, hx71⟩
            refine ⟨(Ext.trans (Ext.trans (Ext.drew _) hx56) hx71), ?_⟩
            refine WO.q rfl rfl rfl rfl (fun w' hE15 => (X.pickT rfl h68 rfl)) ?_
            refine WO.q rfl rfl rfl rfl (fun w' hE15 => (X.assignB rfl)) ?_
            refine WO.nil ?_
            refine WL.nil ?_
            refine thn_n ?_
            refine WF.ret ?_
            refine fin_r ?_
            exact ⟨rfl, (Ext.trans (Ext.trans (Ext.trans hwL0 (Ext.drew _)) hx56) hx71)⟩
          · have gh68 := (of_decide_eq_false h68)
            exact absurd (congrArg (fun r : BitVec 32 => (r.toNat : Int)) hlaid) gh68
      · refine LO.go rfl rfl (OW.makeB (n := N) rfl rfl Try.underlying22 Try.type5 rfl rfl rfl (by omega) ?_ (by decide))
        intro v74 w73 ho76 hx75
        refine ⟨(Ext.trans (Ext.drew _) hx75), ?_⟩
        refine WO.l ?_
        refine LO.go rfl rfl (OW.enter rfl (by decide) (X.call Try.call15 (evl_cons rfl evl_nil)) (of_ok _ _ _ (ba.ext (Ext.trans (Ext.trans hwL0 (Ext.drew _)) hx75))) ?_)
        rintro v78 w77 ⟨rfl, rfl⟩
        refine ⟨(Ext.trans (Ext.drew _) hx75), ?_⟩
        refine WO.l ?_
        refine LO.go rfl rfl (OW.enter rfl (by decide) (X.call Try.call15 (evl_cons rfl evl_nil)) (of_ok _ _ _ (bb.ext (Ext.trans (Ext.trans hwL0 (Ext.drew _)) hx75))) ?_)
        rintro v81 w80 ⟨rfl, rfl⟩
        refine ⟨(Ext.trans (Ext.drew _) hx75), ?_⟩
        refine WO.q rfl rfl rfl rfl (fun w' hE15 => (X.xor rfl rfl (xor32 _ _))) ?_
        refine WO.l ?_
        refine LO.go rfl rfl (OW.enter rfl (by decide) (X.call Try.call15 (evl_cons rfl evl_nil)) (of_ok _ _ _ (Bytes.of_own (OwnB.ext hc (Ext.trans (Ext.drew _) hx75)))) ?_)
        rintro v84 w83 ⟨rfl, rfl⟩
        refine ⟨(Ext.trans (Ext.drew _) hx75), ?_⟩
        refine WO.q rfl rfl rfl rfl (fun w' hE15 => (X.xor rfl rfl (xor32 _ _))) ?_
        refine WO.l ?_
        refine LO.go rfl rfl (OW.enter rfl (by decide) (X.call Try.call15 (evl_cons rfl evl_nil)) (of_ok _ _ _ (Bytes.of_own ho76)) ?_)
        rintro v87 w86 ⟨rfl, rfl⟩
        refine ⟨(Ext.trans (Ext.drew _) hx75), ?_⟩
        refine WO.q rfl rfl rfl rfl (fun w' hE15 => (X.eql rfl rfl)) ?_
        refine WO.q rfl rfl rfl rfl (fun w' hE15 => (X.moveB rfl)) ?_
        refine WO.l ?_
        refine LO.split (j := 16) rfl (fun h90 => ?_) (fun h90 => ?_)
        · have gh90 := (of_decide_eq_true h90)
          refine LO.gog rfl rfl (congrArg some h90) (OW.enter rfl (by decide) (X.call Try.call20 evl_nil) (known_ok _) ?_)
          rintro v92 w91 ⟨rfl, hx93⟩
          refine ⟨(Ext.trans (Ext.trans (Ext.drew _) hx75) hx93), ?_⟩
          refine WO.q rfl rfl rfl rfl (fun w' hE15 => (X.pickT rfl h90 rfl)) ?_
          refine WO.q rfl rfl rfl rfl (fun w' hE15 => (X.assignB rfl)) ?_
          refine WO.nil ?_
          refine WL.nil ?_
          refine thn_n ?_
          refine WF.ret ?_
          refine fin_r ?_
          exact ⟨rfl, (Ext.trans (Ext.trans (Ext.trans hwL0 (Ext.drew _)) hx75) hx93)⟩
        · have gh90 := (of_decide_eq_false h90)
          exact absurd (congrArg (fun r : BitVec 32 => (r.toNat : Int)) hlaid) gh90

theorem sumsKnown_walk (w : World) : FnOk Try.prog 7 [] w (fun r w' => r = .bool true ∧ Ext w w') := by
  refine FnOk.enter (rs := [0]) Try.func7 rfl Try.ntmps7 Try.results7 rfl rfl ?_
  refine WF.seq ?_
  refine WF.region ?_
  refine WL.va rfl rfl rfl (X.assignB rfl) ?_
  refine WL.nil ?_
  refine thn_n ?_
  refine WF.seq ?_
  refine WF.region ?_
  refine WL.c rfl rfl rfl (X.call Try.call15 (evl_cons rfl evl_nil)) (of_ok _ [] _ (Bytes.nil _)) ?_
  rintro v3 w2 ⟨rfl, rfl⟩
  refine WL.va rfl rfl rfl (X.eql rfl rfl) ?_
  refine WL.va rfl rfl rfl (X.moveB rfl) ?_
  refine WL.split (j := 2) rfl (fun h6 => ?_) (fun h6 => ?_)
  · have gh6 := (of_decide_eq_true h6)
    refine WL.opg rfl (congrArg some h6) (OW.lits (vs := [u8 97]) (evp_cons rfl evp_nil) Try.underlying22 Try.sizeOf5 Try.zeroValue5 ⟨rfl, trivial⟩ rfl rfl rfl ?_ (by decide))
    intro v8 w7 ho10 hx9
    refine WL.opg rfl (congrArg some h6) (OW.convB ho10 (by decide) rfl Try.underlying22 Try.underlying5 ?_ (by decide))
    intro w11 ho14 hx13
    refine WL.cg rfl (congrArg some h6) rfl rfl (X.call Try.call15 (evl_cons rfl evl_nil)) (of_ok _ _ _ (show Bytes _ _ [97] from ho14)) ?_
    rintro v16 w15 ⟨rfl, rfl⟩
    refine WL.vg rfl (congrArg some h6) rfl rfl (X.eql rfl rfl) ?_
    refine WL.va rfl rfl rfl (X.pickT rfl h6 rfl) ?_
    refine WL.va rfl rfl rfl (X.moveB rfl) ?_
    refine WL.split (j := 8) rfl (fun h19 => ?_) (fun h19 => ?_)
    · have gh19 := (of_decide_eq_true h19)
      refine WL.opg rfl (congrArg some h19) (OW.makeB (n := 32) rfl rfl Try.underlying22 Try.type5 rfl rfl rfl (by decide) ?_ (by decide))
      intro v21 w20 ho23 hx22
      refine WL.cg rfl (congrArg some h19) rfl rfl (X.call Try.call15 (evl_cons rfl evl_nil)) (of_ok _ _ _ (Bytes.of_own ho23)) ?_
      rintro v25 w24 ⟨rfl, rfl⟩
      refine WL.vg rfl (congrArg some h19) rfl rfl (X.eql rfl rfl) ?_
      refine WL.va rfl rfl rfl (X.pickT rfl h19 rfl) ?_
      refine WL.va rfl rfl rfl (X.moveB rfl) ?_
      refine WL.split (j := 13) rfl (fun h28 => ?_) (fun h28 => ?_)
      · have gh28 := (of_decide_eq_true h28)
        refine WL.cg rfl (congrArg some h28) rfl rfl (X.call Try.call17 (evl_cons rfl (evl_cons rfl evl_nil))) (more_ok 7 _ [] _ (Bytes.nil _)) ?_
        rintro v30 w29 ⟨rfl, rfl⟩
        refine WL.vg rfl (congrArg some h28) rfl rfl (X.eql rfl rfl) ?_
        refine WL.va rfl rfl rfl (X.pickT rfl h28 rfl) ?_
        refine WL.va rfl rfl rfl (X.moveB rfl) ?_
        refine WL.split (j := 17) rfl (fun h33 => ?_) (fun h33 => ?_)
        · have gh33 := (of_decide_eq_true h33)
          refine WL.cg rfl (congrArg some h33) rfl rfl (X.call Try.call20 evl_nil) (known_ok _) ?_
          rintro v35 w34 ⟨rfl, hx36⟩
          refine WL.va rfl rfl rfl (X.pickT rfl h33 rfl) ?_
          refine WL.va rfl rfl rfl (X.assignB rfl) ?_
          refine WL.nil ?_
          refine thn_n ?_
          refine WF.ret ?_
          refine fin_r ?_
          exact ⟨rfl, (Ext.trans (Ext.trans (Ext.own hx9 ho10 (Nat.le_refl _) hx13) hx22) hx36)⟩
        · have gh33 := (of_decide_eq_false h33)
          exact absurd (by decide +kernel) gh33
      · have gh28 := (of_decide_eq_false h28)
        exact absurd (by decide +kernel) gh28
    · have gh19 := (of_decide_eq_false h19)
      exact absurd (by decide +kernel) gh19
  · have gh6 := (of_decide_eq_false h6)
    exact absurd (by decide +kernel) gh6

end Go.Proofs.Ytljlkljbemdedaa
