/- The walks of the kit's functions over numbers and messages, and of slices' functions. -/
import Derived.Test.YtjmddkaokmdkbaaChecked
import Derived.Test.YtjmddkaokmdkbaaCo
import Derived.Test.YtjmddkaokmdkbaaIn
namespace Go.Proofs.Ytjmddkaokmdkbaa
open Go Go.RowKit Kf
set_option maxRecDepth 20000

theorem kept_ne0 {la l : List UInt8} (h : (la.length : Int) ≠ (l.length : Int) + 5) : la ≠ l ++ List.replicate 5 0xA5 := fun e => by
  apply h; rw [e]; simp
theorem kept_ne1 {la l : List UInt8} (h : decide ((la.drop 0).take (l.length - 0) = l) = false) : la ≠ l ++ List.replicate 5 0xA5 := fun e => by
  rw [e] at h; simp at h
theorem kept_ne2 {la l : List UInt8} {k : Nat} (h1 : l.length ≤ k) (h2 : k < l.length + 5) (h : ¬ la.getD k 0 = 0xA5) : la ≠ l ++ List.replicate 5 0xA5 := fun e => by
  apply h
  rw [e, List.getD_eq_getElem?_getD, List.getElem?_append_right h1, List.getElem?_replicate, if_pos (by omega)]
  rfl
theorem kept_eq {la l : List UInt8} (h : la.length = l.length + 5) (hp : decide ((la.drop 0).take (l.length - 0) = l) = true) (hm : ∀ i, l.length ≤ i → i < la.length → la.getD i 0 = 0xA5) : la = l ++ List.replicate 5 0xA5 := by
  have hp := of_decide_eq_true hp
  simp only [List.drop_zero, Nat.sub_zero] at hp
  conv => lhs; rw [← List.take_append_drop l.length la, hp]
  congr 1
  apply List.ext_getElem?
  intro i
  rw [List.getElem?_drop, List.getElem?_replicate]
  by_cases hi : i < 5
  · rw [if_pos hi]
    have := hm (l.length + i) (by omega) (by omega)
    rw [List.getD_eq_getElem?_getD, List.getElem?_eq_getElem (by omega)] at this
    rw [List.getElem?_eq_getElem (by omega)]
    simpa using this
  · rw [if_neg hi, List.getElem?_eq_none (by omega)]
theorem lent_part {w : World} {B : Nat} {v : Value} {l : List UInt8} (ho : OwnB w B 5 v (l ++ List.replicate 5 0xA5)) : Bytes w (Kf.part v 0 l.length 1) l := by
  have := Bytes.part (Bytes.of_own ho) 0 l.length (Nat.zero_le _) (by simp)
  simpa using this
theorem spoil_trans {a b c : World} {r : Option Nat} (h : a.grownBy b r) (k : b.grownBy c r) : a.grownBy c r :=
  ⟨k.os.trans h.os, k.tape.trans h.tape, k.output.trans h.output, Nat.le_trans h.size k.size, fun i hi hn => (k.block i (Nat.lt_of_lt_of_le hi h.size) hn).trans (h.block i hi hn)⟩
theorem sameBytes_ok (va vb : Value) (la lb : List UInt8) (w : World) (ha : Bytes w va la) (hb : Bytes w vb lb) : FnOk Try.prog 49 [va, vb] w (fun r w' => r = .bool (decide (la = lb)) ∧ Ext w w') := by
  have hla := ha.le64
  have hlb := hb.le64
  refine FnOk.enter (rs := [4]) Try.func49 rfl Try.ntmps49 Try.results49 rfl rfl ?_
  refine WF.seq ?_
  refine WF.region ?_
  refine WL.va rfl rfl rfl (X.assignB rfl) ?_
  refine WL.nil ?_
  refine thn_n ?_
  refine WF.seq ?_
  refine WF.seq ?_
  refine WF.region ?_
  refine WL.va rfl rfl rfl (X.move rfl) ?_
  refine WL.va rfl rfl rfl (X.len ha rfl Try.underlying38) ?_
  refine WL.va rfl rfl rfl (X.move rfl) ?_
  refine WL.va rfl rfl rfl (X.len hb rfl Try.underlying38) ?_
  refine WL.va rfl rfl rfl (X.neq rfl rfl) ?_
  refine WL.nil ?_
  refine thn_n ?_
  refine WF.cond rfl (fun h0_2 => ?_) (fun h0_2 => ?_)
  · have gh0_2 := (of_decide_eq_true h0_2)
    have hlen := gh0_2
    have hne : la ≠ lb := fun e => by rw [e] at gh0_2; exact gh0_2 rfl
    refine WF.seq ?_
    refine WF.region ?_
    refine WL.va rfl rfl rfl (X.assignB rfl) ?_
    refine WL.nil ?_
    refine thn_n ?_
    refine WF.ret ?_
    refine thn_r ?_
    refine fin_r ?_
    exact ⟨congrArg Value.bool (decide_eq_false hne).symm, (Ext.refl _)⟩
  · have gh0_2 := (Decidable.of_not_not (of_decide_eq_false h0_2))
    have hlen := gh0_2
    refine WF.skip ?_
    refine thn_n ?_
    refine WF.seq ?_
    refine WF.seq ?_
    refine WF.region ?_
    refine WL.va rfl rfl rfl (X.assignI rfl) ?_
    refine WL.nil ?_
    refine thn_n ?_
    refine WF.block ?_
    refine WF.named (fun F5 hF6 => ?_)
    refine WF.loopN (fun mL0 f' w' => ∃ (k : Nat), mL0 = la.length - k ∧ f' 5 = .int .i64 (k : Int) ∧ Agree [0, 1, 6, 7, 8, 9, 10] f' F5 ∧ Ext w w' ∧ k ≤ la.length ∧ la.take k = lb.take k) ?_ ?_
    · exact ⟨_, 0, rfl, (congrFun hF6 5), (Agree.refl _ _), (Ext.refl _), ⟨Nat.zero_le _, rfl⟩⟩
    · rintro mL0 fL0 wL0 ⟨k, hmL0, e5_L0, hAL0, hwL0, ⟨hk, hkk⟩⟩
      refine WF.seq ?_
      refine WF.seq ?_
      refine WF.region ?_
      refine WL.va rfl rfl rfl (X.moveI e5_L0) ?_
      refine WL.va rfl rfl rfl (X.move ((hAL0.eq 0).trans (congrFun hF6 0))) ?_
      refine WL.va rfl rfl rfl (X.len ha rfl Try.underlying38) ?_
      refine WL.va rfl rfl rfl (X.lss rfl rfl) ?_
      refine WL.nil ?_
      refine thn_n ?_
      refine WF.cond rfl (fun h1_7 => ?_) (fun h1_7 => ?_)
      · have gh1_7 := (of_decide_eq_true h1_7)
        have hlt := gh1_7
        refine WF.skip ?_
        refine thn_n ?_
        refine WF.seq ?_
        refine WF.block ?_
        refine WF.seq ?_
        refine WF.drawn (.q 0 (.q 1 (.q 2 (.q 3 (.q 4 (.q 5 (.q 6 (.q 7 (.q 8 .nil))))))))) (fun w' => Ext wL0 w') 9 (by kernel_rfl) (by kernel_rfl) (Ext.drew _) ?_
        refine WO.q rfl rfl rfl rfl (fun w' hE9 => (X.move ((hAL0.eq 0).trans (congrFun hF6 0)))) ?_
        refine WO.q rfl rfl rfl rfl (fun w' hE9 => (X.moveI e5_L0)) ?_
        refine WO.q rfl rfl rfl rfl (fun w' hE9 => (X.idx ha rfl rfl (by omega) Try.underlying38 Try.sizeOf5)) ?_
        refine WO.q rfl rfl rfl rfl (fun w' hE9 => (X.loadB ha (Ext.trans hwL0 hE9) rfl (by omega) Try.isAgg5)) ?_
        refine WO.q rfl rfl rfl rfl (fun w' hE9 => (X.move ((hAL0.eq 1).trans (congrFun hF6 1)))) ?_
        refine WO.q rfl rfl rfl rfl (fun w' hE9 => (X.moveI e5_L0)) ?_
        refine WO.q rfl rfl rfl rfl (fun w' hE9 => (X.idx hb rfl rfl (by omega) Try.underlying38 Try.sizeOf5)) ?_
        refine WO.q rfl rfl rfl rfl (fun w' hE9 => (X.loadB hb (Ext.trans hwL0 hE9) rfl (by omega) Try.isAgg5)) ?_
        refine WO.q rfl rfl rfl rfl (fun w' hE9 => (X.neq rfl rfl)) ?_
        refine WO.nil ?_
        refine WL.nil ?_
        refine thn_n ?_
        refine WF.cond rfl (fun h2_10 => ?_) (fun h2_10 => ?_)
        · have gh2_10 := (of_decide_eq_true h2_10)
          have hne : la ≠ lb := fun e => gh2_10 (by subst e; rfl)
          refine WF.seq ?_
          refine WF.region ?_
          refine WL.va rfl rfl rfl (X.assignB rfl) ?_
          refine WL.nil ?_
          refine thn_n ?_
          refine WF.ret ?_
          refine blk_r ?_
          refine thn_r ?_
          refine thn_r ?_
          refine blk_r ?_
          refine thn_r ?_
          refine fin_r ?_
          exact ⟨congrArg Value.bool (decide_eq_false hne).symm, (Ext.trans hwL0 (Ext.drew _))⟩
        · have gh2_10 := (Decidable.of_not_not (of_decide_eq_false h2_10))
          have heq := gh2_10
          refine WF.skip ?_
          refine blk_n ?_
          refine thn_n ?_
          refine WF.region ?_
          refine WL.va rfl rfl rfl (X.moveI e5_L0) ?_
          refine WL.va rfl rfl rfl (X.add rfl rfl (w64 (by omega))) ?_
          refine WL.va rfl rfl rfl (X.assignI rfl) ?_
          refine WL.nil ?_
          exact thn_n ⟨_, (by omega), k + 1, rfl, rfl, (by repeat (first | exact hAL0 | refine Agree.put ?_ rfl | refine Agree.named hF6 ?_)), (Ext.trans hwL0 (Ext.drew _)), ⟨by omega, by rw [take_getD _ _ (by omega), take_getD _ _ (by omega), hkk, byte_eq heq]⟩⟩
      · have gh1_7 := (of_decide_eq_false h1_7)
        have hlt := gh1_7
        refine WF.exit ?_
        refine thn_x ?_
        refine thn_x ?_
        refine blk_eq ?_
        refine thn_n ?_
        refine WF.seq ?_
        refine WF.region ?_
        refine WL.va rfl rfl rfl (X.assignB rfl) ?_
        refine WL.nil ?_
        refine thn_n ?_
        refine WF.ret ?_
        refine fin_r ?_
        exact ⟨congrArg Value.bool (decide_eq_true (by rw [List.take_of_length_le (by omega), List.take_of_length_le (by omega)] at hkk; exact hkk)).symm, hwL0⟩

theorem spoilBytes_ok (v : Value) (l : List UInt8) (w : World) (B : Nat) (ho : OwnB w B 5 v l) : FnOk Try.prog 40 [v] w (fun _ w' => (∃ l', OwnB w' B 5 v l') ∧ w.grownBy w' v.ownBlock) := by
  have hb := Bytes.of_own ho
  have hl := hb.le64
  refine FnOk.enter (rs := []) Try.func40 rfl Try.ntmps40 Try.results40 rfl rfl ?_
  refine WF.seq ?_
  refine WF.region ?_
  refine WL.va rfl rfl rfl (X.assignI rfl) ?_
  refine WL.nil ?_
  refine thn_n ?_
  refine WF.block ?_
  refine WF.named (fun F1 hF2 => ?_)
  refine WF.loopN (fun mL0 f' w' => ∃ (k : Nat) (L : List UInt8), mL0 = l.length - k ∧ f' 2 = .int .i64 (k : Int) ∧ Agree [0] f' F1 ∧ w.grownBy w' v.ownBlock ∧ k ≤ l.length ∧ L.length = l.length ∧ OwnB w' B 5 v L) ?_ ?_
  · exact ⟨_, 0, l, rfl, (congrFun hF2 2), (Agree.refl _ _), (World.grownBy.refl _ _), ⟨Nat.zero_le _, rfl, ho⟩⟩
  · rintro mL0 fL0 wL0 ⟨k, L, hmL0, e2_L0, hAL0, hwL0, ⟨hk, hL, ho⟩⟩
    refine WF.seq ?_
    refine WF.seq ?_
    refine WF.region ?_
    refine WL.va rfl rfl rfl (X.moveI e2_L0) ?_
    refine WL.va rfl rfl rfl (X.move ((hAL0.eq 0).trans (congrFun hF2 0))) ?_
    refine WL.va rfl rfl rfl (X.len (Bytes.of_own ho) rfl Try.underlying38) ?_
    refine WL.va rfl rfl rfl (X.lss rfl rfl) ?_
    refine WL.nil ?_
    refine thn_n ?_
    refine WF.cond rfl (fun h0_3 => ?_) (fun h0_3 => ?_)
    · have gh0_3 := (of_decide_eq_true h0_3)
      refine WF.skip ?_
      refine thn_n ?_
      refine WF.seq ?_
      refine WF.block ?_
      refine WF.region ?_
      refine WL.va rfl rfl rfl (X.move ((hAL0.eq 0).trans (congrFun hF2 0))) ?_
      refine WL.va rfl rfl rfl (X.moveI e2_L0) ?_
      refine WL.va rfl rfl rfl (X.move ((hAL0.eq 0).trans (congrFun hF2 0))) ?_
      refine WL.va rfl rfl rfl (X.moveI e2_L0) ?_
      refine WL.va rfl rfl rfl (X.idx (Bytes.of_own ho) rfl rfl (by omega) Try.underlying38 Try.sizeOf5) ?_
      refine WL.va rfl rfl rfl (X.loadB (Bytes.of_own ho) (Ext.refl _) rfl (by omega) Try.isAgg5) ?_
      refine WL.va rfl rfl rfl (X.xor rfl rfl (xor8 _ 0x5A)) ?_
      refine WL.va rfl rfl rfl (X.idx (Bytes.of_own ho) rfl rfl (by omega) Try.underlying38 Try.sizeOf5) ?_
      refine WL.op rfl (OW.storeB ho (by omega) rfl rfl Try.sizeOf5 ?_)
      intro w5 ho8 hx7
      have ho1 := ho8
      have hg1 := hx7
      refine WL.nil ?_
      refine blk_n ?_
      refine thn_n ?_
      refine WF.region ?_
      refine WL.va rfl rfl rfl (X.moveI e2_L0) ?_
      refine WL.va rfl rfl rfl (X.add rfl rfl (w64 (by omega))) ?_
      refine WL.va rfl rfl rfl (X.assignI rfl) ?_
      refine WL.nil ?_
      exact thn_n ⟨_, (by omega), k + 1, _, rfl, rfl, (by repeat (first | exact hAL0 | refine Agree.put ?_ rfl | refine Agree.named hF2 ?_)), (spoil_trans hwL0 hg1), ⟨by omega, by simp [hL], ho1⟩⟩
    · have gh0_3 := (of_decide_eq_false h0_3)
      refine WF.exit ?_
      refine thn_x ?_
      refine thn_x ?_
      refine blk_eq ?_
      refine fin_n ?_
      exact ⟨⟨_, ho⟩, hwL0⟩

theorem keptI_ne0 {la l : List Int} (h : (la.length : Int) ≠ (l.length : Int) + 5) : la ≠ l ++ List.replicate 5 (-77) := fun e => by
  apply h; rw [e]; simp
theorem keptI_ne1 {la l : List Int} (h : decide ((la.drop 0).take (l.length - 0) = l) = false) : la ≠ l ++ List.replicate 5 (-77) := fun e => by
  rw [e] at h; simp at h
theorem keptI_ne2 {la l : List Int} {k : Nat} (h1 : l.length ≤ k) (h2 : k < l.length + 5) (h : ¬ la.getD k 0 = (-77)) : la ≠ l ++ List.replicate 5 (-77) := fun e => by
  apply h
  rw [e, List.getD_eq_getElem?_getD, List.getElem?_append_right h1, List.getElem?_replicate, if_pos (by omega)]
  rfl
theorem keptI_eq {la l : List Int} (h : la.length = l.length + 5) (hp : decide ((la.drop 0).take (l.length - 0) = l) = true) (hm : ∀ i, l.length ≤ i → i < la.length → la.getD i 0 = (-77)) : la = l ++ List.replicate 5 (-77) := by
  have hp := of_decide_eq_true hp
  simp only [List.drop_zero, Nat.sub_zero] at hp
  conv => lhs; rw [← List.take_append_drop l.length la, hp]
  congr 1
  apply List.ext_getElem?
  intro i
  rw [List.getElem?_drop, List.getElem?_replicate]
  by_cases hi : i < 5
  · rw [if_pos hi]
    have := hm (l.length + i) (by omega) (by omega)
    rw [List.getD_eq_getElem?_getD, List.getElem?_eq_getElem (by omega)] at this
    rw [List.getElem?_eq_getElem (by omega)]
    simpa using this
  · rw [if_neg hi, List.getElem?_eq_none (by omega)]
theorem lentI_part {w : World} {B : Nat} {v : Value} {l : List Int} (ho : OwnI w B 3 v (l ++ List.replicate 5 (-77))) : Ints w (Kf.part v 0 l.length 1) l := by
  have := Ints.part (Ints.of_own ho) 0 l.length (Nat.zero_le _) (by simp)
  simpa using this

theorem lentI_step1 {l L : List Int} {k : Nat} {w : World} {B : Nat} {v : Value} (_hk : k ≤ l.length + 5) (hL : L.length = l.length + 5) (hLk : L.take k = (l ++ List.replicate 5 (-77)).take k) (h : k < l.length)
    (ho : OwnI w B 3 v ((L.set k (-77)).set k (l.getD k 0))) : k + 1 ≤ l.length + 5 ∧ ((L.set k (-77)).set k (l.getD k 0)).length = l.length + 5 ∧ ((L.set k (-77)).set k (l.getD k 0)).take (k + 1) = (l ++ List.replicate 5 (-77)).take (k + 1) ∧ OwnI w B 3 v ((L.set k (-77)).set k (l.getD k 0)) := by
  refine ⟨by omega, by simp [hL], ?_, ho⟩
  rw [List.set_set, take_set_succ _ _ _ (by omega), hLk, takeI _ _ (by simp; omega)]
  rw [List.getD_eq_getElem?_getD, List.getD_eq_getElem?_getD, List.getElem?_append_left h]
theorem lentI_step2 {l L : List Int} {k : Nat} {w : World} {B : Nat} {v : Value} (_hk : k ≤ l.length + 5) (hL : L.length = l.length + 5) (hLk : L.take k = (l ++ List.replicate 5 (-77)).take k) (h : l.length ≤ k) (h2 : k < l.length + 5)
    (ho : OwnI w B 3 v (L.set k (-77))) : k + 1 ≤ l.length + 5 ∧ (L.set k (-77)).length = l.length + 5 ∧ (L.set k (-77)).take (k + 1) = (l ++ List.replicate 5 (-77)).take (k + 1) ∧ OwnI w B 3 v (L.set k (-77)) := by
  refine ⟨by omega, by simp [hL], ?_, ho⟩
  rw [take_set_succ _ _ _ (by omega), hLk, takeI _ _ (by simp; omega)]
  have : (l ++ List.replicate 5 (-77 : Int)).getD k 0 = (-77) := by
    simp only [List.getD_eq_getElem?_getD]
    rw [List.getElem?_append_right h, List.getElem?_replicate, if_pos (by omega)]
    rfl
  rw [this]
theorem sameInts_ok (va vb : Value) (la lb : List Int) (w : World) (ha : Ints w va la) (hb : Ints w vb lb) : FnOk Try.prog 29 [va, vb] w (fun r w' => r = .bool (decide (la = lb)) ∧ Ext w w') := by
  have hla := ha.le64
  have hlb := hb.le64
  refine FnOk.enter (rs := [4]) Try.func29 rfl Try.ntmps29 Try.results29 rfl rfl ?_
  refine WF.seq ?_
  refine WF.region ?_
  refine WL.va rfl rfl rfl (X.assignB rfl) ?_
  refine WL.nil ?_
  refine thn_n ?_
  refine WF.seq ?_
  refine WF.seq ?_
  refine WF.region ?_
  refine WL.va rfl rfl rfl (X.move rfl) ?_
  refine WL.va rfl rfl rfl (X.len ha rfl Try.underlying22) ?_
  refine WL.va rfl rfl rfl (X.move rfl) ?_
  refine WL.va rfl rfl rfl (X.len hb rfl Try.underlying22) ?_
  refine WL.va rfl rfl rfl (X.neq rfl rfl) ?_
  refine WL.nil ?_
  refine thn_n ?_
  refine WF.cond rfl (fun h0_2 => ?_) (fun h0_2 => ?_)
  · have gh0_2 := (of_decide_eq_true h0_2)
    have hlen := gh0_2
    have hne : la ≠ lb := fun e => by rw [e] at gh0_2; exact gh0_2 rfl
    refine WF.seq ?_
    refine WF.region ?_
    refine WL.va rfl rfl rfl (X.assignB rfl) ?_
    refine WL.nil ?_
    refine thn_n ?_
    refine WF.ret ?_
    refine thn_r ?_
    refine fin_r ?_
    exact ⟨congrArg Value.bool (decide_eq_false hne).symm, (Ext.refl _)⟩
  · have gh0_2 := (Decidable.of_not_not (of_decide_eq_false h0_2))
    have hlen := gh0_2
    refine WF.skip ?_
    refine thn_n ?_
    refine WF.seq ?_
    refine WF.seq ?_
    refine WF.region ?_
    refine WL.va rfl rfl rfl (X.assignI rfl) ?_
    refine WL.nil ?_
    refine thn_n ?_
    refine WF.block ?_
    refine WF.named (fun F5 hF6 => ?_)
    refine WF.loopN (fun mL0 f' w' => ∃ (k : Nat), mL0 = la.length - k ∧ f' 5 = .int .i64 (k : Int) ∧ Agree [0, 1, 6, 7, 8, 9, 10] f' F5 ∧ Ext w w' ∧ k ≤ la.length ∧ la.take k = lb.take k) ?_ ?_
    · exact ⟨_, 0, rfl, (congrFun hF6 5), (Agree.refl _ _), (Ext.refl _), ⟨Nat.zero_le _, rfl⟩⟩
    · rintro mL0 fL0 wL0 ⟨k, hmL0, e5_L0, hAL0, hwL0, ⟨hk, hkk⟩⟩
      refine WF.seq ?_
      refine WF.seq ?_
      refine WF.region ?_
      refine WL.va rfl rfl rfl (X.moveI e5_L0) ?_
      refine WL.va rfl rfl rfl (X.move ((hAL0.eq 0).trans (congrFun hF6 0))) ?_
      refine WL.va rfl rfl rfl (X.len ha rfl Try.underlying22) ?_
      refine WL.va rfl rfl rfl (X.lss rfl rfl) ?_
      refine WL.nil ?_
      refine thn_n ?_
      refine WF.cond rfl (fun h1_7 => ?_) (fun h1_7 => ?_)
      · have gh1_7 := (of_decide_eq_true h1_7)
        have hlt := gh1_7
        refine WF.skip ?_
        refine thn_n ?_
        refine WF.seq ?_
        refine WF.block ?_
        refine WF.seq ?_
        refine WF.drawn (.q 0 (.q 1 (.q 2 (.q 3 (.q 4 (.q 5 (.q 6 (.q 7 (.q 8 .nil))))))))) (fun w' => Ext wL0 w') 9 (by kernel_rfl) (by kernel_rfl) (Ext.drew _) ?_
        refine WO.q rfl rfl rfl rfl (fun w' hE9 => (X.move ((hAL0.eq 0).trans (congrFun hF6 0)))) ?_
        refine WO.q rfl rfl rfl rfl (fun w' hE9 => (X.moveI e5_L0)) ?_
        refine WO.q rfl rfl rfl rfl (fun w' hE9 => (X.idx ha rfl rfl (by omega) Try.underlying22 Try.sizeOf3)) ?_
        refine WO.q rfl rfl rfl rfl (fun w' hE9 => (X.loadI ha (Ext.trans hwL0 hE9) rfl (by omega) Try.isAgg3)) ?_
        refine WO.q rfl rfl rfl rfl (fun w' hE9 => (X.move ((hAL0.eq 1).trans (congrFun hF6 1)))) ?_
        refine WO.q rfl rfl rfl rfl (fun w' hE9 => (X.moveI e5_L0)) ?_
        refine WO.q rfl rfl rfl rfl (fun w' hE9 => (X.idx hb rfl rfl (by omega) Try.underlying22 Try.sizeOf3)) ?_
        refine WO.q rfl rfl rfl rfl (fun w' hE9 => (X.loadI hb (Ext.trans hwL0 hE9) rfl (by omega) Try.isAgg3)) ?_
        refine WO.q rfl rfl rfl rfl (fun w' hE9 => (X.neq rfl rfl)) ?_
        refine WO.nil ?_
        refine WL.nil ?_
        refine thn_n ?_
        refine WF.cond rfl (fun h2_10 => ?_) (fun h2_10 => ?_)
        · have gh2_10 := (of_decide_eq_true h2_10)
          have hne : la ≠ lb := fun e => gh2_10 (by subst e; rfl)
          refine WF.seq ?_
          refine WF.region ?_
          refine WL.va rfl rfl rfl (X.assignB rfl) ?_
          refine WL.nil ?_
          refine thn_n ?_
          refine WF.ret ?_
          refine blk_r ?_
          refine thn_r ?_
          refine thn_r ?_
          refine blk_r ?_
          refine thn_r ?_
          refine fin_r ?_
          exact ⟨congrArg Value.bool (decide_eq_false hne).symm, (Ext.trans hwL0 (Ext.drew _))⟩
        · have gh2_10 := (Decidable.of_not_not (of_decide_eq_false h2_10))
          have heq := gh2_10
          refine WF.skip ?_
          refine blk_n ?_
          refine thn_n ?_
          refine WF.region ?_
          refine WL.va rfl rfl rfl (X.moveI e5_L0) ?_
          refine WL.va rfl rfl rfl (X.add rfl rfl (w64 (by omega))) ?_
          refine WL.va rfl rfl rfl (X.assignI rfl) ?_
          refine WL.nil ?_
          exact thn_n ⟨_, (by omega), k + 1, rfl, rfl, (by repeat (first | exact hAL0 | refine Agree.put ?_ rfl | refine Agree.named hF6 ?_)), (Ext.trans hwL0 (Ext.drew _)), ⟨by omega, by rw [takeI _ _ (by omega), takeI _ _ (by omega), hkk, heq]⟩⟩
      · have gh1_7 := (of_decide_eq_false h1_7)
        have hlt := gh1_7
        refine WF.exit ?_
        refine thn_x ?_
        refine thn_x ?_
        refine blk_eq ?_
        refine thn_n ?_
        refine WF.seq ?_
        refine WF.region ?_
        refine WL.va rfl rfl rfl (X.assignB rfl) ?_
        refine WL.nil ?_
        refine thn_n ?_
        refine WF.ret ?_
        refine fin_r ?_
        exact ⟨congrArg Value.bool (decide_eq_true (by rw [List.take_of_length_le (by omega), List.take_of_length_le (by omega)] at hkk; exact hkk)).symm, hwL0⟩

theorem lentInts_ok (v : Value) (l : List Int) (w : World) (hb : Ints w v l) (hm : l.length ≤ 35184372088827) : FnOk Try.prog 7 [v] w (fun r w' => OwnI w' w.heap.size 3 r (l ++ List.replicate 5 (-77)) ∧ Ext w w') := by
  have hl := hb.le64
  refine FnOk.enter (rs := [2]) Try.func7 rfl Try.ntmps7 Try.results7 rfl rfl ?_
  refine WF.seq ?_
  refine WF.region ?_
  refine WL.va rfl rfl rfl (X.assign rfl) ?_
  refine WL.nil ?_
  refine thn_n ?_
  refine WF.seq ?_
  refine WF.region ?_
  refine WL.va rfl rfl rfl (X.move rfl) ?_
  refine WL.va rfl rfl rfl (X.len hb rfl Try.underlying22) ?_
  refine WL.va rfl rfl rfl (X.add rfl rfl (w64 (by omega))) ?_
  refine WL.op rfl (OW.makeI (n := l.length + 5) rfl rfl Try.underlying22 Try.type3 rfl rfl rfl (by omega) ?_ (by decide))
  intro v2 w1 ho4 hx3
  have hmk := ho4
  obtain ⟨vm, hvm⟩ : ∃ vm, vm = v2 := ⟨_, rfl⟩
  subst hvm
  refine WL.va rfl rfl rfl (X.assign rfl) ?_
  refine WL.nil ?_
  refine thn_n ?_
  refine WF.seq ?_
  refine WF.seq ?_
  refine WF.region ?_
  refine WL.va rfl rfl rfl (X.assignI rfl) ?_
  refine WL.nil ?_
  refine thn_n ?_
  refine WF.block ?_
  refine WF.named (fun F5 hF6 => ?_)
  refine WF.loopN (fun mL0 f' w' => ∃ (k : Nat) (L : List Int), mL0 = l.length + 5 - k ∧ f' 4 = .int .i64 (k : Int) ∧ Agree [0, 2, 3, 5, 6, 7, 8] f' F5 ∧ Ext w w' ∧ k ≤ l.length + 5 ∧ L.length = l.length + 5 ∧ L.take k = (l ++ List.replicate 5 (-77)).take k ∧ OwnI w' w.heap.size 3 vm L) ?_ ?_
  · exact ⟨_, 0, List.replicate (l.length + 5) 0, rfl, (congrFun hF6 4), (Agree.refl _ _), hx3, ⟨Nat.zero_le _, by simp, by simp, hmk⟩⟩
  · rintro mL0 fL0 wL0 ⟨k, L, hmL0, e4_L0, hAL0, hwL0, ⟨hk, hL, hLk, ho⟩⟩
    refine WF.seq ?_
    refine WF.seq ?_
    refine WF.region ?_
    refine WL.va rfl rfl rfl (X.moveI e4_L0) ?_
    refine WL.va rfl rfl rfl (X.move ((hAL0.eq 3).trans (congrFun hF6 3))) ?_
    refine WL.va rfl rfl rfl (X.len (Ints.of_own ho) rfl Try.underlying22) ?_
    refine WL.va rfl rfl rfl (X.lss rfl rfl) ?_
    refine WL.nil ?_
    refine thn_n ?_
    refine WF.cond rfl (fun h0_7 => ?_) (fun h0_7 => ?_)
    · have gh0_7 := (of_decide_eq_true h0_7)
      refine WF.skip ?_
      refine thn_n ?_
      refine WF.seq ?_
      refine WF.block ?_
      refine WF.seq ?_
      refine WF.region ?_
      refine WL.va rfl rfl rfl (X.move ((hAL0.eq 3).trans (congrFun hF6 3))) ?_
      refine WL.va rfl rfl rfl (X.moveI e4_L0) ?_
      refine WL.va rfl rfl rfl (X.idx (Ints.of_own ho) rfl rfl (by omega) Try.underlying22 Try.sizeOf3) ?_
      refine WL.op rfl (OW.storeI (c := (-77)) ho (by omega) rfl rfl Try.sizeOf3 ?_)
      intro w9 ho12 hx11
      have ho1 := ho12
      refine WL.nil ?_
      refine thn_n ?_
      refine WF.seq ?_
      refine WF.region ?_
      refine WL.va rfl rfl rfl (X.moveI e4_L0) ?_
      refine WL.va rfl rfl rfl (X.move ((hAL0.eq 0).trans (congrFun hF6 0))) ?_
      refine WL.va rfl rfl rfl (X.len hb rfl Try.underlying22) ?_
      refine WL.va rfl rfl rfl (X.lss rfl rfl) ?_
      refine WL.nil ?_
      refine thn_n ?_
      refine WF.cond rfl (fun h1_13 => ?_) (fun h1_13 => ?_)
      · have gh1_13 := (of_decide_eq_true h1_13)
        have hlt := gh1_13
        refine WF.region ?_
        refine WL.va rfl rfl rfl (X.move ((hAL0.eq 3).trans (congrFun hF6 3))) ?_
        refine WL.va rfl rfl rfl (X.moveI e4_L0) ?_
        refine WL.va rfl rfl rfl (X.move ((hAL0.eq 0).trans (congrFun hF6 0))) ?_
        refine WL.va rfl rfl rfl (X.moveI e4_L0) ?_
        refine WL.va rfl rfl rfl (X.idx hb rfl rfl (by omega) Try.underlying22 Try.sizeOf3) ?_
        refine WL.va rfl rfl rfl (X.loadI hb (Ext.own hwL0 ho (Nat.le_refl _) hx11) rfl (by omega) Try.isAgg3) ?_
        refine WL.va rfl rfl rfl (X.idx (Ints.of_own ho) rfl rfl (by omega) Try.underlying22 Try.sizeOf3) ?_
        refine WL.op rfl (OW.storeI ho1 (by simp; omega) rfl rfl Try.sizeOf3 ?_)
        intro w15 ho18 hx17
        have ho2 := ho18
        refine WL.nil ?_
        refine blk_n ?_
        refine thn_n ?_
        refine WF.region ?_
        refine WL.va rfl rfl rfl (X.moveI e4_L0) ?_
        refine WL.va rfl rfl rfl (X.add rfl rfl (w64 (by omega))) ?_
        refine WL.va rfl rfl rfl (X.assignI rfl) ?_
        refine WL.nil ?_
        exact thn_n ⟨_, (by omega), k + 1, _, rfl, rfl, (by repeat (first | exact hAL0 | refine Agree.put ?_ rfl | refine Agree.named hF6 ?_)), (Ext.own (Ext.own hwL0 ho (Nat.le_refl _) hx11) ho1 (Nat.le_refl _) hx17), (by first | exact lentI_step1 hk hL hLk (by omega) ho2 | exact lentI_step2 hk hL hLk (by omega) (by omega) ho1)⟩
      · have gh1_13 := (of_decide_eq_false h1_13)
        have hlt := gh1_13
        refine WF.skip ?_
        refine blk_n ?_
        refine thn_n ?_
        refine WF.region ?_
        refine WL.va rfl rfl rfl (X.moveI e4_L0) ?_
        refine WL.va rfl rfl rfl (X.add rfl rfl (w64 (by omega))) ?_
        refine WL.va rfl rfl rfl (X.assignI rfl) ?_
        refine WL.nil ?_
        exact thn_n ⟨_, (by omega), k + 1, _, rfl, rfl, (by repeat (first | exact hAL0 | refine Agree.put ?_ rfl | refine Agree.named hF6 ?_)), (Ext.own hwL0 ho (Nat.le_refl _) hx11), (by first | exact lentI_step1 hk hL hLk (by omega) ho2 | exact lentI_step2 hk hL hLk (by omega) (by omega) ho1)⟩
    · have gh0_7 := (of_decide_eq_false h0_7)
      refine WF.exit ?_
      refine thn_x ?_
      refine thn_x ?_
      refine blk_eq ?_
      refine thn_n ?_
      refine WF.seq ?_
      refine WF.region ?_
      refine WL.va rfl rfl rfl (X.move ((hAL0.eq 3).trans (congrFun hF6 3))) ?_
      refine WL.va rfl rfl rfl (X.assign rfl) ?_
      refine WL.nil ?_
      refine thn_n ?_
      refine WF.ret ?_
      refine fin_r ?_
      exact ⟨by rw [show L = l ++ List.replicate 5 (-77) from by rw [List.take_of_length_le (by omega), List.take_of_length_le (by simp; omega)] at hLk; exact hLk] at ho; exact ho, hwL0⟩

theorem keptInts_ok (va vl : Value) (la l : List Int) (w : World) (ha : Ints w va la) (hb : Ints w vl l) (hm : l.length ≤ 35184372088827) : FnOk Try.prog 10 [va, vl] w (fun r w' => r = .bool (decide (la = l ++ List.replicate 5 (-77))) ∧ Ext w w') := by
  have hla := ha.le
  have hlb := hb.le
  unfold maxLen at hla hlb
  refine FnOk.enter (rs := [4]) Try.func10 rfl Try.ntmps10 Try.results10 rfl rfl ?_
  refine WF.seq ?_
  refine WF.region ?_
  refine WL.va rfl rfl rfl (X.assignB rfl) ?_
  refine WL.nil ?_
  refine thn_n ?_
  refine WF.seq ?_
  refine WF.seq ?_
  refine WF.region ?_
  refine WL.va rfl rfl rfl (X.move rfl) ?_
  refine WL.va rfl rfl rfl (X.len ha rfl Try.underlying22) ?_
  refine WL.va rfl rfl rfl (X.move rfl) ?_
  refine WL.va rfl rfl rfl (X.len hb rfl Try.underlying22) ?_
  refine WL.va rfl rfl rfl (X.add rfl rfl (w64 (by omega))) ?_
  refine WL.va rfl rfl rfl (X.neq rfl rfl) ?_
  refine WL.va rfl rfl rfl (X.moveB rfl) ?_
  refine WL.split (j := 6) rfl (fun h3 => ?_) (fun h3 => ?_)
  · have gh3 := (of_decide_eq_true h3)
    refine WL.p rfl rfl rfl (congrArg some h3) ?_
    refine WL.p rfl rfl rfl (congrArg some h3) ?_
    refine WL.p rfl rfl rfl (congrArg some h3) ?_
    refine WL.p rfl rfl rfl (congrArg some h3) ?_
    refine WL.p rfl rfl rfl (congrArg some h3) ?_
    refine WL.p rfl rfl rfl (congrArg some h3) ?_
    refine WL.p rfl rfl rfl (congrArg some h3) ?_
    refine WL.va rfl rfl rfl (X.pickT rfl h3 rfl) ?_
    refine WL.nil ?_
    refine thn_n ?_
    refine WF.cond_t rfl ?_
    refine WF.seq ?_
    refine WF.region ?_
    refine WL.va rfl rfl rfl (X.assignB rfl) ?_
    refine WL.nil ?_
    refine thn_n ?_
    refine WF.ret ?_
    refine thn_r ?_
    refine fin_r ?_
    first | exact ⟨congrArg Value.bool (decide_eq_false (keptI_ne0 (by omega))).symm, (Ext.refl _)⟩ | exact ⟨congrArg Value.bool (decide_eq_false (keptI_ne1 (by assumption))).symm, (Ext.refl _)⟩
  · have gh3 := (Decidable.of_not_not (of_decide_eq_false h3))
    refine WL.vg rfl (congrArg some h3) rfl rfl (X.move rfl) ?_
    refine WL.vg rfl (congrArg some h3) rfl rfl (X.move rfl) ?_
    refine WL.vg rfl (congrArg some h3) rfl rfl (X.len hb rfl Try.underlying22) ?_
    refine WL.vg rfl (congrArg some h3) rfl rfl (X.slH ha rfl rfl (by omega) Try.underlying22 Try.sizeOf3) ?_
    refine WL.vg rfl (congrArg some h3) rfl rfl (X.move rfl) ?_
    refine WL.cg rfl (congrArg some h3) rfl rfl (X.call Try.call29 (evl_cons rfl (evl_cons rfl evl_nil))) (sameInts_ok _ _ _ _ _ (Ints.part ha 0 l.length (Nat.zero_le _) (by omega)) hb) ?_
    rintro v7 w6 ⟨rfl, hx8⟩
    refine WL.vg rfl (congrArg some h3) rfl rfl (X.not rfl) ?_
    refine WL.va rfl rfl rfl (X.pickF rfl h3 rfl) ?_
    refine WL.nil ?_
    refine thn_n ?_
    refine WF.cond rfl (fun h0_10 => ?_) (fun h0_10 => ?_)
    · have gh0_10 := (nt h0_10)
      have hq := gh0_10
      refine WF.seq ?_
      refine WF.region ?_
      refine WL.va rfl rfl rfl (X.assignB rfl) ?_
      refine WL.nil ?_
      refine thn_n ?_
      refine WF.ret ?_
      refine thn_r ?_
      refine fin_r ?_
      first | exact ⟨congrArg Value.bool (decide_eq_false (keptI_ne0 (by omega))).symm, hx8⟩ | exact ⟨congrArg Value.bool (decide_eq_false (keptI_ne1 (by assumption))).symm, hx8⟩
    · have gh0_10 := (nf h0_10)
      have hq := gh0_10
      refine WF.skip ?_
      refine thn_n ?_
      refine WF.seq ?_
      refine WF.seq ?_
      refine WF.region ?_
      refine WL.va rfl rfl rfl (X.move rfl) ?_
      refine WL.va rfl rfl rfl (X.len hb rfl Try.underlying22) ?_
      refine WL.va rfl rfl rfl (X.assignI rfl) ?_
      refine WL.nil ?_
      refine thn_n ?_
      refine WF.block ?_
      refine WF.named (fun F13 hF14 => ?_)
      refine WF.loopN (fun mL0 f' w' => ∃ (k : Nat), mL0 = la.length - k ∧ f' 5 = .int .i64 (k : Int) ∧ Agree [0, 1, 6, 7, 8, 9, 10, 11, 12, 13, 14, 15, 16, 17, 18, 19, 20, 21, 22] f' F13 ∧ Ext w w' ∧ l.length ≤ k ∧ k ≤ la.length ∧ ∀ i, l.length ≤ i → i < k → la.getD i 0 = (-77)) ?_ ?_
      · exact ⟨_, l.length, rfl, (congrFun hF14 5), (Agree.refl _ _), hx8, ⟨Nat.le_refl _, by omega, by intro i h1 h2; omega⟩⟩
      · rintro mL0 fL0 wL0 ⟨k, hmL0, e5_L0, hAL0, hwL0, ⟨hk0, hk, hkk⟩⟩
        refine WF.seq ?_
        refine WF.seq ?_
        refine WF.region ?_
        refine WL.va rfl rfl rfl (X.moveI e5_L0) ?_
        refine WL.va rfl rfl rfl (X.move ((hAL0.eq 0).trans (congrFun hF14 0))) ?_
        refine WL.va rfl rfl rfl (X.len ha rfl Try.underlying22) ?_
        refine WL.va rfl rfl rfl (X.lss rfl rfl) ?_
        refine WL.nil ?_
        refine thn_n ?_
        refine WF.cond rfl (fun h1_15 => ?_) (fun h1_15 => ?_)
        · have gh1_15 := (of_decide_eq_true h1_15)
          have hlt := gh1_15
          refine WF.skip ?_
          refine thn_n ?_
          refine WF.seq ?_
          refine WF.block ?_
          refine WF.seq ?_
          refine WF.region ?_
          refine WL.va rfl rfl rfl (X.move ((hAL0.eq 0).trans (congrFun hF14 0))) ?_
          refine WL.va rfl rfl rfl (X.moveI e5_L0) ?_
          refine WL.va rfl rfl rfl (X.idx ha rfl rfl (by omega) Try.underlying22 Try.sizeOf3) ?_
          refine WL.va rfl rfl rfl (X.loadI ha hwL0 rfl (by omega) Try.isAgg3) ?_
          refine WL.va rfl rfl rfl (X.neq rfl rfl) ?_
          refine WL.nil ?_
          refine thn_n ?_
          refine WF.cond rfl (fun h2_17 => ?_) (fun h2_17 => ?_)
          · have gh2_17 := (of_decide_eq_true h2_17)
            have hne : la ≠ l ++ List.replicate 5 (-77) := keptI_ne2 (by omega) (by omega) (fun e => gh2_17 e)
            refine WF.seq ?_
            refine WF.region ?_
            refine WL.va rfl rfl rfl (X.assignB rfl) ?_
            refine WL.nil ?_
            refine thn_n ?_
            refine WF.ret ?_
            refine blk_r ?_
            refine thn_r ?_
            refine thn_r ?_
            refine blk_r ?_
            refine thn_r ?_
            refine fin_r ?_
            exact ⟨congrArg Value.bool (decide_eq_false hne).symm, hwL0⟩
          · have gh2_17 := (Decidable.of_not_not (of_decide_eq_false h2_17))
            have hm5 : (la.getD k 0) = ((-77 : Int)) := gh2_17
            refine WF.skip ?_
            refine blk_n ?_
            refine thn_n ?_
            refine WF.region ?_
            refine WL.va rfl rfl rfl (X.moveI e5_L0) ?_
            refine WL.va rfl rfl rfl (X.add rfl rfl (w64 (by omega))) ?_
            refine WL.va rfl rfl rfl (X.assignI rfl) ?_
            refine WL.nil ?_
            exact thn_n ⟨_, (by omega), k + 1, rfl, rfl, (by repeat (first | exact hAL0 | refine Agree.put ?_ rfl | refine Agree.named hF14 ?_)), hwL0, ⟨by omega, by omega, fun i h1 h2 => by rcases Nat.lt_succ_iff_lt_or_eq.1 h2 with h | rfl; exact hkk i h1 h; exact hm5⟩⟩
        · have gh1_15 := (of_decide_eq_false h1_15)
          have hlt := gh1_15
          refine WF.exit ?_
          refine thn_x ?_
          refine thn_x ?_
          refine blk_eq ?_
          refine thn_n ?_
          refine WF.seq ?_
          refine WF.region ?_
          refine WL.va rfl rfl rfl (X.assignB rfl) ?_
          refine WL.nil ?_
          refine thn_n ?_
          refine WF.ret ?_
          refine fin_r ?_
          exact ⟨congrArg Value.bool (decide_eq_true (keptI_eq (by omega) (by assumption) (fun i h1 h2 => hkk i h1 (by omega)))).symm, hwL0⟩

theorem spoilInts_ok (v : Value) (l : List Int) (w : World) (B : Nat) (ho : OwnI w B 3 v l) : FnOk Try.prog 11 [v] w (fun _ w' => (∃ l', OwnI w' B 3 v l') ∧ w.grownBy w' v.ownBlock) := by
  have hb := Ints.of_own ho
  have hl := hb.le64
  refine FnOk.enter (rs := []) Try.func11 rfl Try.ntmps11 Try.results11 rfl rfl ?_
  refine WF.seq ?_
  refine WF.region ?_
  refine WL.va rfl rfl rfl (X.assignI rfl) ?_
  refine WL.nil ?_
  refine thn_n ?_
  refine WF.block ?_
  refine WF.named (fun F1 hF2 => ?_)
  refine WF.loopN (fun mL0 f' w' => ∃ (k : Nat) (L : List Int), mL0 = l.length - k ∧ f' 2 = .int .i64 (k : Int) ∧ Agree [0] f' F1 ∧ w.grownBy w' v.ownBlock ∧ k ≤ l.length ∧ L.length = l.length ∧ OwnI w' B 3 v L) ?_ ?_
  · exact ⟨_, 0, l, rfl, (congrFun hF2 2), (Agree.refl _ _), (World.grownBy.refl _ _), ⟨Nat.zero_le _, rfl, ho⟩⟩
  · rintro mL0 fL0 wL0 ⟨k, L, hmL0, e2_L0, hAL0, hwL0, ⟨hk, hL, ho⟩⟩
    refine WF.seq ?_
    refine WF.seq ?_
    refine WF.region ?_
    refine WL.va rfl rfl rfl (X.moveI e2_L0) ?_
    refine WL.va rfl rfl rfl (X.move ((hAL0.eq 0).trans (congrFun hF2 0))) ?_
    refine WL.va rfl rfl rfl (X.len (Ints.of_own ho) rfl Try.underlying22) ?_
    refine WL.va rfl rfl rfl (X.lss rfl rfl) ?_
    refine WL.nil ?_
    refine thn_n ?_
    refine WF.cond rfl (fun h0_3 => ?_) (fun h0_3 => ?_)
    · have gh0_3 := (of_decide_eq_true h0_3)
      refine WF.skip ?_
      refine thn_n ?_
      refine WF.seq ?_
      refine WF.block ?_
      refine WF.region ?_
      refine WL.va rfl rfl rfl (X.move ((hAL0.eq 0).trans (congrFun hF2 0))) ?_
      refine WL.va rfl rfl rfl (X.moveI e2_L0) ?_
      refine WL.va rfl rfl rfl (X.move ((hAL0.eq 0).trans (congrFun hF2 0))) ?_
      refine WL.va rfl rfl rfl (X.moveI e2_L0) ?_
      refine WL.va rfl rfl rfl (X.idx (Ints.of_own ho) rfl rfl (by omega) Try.underlying22 Try.sizeOf3) ?_
      refine WL.va rfl rfl rfl (X.loadI (Ints.of_own ho) (Ext.refl _) rfl (by omega) Try.isAgg3) ?_
      refine WL.va rfl rfl rfl (X.xor rfl rfl rfl) ?_
      refine WL.va rfl rfl rfl (X.idx (Ints.of_own ho) rfl rfl (by omega) Try.underlying22 Try.sizeOf3) ?_
      refine WL.op rfl (OW.storeI ho (by omega) rfl rfl Try.sizeOf3 ?_)
      intro w5 ho8 hx7
      have ho1 := ho8
      have hg1 := hx7
      refine WL.nil ?_
      refine blk_n ?_
      refine thn_n ?_
      refine WF.region ?_
      refine WL.va rfl rfl rfl (X.moveI e2_L0) ?_
      refine WL.va rfl rfl rfl (X.add rfl rfl (w64 (by omega))) ?_
      refine WL.va rfl rfl rfl (X.assignI rfl) ?_
      refine WL.nil ?_
      exact thn_n ⟨_, (by omega), k + 1, _, rfl, rfl, (by repeat (first | exact hAL0 | refine Agree.put ?_ rfl | refine Agree.named hF2 ?_)), (spoil_trans hwL0 hg1), ⟨by omega, by simp [hL], ho1⟩⟩
    · have gh0_3 := (of_decide_eq_false h0_3)
      refine WF.exit ?_
      refine thn_x ?_
      refine thn_x ?_
      refine blk_eq ?_
      refine fin_n ?_
      exact ⟨⟨_, ho⟩, hwL0⟩

theorem sameEntry_ok (a b : Ent) (da db : Value) (w : World) (ha : Bytes w da a.Data) (hb : Bytes w db b.Data) : FnOk Try.prog 61 [agg (a.c da), agg (b.c db)] w (fun r w' => r = .bool (decide (a = b)) ∧ Ext w w') := by
  refine FnOk.enter (rs := [4]) Try.func61 rfl Try.ntmps61 Try.results61 rfl rfl ?_
  refine WF.seq ?_
  refine WF.region ?_
  refine WL.op rfl (OW.boxA (cs := _) rfl ?_ (by decide))
  intro g2 w1 heg2 hlg2 hO2 hx3
  have := World.grownBy.size hx3
  refine WL.op rfl (OW.boxA (cs := _) rfl ?_ (by decide))
  intro g3 w5 heg3 hlg3 hO3 hx7
  have := World.grownBy.size hx7
  refine WL.va rfl rfl rfl (X.assignB rfl) ?_
  refine WL.nil ?_
  refine thn_n ?_
  refine WF.seq ?_
  refine WF.region ?_
  refine WL.va rfl rfl rfl (X.fieldAddrO (off := 0) rfl Try.underlying99 rfl rfl Try.sizeOf3) ?_
  refine WL.va rfl rfl rfl (X.loadO hO2 hx7 rfl rfl Try.isAgg3) ?_
  refine WL.va rfl rfl rfl (X.fieldAddrO (off := 0) rfl Try.underlying99 rfl rfl Try.sizeOf3) ?_
  refine WL.va rfl rfl rfl (X.loadO hO3 (Ext.refl _) rfl rfl Try.isAgg3) ?_
  refine WL.va rfl rfl rfl (X.eql rfl rfl) ?_
  refine WL.va rfl rfl rfl (X.moveB rfl) ?_
  refine WL.split (j := 5) rfl (fun h11 => ?_) (fun h11 => ?_)
  · have gh11 := (of_decide_eq_true h11)
    refine WL.vg rfl (congrArg some h11) rfl rfl (X.fieldAddrO (off := 1) rfl Try.underlying99 rfl rfl Try.sizeOf3) ?_
    refine WL.vg rfl (congrArg some h11) rfl rfl (X.loadO hO2 hx7 rfl rfl Try.isAgg3) ?_
    refine WL.vg rfl (congrArg some h11) rfl rfl (X.fieldAddrO (off := 1) rfl Try.underlying99 rfl rfl Try.sizeOf3) ?_
    refine WL.vg rfl (congrArg some h11) rfl rfl (X.loadO hO3 (Ext.refl _) rfl rfl Try.isAgg3) ?_
    refine WL.vg rfl (congrArg some h11) rfl rfl (X.eql rfl rfl) ?_
    refine WL.va rfl rfl rfl (X.pickT rfl h11 rfl) ?_
    refine WL.va rfl rfl rfl (X.moveB rfl) ?_
    refine WL.split (j := 12) rfl (fun h13 => ?_) (fun h13 => ?_)
    · have gh13 := (of_decide_eq_true h13)
      refine WL.vg rfl (congrArg some h13) rfl rfl (X.fieldAddrO (off := 2) rfl Try.underlying99 rfl rfl Try.sizeOf38) ?_
      refine WL.vg rfl (congrArg some h13) rfl rfl (X.loadO hO2 hx7 rfl rfl Try.isAgg38) ?_
      refine WL.vg rfl (congrArg some h13) rfl rfl (X.fieldAddrO (off := 2) rfl Try.underlying99 rfl rfl Try.sizeOf38) ?_
      refine WL.vg rfl (congrArg some h13) rfl rfl (X.loadO hO3 (Ext.refl _) rfl rfl Try.isAgg38) ?_
      refine WL.cg rfl (congrArg some h13) rfl rfl (X.call Try.call49 (evl_cons rfl (evl_cons rfl evl_nil))) (sameBytes_ok _ _ _ _ _ (Row.ext ha (Ext.trans hx3 hx7)) (Row.ext hb (Ext.trans hx3 hx7))) ?_
      rintro v15 w14 ⟨rfl, hx16⟩
      have := World.grownBy.size hx16
      refine WL.va rfl rfl rfl (X.pickT rfl h13 rfl) ?_
      refine WL.va rfl rfl rfl (X.assignB rfl) ?_
      refine WL.nil ?_
      refine thn_n ?_
      refine WF.ret ?_
      refine fin_r ?_
      first | exact ⟨congrArg Value.bool (decide_eq_false hne).symm, (Ext.trans (Ext.trans hx3 hx7) hx16)⟩ | exact ⟨congrArg Value.bool (decide_eq_decide.2 (by rw [Ent.eq_iff]; constructor <;> intro e <;> first | exact ⟨⟨by assumption, by assumption⟩, e⟩ | exact e.2)), (Ext.trans (Ext.trans hx3 hx7) hx16)⟩
    · have gh13 := (of_decide_eq_false h13)
      have hne : a ≠ b := fun e => gh13 (by rw [e])
      refine WL.p rfl rfl rfl (congrArg some h13) ?_
      refine WL.p rfl rfl rfl (congrArg some h13) ?_
      refine WL.p rfl rfl rfl (congrArg some h13) ?_
      refine WL.p rfl rfl rfl (congrArg some h13) ?_
      refine WL.p rfl rfl rfl (congrArg some h13) ?_
      refine WL.va rfl rfl rfl (X.pickF rfl h13 rfl) ?_
      refine WL.va rfl rfl rfl (X.assignB rfl) ?_
      refine WL.nil ?_
      refine thn_n ?_
      refine WF.ret ?_
      refine fin_r ?_
      first | exact ⟨congrArg Value.bool (decide_eq_false hne).symm, (Ext.trans hx3 hx7)⟩ | exact ⟨congrArg Value.bool (decide_eq_decide.2 (by rw [Ent.eq_iff]; constructor <;> intro e <;> first | exact ⟨⟨by assumption, by assumption⟩, e⟩ | exact e.2)), (Ext.trans hx3 hx7)⟩
  · have gh11 := (of_decide_eq_false h11)
    have hne : a ≠ b := fun e => gh11 (by rw [e])
    refine WL.p rfl rfl rfl (congrArg some h11) ?_
    refine WL.p rfl rfl rfl (congrArg some h11) ?_
    refine WL.p rfl rfl rfl (congrArg some h11) ?_
    refine WL.p rfl rfl rfl (congrArg some h11) ?_
    refine WL.p rfl rfl rfl (congrArg some h11) ?_
    refine WL.va rfl rfl rfl (X.pickF rfl h11 rfl) ?_
    refine WL.va rfl rfl rfl (X.moveB rfl) ?_
    refine WL.p rfl rfl rfl rfl ?_
    refine WL.p rfl rfl rfl rfl ?_
    refine WL.p rfl rfl rfl rfl ?_
    refine WL.p rfl rfl rfl rfl ?_
    refine WL.p rfl rfl rfl rfl ?_
    refine WL.va rfl rfl rfl (X.pickF rfl rfl rfl) ?_
    refine WL.va rfl rfl rfl (X.assignB rfl) ?_
    refine WL.nil ?_
    refine thn_n ?_
    refine WF.ret ?_
    refine fin_r ?_
    first | exact ⟨congrArg Value.bool (decide_eq_false hne).symm, (Ext.trans hx3 hx7)⟩ | exact ⟨congrArg Value.bool (decide_eq_decide.2 (by rw [Ent.eq_iff]; constructor <;> intro e <;> first | exact ⟨⟨by assumption, by assumption⟩, e⟩ | exact e.2)), (Ext.trans hx3 hx7)⟩

theorem sameEntries_ok (va vb : Value) (la lb : List Ent) (w : World) (ha0 : Ents w va la) (hb0 : Ents w vb lb) : FnOk Try.prog 48 [va, vb] w (fun r w' => r = .bool (decide (la = lb)) ∧ Ext w w') := by
  have hla := ha0.le
  have hlb := hb0.le
  obtain ⟨ca, ha, hA⟩ := ha0
  obtain ⟨cb, hb, hB⟩ := hb0
  refine FnOk.enter (rs := [4]) Try.func48 rfl Try.ntmps48 Try.results48 rfl rfl ?_
  refine WF.seq ?_
  refine WF.region ?_
  refine WL.va rfl rfl rfl (X.assignB rfl) ?_
  refine WL.nil ?_
  refine thn_n ?_
  refine WF.seq ?_
  refine WF.seq ?_
  refine WF.region ?_
  refine WL.va rfl rfl rfl (X.move rfl) ?_
  refine WL.va rfl rfl rfl (X.len ha rfl Try.underlying37) ?_
  refine WL.va rfl rfl rfl (X.move rfl) ?_
  refine WL.va rfl rfl rfl (X.len hb rfl Try.underlying37) ?_
  refine WL.va rfl rfl rfl (X.neq rfl rfl) ?_
  refine WL.nil ?_
  refine thn_n ?_
  refine WF.cond rfl (fun h0_2 => ?_) (fun h0_2 => ?_)
  · have gh0_2 := (of_decide_eq_true h0_2)
    have hne : la ≠ lb := fun e => by rw [e] at gh0_2; exact gh0_2 rfl
    refine WF.seq ?_
    refine WF.region ?_
    refine WL.va rfl rfl rfl (X.assignB rfl) ?_
    refine WL.nil ?_
    refine thn_n ?_
    refine WF.ret ?_
    refine thn_r ?_
    refine fin_r ?_
    exact ⟨congrArg Value.bool (decide_eq_false hne).symm, (Ext.refl _)⟩
  · have gh0_2 := (Decidable.of_not_not (of_decide_eq_false h0_2))
    refine WF.skip ?_
    refine thn_n ?_
    refine WF.seq ?_
    refine WF.seq ?_
    refine WF.region ?_
    refine WL.va rfl rfl rfl (X.assignI rfl) ?_
    refine WL.nil ?_
    refine thn_n ?_
    refine WF.block ?_
    refine WF.named (fun F5 hF6 => ?_)
    refine WF.loopN (fun mL0 f' w' => ∃ (k : Nat), mL0 = la.length - k ∧ f' 5 = .int .i64 (k : Int) ∧ Agree [0, 1, 6, 7, 8, 9, 10] f' F5 ∧ Ext w w' ∧ k ≤ la.length ∧ la.take k = lb.take k) ?_ ?_
    · exact ⟨_, 0, rfl, (congrFun hF6 5), (Agree.refl _ _), (Ext.refl _), ⟨Nat.zero_le _, rfl⟩⟩
    · rintro mL0 fL0 wL0 ⟨k, hmL0, e5_L0, hAL0, hwL0, ⟨hk, hkk⟩⟩
      refine WF.seq ?_
      refine WF.seq ?_
      refine WF.region ?_
      refine WL.va rfl rfl rfl (X.moveI e5_L0) ?_
      refine WL.va rfl rfl rfl (X.move ((hAL0.eq 0).trans (congrFun hF6 0))) ?_
      refine WL.va rfl rfl rfl (X.len ha rfl Try.underlying37) ?_
      refine WL.va rfl rfl rfl (X.lss rfl rfl) ?_
      refine WL.nil ?_
      refine thn_n ?_
      refine WF.cond rfl (fun h1_7 => ?_) (fun h1_7 => ?_)
      · have gh1_7 := (of_decide_eq_true h1_7)
        have hka : k < la.length := by omega
        have hkb : k < lb.length := by omega
        obtain ⟨da, xa, ya⟩ := hA k hka
        obtain ⟨db, xb, yb⟩ := hB k hkb
        refine WF.skip ?_
        refine thn_n ?_
        refine WF.seq ?_
        refine WF.block ?_
        refine WF.seq ?_
        refine WF.drawn (.q 0 (.q 1 (.q 2 (.q 3 (.q 4 (.q 5 (.q 6 (.q 7 (.l 8 (.q 9 .nil)))))))))) (fun w' => Ext w w') 10 (by kernel_rfl) (by kernel_rfl) (Ext.trans hwL0 (Ext.drew _)) ?_
        refine WO.q rfl rfl rfl rfl (fun w' hE9 => (X.move ((hAL0.eq 0).trans (congrFun hF6 0)))) ?_
        refine WO.q rfl rfl rfl rfl (fun w' hE9 => (X.moveI e5_L0)) ?_
        refine WO.q rfl rfl rfl rfl (fun w' hE9 => (X.idx ha rfl rfl (by omega) Try.underlying37 Try.sizeOf99)) ?_
        refine WO.q rfl rfl rfl rfl (fun w' hE9 => (X.loadEl ha hE9 rfl (by omega) xa Try.isAgg99 Try.sizeOf99)) ?_
        refine WO.q rfl rfl rfl rfl (fun w' hE9 => (X.move ((hAL0.eq 1).trans (congrFun hF6 1)))) ?_
        refine WO.q rfl rfl rfl rfl (fun w' hE9 => (X.moveI e5_L0)) ?_
        refine WO.q rfl rfl rfl rfl (fun w' hE9 => (X.idx hb rfl rfl (by omega) Try.underlying37 Try.sizeOf99)) ?_
        refine WO.q rfl rfl rfl rfl (fun w' hE9 => (X.loadEl hb hE9 rfl (by omega) xb Try.isAgg99 Try.sizeOf99)) ?_
        refine WO.l ?_
        refine LO.go rfl rfl (OW.enter rfl (by decide) (X.call Try.call61 (evl_cons rfl (evl_cons rfl evl_nil))) (sameEntry_ok _ _ _ _ _ (Row.ext ya (Ext.trans hwL0 (Ext.drew _))) (Row.ext yb (Ext.trans hwL0 (Ext.drew _)))) ?_)
        rintro v11 w10 ⟨rfl, hx12⟩
        refine ⟨(Ext.trans (Ext.trans hwL0 (Ext.drew _)) hx12), ?_⟩
        refine WO.q rfl rfl rfl rfl (fun w' hE9 => (X.not rfl)) ?_
        refine WO.nil ?_
        refine WL.nil ?_
        refine thn_n ?_
        refine WF.cond rfl (fun h2_14 => ?_) (fun h2_14 => ?_)
        · have gh2_14 := (of_decide_eq_false (nt h2_14))
          have hne : la ≠ lb := fun e => gh2_14 (by subst e; rfl)
          refine WF.seq ?_
          refine WF.region ?_
          refine WL.va rfl rfl rfl (X.assignB rfl) ?_
          refine WL.nil ?_
          refine thn_n ?_
          refine WF.ret ?_
          refine blk_r ?_
          refine thn_r ?_
          refine thn_r ?_
          refine blk_r ?_
          refine thn_r ?_
          refine fin_r ?_
          exact ⟨congrArg Value.bool (decide_eq_false hne).symm, (Ext.trans (Ext.trans hwL0 (Ext.drew _)) hx12)⟩
        · have gh2_14 := (of_decide_eq_true (nf h2_14))
          have heq := gh2_14
          refine WF.skip ?_
          refine blk_n ?_
          refine thn_n ?_
          refine WF.region ?_
          refine WL.va rfl rfl rfl (X.moveI e5_L0) ?_
          refine WL.va rfl rfl rfl (X.add rfl rfl (w64 (by omega))) ?_
          refine WL.va rfl rfl rfl (X.assignI rfl) ?_
          refine WL.nil ?_
          exact thn_n ⟨_, (by omega), k + 1, rfl, rfl, (by repeat (first | exact hAL0 | refine Agree.put ?_ rfl | refine Agree.named hF6 ?_)), (Ext.trans (Ext.trans hwL0 (Ext.drew _)) hx12), ⟨by omega, by rw [List.take_succ_eq_append_getElem hka, List.take_succ_eq_append_getElem hkb, hkk, heq]⟩⟩
      · have gh1_7 := (of_decide_eq_false h1_7)
        refine WF.exit ?_
        refine thn_x ?_
        refine thn_x ?_
        refine blk_eq ?_
        refine thn_n ?_
        refine WF.seq ?_
        refine WF.region ?_
        refine WL.va rfl rfl rfl (X.assignB rfl) ?_
        refine WL.nil ?_
        refine thn_n ?_
        refine WF.ret ?_
        refine fin_r ?_
        exact ⟨congrArg Value.bool (decide_eq_true (by rw [List.take_of_length_le (by omega), List.take_of_length_le (by omega)] at hkk; exact hkk)).symm, hwL0⟩

set_option maxHeartbeats 4000000 in
theorem sameMsg_ok (a b : Msg) (ea da eb db : Value) (w : World) (hea : Ents w ea a.Entries) (hda : Bytes w da a.Data) (heb : Ents w eb b.Entries) (hdb : Bytes w db b.Data) : FnOk Try.prog 38 [agg (a.c ea da), agg (b.c eb db)] w (fun r w' => r = .bool (decide (a = b)) ∧ Ext w w') := by
  refine FnOk.enter (rs := [4]) Try.func38 rfl Try.ntmps38 Try.results38 rfl rfl ?_
  refine WF.seq ?_
  refine WF.region ?_
  refine WL.op rfl (OW.boxA (cs := _) rfl ?_ (by decide))
  intro g2 w1 heg2 hlg2 hO2 hx3
  have := World.grownBy.size hx3
  refine WL.op rfl (OW.boxA (cs := _) rfl ?_ (by decide))
  intro g3 w5 heg3 hlg3 hO3 hx7
  have := World.grownBy.size hx7
  refine WL.va rfl rfl rfl (X.assignB rfl) ?_
  refine WL.nil ?_
  refine thn_n ?_
  refine WF.seq ?_
  refine WF.region ?_
  refine WL.va rfl rfl rfl (X.fieldAddrO (off := 0) rfl Try.underlying40 rfl rfl Try.sizeOf3) ?_
  refine WL.va rfl rfl rfl (X.loadO hO2 hx7 rfl rfl Try.isAgg3) ?_
  refine WL.va rfl rfl rfl (X.fieldAddrO (off := 0) rfl Try.underlying40 rfl rfl Try.sizeOf3) ?_
  refine WL.va rfl rfl rfl (X.loadO hO3 (Ext.refl _) rfl rfl Try.isAgg3) ?_
  refine WL.va rfl rfl rfl (X.eql rfl rfl) ?_
  refine WL.va rfl rfl rfl (X.moveB rfl) ?_
  refine WL.split (j := 5) rfl (fun h11 => ?_) (fun h11 => ?_)
  · have gh11 := (of_decide_eq_true h11)
    refine WL.vg rfl (congrArg some h11) rfl rfl (X.fieldAddrO (off := 1) rfl Try.underlying40 rfl rfl Try.sizeOf3) ?_
    refine WL.vg rfl (congrArg some h11) rfl rfl (X.loadO hO2 hx7 rfl rfl Try.isAgg3) ?_
    refine WL.vg rfl (congrArg some h11) rfl rfl (X.fieldAddrO (off := 1) rfl Try.underlying40 rfl rfl Try.sizeOf3) ?_
    refine WL.vg rfl (congrArg some h11) rfl rfl (X.loadO hO3 (Ext.refl _) rfl rfl Try.isAgg3) ?_
    refine WL.vg rfl (congrArg some h11) rfl rfl (X.eql rfl rfl) ?_
    refine WL.va rfl rfl rfl (X.pickT rfl h11 rfl) ?_
    refine WL.va rfl rfl rfl (X.moveB rfl) ?_
    refine WL.split (j := 12) rfl (fun h13 => ?_) (fun h13 => ?_)
    · have gh13 := (of_decide_eq_true h13)
      refine WL.vg rfl (congrArg some h13) rfl rfl (X.fieldAddrO (off := 2) rfl Try.underlying40 rfl rfl Try.sizeOf3) ?_
      refine WL.vg rfl (congrArg some h13) rfl rfl (X.loadO hO2 hx7 rfl rfl Try.isAgg3) ?_
      refine WL.vg rfl (congrArg some h13) rfl rfl (X.fieldAddrO (off := 2) rfl Try.underlying40 rfl rfl Try.sizeOf3) ?_
      refine WL.vg rfl (congrArg some h13) rfl rfl (X.loadO hO3 (Ext.refl _) rfl rfl Try.isAgg3) ?_
      refine WL.vg rfl (congrArg some h13) rfl rfl (X.eql rfl rfl) ?_
      refine WL.va rfl rfl rfl (X.pickT rfl h13 rfl) ?_
      refine WL.va rfl rfl rfl (X.moveB rfl) ?_
      refine WL.split (j := 19) rfl (fun h15 => ?_) (fun h15 => ?_)
      · have gh15 := (of_decide_eq_true h15)
        refine WL.vg rfl (congrArg some h15) rfl rfl (X.fieldAddrO (off := 3) rfl Try.underlying40 rfl rfl Try.sizeOf3) ?_
        refine WL.vg rfl (congrArg some h15) rfl rfl (X.loadO hO2 hx7 rfl rfl Try.isAgg3) ?_
        refine WL.vg rfl (congrArg some h15) rfl rfl (X.fieldAddrO (off := 3) rfl Try.underlying40 rfl rfl Try.sizeOf3) ?_
        refine WL.vg rfl (congrArg some h15) rfl rfl (X.loadO hO3 (Ext.refl _) rfl rfl Try.isAgg3) ?_
        refine WL.vg rfl (congrArg some h15) rfl rfl (X.eql rfl rfl) ?_
        refine WL.va rfl rfl rfl (X.pickT rfl h15 rfl) ?_
        refine WL.va rfl rfl rfl (X.moveB rfl) ?_
        refine WL.split (j := 26) rfl (fun h17 => ?_) (fun h17 => ?_)
        · have gh17 := (of_decide_eq_true h17)
          refine WL.vg rfl (congrArg some h17) rfl rfl (X.fieldAddrO (off := 4) rfl Try.underlying40 rfl rfl Try.sizeOf3) ?_
          refine WL.vg rfl (congrArg some h17) rfl rfl (X.loadO hO2 hx7 rfl rfl Try.isAgg3) ?_
          refine WL.vg rfl (congrArg some h17) rfl rfl (X.fieldAddrO (off := 4) rfl Try.underlying40 rfl rfl Try.sizeOf3) ?_
          refine WL.vg rfl (congrArg some h17) rfl rfl (X.loadO hO3 (Ext.refl _) rfl rfl Try.isAgg3) ?_
          refine WL.vg rfl (congrArg some h17) rfl rfl (X.eql rfl rfl) ?_
          refine WL.va rfl rfl rfl (X.pickT rfl h17 rfl) ?_
          refine WL.va rfl rfl rfl (X.moveB rfl) ?_
          refine WL.split (j := 33) rfl (fun h19 => ?_) (fun h19 => ?_)
          · have gh19 := (of_decide_eq_true h19)
            refine WL.vg rfl (congrArg some h19) rfl rfl (X.fieldAddrO (off := 5) rfl Try.underlying40 rfl rfl Try.sizeOf3) ?_
            refine WL.vg rfl (congrArg some h19) rfl rfl (X.loadO hO2 hx7 rfl rfl Try.isAgg3) ?_
            refine WL.vg rfl (congrArg some h19) rfl rfl (X.fieldAddrO (off := 5) rfl Try.underlying40 rfl rfl Try.sizeOf3) ?_
            refine WL.vg rfl (congrArg some h19) rfl rfl (X.loadO hO3 (Ext.refl _) rfl rfl Try.isAgg3) ?_
            refine WL.vg rfl (congrArg some h19) rfl rfl (X.eql rfl rfl) ?_
            refine WL.va rfl rfl rfl (X.pickT rfl h19 rfl) ?_
            refine WL.va rfl rfl rfl (X.moveB rfl) ?_
            refine WL.split (j := 40) rfl (fun h21 => ?_) (fun h21 => ?_)
            · have gh21 := (of_decide_eq_true h21)
              refine WL.vg rfl (congrArg some h21) rfl rfl (X.fieldAddrO (off := 6) rfl Try.underlying40 rfl rfl Try.sizeOf3) ?_
              refine WL.vg rfl (congrArg some h21) rfl rfl (X.loadO hO2 hx7 rfl rfl Try.isAgg3) ?_
              refine WL.vg rfl (congrArg some h21) rfl rfl (X.fieldAddrO (off := 6) rfl Try.underlying40 rfl rfl Try.sizeOf3) ?_
              refine WL.vg rfl (congrArg some h21) rfl rfl (X.loadO hO3 (Ext.refl _) rfl rfl Try.isAgg3) ?_
              refine WL.vg rfl (congrArg some h21) rfl rfl (X.eql rfl rfl) ?_
              refine WL.va rfl rfl rfl (X.pickT rfl h21 rfl) ?_
              refine WL.va rfl rfl rfl (X.moveB rfl) ?_
              refine WL.split (j := 47) rfl (fun h23 => ?_) (fun h23 => ?_)
              · have gh23 := (of_decide_eq_true h23)
                refine WL.vg rfl (congrArg some h23) rfl rfl (X.fieldAddrO (off := 7) rfl Try.underlying40 rfl rfl Try.sizeOf3) ?_
                refine WL.vg rfl (congrArg some h23) rfl rfl (X.loadO hO2 hx7 rfl rfl Try.isAgg3) ?_
                refine WL.vg rfl (congrArg some h23) rfl rfl (X.fieldAddrO (off := 7) rfl Try.underlying40 rfl rfl Try.sizeOf3) ?_
                refine WL.vg rfl (congrArg some h23) rfl rfl (X.loadO hO3 (Ext.refl _) rfl rfl Try.isAgg3) ?_
                refine WL.vg rfl (congrArg some h23) rfl rfl (X.eql rfl rfl) ?_
                refine WL.va rfl rfl rfl (X.pickT rfl h23 rfl) ?_
                refine WL.va rfl rfl rfl (X.moveB rfl) ?_
                refine WL.split (j := 54) rfl (fun h25 => ?_) (fun h25 => ?_)
                · have gh25 := (of_decide_eq_true h25)
                  refine WL.vg rfl (congrArg some h25) rfl rfl (X.fieldAddrO (off := 8) rfl Try.underlying40 rfl rfl Try.sizeOf3) ?_
                  refine WL.vg rfl (congrArg some h25) rfl rfl (X.loadO hO2 hx7 rfl rfl Try.isAgg3) ?_
                  refine WL.vg rfl (congrArg some h25) rfl rfl (X.fieldAddrO (off := 8) rfl Try.underlying40 rfl rfl Try.sizeOf3) ?_
                  refine WL.vg rfl (congrArg some h25) rfl rfl (X.loadO hO3 (Ext.refl _) rfl rfl Try.isAgg3) ?_
                  refine WL.vg rfl (congrArg some h25) rfl rfl (X.eql rfl rfl) ?_
                  refine WL.va rfl rfl rfl (X.pickT rfl h25 rfl) ?_
                  refine WL.va rfl rfl rfl (X.assignB rfl) ?_
                  refine WL.nil ?_
                  refine thn_n ?_
                  refine WF.seq ?_
                  refine WF.region ?_
                  refine WL.va rfl rfl rfl (X.moveB rfl) ?_
                  refine WL.va rfl rfl rfl (X.moveB rfl) ?_
                  refine WL.split (j := 1) rfl (fun h27 => ?_) (fun h27 => ?_)
                  · have gh27 := (of_decide_eq_true h27)
                    refine WL.vg rfl (congrArg some h27) rfl rfl (X.fieldAddrO (off := 9) rfl Try.underlying40 rfl rfl Try.sizeOf3) ?_
                    refine WL.vg rfl (congrArg some h27) rfl rfl (X.loadO hO2 hx7 rfl rfl Try.isAgg3) ?_
                    refine WL.vg rfl (congrArg some h27) rfl rfl (X.fieldAddrO (off := 9) rfl Try.underlying40 rfl rfl Try.sizeOf3) ?_
                    refine WL.vg rfl (congrArg some h27) rfl rfl (X.loadO hO3 (Ext.refl _) rfl rfl Try.isAgg3) ?_
                    refine WL.vg rfl (congrArg some h27) rfl rfl (X.eql rfl rfl) ?_
                    refine WL.va rfl rfl rfl (X.pickT rfl h27 rfl) ?_
                    refine WL.va rfl rfl rfl (X.moveB rfl) ?_
                    refine WL.split (j := 8) rfl (fun h29 => ?_) (fun h29 => ?_)
                    · have gh29 := (of_decide_eq_true h29)
                      refine WL.vg rfl (congrArg some h29) rfl rfl (X.fieldAddrO (off := 10) rfl Try.underlying40 rfl rfl Try.sizeOf3) ?_
                      refine WL.vg rfl (congrArg some h29) rfl rfl (X.loadO hO2 hx7 rfl rfl Try.isAgg3) ?_
                      refine WL.vg rfl (congrArg some h29) rfl rfl (X.fieldAddrO (off := 10) rfl Try.underlying40 rfl rfl Try.sizeOf3) ?_
                      refine WL.vg rfl (congrArg some h29) rfl rfl (X.loadO hO3 (Ext.refl _) rfl rfl Try.isAgg3) ?_
                      refine WL.vg rfl (congrArg some h29) rfl rfl (X.eql rfl rfl) ?_
                      refine WL.va rfl rfl rfl (X.pickT rfl h29 rfl) ?_
                      refine WL.va rfl rfl rfl (X.moveB rfl) ?_
                      refine WL.split (j := 15) rfl (fun h31 => ?_) (fun h31 => ?_)
                      · have gh31 := (of_decide_eq_true h31)
                        refine WL.vg rfl (congrArg some h31) rfl rfl (X.fieldAddrO (off := 11) rfl Try.underlying40 rfl rfl Try.sizeOf3) ?_
                        refine WL.vg rfl (congrArg some h31) rfl rfl (X.loadO hO2 hx7 rfl rfl Try.isAgg3) ?_
                        refine WL.vg rfl (congrArg some h31) rfl rfl (X.fieldAddrO (off := 11) rfl Try.underlying40 rfl rfl Try.sizeOf3) ?_
                        refine WL.vg rfl (congrArg some h31) rfl rfl (X.loadO hO3 (Ext.refl _) rfl rfl Try.isAgg3) ?_
                        refine WL.vg rfl (congrArg some h31) rfl rfl (X.eql rfl rfl) ?_
                        refine WL.va rfl rfl rfl (X.pickT rfl h31 rfl) ?_
                        refine WL.va rfl rfl rfl (X.moveB rfl) ?_
                        refine WL.split (j := 22) rfl (fun h33 => ?_) (fun h33 => ?_)
                        · have gh33 := (of_decide_eq_true h33)
                          refine WL.vg rfl (congrArg some h33) rfl rfl (X.fieldAddrO (off := 12) rfl Try.underlying40 rfl rfl Try.sizeOf3) ?_
                          refine WL.vg rfl (congrArg some h33) rfl rfl (X.loadO hO2 hx7 rfl rfl Try.isAgg3) ?_
                          refine WL.vg rfl (congrArg some h33) rfl rfl (X.fieldAddrO (off := 12) rfl Try.underlying40 rfl rfl Try.sizeOf3) ?_
                          refine WL.vg rfl (congrArg some h33) rfl rfl (X.loadO hO3 (Ext.refl _) rfl rfl Try.isAgg3) ?_
                          refine WL.vg rfl (congrArg some h33) rfl rfl (X.eql rfl rfl) ?_
                          refine WL.va rfl rfl rfl (X.pickT rfl h33 rfl) ?_
                          refine WL.va rfl rfl rfl (X.moveB rfl) ?_
                          refine WL.split (j := 29) rfl (fun h35 => ?_) (fun h35 => ?_)
                          · have gh35 := (of_decide_eq_true h35)
                            refine WL.vg rfl (congrArg some h35) rfl rfl (X.fieldAddrO (off := 13) rfl Try.underlying40 rfl rfl Try.sizeOf3) ?_
                            refine WL.vg rfl (congrArg some h35) rfl rfl (X.loadO hO2 hx7 rfl rfl Try.isAgg3) ?_
                            refine WL.vg rfl (congrArg some h35) rfl rfl (X.fieldAddrO (off := 13) rfl Try.underlying40 rfl rfl Try.sizeOf3) ?_
                            refine WL.vg rfl (congrArg some h35) rfl rfl (X.loadO hO3 (Ext.refl _) rfl rfl Try.isAgg3) ?_
                            refine WL.vg rfl (congrArg some h35) rfl rfl (X.eql rfl rfl) ?_
                            refine WL.va rfl rfl rfl (X.pickT rfl h35 rfl) ?_
                            refine WL.va rfl rfl rfl (X.moveB rfl) ?_
                            refine WL.split (j := 36) rfl (fun h37 => ?_) (fun h37 => ?_)
                            · have gh37 := (of_decide_eq_true h37)
                              refine WL.vg rfl (congrArg some h37) rfl rfl (X.fieldAddrO (off := 14) rfl Try.underlying40 rfl rfl Try.sizeOf4) ?_
                              refine WL.vg rfl (congrArg some h37) rfl rfl (X.loadO hO2 hx7 rfl rfl Try.isAgg4) ?_
                              refine WL.vg rfl (congrArg some h37) rfl rfl (X.fieldAddrO (off := 14) rfl Try.underlying40 rfl rfl Try.sizeOf4) ?_
                              refine WL.vg rfl (congrArg some h37) rfl rfl (X.loadO hO3 (Ext.refl _) rfl rfl Try.isAgg4) ?_
                              refine WL.vg rfl (congrArg some h37) rfl rfl (X.eqlB rfl rfl Try.underlying4) ?_
                              refine WL.va rfl rfl rfl (X.pickT rfl h37 rfl) ?_
                              refine WL.va rfl rfl rfl (X.moveB rfl) ?_
                              refine WL.split (j := 43) rfl (fun h41 => ?_) (fun h41 => ?_)
                              · have gh41 := h41
                                refine WL.vg rfl (congrArg some h41) rfl rfl (X.fieldAddrO (off := 15) rfl Try.underlying40 rfl rfl Try.sizeOf37) ?_
                                refine WL.vg rfl (congrArg some h41) rfl rfl (X.loadO hO2 hx7 rfl rfl Try.isAgg37) ?_
                                refine WL.vg rfl (congrArg some h41) rfl rfl (X.fieldAddrO (off := 15) rfl Try.underlying40 rfl rfl Try.sizeOf37) ?_
                                refine WL.vg rfl (congrArg some h41) rfl rfl (X.loadO hO3 (Ext.refl _) rfl rfl Try.isAgg37) ?_
                                refine WL.cg rfl (congrArg some h41) rfl rfl (X.call Try.call48 (evl_cons rfl (evl_cons rfl evl_nil))) (sameEntries_ok _ _ _ _ _ (hea.ext (Ext.trans hx3 hx7)) (heb.ext (Ext.trans hx3 hx7))) ?_
                                rintro v43 w42 ⟨rfl, hx44⟩
                                have := World.grownBy.size hx44
                                refine WL.va rfl rfl rfl (X.pickT rfl h41 rfl) ?_
                                refine WL.va rfl rfl rfl (X.moveB rfl) ?_
                                refine WL.split (j := 50) rfl (fun h46 => ?_) (fun h46 => ?_)
                                · have gh46 := (of_decide_eq_true h46)
                                  refine WL.vg rfl (congrArg some h46) rfl rfl (X.fieldAddrO (off := 16) rfl Try.underlying40 rfl rfl Try.sizeOf38) ?_
                                  refine WL.vg rfl (congrArg some h46) rfl rfl (X.loadO hO2 (Ext.trans hx7 hx44) rfl rfl Try.isAgg38) ?_
                                  refine WL.vg rfl (congrArg some h46) rfl rfl (X.fieldAddrO (off := 16) rfl Try.underlying40 rfl rfl Try.sizeOf38) ?_
                                  refine WL.vg rfl (congrArg some h46) rfl rfl (X.loadO hO3 hx44 rfl rfl Try.isAgg38) ?_
                                  refine WL.cg rfl (congrArg some h46) rfl rfl (X.call Try.call49 (evl_cons rfl (evl_cons rfl evl_nil))) (sameBytes_ok _ _ _ _ _ (Row.ext hda (Ext.trans (Ext.trans hx3 hx7) hx44)) (Row.ext hdb (Ext.trans (Ext.trans hx3 hx7) hx44))) ?_
                                  rintro v48 w47 ⟨rfl, hx49⟩
                                  have := World.grownBy.size hx49
                                  refine WL.va rfl rfl rfl (X.pickT rfl h46 rfl) ?_
                                  refine WL.va rfl rfl rfl (X.assignB rfl) ?_
                                  refine WL.nil ?_
                                  refine thn_n ?_
                                  refine WF.ret ?_
                                  refine fin_r ?_
                                  first | exact ⟨congrArg Value.bool (decide_eq_false hne).symm, (Ext.trans (Ext.trans (Ext.trans hx3 hx7) hx44) hx49)⟩ | (refine ⟨congrArg Value.bool (decide_eq_decide.2 ?_), (Ext.trans (Ext.trans (Ext.trans hx3 hx7) hx44) hx49)⟩; rw [Msg.eq_iff]; constructor <;> intro e <;> first | exact e.2.2.2 | exact ⟨by simp only [Msg.ints, *], by simp_all, by assumption, e⟩)
                                · have gh46 := (of_decide_eq_false h46)
                                  have hne : a ≠ b := fun e => by first | exact gh46 (by rw [e]) | (rw [e] at gh46; simp at gh46)
                                  refine WL.p rfl rfl rfl (congrArg some h46) ?_
                                  refine WL.p rfl rfl rfl (congrArg some h46) ?_
                                  refine WL.p rfl rfl rfl (congrArg some h46) ?_
                                  refine WL.p rfl rfl rfl (congrArg some h46) ?_
                                  refine WL.p rfl rfl rfl (congrArg some h46) ?_
                                  refine WL.va rfl rfl rfl (X.pickF rfl h46 rfl) ?_
                                  refine WL.va rfl rfl rfl (X.assignB rfl) ?_
                                  refine WL.nil ?_
                                  refine thn_n ?_
                                  refine WF.ret ?_
                                  refine fin_r ?_
                                  first | exact ⟨congrArg Value.bool (decide_eq_false hne).symm, (Ext.trans (Ext.trans hx3 hx7) hx44)⟩ | (refine ⟨congrArg Value.bool (decide_eq_decide.2 ?_), (Ext.trans (Ext.trans hx3 hx7) hx44)⟩; rw [Msg.eq_iff]; constructor <;> intro e <;> first | exact e.2.2.2 | exact ⟨by simp only [Msg.ints, *], by simp_all, by assumption, e⟩)
                              · have gh41 := h41
                                have hne : a ≠ b := fun e => by first | exact gh41 (by rw [e]) | (rw [e] at gh41; simp at gh41)
                                refine WL.p rfl rfl rfl (congrArg some h41) ?_
                                refine WL.p rfl rfl rfl (congrArg some h41) ?_
                                refine WL.p rfl rfl rfl (congrArg some h41) ?_
                                refine WL.p rfl rfl rfl (congrArg some h41) ?_
                                refine WL.p rfl rfl rfl (congrArg some h41) ?_
                                refine WL.va rfl rfl rfl (X.pickF rfl h41 rfl) ?_
                                refine WL.va rfl rfl rfl (X.moveB rfl) ?_
                                refine WL.p rfl rfl rfl rfl ?_
                                refine WL.p rfl rfl rfl rfl ?_
                                refine WL.p rfl rfl rfl rfl ?_
                                refine WL.p rfl rfl rfl rfl ?_
                                refine WL.p rfl rfl rfl rfl ?_
                                refine WL.va rfl rfl rfl (X.pickF rfl rfl rfl) ?_
                                refine WL.va rfl rfl rfl (X.assignB rfl) ?_
                                refine WL.nil ?_
                                refine thn_n ?_
                                refine WF.ret ?_
                                refine fin_r ?_
                                first | exact ⟨congrArg Value.bool (decide_eq_false hne).symm, (Ext.trans hx3 hx7)⟩ | (refine ⟨congrArg Value.bool (decide_eq_decide.2 ?_), (Ext.trans hx3 hx7)⟩; rw [Msg.eq_iff]; constructor <;> intro e <;> first | exact e.2.2.2 | exact ⟨by simp only [Msg.ints, *], by simp_all, by assumption, e⟩)
                            · have gh37 := (of_decide_eq_false h37)
                              have hne : a ≠ b := fun e => by first | exact gh37 (by rw [e]) | (rw [e] at gh37; simp at gh37)
                              refine WL.p rfl rfl rfl (congrArg some h37) ?_
                              refine WL.p rfl rfl rfl (congrArg some h37) ?_
                              refine WL.p rfl rfl rfl (congrArg some h37) ?_
                              refine WL.p rfl rfl rfl (congrArg some h37) ?_
                              refine WL.p rfl rfl rfl (congrArg some h37) ?_
                              refine WL.va rfl rfl rfl (X.pickF rfl h37 rfl) ?_
                              refine WL.va rfl rfl rfl (X.moveB rfl) ?_
                              refine WL.p rfl rfl rfl rfl ?_
                              refine WL.p rfl rfl rfl rfl ?_
                              refine WL.p rfl rfl rfl rfl ?_
                              refine WL.p rfl rfl rfl rfl ?_
                              refine WL.p rfl rfl rfl rfl ?_
                              refine WL.va rfl rfl rfl (X.pickF rfl rfl rfl) ?_
                              refine WL.va rfl rfl rfl (X.moveB rfl) ?_
                              refine WL.p rfl rfl rfl rfl ?_
                              refine WL.p rfl rfl rfl rfl ?_
                              refine WL.p rfl rfl rfl rfl ?_
                              refine WL.p rfl rfl rfl rfl ?_
                              refine WL.p rfl rfl rfl rfl ?_
                              refine WL.va rfl rfl rfl (X.pickF rfl rfl rfl) ?_
                              refine WL.va rfl rfl rfl (X.assignB rfl) ?_
                              refine WL.nil ?_
                              refine thn_n ?_
                              refine WF.ret ?_
                              refine fin_r ?_
                              first | exact ⟨congrArg Value.bool (decide_eq_false hne).symm, (Ext.trans hx3 hx7)⟩ | (refine ⟨congrArg Value.bool (decide_eq_decide.2 ?_), (Ext.trans hx3 hx7)⟩; rw [Msg.eq_iff]; constructor <;> intro e <;> first | exact e.2.2.2 | exact ⟨by simp only [Msg.ints, *], by simp_all, by assumption, e⟩)
                          · have gh35 := (of_decide_eq_false h35)
                            have hne : a ≠ b := fun e => by first | exact gh35 (by rw [e]) | (rw [e] at gh35; simp at gh35)
                            refine WL.p rfl rfl rfl (congrArg some h35) ?_
                            refine WL.p rfl rfl rfl (congrArg some h35) ?_
                            refine WL.p rfl rfl rfl (congrArg some h35) ?_
                            refine WL.p rfl rfl rfl (congrArg some h35) ?_
                            refine WL.p rfl rfl rfl (congrArg some h35) ?_
                            refine WL.va rfl rfl rfl (X.pickF rfl h35 rfl) ?_
                            refine WL.va rfl rfl rfl (X.moveB rfl) ?_
                            refine WL.p rfl rfl rfl rfl ?_
                            refine WL.p rfl rfl rfl rfl ?_
                            refine WL.p rfl rfl rfl rfl ?_
                            refine WL.p rfl rfl rfl rfl ?_
                            refine WL.p rfl rfl rfl rfl ?_
                            refine WL.va rfl rfl rfl (X.pickF rfl rfl rfl) ?_
                            refine WL.va rfl rfl rfl (X.moveB rfl) ?_
                            refine WL.p rfl rfl rfl rfl ?_
                            refine WL.p rfl rfl rfl rfl ?_
                            refine WL.p rfl rfl rfl rfl ?_
                            refine WL.p rfl rfl rfl rfl ?_
                            refine WL.p rfl rfl rfl rfl ?_
                            refine WL.va rfl rfl rfl (X.pickF rfl rfl rfl) ?_
                            refine WL.va rfl rfl rfl (X.moveB rfl) ?_
                            refine WL.p rfl rfl rfl rfl ?_
                            refine WL.p rfl rfl rfl rfl ?_
                            refine WL.p rfl rfl rfl rfl ?_
                            refine WL.p rfl rfl rfl rfl ?_
                            refine WL.p rfl rfl rfl rfl ?_
                            refine WL.va rfl rfl rfl (X.pickF rfl rfl rfl) ?_
                            refine WL.va rfl rfl rfl (X.assignB rfl) ?_
                            refine WL.nil ?_
                            refine thn_n ?_
                            refine WF.ret ?_
                            refine fin_r ?_
                            first | exact ⟨congrArg Value.bool (decide_eq_false hne).symm, (Ext.trans hx3 hx7)⟩ | (refine ⟨congrArg Value.bool (decide_eq_decide.2 ?_), (Ext.trans hx3 hx7)⟩; rw [Msg.eq_iff]; constructor <;> intro e <;> first | exact e.2.2.2 | exact ⟨by simp only [Msg.ints, *], by simp_all, by assumption, e⟩)
                        · have gh33 := (of_decide_eq_false h33)
                          have hne : a ≠ b := fun e => by first | exact gh33 (by rw [e]) | (rw [e] at gh33; simp at gh33)
                          refine WL.p rfl rfl rfl (congrArg some h33) ?_
                          refine WL.p rfl rfl rfl (congrArg some h33) ?_
                          refine WL.p rfl rfl rfl (congrArg some h33) ?_
                          refine WL.p rfl rfl rfl (congrArg some h33) ?_
                          refine WL.p rfl rfl rfl (congrArg some h33) ?_
                          refine WL.va rfl rfl rfl (X.pickF rfl h33 rfl) ?_
                          refine WL.va rfl rfl rfl (X.moveB rfl) ?_
                          refine WL.p rfl rfl rfl rfl ?_
                          refine WL.p rfl rfl rfl rfl ?_
                          refine WL.p rfl rfl rfl rfl ?_
                          refine WL.p rfl rfl rfl rfl ?_
                          refine WL.p rfl rfl rfl rfl ?_
                          refine WL.va rfl rfl rfl (X.pickF rfl rfl rfl) ?_
                          refine WL.va rfl rfl rfl (X.moveB rfl) ?_
                          refine WL.p rfl rfl rfl rfl ?_
                          refine WL.p rfl rfl rfl rfl ?_
                          refine WL.p rfl rfl rfl rfl ?_
                          refine WL.p rfl rfl rfl rfl ?_
                          refine WL.p rfl rfl rfl rfl ?_
                          refine WL.va rfl rfl rfl (X.pickF rfl rfl rfl) ?_
                          refine WL.va rfl rfl rfl (X.moveB rfl) ?_
                          refine WL.p rfl rfl rfl rfl ?_
                          refine WL.p rfl rfl rfl rfl ?_
                          refine WL.p rfl rfl rfl rfl ?_
                          refine WL.p rfl rfl rfl rfl ?_
                          refine WL.p rfl rfl rfl rfl ?_
                          refine WL.va rfl rfl rfl (X.pickF rfl rfl rfl) ?_
                          refine WL.va rfl rfl rfl (X.moveB rfl) ?_
                          refine WL.p rfl rfl rfl rfl ?_
                          refine WL.p rfl rfl rfl rfl ?_
                          refine WL.p rfl rfl rfl rfl ?_
                          refine WL.p rfl rfl rfl rfl ?_
                          refine WL.p rfl rfl rfl rfl ?_
                          refine WL.va rfl rfl rfl (X.pickF rfl rfl rfl) ?_
                          refine WL.va rfl rfl rfl (X.assignB rfl) ?_
                          refine WL.nil ?_
                          refine thn_n ?_
                          refine WF.ret ?_
                          refine fin_r ?_
                          first | exact ⟨congrArg Value.bool (decide_eq_false hne).symm, (Ext.trans hx3 hx7)⟩ | (refine ⟨congrArg Value.bool (decide_eq_decide.2 ?_), (Ext.trans hx3 hx7)⟩; rw [Msg.eq_iff]; constructor <;> intro e <;> first | exact e.2.2.2 | exact ⟨by simp only [Msg.ints, *], by simp_all, by assumption, e⟩)
                      · have gh31 := (of_decide_eq_false h31)
                        have hne : a ≠ b := fun e => by first | exact gh31 (by rw [e]) | (rw [e] at gh31; simp at gh31)
                        refine WL.p rfl rfl rfl (congrArg some h31) ?_
                        refine WL.p rfl rfl rfl (congrArg some h31) ?_
                        refine WL.p rfl rfl rfl (congrArg some h31) ?_
                        refine WL.p rfl rfl rfl (congrArg some h31) ?_
                        refine WL.p rfl rfl rfl (congrArg some h31) ?_
                        refine WL.va rfl rfl rfl (X.pickF rfl h31 rfl) ?_
                        refine WL.va rfl rfl rfl (X.moveB rfl) ?_
                        refine WL.p rfl rfl rfl rfl ?_
                        refine WL.p rfl rfl rfl rfl ?_
                        refine WL.p rfl rfl rfl rfl ?_
                        refine WL.p rfl rfl rfl rfl ?_
                        refine WL.p rfl rfl rfl rfl ?_
                        refine WL.va rfl rfl rfl (X.pickF rfl rfl rfl) ?_
                        refine WL.va rfl rfl rfl (X.moveB rfl) ?_
                        refine WL.p rfl rfl rfl rfl ?_
                        refine WL.p rfl rfl rfl rfl ?_
                        refine WL.p rfl rfl rfl rfl ?_
                        refine WL.p rfl rfl rfl rfl ?_
                        refine WL.p rfl rfl rfl rfl ?_
                        refine WL.va rfl rfl rfl (X.pickF rfl rfl rfl) ?_
                        refine WL.va rfl rfl rfl (X.moveB rfl) ?_
                        refine WL.p rfl rfl rfl rfl ?_
                        refine WL.p rfl rfl rfl rfl ?_
                        refine WL.p rfl rfl rfl rfl ?_
                        refine WL.p rfl rfl rfl rfl ?_
                        refine WL.p rfl rfl rfl rfl ?_
                        refine WL.va rfl rfl rfl (X.pickF rfl rfl rfl) ?_
                        refine WL.va rfl rfl rfl (X.moveB rfl) ?_
                        refine WL.p rfl rfl rfl rfl ?_
                        refine WL.p rfl rfl rfl rfl ?_
                        refine WL.p rfl rfl rfl rfl ?_
                        refine WL.p rfl rfl rfl rfl ?_
                        refine WL.p rfl rfl rfl rfl ?_
                        refine WL.va rfl rfl rfl (X.pickF rfl rfl rfl) ?_
                        refine WL.va rfl rfl rfl (X.moveB rfl) ?_
                        refine WL.p rfl rfl rfl rfl ?_
                        refine WL.p rfl rfl rfl rfl ?_
                        refine WL.p rfl rfl rfl rfl ?_
                        refine WL.p rfl rfl rfl rfl ?_
                        refine WL.p rfl rfl rfl rfl ?_
                        refine WL.va rfl rfl rfl (X.pickF rfl rfl rfl) ?_
                        refine WL.va rfl rfl rfl (X.assignB rfl) ?_
                        refine WL.nil ?_
                        refine thn_n ?_
                        refine WF.ret ?_
                        refine fin_r ?_
                        first | exact ⟨congrArg Value.bool (decide_eq_false hne).symm, (Ext.trans hx3 hx7)⟩ | (refine ⟨congrArg Value.bool (decide_eq_decide.2 ?_), (Ext.trans hx3 hx7)⟩; rw [Msg.eq_iff]; constructor <;> intro e <;> first | exact e.2.2.2 | exact ⟨by simp only [Msg.ints, *], by simp_all, by assumption, e⟩)
                    · have gh29 := (of_decide_eq_false h29)
                      have hne : a ≠ b := fun e => by first | exact gh29 (by rw [e]) | (rw [e] at gh29; simp at gh29)
                      refine WL.p rfl rfl rfl (congrArg some h29) ?_
                      refine WL.p rfl rfl rfl (congrArg some h29) ?_
                      refine WL.p rfl rfl rfl (congrArg some h29) ?_
                      refine WL.p rfl rfl rfl (congrArg some h29) ?_
                      refine WL.p rfl rfl rfl (congrArg some h29) ?_
                      refine WL.va rfl rfl rfl (X.pickF rfl h29 rfl) ?_
                      refine WL.va rfl rfl rfl (X.moveB rfl) ?_
                      refine WL.p rfl rfl rfl rfl ?_
                      refine WL.p rfl rfl rfl rfl ?_
                      refine WL.p rfl rfl rfl rfl ?_
                      refine WL.p rfl rfl rfl rfl ?_
                      refine WL.p rfl rfl rfl rfl ?_
                      refine WL.va rfl rfl rfl (X.pickF rfl rfl rfl) ?_
                      refine WL.va rfl rfl rfl (X.moveB rfl) ?_
                      refine WL.p rfl rfl rfl rfl ?_
                      refine WL.p rfl rfl rfl rfl ?_
                      refine WL.p rfl rfl rfl rfl ?_
                      refine WL.p rfl rfl rfl rfl ?_
                      refine WL.p rfl rfl rfl rfl ?_
                      refine WL.va rfl rfl rfl (X.pickF rfl rfl rfl) ?_
                      refine WL.va rfl rfl rfl (X.moveB rfl) ?_
                      refine WL.p rfl rfl rfl rfl ?_
                      refine WL.p rfl rfl rfl rfl ?_
                      refine WL.p rfl rfl rfl rfl ?_
                      refine WL.p rfl rfl rfl rfl ?_
                      refine WL.p rfl rfl rfl rfl ?_
                      refine WL.va rfl rfl rfl (X.pickF rfl rfl rfl) ?_
                      refine WL.va rfl rfl rfl (X.moveB rfl) ?_
                      refine WL.p rfl rfl rfl rfl ?_
                      refine WL.p rfl rfl rfl rfl ?_
                      refine WL.p rfl rfl rfl rfl ?_
                      refine WL.p rfl rfl rfl rfl ?_
                      refine WL.p rfl rfl rfl rfl ?_
                      refine WL.va rfl rfl rfl (X.pickF rfl rfl rfl) ?_
                      refine WL.va rfl rfl rfl (X.moveB rfl) ?_
                      refine WL.p rfl rfl rfl rfl ?_
                      refine WL.p rfl rfl rfl rfl ?_
                      refine WL.p rfl rfl rfl rfl ?_
                      refine WL.p rfl rfl rfl rfl ?_
                      refine WL.p rfl rfl rfl rfl ?_
                      refine WL.va rfl rfl rfl (X.pickF rfl rfl rfl) ?_
                      refine WL.va rfl rfl rfl (X.moveB rfl) ?_
                      refine WL.p rfl rfl rfl rfl ?_
                      refine WL.p rfl rfl rfl rfl ?_
                      refine WL.p rfl rfl rfl rfl ?_
                      refine WL.p rfl rfl rfl rfl ?_
                      refine WL.p rfl rfl rfl rfl ?_
                      refine WL.va rfl rfl rfl (X.pickF rfl rfl rfl) ?_
                      refine WL.va rfl rfl rfl (X.assignB rfl) ?_
                      refine WL.nil ?_
                      refine thn_n ?_
                      refine WF.ret ?_
                      refine fin_r ?_
                      first | exact ⟨congrArg Value.bool (decide_eq_false hne).symm, (Ext.trans hx3 hx7)⟩ | (refine ⟨congrArg Value.bool (decide_eq_decide.2 ?_), (Ext.trans hx3 hx7)⟩; rw [Msg.eq_iff]; constructor <;> intro e <;> first | exact e.2.2.2 | exact ⟨by simp only [Msg.ints, *], by simp_all, by assumption, e⟩)
                  · have gh27 := (of_decide_eq_false h27)
                    have hne : a ≠ b := fun e => by first | exact gh27 (by rw [e]) | (rw [e] at gh27; simp at gh27)
                    refine WL.p rfl rfl rfl (congrArg some h27) ?_
                    refine WL.p rfl rfl rfl (congrArg some h27) ?_
                    refine WL.p rfl rfl rfl (congrArg some h27) ?_
                    refine WL.p rfl rfl rfl (congrArg some h27) ?_
                    refine WL.p rfl rfl rfl (congrArg some h27) ?_
                    refine WL.va rfl rfl rfl (X.pickF rfl h27 rfl) ?_
                    refine WL.va rfl rfl rfl (X.moveB rfl) ?_
                    refine WL.p rfl rfl rfl rfl ?_
                    refine WL.p rfl rfl rfl rfl ?_
                    refine WL.p rfl rfl rfl rfl ?_
                    refine WL.p rfl rfl rfl rfl ?_
                    refine WL.p rfl rfl rfl rfl ?_
                    refine WL.va rfl rfl rfl (X.pickF rfl rfl rfl) ?_
                    refine WL.va rfl rfl rfl (X.moveB rfl) ?_
                    refine WL.p rfl rfl rfl rfl ?_
                    refine WL.p rfl rfl rfl rfl ?_
                    refine WL.p rfl rfl rfl rfl ?_
                    refine WL.p rfl rfl rfl rfl ?_
                    refine WL.p rfl rfl rfl rfl ?_
                    refine WL.va rfl rfl rfl (X.pickF rfl rfl rfl) ?_
                    refine WL.va rfl rfl rfl (X.moveB rfl) ?_
                    refine WL.p rfl rfl rfl rfl ?_
                    refine WL.p rfl rfl rfl rfl ?_
                    refine WL.p rfl rfl rfl rfl ?_
                    refine WL.p rfl rfl rfl rfl ?_
                    refine WL.p rfl rfl rfl rfl ?_
                    refine WL.va rfl rfl rfl (X.pickF rfl rfl rfl) ?_
                    refine WL.va rfl rfl rfl (X.moveB rfl) ?_
                    refine WL.p rfl rfl rfl rfl ?_
                    refine WL.p rfl rfl rfl rfl ?_
                    refine WL.p rfl rfl rfl rfl ?_
                    refine WL.p rfl rfl rfl rfl ?_
                    refine WL.p rfl rfl rfl rfl ?_
                    refine WL.va rfl rfl rfl (X.pickF rfl rfl rfl) ?_
                    refine WL.va rfl rfl rfl (X.moveB rfl) ?_
                    refine WL.p rfl rfl rfl rfl ?_
                    refine WL.p rfl rfl rfl rfl ?_
                    refine WL.p rfl rfl rfl rfl ?_
                    refine WL.p rfl rfl rfl rfl ?_
                    refine WL.p rfl rfl rfl rfl ?_
                    refine WL.va rfl rfl rfl (X.pickF rfl rfl rfl) ?_
                    refine WL.va rfl rfl rfl (X.moveB rfl) ?_
                    refine WL.p rfl rfl rfl rfl ?_
                    refine WL.p rfl rfl rfl rfl ?_
                    refine WL.p rfl rfl rfl rfl ?_
                    refine WL.p rfl rfl rfl rfl ?_
                    refine WL.p rfl rfl rfl rfl ?_
                    refine WL.va rfl rfl rfl (X.pickF rfl rfl rfl) ?_
                    refine WL.va rfl rfl rfl (X.moveB rfl) ?_
                    refine WL.p rfl rfl rfl rfl ?_
                    refine WL.p rfl rfl rfl rfl ?_
                    refine WL.p rfl rfl rfl rfl ?_
                    refine WL.p rfl rfl rfl rfl ?_
                    refine WL.p rfl rfl rfl rfl ?_
                    refine WL.va rfl rfl rfl (X.pickF rfl rfl rfl) ?_
                    refine WL.va rfl rfl rfl (X.assignB rfl) ?_
                    refine WL.nil ?_
                    refine thn_n ?_
                    refine WF.ret ?_
                    refine fin_r ?_
                    first | exact ⟨congrArg Value.bool (decide_eq_false hne).symm, (Ext.trans hx3 hx7)⟩ | (refine ⟨congrArg Value.bool (decide_eq_decide.2 ?_), (Ext.trans hx3 hx7)⟩; rw [Msg.eq_iff]; constructor <;> intro e <;> first | exact e.2.2.2 | exact ⟨by simp only [Msg.ints, *], by simp_all, by assumption, e⟩)
                · have gh25 := (of_decide_eq_false h25)
                  have hne : a ≠ b := fun e => gh25 (by rw [e])
                  refine WL.p rfl rfl rfl (congrArg some h25) ?_
                  refine WL.p rfl rfl rfl (congrArg some h25) ?_
                  refine WL.p rfl rfl rfl (congrArg some h25) ?_
                  refine WL.p rfl rfl rfl (congrArg some h25) ?_
                  refine WL.p rfl rfl rfl (congrArg some h25) ?_
                  refine WL.va rfl rfl rfl (X.pickF rfl h25 rfl) ?_
                  refine WL.va rfl rfl rfl (X.assignB rfl) ?_
                  refine WL.nil ?_
                  refine thn_n ?_
                  refine WF.seq ?_
                  refine WF.region ?_
                  refine WL.va rfl rfl rfl (X.moveB rfl) ?_
                  refine WL.va rfl rfl rfl (X.moveB rfl) ?_
                  refine WL.p rfl rfl rfl rfl ?_
                  refine WL.p rfl rfl rfl rfl ?_
                  refine WL.p rfl rfl rfl rfl ?_
                  refine WL.p rfl rfl rfl rfl ?_
                  refine WL.p rfl rfl rfl rfl ?_
                  refine WL.va rfl rfl rfl (X.pickF rfl rfl rfl) ?_
                  refine WL.va rfl rfl rfl (X.moveB rfl) ?_
                  refine WL.p rfl rfl rfl rfl ?_
                  refine WL.p rfl rfl rfl rfl ?_
                  refine WL.p rfl rfl rfl rfl ?_
                  refine WL.p rfl rfl rfl rfl ?_
                  refine WL.p rfl rfl rfl rfl ?_
                  refine WL.va rfl rfl rfl (X.pickF rfl rfl rfl) ?_
                  refine WL.va rfl rfl rfl (X.moveB rfl) ?_
                  refine WL.p rfl rfl rfl rfl ?_
                  refine WL.p rfl rfl rfl rfl ?_
                  refine WL.p rfl rfl rfl rfl ?_
                  refine WL.p rfl rfl rfl rfl ?_
                  refine WL.p rfl rfl rfl rfl ?_
                  refine WL.va rfl rfl rfl (X.pickF rfl rfl rfl) ?_
                  refine WL.va rfl rfl rfl (X.moveB rfl) ?_
                  refine WL.p rfl rfl rfl rfl ?_
                  refine WL.p rfl rfl rfl rfl ?_
                  refine WL.p rfl rfl rfl rfl ?_
                  refine WL.p rfl rfl rfl rfl ?_
                  refine WL.p rfl rfl rfl rfl ?_
                  refine WL.va rfl rfl rfl (X.pickF rfl rfl rfl) ?_
                  refine WL.va rfl rfl rfl (X.moveB rfl) ?_
                  refine WL.p rfl rfl rfl rfl ?_
                  refine WL.p rfl rfl rfl rfl ?_
                  refine WL.p rfl rfl rfl rfl ?_
                  refine WL.p rfl rfl rfl rfl ?_
                  refine WL.p rfl rfl rfl rfl ?_
                  refine WL.va rfl rfl rfl (X.pickF rfl rfl rfl) ?_
                  refine WL.va rfl rfl rfl (X.moveB rfl) ?_
                  refine WL.p rfl rfl rfl rfl ?_
                  refine WL.p rfl rfl rfl rfl ?_
                  refine WL.p rfl rfl rfl rfl ?_
                  refine WL.p rfl rfl rfl rfl ?_
                  refine WL.p rfl rfl rfl rfl ?_
                  refine WL.va rfl rfl rfl (X.pickF rfl rfl rfl) ?_
                  refine WL.va rfl rfl rfl (X.moveB rfl) ?_
                  refine WL.p rfl rfl rfl rfl ?_
                  refine WL.p rfl rfl rfl rfl ?_
                  refine WL.p rfl rfl rfl rfl ?_
                  refine WL.p rfl rfl rfl rfl ?_
                  refine WL.p rfl rfl rfl rfl ?_
                  refine WL.va rfl rfl rfl (X.pickF rfl rfl rfl) ?_
                  refine WL.va rfl rfl rfl (X.moveB rfl) ?_
                  refine WL.p rfl rfl rfl rfl ?_
                  refine WL.p rfl rfl rfl rfl ?_
                  refine WL.p rfl rfl rfl rfl ?_
                  refine WL.p rfl rfl rfl rfl ?_
                  refine WL.p rfl rfl rfl rfl ?_
                  refine WL.va rfl rfl rfl (X.pickF rfl rfl rfl) ?_
                  refine WL.va rfl rfl rfl (X.assignB rfl) ?_
                  refine WL.nil ?_
                  refine thn_n ?_
                  refine WF.ret ?_
                  refine fin_r ?_
                  first | exact ⟨congrArg Value.bool (decide_eq_false hne).symm, (Ext.trans hx3 hx7)⟩ | (refine ⟨congrArg Value.bool (decide_eq_decide.2 ?_), (Ext.trans hx3 hx7)⟩; rw [Msg.eq_iff]; constructor <;> intro e <;> first | exact e.2.2.2 | exact ⟨by simp only [Msg.ints, *], by simp_all, by assumption, e⟩)
              · have gh23 := (of_decide_eq_false h23)
                have hne : a ≠ b := fun e => gh23 (by rw [e])
                refine WL.p rfl rfl rfl (congrArg some h23) ?_
                refine WL.p rfl rfl rfl (congrArg some h23) ?_
                refine WL.p rfl rfl rfl (congrArg some h23) ?_
                refine WL.p rfl rfl rfl (congrArg some h23) ?_
                refine WL.p rfl rfl rfl (congrArg some h23) ?_
                refine WL.va rfl rfl rfl (X.pickF rfl h23 rfl) ?_
                refine WL.va rfl rfl rfl (X.moveB rfl) ?_
                refine WL.p rfl rfl rfl rfl ?_
                refine WL.p rfl rfl rfl rfl ?_
                refine WL.p rfl rfl rfl rfl ?_
                refine WL.p rfl rfl rfl rfl ?_
                refine WL.p rfl rfl rfl rfl ?_
                refine WL.va rfl rfl rfl (X.pickF rfl rfl rfl) ?_
                refine WL.va rfl rfl rfl (X.assignB rfl) ?_
                refine WL.nil ?_
                refine thn_n ?_
                refine WF.seq ?_
                refine WF.region ?_
                refine WL.va rfl rfl rfl (X.moveB rfl) ?_
                refine WL.va rfl rfl rfl (X.moveB rfl) ?_
                refine WL.p rfl rfl rfl rfl ?_
                refine WL.p rfl rfl rfl rfl ?_
                refine WL.p rfl rfl rfl rfl ?_
                refine WL.p rfl rfl rfl rfl ?_
                refine WL.p rfl rfl rfl rfl ?_
                refine WL.va rfl rfl rfl (X.pickF rfl rfl rfl) ?_
                refine WL.va rfl rfl rfl (X.moveB rfl) ?_
                refine WL.p rfl rfl rfl rfl ?_
                refine WL.p rfl rfl rfl rfl ?_
                refine WL.p rfl rfl rfl rfl ?_
                refine WL.p rfl rfl rfl rfl ?_
                refine WL.p rfl rfl rfl rfl ?_
                refine WL.va rfl rfl rfl (X.pickF rfl rfl rfl) ?_
                refine WL.va rfl rfl rfl (X.moveB rfl) ?_
                refine WL.p rfl rfl rfl rfl ?_
                refine WL.p rfl rfl rfl rfl ?_
                refine WL.p rfl rfl rfl rfl ?_
                refine WL.p rfl rfl rfl rfl ?_
                refine WL.p rfl rfl rfl rfl ?_
                refine WL.va rfl rfl rfl (X.pickF rfl rfl rfl) ?_
                refine WL.va rfl rfl rfl (X.moveB rfl) ?_
                refine WL.p rfl rfl rfl rfl ?_
                refine WL.p rfl rfl rfl rfl ?_
                refine WL.p rfl rfl rfl rfl ?_
                refine WL.p rfl rfl rfl rfl ?_
                refine WL.p rfl rfl rfl rfl ?_
                refine WL.va rfl rfl rfl (X.pickF rfl rfl rfl) ?_
                refine WL.va rfl rfl rfl (X.moveB rfl) ?_
                refine WL.p rfl rfl rfl rfl ?_
                refine WL.p rfl rfl rfl rfl ?_
                refine WL.p rfl rfl rfl rfl ?_
                refine WL.p rfl rfl rfl rfl ?_
                refine WL.p rfl rfl rfl rfl ?_
                refine WL.va rfl rfl rfl (X.pickF rfl rfl rfl) ?_
                refine WL.va rfl rfl rfl (X.moveB rfl) ?_
                refine WL.p rfl rfl rfl rfl ?_
                refine WL.p rfl rfl rfl rfl ?_
                refine WL.p rfl rfl rfl rfl ?_
                refine WL.p rfl rfl rfl rfl ?_
                refine WL.p rfl rfl rfl rfl ?_
                refine WL.va rfl rfl rfl (X.pickF rfl rfl rfl) ?_
                refine WL.va rfl rfl rfl (X.moveB rfl) ?_
                refine WL.p rfl rfl rfl rfl ?_
                refine WL.p rfl rfl rfl rfl ?_
                refine WL.p rfl rfl rfl rfl ?_
                refine WL.p rfl rfl rfl rfl ?_
                refine WL.p rfl rfl rfl rfl ?_
                refine WL.va rfl rfl rfl (X.pickF rfl rfl rfl) ?_
                refine WL.va rfl rfl rfl (X.moveB rfl) ?_
                refine WL.p rfl rfl rfl rfl ?_
                refine WL.p rfl rfl rfl rfl ?_
                refine WL.p rfl rfl rfl rfl ?_
                refine WL.p rfl rfl rfl rfl ?_
                refine WL.p rfl rfl rfl rfl ?_
                refine WL.va rfl rfl rfl (X.pickF rfl rfl rfl) ?_
                refine WL.va rfl rfl rfl (X.assignB rfl) ?_
                refine WL.nil ?_
                refine thn_n ?_
                refine WF.ret ?_
                refine fin_r ?_
                first | exact ⟨congrArg Value.bool (decide_eq_false hne).symm, (Ext.trans hx3 hx7)⟩ | (refine ⟨congrArg Value.bool (decide_eq_decide.2 ?_), (Ext.trans hx3 hx7)⟩; rw [Msg.eq_iff]; constructor <;> intro e <;> first | exact e.2.2.2 | exact ⟨by simp only [Msg.ints, *], by simp_all, by assumption, e⟩)
            · have gh21 := (of_decide_eq_false h21)
              have hne : a ≠ b := fun e => gh21 (by rw [e])
              refine WL.p rfl rfl rfl (congrArg some h21) ?_
              refine WL.p rfl rfl rfl (congrArg some h21) ?_
              refine WL.p rfl rfl rfl (congrArg some h21) ?_
              refine WL.p rfl rfl rfl (congrArg some h21) ?_
              refine WL.p rfl rfl rfl (congrArg some h21) ?_
              refine WL.va rfl rfl rfl (X.pickF rfl h21 rfl) ?_
              refine WL.va rfl rfl rfl (X.moveB rfl) ?_
              refine WL.p rfl rfl rfl rfl ?_
              refine WL.p rfl rfl rfl rfl ?_
              refine WL.p rfl rfl rfl rfl ?_
              refine WL.p rfl rfl rfl rfl ?_
              refine WL.p rfl rfl rfl rfl ?_
              refine WL.va rfl rfl rfl (X.pickF rfl rfl rfl) ?_
              refine WL.va rfl rfl rfl (X.moveB rfl) ?_
              refine WL.p rfl rfl rfl rfl ?_
              refine WL.p rfl rfl rfl rfl ?_
              refine WL.p rfl rfl rfl rfl ?_
              refine WL.p rfl rfl rfl rfl ?_
              refine WL.p rfl rfl rfl rfl ?_
              refine WL.va rfl rfl rfl (X.pickF rfl rfl rfl) ?_
              refine WL.va rfl rfl rfl (X.assignB rfl) ?_
              refine WL.nil ?_
              refine thn_n ?_
              refine WF.seq ?_
              refine WF.region ?_
              refine WL.va rfl rfl rfl (X.moveB rfl) ?_
              refine WL.va rfl rfl rfl (X.moveB rfl) ?_
              refine WL.p rfl rfl rfl rfl ?_
              refine WL.p rfl rfl rfl rfl ?_
              refine WL.p rfl rfl rfl rfl ?_
              refine WL.p rfl rfl rfl rfl ?_
              refine WL.p rfl rfl rfl rfl ?_
              refine WL.va rfl rfl rfl (X.pickF rfl rfl rfl) ?_
              refine WL.va rfl rfl rfl (X.moveB rfl) ?_
              refine WL.p rfl rfl rfl rfl ?_
              refine WL.p rfl rfl rfl rfl ?_
              refine WL.p rfl rfl rfl rfl ?_
              refine WL.p rfl rfl rfl rfl ?_
              refine WL.p rfl rfl rfl rfl ?_
              refine WL.va rfl rfl rfl (X.pickF rfl rfl rfl) ?_
              refine WL.va rfl rfl rfl (X.moveB rfl) ?_
              refine WL.p rfl rfl rfl rfl ?_
              refine WL.p rfl rfl rfl rfl ?_
              refine WL.p rfl rfl rfl rfl ?_
              refine WL.p rfl rfl rfl rfl ?_
              refine WL.p rfl rfl rfl rfl ?_
              refine WL.va rfl rfl rfl (X.pickF rfl rfl rfl) ?_
              refine WL.va rfl rfl rfl (X.moveB rfl) ?_
              refine WL.p rfl rfl rfl rfl ?_
              refine WL.p rfl rfl rfl rfl ?_
              refine WL.p rfl rfl rfl rfl ?_
              refine WL.p rfl rfl rfl rfl ?_
              refine WL.p rfl rfl rfl rfl ?_
              refine WL.va rfl rfl rfl (X.pickF rfl rfl rfl) ?_
              refine WL.va rfl rfl rfl (X.moveB rfl) ?_
              refine WL.p rfl rfl rfl rfl ?_
              refine WL.p rfl rfl rfl rfl ?_
              refine WL.p rfl rfl rfl rfl ?_
              refine WL.p rfl rfl rfl rfl ?_
              refine WL.p rfl rfl rfl rfl ?_
              refine WL.va rfl rfl rfl (X.pickF rfl rfl rfl) ?_
              refine WL.va rfl rfl rfl (X.moveB rfl) ?_
              refine WL.p rfl rfl rfl rfl ?_
              refine WL.p rfl rfl rfl rfl ?_
              refine WL.p rfl rfl rfl rfl ?_
              refine WL.p rfl rfl rfl rfl ?_
              refine WL.p rfl rfl rfl rfl ?_
              refine WL.va rfl rfl rfl (X.pickF rfl rfl rfl) ?_
              refine WL.va rfl rfl rfl (X.moveB rfl) ?_
              refine WL.p rfl rfl rfl rfl ?_
              refine WL.p rfl rfl rfl rfl ?_
              refine WL.p rfl rfl rfl rfl ?_
              refine WL.p rfl rfl rfl rfl ?_
              refine WL.p rfl rfl rfl rfl ?_
              refine WL.va rfl rfl rfl (X.pickF rfl rfl rfl) ?_
              refine WL.va rfl rfl rfl (X.moveB rfl) ?_
              refine WL.p rfl rfl rfl rfl ?_
              refine WL.p rfl rfl rfl rfl ?_
              refine WL.p rfl rfl rfl rfl ?_
              refine WL.p rfl rfl rfl rfl ?_
              refine WL.p rfl rfl rfl rfl ?_
              refine WL.va rfl rfl rfl (X.pickF rfl rfl rfl) ?_
              refine WL.va rfl rfl rfl (X.assignB rfl) ?_
              refine WL.nil ?_
              refine thn_n ?_
              refine WF.ret ?_
              refine fin_r ?_
              first | exact ⟨congrArg Value.bool (decide_eq_false hne).symm, (Ext.trans hx3 hx7)⟩ | (refine ⟨congrArg Value.bool (decide_eq_decide.2 ?_), (Ext.trans hx3 hx7)⟩; rw [Msg.eq_iff]; constructor <;> intro e <;> first | exact e.2.2.2 | exact ⟨by simp only [Msg.ints, *], by simp_all, by assumption, e⟩)
          · have gh19 := (of_decide_eq_false h19)
            have hne : a ≠ b := fun e => gh19 (by rw [e])
            refine WL.p rfl rfl rfl (congrArg some h19) ?_
            refine WL.p rfl rfl rfl (congrArg some h19) ?_
            refine WL.p rfl rfl rfl (congrArg some h19) ?_
            refine WL.p rfl rfl rfl (congrArg some h19) ?_
            refine WL.p rfl rfl rfl (congrArg some h19) ?_
            refine WL.va rfl rfl rfl (X.pickF rfl h19 rfl) ?_
            refine WL.va rfl rfl rfl (X.moveB rfl) ?_
            refine WL.p rfl rfl rfl rfl ?_
            refine WL.p rfl rfl rfl rfl ?_
            refine WL.p rfl rfl rfl rfl ?_
            refine WL.p rfl rfl rfl rfl ?_
            refine WL.p rfl rfl rfl rfl ?_
            refine WL.va rfl rfl rfl (X.pickF rfl rfl rfl) ?_
            refine WL.va rfl rfl rfl (X.moveB rfl) ?_
            refine WL.p rfl rfl rfl rfl ?_
            refine WL.p rfl rfl rfl rfl ?_
            refine WL.p rfl rfl rfl rfl ?_
            refine WL.p rfl rfl rfl rfl ?_
            refine WL.p rfl rfl rfl rfl ?_
            refine WL.va rfl rfl rfl (X.pickF rfl rfl rfl) ?_
            refine WL.va rfl rfl rfl (X.moveB rfl) ?_
            refine WL.p rfl rfl rfl rfl ?_
            refine WL.p rfl rfl rfl rfl ?_
            refine WL.p rfl rfl rfl rfl ?_
            refine WL.p rfl rfl rfl rfl ?_
            refine WL.p rfl rfl rfl rfl ?_
            refine WL.va rfl rfl rfl (X.pickF rfl rfl rfl) ?_
            refine WL.va rfl rfl rfl (X.assignB rfl) ?_
            refine WL.nil ?_
            refine thn_n ?_
            refine WF.seq ?_
            refine WF.region ?_
            refine WL.va rfl rfl rfl (X.moveB rfl) ?_
            refine WL.va rfl rfl rfl (X.moveB rfl) ?_
            refine WL.p rfl rfl rfl rfl ?_
            refine WL.p rfl rfl rfl rfl ?_
            refine WL.p rfl rfl rfl rfl ?_
            refine WL.p rfl rfl rfl rfl ?_
            refine WL.p rfl rfl rfl rfl ?_
            refine WL.va rfl rfl rfl (X.pickF rfl rfl rfl) ?_
            refine WL.va rfl rfl rfl (X.moveB rfl) ?_
            refine WL.p rfl rfl rfl rfl ?_
            refine WL.p rfl rfl rfl rfl ?_
            refine WL.p rfl rfl rfl rfl ?_
            refine WL.p rfl rfl rfl rfl ?_
            refine WL.p rfl rfl rfl rfl ?_
            refine WL.va rfl rfl rfl (X.pickF rfl rfl rfl) ?_
            refine WL.va rfl rfl rfl (X.moveB rfl) ?_
            refine WL.p rfl rfl rfl rfl ?_
            refine WL.p rfl rfl rfl rfl ?_
            refine WL.p rfl rfl rfl rfl ?_
            refine WL.p rfl rfl rfl rfl ?_
            refine WL.p rfl rfl rfl rfl ?_
            refine WL.va rfl rfl rfl (X.pickF rfl rfl rfl) ?_
            refine WL.va rfl rfl rfl (X.moveB rfl) ?_
            refine WL.p rfl rfl rfl rfl ?_
            refine WL.p rfl rfl rfl rfl ?_
            refine WL.p rfl rfl rfl rfl ?_
            refine WL.p rfl rfl rfl rfl ?_
            refine WL.p rfl rfl rfl rfl ?_
            refine WL.va rfl rfl rfl (X.pickF rfl rfl rfl) ?_
            refine WL.va rfl rfl rfl (X.moveB rfl) ?_
            refine WL.p rfl rfl rfl rfl ?_
            refine WL.p rfl rfl rfl rfl ?_
            refine WL.p rfl rfl rfl rfl ?_
            refine WL.p rfl rfl rfl rfl ?_
            refine WL.p rfl rfl rfl rfl ?_
            refine WL.va rfl rfl rfl (X.pickF rfl rfl rfl) ?_
            refine WL.va rfl rfl rfl (X.moveB rfl) ?_
            refine WL.p rfl rfl rfl rfl ?_
            refine WL.p rfl rfl rfl rfl ?_
            refine WL.p rfl rfl rfl rfl ?_
            refine WL.p rfl rfl rfl rfl ?_
            refine WL.p rfl rfl rfl rfl ?_
            refine WL.va rfl rfl rfl (X.pickF rfl rfl rfl) ?_
            refine WL.va rfl rfl rfl (X.moveB rfl) ?_
            refine WL.p rfl rfl rfl rfl ?_
            refine WL.p rfl rfl rfl rfl ?_
            refine WL.p rfl rfl rfl rfl ?_
            refine WL.p rfl rfl rfl rfl ?_
            refine WL.p rfl rfl rfl rfl ?_
            refine WL.va rfl rfl rfl (X.pickF rfl rfl rfl) ?_
            refine WL.va rfl rfl rfl (X.moveB rfl) ?_
            refine WL.p rfl rfl rfl rfl ?_
            refine WL.p rfl rfl rfl rfl ?_
            refine WL.p rfl rfl rfl rfl ?_
            refine WL.p rfl rfl rfl rfl ?_
            refine WL.p rfl rfl rfl rfl ?_
            refine WL.va rfl rfl rfl (X.pickF rfl rfl rfl) ?_
            refine WL.va rfl rfl rfl (X.assignB rfl) ?_
            refine WL.nil ?_
            refine thn_n ?_
            refine WF.ret ?_
            refine fin_r ?_
            first | exact ⟨congrArg Value.bool (decide_eq_false hne).symm, (Ext.trans hx3 hx7)⟩ | (refine ⟨congrArg Value.bool (decide_eq_decide.2 ?_), (Ext.trans hx3 hx7)⟩; rw [Msg.eq_iff]; constructor <;> intro e <;> first | exact e.2.2.2 | exact ⟨by simp only [Msg.ints, *], by simp_all, by assumption, e⟩)
        · have gh17 := (of_decide_eq_false h17)
          have hne : a ≠ b := fun e => gh17 (by rw [e])
          refine WL.p rfl rfl rfl (congrArg some h17) ?_
          refine WL.p rfl rfl rfl (congrArg some h17) ?_
          refine WL.p rfl rfl rfl (congrArg some h17) ?_
          refine WL.p rfl rfl rfl (congrArg some h17) ?_
          refine WL.p rfl rfl rfl (congrArg some h17) ?_
          refine WL.va rfl rfl rfl (X.pickF rfl h17 rfl) ?_
          refine WL.va rfl rfl rfl (X.moveB rfl) ?_
          refine WL.p rfl rfl rfl rfl ?_
          refine WL.p rfl rfl rfl rfl ?_
          refine WL.p rfl rfl rfl rfl ?_
          refine WL.p rfl rfl rfl rfl ?_
          refine WL.p rfl rfl rfl rfl ?_
          refine WL.va rfl rfl rfl (X.pickF rfl rfl rfl) ?_
          refine WL.va rfl rfl rfl (X.moveB rfl) ?_
          refine WL.p rfl rfl rfl rfl ?_
          refine WL.p rfl rfl rfl rfl ?_
          refine WL.p rfl rfl rfl rfl ?_
          refine WL.p rfl rfl rfl rfl ?_
          refine WL.p rfl rfl rfl rfl ?_
          refine WL.va rfl rfl rfl (X.pickF rfl rfl rfl) ?_
          refine WL.va rfl rfl rfl (X.moveB rfl) ?_
          refine WL.p rfl rfl rfl rfl ?_
          refine WL.p rfl rfl rfl rfl ?_
          refine WL.p rfl rfl rfl rfl ?_
          refine WL.p rfl rfl rfl rfl ?_
          refine WL.p rfl rfl rfl rfl ?_
          refine WL.va rfl rfl rfl (X.pickF rfl rfl rfl) ?_
          refine WL.va rfl rfl rfl (X.moveB rfl) ?_
          refine WL.p rfl rfl rfl rfl ?_
          refine WL.p rfl rfl rfl rfl ?_
          refine WL.p rfl rfl rfl rfl ?_
          refine WL.p rfl rfl rfl rfl ?_
          refine WL.p rfl rfl rfl rfl ?_
          refine WL.va rfl rfl rfl (X.pickF rfl rfl rfl) ?_
          refine WL.va rfl rfl rfl (X.assignB rfl) ?_
          refine WL.nil ?_
          refine thn_n ?_
          refine WF.seq ?_
          refine WF.region ?_
          refine WL.va rfl rfl rfl (X.moveB rfl) ?_
          refine WL.va rfl rfl rfl (X.moveB rfl) ?_
          refine WL.p rfl rfl rfl rfl ?_
          refine WL.p rfl rfl rfl rfl ?_
          refine WL.p rfl rfl rfl rfl ?_
          refine WL.p rfl rfl rfl rfl ?_
          refine WL.p rfl rfl rfl rfl ?_
          refine WL.va rfl rfl rfl (X.pickF rfl rfl rfl) ?_
          refine WL.va rfl rfl rfl (X.moveB rfl) ?_
          refine WL.p rfl rfl rfl rfl ?_
          refine WL.p rfl rfl rfl rfl ?_
          refine WL.p rfl rfl rfl rfl ?_
          refine WL.p rfl rfl rfl rfl ?_
          refine WL.p rfl rfl rfl rfl ?_
          refine WL.va rfl rfl rfl (X.pickF rfl rfl rfl) ?_
          refine WL.va rfl rfl rfl (X.moveB rfl) ?_
          refine WL.p rfl rfl rfl rfl ?_
          refine WL.p rfl rfl rfl rfl ?_
          refine WL.p rfl rfl rfl rfl ?_
          refine WL.p rfl rfl rfl rfl ?_
          refine WL.p rfl rfl rfl rfl ?_
          refine WL.va rfl rfl rfl (X.pickF rfl rfl rfl) ?_
          refine WL.va rfl rfl rfl (X.moveB rfl) ?_
          refine WL.p rfl rfl rfl rfl ?_
          refine WL.p rfl rfl rfl rfl ?_
          refine WL.p rfl rfl rfl rfl ?_
          refine WL.p rfl rfl rfl rfl ?_
          refine WL.p rfl rfl rfl rfl ?_
          refine WL.va rfl rfl rfl (X.pickF rfl rfl rfl) ?_
          refine WL.va rfl rfl rfl (X.moveB rfl) ?_
          refine WL.p rfl rfl rfl rfl ?_
          refine WL.p rfl rfl rfl rfl ?_
          refine WL.p rfl rfl rfl rfl ?_
          refine WL.p rfl rfl rfl rfl ?_
          refine WL.p rfl rfl rfl rfl ?_
          refine WL.va rfl rfl rfl (X.pickF rfl rfl rfl) ?_
          refine WL.va rfl rfl rfl (X.moveB rfl) ?_
          refine WL.p rfl rfl rfl rfl ?_
          refine WL.p rfl rfl rfl rfl ?_
          refine WL.p rfl rfl rfl rfl ?_
          refine WL.p rfl rfl rfl rfl ?_
          refine WL.p rfl rfl rfl rfl ?_
          refine WL.va rfl rfl rfl (X.pickF rfl rfl rfl) ?_
          refine WL.va rfl rfl rfl (X.moveB rfl) ?_
          refine WL.p rfl rfl rfl rfl ?_
          refine WL.p rfl rfl rfl rfl ?_
          refine WL.p rfl rfl rfl rfl ?_
          refine WL.p rfl rfl rfl rfl ?_
          refine WL.p rfl rfl rfl rfl ?_
          refine WL.va rfl rfl rfl (X.pickF rfl rfl rfl) ?_
          refine WL.va rfl rfl rfl (X.moveB rfl) ?_
          refine WL.p rfl rfl rfl rfl ?_
          refine WL.p rfl rfl rfl rfl ?_
          refine WL.p rfl rfl rfl rfl ?_
          refine WL.p rfl rfl rfl rfl ?_
          refine WL.p rfl rfl rfl rfl ?_
          refine WL.va rfl rfl rfl (X.pickF rfl rfl rfl) ?_
          refine WL.va rfl rfl rfl (X.assignB rfl) ?_
          refine WL.nil ?_
          refine thn_n ?_
          refine WF.ret ?_
          refine fin_r ?_
          first | exact ⟨congrArg Value.bool (decide_eq_false hne).symm, (Ext.trans hx3 hx7)⟩ | (refine ⟨congrArg Value.bool (decide_eq_decide.2 ?_), (Ext.trans hx3 hx7)⟩; rw [Msg.eq_iff]; constructor <;> intro e <;> first | exact e.2.2.2 | exact ⟨by simp only [Msg.ints, *], by simp_all, by assumption, e⟩)
      · have gh15 := (of_decide_eq_false h15)
        have hne : a ≠ b := fun e => gh15 (by rw [e])
        refine WL.p rfl rfl rfl (congrArg some h15) ?_
        refine WL.p rfl rfl rfl (congrArg some h15) ?_
        refine WL.p rfl rfl rfl (congrArg some h15) ?_
        refine WL.p rfl rfl rfl (congrArg some h15) ?_
        refine WL.p rfl rfl rfl (congrArg some h15) ?_
        refine WL.va rfl rfl rfl (X.pickF rfl h15 rfl) ?_
        refine WL.va rfl rfl rfl (X.moveB rfl) ?_
        refine WL.p rfl rfl rfl rfl ?_
        refine WL.p rfl rfl rfl rfl ?_
        refine WL.p rfl rfl rfl rfl ?_
        refine WL.p rfl rfl rfl rfl ?_
        refine WL.p rfl rfl rfl rfl ?_
        refine WL.va rfl rfl rfl (X.pickF rfl rfl rfl) ?_
        refine WL.va rfl rfl rfl (X.moveB rfl) ?_
        refine WL.p rfl rfl rfl rfl ?_
        refine WL.p rfl rfl rfl rfl ?_
        refine WL.p rfl rfl rfl rfl ?_
        refine WL.p rfl rfl rfl rfl ?_
        refine WL.p rfl rfl rfl rfl ?_
        refine WL.va rfl rfl rfl (X.pickF rfl rfl rfl) ?_
        refine WL.va rfl rfl rfl (X.moveB rfl) ?_
        refine WL.p rfl rfl rfl rfl ?_
        refine WL.p rfl rfl rfl rfl ?_
        refine WL.p rfl rfl rfl rfl ?_
        refine WL.p rfl rfl rfl rfl ?_
        refine WL.p rfl rfl rfl rfl ?_
        refine WL.va rfl rfl rfl (X.pickF rfl rfl rfl) ?_
        refine WL.va rfl rfl rfl (X.moveB rfl) ?_
        refine WL.p rfl rfl rfl rfl ?_
        refine WL.p rfl rfl rfl rfl ?_
        refine WL.p rfl rfl rfl rfl ?_
        refine WL.p rfl rfl rfl rfl ?_
        refine WL.p rfl rfl rfl rfl ?_
        refine WL.va rfl rfl rfl (X.pickF rfl rfl rfl) ?_
        refine WL.va rfl rfl rfl (X.moveB rfl) ?_
        refine WL.p rfl rfl rfl rfl ?_
        refine WL.p rfl rfl rfl rfl ?_
        refine WL.p rfl rfl rfl rfl ?_
        refine WL.p rfl rfl rfl rfl ?_
        refine WL.p rfl rfl rfl rfl ?_
        refine WL.va rfl rfl rfl (X.pickF rfl rfl rfl) ?_
        refine WL.va rfl rfl rfl (X.assignB rfl) ?_
        refine WL.nil ?_
        refine thn_n ?_
        refine WF.seq ?_
        refine WF.region ?_
        refine WL.va rfl rfl rfl (X.moveB rfl) ?_
        refine WL.va rfl rfl rfl (X.moveB rfl) ?_
        refine WL.p rfl rfl rfl rfl ?_
        refine WL.p rfl rfl rfl rfl ?_
        refine WL.p rfl rfl rfl rfl ?_
        refine WL.p rfl rfl rfl rfl ?_
        refine WL.p rfl rfl rfl rfl ?_
        refine WL.va rfl rfl rfl (X.pickF rfl rfl rfl) ?_
        refine WL.va rfl rfl rfl (X.moveB rfl) ?_
        refine WL.p rfl rfl rfl rfl ?_
        refine WL.p rfl rfl rfl rfl ?_
        refine WL.p rfl rfl rfl rfl ?_
        refine WL.p rfl rfl rfl rfl ?_
        refine WL.p rfl rfl rfl rfl ?_
        refine WL.va rfl rfl rfl (X.pickF rfl rfl rfl) ?_
        refine WL.va rfl rfl rfl (X.moveB rfl) ?_
        refine WL.p rfl rfl rfl rfl ?_
        refine WL.p rfl rfl rfl rfl ?_
        refine WL.p rfl rfl rfl rfl ?_
        refine WL.p rfl rfl rfl rfl ?_
        refine WL.p rfl rfl rfl rfl ?_
        refine WL.va rfl rfl rfl (X.pickF rfl rfl rfl) ?_
        refine WL.va rfl rfl rfl (X.moveB rfl) ?_
        refine WL.p rfl rfl rfl rfl ?_
        refine WL.p rfl rfl rfl rfl ?_
        refine WL.p rfl rfl rfl rfl ?_
        refine WL.p rfl rfl rfl rfl ?_
        refine WL.p rfl rfl rfl rfl ?_
        refine WL.va rfl rfl rfl (X.pickF rfl rfl rfl) ?_
        refine WL.va rfl rfl rfl (X.moveB rfl) ?_
        refine WL.p rfl rfl rfl rfl ?_
        refine WL.p rfl rfl rfl rfl ?_
        refine WL.p rfl rfl rfl rfl ?_
        refine WL.p rfl rfl rfl rfl ?_
        refine WL.p rfl rfl rfl rfl ?_
        refine WL.va rfl rfl rfl (X.pickF rfl rfl rfl) ?_
        refine WL.va rfl rfl rfl (X.moveB rfl) ?_
        refine WL.p rfl rfl rfl rfl ?_
        refine WL.p rfl rfl rfl rfl ?_
        refine WL.p rfl rfl rfl rfl ?_
        refine WL.p rfl rfl rfl rfl ?_
        refine WL.p rfl rfl rfl rfl ?_
        refine WL.va rfl rfl rfl (X.pickF rfl rfl rfl) ?_
        refine WL.va rfl rfl rfl (X.moveB rfl) ?_
        refine WL.p rfl rfl rfl rfl ?_
        refine WL.p rfl rfl rfl rfl ?_
        refine WL.p rfl rfl rfl rfl ?_
        refine WL.p rfl rfl rfl rfl ?_
        refine WL.p rfl rfl rfl rfl ?_
        refine WL.va rfl rfl rfl (X.pickF rfl rfl rfl) ?_
        refine WL.va rfl rfl rfl (X.moveB rfl) ?_
        refine WL.p rfl rfl rfl rfl ?_
        refine WL.p rfl rfl rfl rfl ?_
        refine WL.p rfl rfl rfl rfl ?_
        refine WL.p rfl rfl rfl rfl ?_
        refine WL.p rfl rfl rfl rfl ?_
        refine WL.va rfl rfl rfl (X.pickF rfl rfl rfl) ?_
        refine WL.va rfl rfl rfl (X.assignB rfl) ?_
        refine WL.nil ?_
        refine thn_n ?_
        refine WF.ret ?_
        refine fin_r ?_
        first | exact ⟨congrArg Value.bool (decide_eq_false hne).symm, (Ext.trans hx3 hx7)⟩ | (refine ⟨congrArg Value.bool (decide_eq_decide.2 ?_), (Ext.trans hx3 hx7)⟩; rw [Msg.eq_iff]; constructor <;> intro e <;> first | exact e.2.2.2 | exact ⟨by simp only [Msg.ints, *], by simp_all, by assumption, e⟩)
    · have gh13 := (of_decide_eq_false h13)
      have hne : a ≠ b := fun e => gh13 (by rw [e])
      refine WL.p rfl rfl rfl (congrArg some h13) ?_
      refine WL.p rfl rfl rfl (congrArg some h13) ?_
      refine WL.p rfl rfl rfl (congrArg some h13) ?_
      refine WL.p rfl rfl rfl (congrArg some h13) ?_
      refine WL.p rfl rfl rfl (congrArg some h13) ?_
      refine WL.va rfl rfl rfl (X.pickF rfl h13 rfl) ?_
      refine WL.va rfl rfl rfl (X.moveB rfl) ?_
      refine WL.p rfl rfl rfl rfl ?_
      refine WL.p rfl rfl rfl rfl ?_
      refine WL.p rfl rfl rfl rfl ?_
      refine WL.p rfl rfl rfl rfl ?_
      refine WL.p rfl rfl rfl rfl ?_
      refine WL.va rfl rfl rfl (X.pickF rfl rfl rfl) ?_
      refine WL.va rfl rfl rfl (X.moveB rfl) ?_
      refine WL.p rfl rfl rfl rfl ?_
      refine WL.p rfl rfl rfl rfl ?_
      refine WL.p rfl rfl rfl rfl ?_
      refine WL.p rfl rfl rfl rfl ?_
      refine WL.p rfl rfl rfl rfl ?_
      refine WL.va rfl rfl rfl (X.pickF rfl rfl rfl) ?_
      refine WL.va rfl rfl rfl (X.moveB rfl) ?_
      refine WL.p rfl rfl rfl rfl ?_
      refine WL.p rfl rfl rfl rfl ?_
      refine WL.p rfl rfl rfl rfl ?_
      refine WL.p rfl rfl rfl rfl ?_
      refine WL.p rfl rfl rfl rfl ?_
      refine WL.va rfl rfl rfl (X.pickF rfl rfl rfl) ?_
      refine WL.va rfl rfl rfl (X.moveB rfl) ?_
      refine WL.p rfl rfl rfl rfl ?_
      refine WL.p rfl rfl rfl rfl ?_
      refine WL.p rfl rfl rfl rfl ?_
      refine WL.p rfl rfl rfl rfl ?_
      refine WL.p rfl rfl rfl rfl ?_
      refine WL.va rfl rfl rfl (X.pickF rfl rfl rfl) ?_
      refine WL.va rfl rfl rfl (X.moveB rfl) ?_
      refine WL.p rfl rfl rfl rfl ?_
      refine WL.p rfl rfl rfl rfl ?_
      refine WL.p rfl rfl rfl rfl ?_
      refine WL.p rfl rfl rfl rfl ?_
      refine WL.p rfl rfl rfl rfl ?_
      refine WL.va rfl rfl rfl (X.pickF rfl rfl rfl) ?_
      refine WL.va rfl rfl rfl (X.moveB rfl) ?_
      refine WL.p rfl rfl rfl rfl ?_
      refine WL.p rfl rfl rfl rfl ?_
      refine WL.p rfl rfl rfl rfl ?_
      refine WL.p rfl rfl rfl rfl ?_
      refine WL.p rfl rfl rfl rfl ?_
      refine WL.va rfl rfl rfl (X.pickF rfl rfl rfl) ?_
      refine WL.va rfl rfl rfl (X.assignB rfl) ?_
      refine WL.nil ?_
      refine thn_n ?_
      refine WF.seq ?_
      refine WF.region ?_
      refine WL.va rfl rfl rfl (X.moveB rfl) ?_
      refine WL.va rfl rfl rfl (X.moveB rfl) ?_
      refine WL.p rfl rfl rfl rfl ?_
      refine WL.p rfl rfl rfl rfl ?_
      refine WL.p rfl rfl rfl rfl ?_
      refine WL.p rfl rfl rfl rfl ?_
      refine WL.p rfl rfl rfl rfl ?_
      refine WL.va rfl rfl rfl (X.pickF rfl rfl rfl) ?_
      refine WL.va rfl rfl rfl (X.moveB rfl) ?_
      refine WL.p rfl rfl rfl rfl ?_
      refine WL.p rfl rfl rfl rfl ?_
      refine WL.p rfl rfl rfl rfl ?_
      refine WL.p rfl rfl rfl rfl ?_
      refine WL.p rfl rfl rfl rfl ?_
      refine WL.va rfl rfl rfl (X.pickF rfl rfl rfl) ?_
      refine WL.va rfl rfl rfl (X.moveB rfl) ?_
      refine WL.p rfl rfl rfl rfl ?_
      refine WL.p rfl rfl rfl rfl ?_
      refine WL.p rfl rfl rfl rfl ?_
      refine WL.p rfl rfl rfl rfl ?_
      refine WL.p rfl rfl rfl rfl ?_
      refine WL.va rfl rfl rfl (X.pickF rfl rfl rfl) ?_
      refine WL.va rfl rfl rfl (X.moveB rfl) ?_
      refine WL.p rfl rfl rfl rfl ?_
      refine WL.p rfl rfl rfl rfl ?_
      refine WL.p rfl rfl rfl rfl ?_
      refine WL.p rfl rfl rfl rfl ?_
      refine WL.p rfl rfl rfl rfl ?_
      refine WL.va rfl rfl rfl (X.pickF rfl rfl rfl) ?_
      refine WL.va rfl rfl rfl (X.moveB rfl) ?_
      refine WL.p rfl rfl rfl rfl ?_
      refine WL.p rfl rfl rfl rfl ?_
      refine WL.p rfl rfl rfl rfl ?_
      refine WL.p rfl rfl rfl rfl ?_
      refine WL.p rfl rfl rfl rfl ?_
      refine WL.va rfl rfl rfl (X.pickF rfl rfl rfl) ?_
      refine WL.va rfl rfl rfl (X.moveB rfl) ?_
      refine WL.p rfl rfl rfl rfl ?_
      refine WL.p rfl rfl rfl rfl ?_
      refine WL.p rfl rfl rfl rfl ?_
      refine WL.p rfl rfl rfl rfl ?_
      refine WL.p rfl rfl rfl rfl ?_
      refine WL.va rfl rfl rfl (X.pickF rfl rfl rfl) ?_
      refine WL.va rfl rfl rfl (X.moveB rfl) ?_
      refine WL.p rfl rfl rfl rfl ?_
      refine WL.p rfl rfl rfl rfl ?_
      refine WL.p rfl rfl rfl rfl ?_
      refine WL.p rfl rfl rfl rfl ?_
      refine WL.p rfl rfl rfl rfl ?_
      refine WL.va rfl rfl rfl (X.pickF rfl rfl rfl) ?_
      refine WL.va rfl rfl rfl (X.moveB rfl) ?_
      refine WL.p rfl rfl rfl rfl ?_
      refine WL.p rfl rfl rfl rfl ?_
      refine WL.p rfl rfl rfl rfl ?_
      refine WL.p rfl rfl rfl rfl ?_
      refine WL.p rfl rfl rfl rfl ?_
      refine WL.va rfl rfl rfl (X.pickF rfl rfl rfl) ?_
      refine WL.va rfl rfl rfl (X.assignB rfl) ?_
      refine WL.nil ?_
      refine thn_n ?_
      refine WF.ret ?_
      refine fin_r ?_
      first | exact ⟨congrArg Value.bool (decide_eq_false hne).symm, (Ext.trans hx3 hx7)⟩ | (refine ⟨congrArg Value.bool (decide_eq_decide.2 ?_), (Ext.trans hx3 hx7)⟩; rw [Msg.eq_iff]; constructor <;> intro e <;> first | exact e.2.2.2 | exact ⟨by simp only [Msg.ints, *], by simp_all, by assumption, e⟩)
  · have gh11 := (of_decide_eq_false h11)
    have hne : a ≠ b := fun e => gh11 (by rw [e])
    refine WL.p rfl rfl rfl (congrArg some h11) ?_
    refine WL.p rfl rfl rfl (congrArg some h11) ?_
    refine WL.p rfl rfl rfl (congrArg some h11) ?_
    refine WL.p rfl rfl rfl (congrArg some h11) ?_
    refine WL.p rfl rfl rfl (congrArg some h11) ?_
    refine WL.va rfl rfl rfl (X.pickF rfl h11 rfl) ?_
    refine WL.va rfl rfl rfl (X.moveB rfl) ?_
    refine WL.p rfl rfl rfl rfl ?_
    refine WL.p rfl rfl rfl rfl ?_
    refine WL.p rfl rfl rfl rfl ?_
    refine WL.p rfl rfl rfl rfl ?_
    refine WL.p rfl rfl rfl rfl ?_
    refine WL.va rfl rfl rfl (X.pickF rfl rfl rfl) ?_
    refine WL.va rfl rfl rfl (X.moveB rfl) ?_
    refine WL.p rfl rfl rfl rfl ?_
    refine WL.p rfl rfl rfl rfl ?_
    refine WL.p rfl rfl rfl rfl ?_
    refine WL.p rfl rfl rfl rfl ?_
    refine WL.p rfl rfl rfl rfl ?_
    refine WL.va rfl rfl rfl (X.pickF rfl rfl rfl) ?_
    refine WL.va rfl rfl rfl (X.moveB rfl) ?_
    refine WL.p rfl rfl rfl rfl ?_
    refine WL.p rfl rfl rfl rfl ?_
    refine WL.p rfl rfl rfl rfl ?_
    refine WL.p rfl rfl rfl rfl ?_
    refine WL.p rfl rfl rfl rfl ?_
    refine WL.va rfl rfl rfl (X.pickF rfl rfl rfl) ?_
    refine WL.va rfl rfl rfl (X.moveB rfl) ?_
    refine WL.p rfl rfl rfl rfl ?_
    refine WL.p rfl rfl rfl rfl ?_
    refine WL.p rfl rfl rfl rfl ?_
    refine WL.p rfl rfl rfl rfl ?_
    refine WL.p rfl rfl rfl rfl ?_
    refine WL.va rfl rfl rfl (X.pickF rfl rfl rfl) ?_
    refine WL.va rfl rfl rfl (X.moveB rfl) ?_
    refine WL.p rfl rfl rfl rfl ?_
    refine WL.p rfl rfl rfl rfl ?_
    refine WL.p rfl rfl rfl rfl ?_
    refine WL.p rfl rfl rfl rfl ?_
    refine WL.p rfl rfl rfl rfl ?_
    refine WL.va rfl rfl rfl (X.pickF rfl rfl rfl) ?_
    refine WL.va rfl rfl rfl (X.moveB rfl) ?_
    refine WL.p rfl rfl rfl rfl ?_
    refine WL.p rfl rfl rfl rfl ?_
    refine WL.p rfl rfl rfl rfl ?_
    refine WL.p rfl rfl rfl rfl ?_
    refine WL.p rfl rfl rfl rfl ?_
    refine WL.va rfl rfl rfl (X.pickF rfl rfl rfl) ?_
    refine WL.va rfl rfl rfl (X.moveB rfl) ?_
    refine WL.p rfl rfl rfl rfl ?_
    refine WL.p rfl rfl rfl rfl ?_
    refine WL.p rfl rfl rfl rfl ?_
    refine WL.p rfl rfl rfl rfl ?_
    refine WL.p rfl rfl rfl rfl ?_
    refine WL.va rfl rfl rfl (X.pickF rfl rfl rfl) ?_
    refine WL.va rfl rfl rfl (X.assignB rfl) ?_
    refine WL.nil ?_
    refine thn_n ?_
    refine WF.seq ?_
    refine WF.region ?_
    refine WL.va rfl rfl rfl (X.moveB rfl) ?_
    refine WL.va rfl rfl rfl (X.moveB rfl) ?_
    refine WL.p rfl rfl rfl rfl ?_
    refine WL.p rfl rfl rfl rfl ?_
    refine WL.p rfl rfl rfl rfl ?_
    refine WL.p rfl rfl rfl rfl ?_
    refine WL.p rfl rfl rfl rfl ?_
    refine WL.va rfl rfl rfl (X.pickF rfl rfl rfl) ?_
    refine WL.va rfl rfl rfl (X.moveB rfl) ?_
    refine WL.p rfl rfl rfl rfl ?_
    refine WL.p rfl rfl rfl rfl ?_
    refine WL.p rfl rfl rfl rfl ?_
    refine WL.p rfl rfl rfl rfl ?_
    refine WL.p rfl rfl rfl rfl ?_
    refine WL.va rfl rfl rfl (X.pickF rfl rfl rfl) ?_
    refine WL.va rfl rfl rfl (X.moveB rfl) ?_
    refine WL.p rfl rfl rfl rfl ?_
    refine WL.p rfl rfl rfl rfl ?_
    refine WL.p rfl rfl rfl rfl ?_
    refine WL.p rfl rfl rfl rfl ?_
    refine WL.p rfl rfl rfl rfl ?_
    refine WL.va rfl rfl rfl (X.pickF rfl rfl rfl) ?_
    refine WL.va rfl rfl rfl (X.moveB rfl) ?_
    refine WL.p rfl rfl rfl rfl ?_
    refine WL.p rfl rfl rfl rfl ?_
    refine WL.p rfl rfl rfl rfl ?_
    refine WL.p rfl rfl rfl rfl ?_
    refine WL.p rfl rfl rfl rfl ?_
    refine WL.va rfl rfl rfl (X.pickF rfl rfl rfl) ?_
    refine WL.va rfl rfl rfl (X.moveB rfl) ?_
    refine WL.p rfl rfl rfl rfl ?_
    refine WL.p rfl rfl rfl rfl ?_
    refine WL.p rfl rfl rfl rfl ?_
    refine WL.p rfl rfl rfl rfl ?_
    refine WL.p rfl rfl rfl rfl ?_
    refine WL.va rfl rfl rfl (X.pickF rfl rfl rfl) ?_
    refine WL.va rfl rfl rfl (X.moveB rfl) ?_
    refine WL.p rfl rfl rfl rfl ?_
    refine WL.p rfl rfl rfl rfl ?_
    refine WL.p rfl rfl rfl rfl ?_
    refine WL.p rfl rfl rfl rfl ?_
    refine WL.p rfl rfl rfl rfl ?_
    refine WL.va rfl rfl rfl (X.pickF rfl rfl rfl) ?_
    refine WL.va rfl rfl rfl (X.moveB rfl) ?_
    refine WL.p rfl rfl rfl rfl ?_
    refine WL.p rfl rfl rfl rfl ?_
    refine WL.p rfl rfl rfl rfl ?_
    refine WL.p rfl rfl rfl rfl ?_
    refine WL.p rfl rfl rfl rfl ?_
    refine WL.va rfl rfl rfl (X.pickF rfl rfl rfl) ?_
    refine WL.va rfl rfl rfl (X.moveB rfl) ?_
    refine WL.p rfl rfl rfl rfl ?_
    refine WL.p rfl rfl rfl rfl ?_
    refine WL.p rfl rfl rfl rfl ?_
    refine WL.p rfl rfl rfl rfl ?_
    refine WL.p rfl rfl rfl rfl ?_
    refine WL.va rfl rfl rfl (X.pickF rfl rfl rfl) ?_
    refine WL.va rfl rfl rfl (X.assignB rfl) ?_
    refine WL.nil ?_
    refine thn_n ?_
    refine WF.ret ?_
    refine fin_r ?_
    first | exact ⟨congrArg Value.bool (decide_eq_false hne).symm, (Ext.trans hx3 hx7)⟩ | (refine ⟨congrArg Value.bool (decide_eq_decide.2 ?_), (Ext.trans hx3 hx7)⟩; rw [Msg.eq_iff]; constructor <;> intro e <;> first | exact e.2.2.2 | exact ⟨by simp only [Msg.ints, *], by simp_all, by assumption, e⟩)

theorem sameMsgs_ok (va vb : Value) (la lb : List Msg) (w : World) (ha0 : Msgs w va la) (hb0 : Msgs w vb lb) : FnOk Try.prog 16 [va, vb] w (fun r w' => r = .bool (decide (la = lb)) ∧ Ext w w') := by
  have hla := ha0.le
  have hlb := hb0.le
  obtain ⟨ca, ha, hA⟩ := ha0
  obtain ⟨cb, hb, hB⟩ := hb0
  refine FnOk.enter (rs := [4]) Try.func16 rfl Try.ntmps16 Try.results16 rfl rfl ?_
  refine WF.seq ?_
  refine WF.region ?_
  refine WL.va rfl rfl rfl (X.assignB rfl) ?_
  refine WL.nil ?_
  refine thn_n ?_
  refine WF.seq ?_
  refine WF.seq ?_
  refine WF.region ?_
  refine WL.va rfl rfl rfl (X.move rfl) ?_
  refine WL.va rfl rfl rfl (X.len ha rfl Try.underlying36) ?_
  refine WL.va rfl rfl rfl (X.move rfl) ?_
  refine WL.va rfl rfl rfl (X.len hb rfl Try.underlying36) ?_
  refine WL.va rfl rfl rfl (X.neq rfl rfl) ?_
  refine WL.nil ?_
  refine thn_n ?_
  refine WF.cond rfl (fun h0_2 => ?_) (fun h0_2 => ?_)
  · have gh0_2 := (of_decide_eq_true h0_2)
    have hne : la ≠ lb := fun e => by rw [e] at gh0_2; exact gh0_2 rfl
    refine WF.seq ?_
    refine WF.region ?_
    refine WL.va rfl rfl rfl (X.assignB rfl) ?_
    refine WL.nil ?_
    refine thn_n ?_
    refine WF.ret ?_
    refine thn_r ?_
    refine fin_r ?_
    exact ⟨congrArg Value.bool (decide_eq_false hne).symm, (Ext.refl _)⟩
  · have gh0_2 := (Decidable.of_not_not (of_decide_eq_false h0_2))
    refine WF.skip ?_
    refine thn_n ?_
    refine WF.seq ?_
    refine WF.seq ?_
    refine WF.region ?_
    refine WL.va rfl rfl rfl (X.assignI rfl) ?_
    refine WL.nil ?_
    refine thn_n ?_
    refine WF.block ?_
    refine WF.named (fun F5 hF6 => ?_)
    refine WF.loopN (fun mL0 f' w' => ∃ (k : Nat), mL0 = la.length - k ∧ f' 5 = .int .i64 (k : Int) ∧ Agree [0, 1, 6, 7, 8, 9, 10] f' F5 ∧ Ext w w' ∧ k ≤ la.length ∧ la.take k = lb.take k) ?_ ?_
    · exact ⟨_, 0, rfl, (congrFun hF6 5), (Agree.refl _ _), (Ext.refl _), ⟨Nat.zero_le _, rfl⟩⟩
    · rintro mL0 fL0 wL0 ⟨k, hmL0, e5_L0, hAL0, hwL0, ⟨hk, hkk⟩⟩
      refine WF.seq ?_
      refine WF.seq ?_
      refine WF.region ?_
      refine WL.va rfl rfl rfl (X.moveI e5_L0) ?_
      refine WL.va rfl rfl rfl (X.move ((hAL0.eq 0).trans (congrFun hF6 0))) ?_
      refine WL.va rfl rfl rfl (X.len ha rfl Try.underlying36) ?_
      refine WL.va rfl rfl rfl (X.lss rfl rfl) ?_
      refine WL.nil ?_
      refine thn_n ?_
      refine WF.cond rfl (fun h1_7 => ?_) (fun h1_7 => ?_)
      · have gh1_7 := (of_decide_eq_true h1_7)
        have hka : k < la.length := by omega
        have hkb : k < lb.length := by omega
        obtain ⟨ea, da, xa, ya, za⟩ := hA k hka
        obtain ⟨eb, db, xb, yb, zb⟩ := hB k hkb
        refine WF.skip ?_
        refine thn_n ?_
        refine WF.seq ?_
        refine WF.block ?_
        refine WF.seq ?_
        refine WF.drawn (.q 0 (.q 1 (.q 2 (.q 3 (.q 4 (.q 5 (.q 6 (.q 7 (.l 8 (.q 9 .nil)))))))))) (fun w' => Ext w w') 10 (by kernel_rfl) (by kernel_rfl) (Ext.trans hwL0 (Ext.drew _)) ?_
        refine WO.q rfl rfl rfl rfl (fun w' hE9 => (X.move ((hAL0.eq 0).trans (congrFun hF6 0)))) ?_
        refine WO.q rfl rfl rfl rfl (fun w' hE9 => (X.moveI e5_L0)) ?_
        refine WO.q rfl rfl rfl rfl (fun w' hE9 => (X.idx ha rfl rfl (by omega) Try.underlying36 Try.sizeOf40)) ?_
        refine WO.q rfl rfl rfl rfl (fun w' hE9 => (X.loadEl ha hE9 rfl (by omega) xa Try.isAgg40 Try.sizeOf40)) ?_
        refine WO.q rfl rfl rfl rfl (fun w' hE9 => (X.move ((hAL0.eq 1).trans (congrFun hF6 1)))) ?_
        refine WO.q rfl rfl rfl rfl (fun w' hE9 => (X.moveI e5_L0)) ?_
        refine WO.q rfl rfl rfl rfl (fun w' hE9 => (X.idx hb rfl rfl (by omega) Try.underlying36 Try.sizeOf40)) ?_
        refine WO.q rfl rfl rfl rfl (fun w' hE9 => (X.loadEl hb hE9 rfl (by omega) xb Try.isAgg40 Try.sizeOf40)) ?_
        refine WO.l ?_
        refine LO.go rfl rfl (OW.enter rfl (by decide) (X.call Try.call38 (evl_cons rfl (evl_cons rfl evl_nil))) (sameMsg_ok _ _ _ _ _ _ _ (ya.ext (Ext.trans hwL0 (Ext.drew _))) (Row.ext za (Ext.trans hwL0 (Ext.drew _))) (yb.ext (Ext.trans hwL0 (Ext.drew _))) (Row.ext zb (Ext.trans hwL0 (Ext.drew _)))) ?_)
        rintro v11 w10 ⟨rfl, hx12⟩
        refine ⟨(Ext.trans (Ext.trans hwL0 (Ext.drew _)) hx12), ?_⟩
        refine WO.q rfl rfl rfl rfl (fun w' hE9 => (X.not rfl)) ?_
        refine WO.nil ?_
        refine WL.nil ?_
        refine thn_n ?_
        refine WF.cond rfl (fun h2_14 => ?_) (fun h2_14 => ?_)
        · have gh2_14 := (of_decide_eq_false (nt h2_14))
          have hne : la ≠ lb := fun e => gh2_14 (by subst e; rfl)
          refine WF.seq ?_
          refine WF.region ?_
          refine WL.va rfl rfl rfl (X.assignB rfl) ?_
          refine WL.nil ?_
          refine thn_n ?_
          refine WF.ret ?_
          refine blk_r ?_
          refine thn_r ?_
          refine thn_r ?_
          refine blk_r ?_
          refine thn_r ?_
          refine fin_r ?_
          exact ⟨congrArg Value.bool (decide_eq_false hne).symm, (Ext.trans (Ext.trans hwL0 (Ext.drew _)) hx12)⟩
        · have gh2_14 := (of_decide_eq_true (nf h2_14))
          have heq := gh2_14
          refine WF.skip ?_
          refine blk_n ?_
          refine thn_n ?_
          refine WF.region ?_
          refine WL.va rfl rfl rfl (X.moveI e5_L0) ?_
          refine WL.va rfl rfl rfl (X.add rfl rfl (w64 (by omega))) ?_
          refine WL.va rfl rfl rfl (X.assignI rfl) ?_
          refine WL.nil ?_
          exact thn_n ⟨_, (by omega), k + 1, rfl, rfl, (by repeat (first | exact hAL0 | refine Agree.put ?_ rfl | refine Agree.named hF6 ?_)), (Ext.trans (Ext.trans hwL0 (Ext.drew _)) hx12), ⟨by omega, by rw [List.take_succ_eq_append_getElem hka, List.take_succ_eq_append_getElem hkb, hkk, heq]⟩⟩
      · have gh1_7 := (of_decide_eq_false h1_7)
        refine WF.exit ?_
        refine thn_x ?_
        refine thn_x ?_
        refine blk_eq ?_
        refine thn_n ?_
        refine WF.seq ?_
        refine WF.region ?_
        refine WL.va rfl rfl rfl (X.assignB rfl) ?_
        refine WL.nil ?_
        refine thn_n ?_
        refine WF.ret ?_
        refine fin_r ?_
        exact ⟨congrArg Value.bool (decide_eq_true (by rw [List.take_of_length_le (by omega), List.take_of_length_le (by omega)] at hkk; exact hkk)).symm, hwL0⟩

theorem spoilNoE_ok (w : World) : FnOk Try.prog 39 [nilS] w (fun _ w' => w = w') := by
  have hb : Row w nilS 0 3 [] := Row.nil w 3
  refine FnOk.enter (rs := []) Try.func39 rfl Try.ntmps39 Try.results39 rfl rfl ?_
  refine WF.seq ?_
  refine WF.region ?_
  refine WL.va rfl rfl rfl (X.assignI rfl) ?_
  refine WL.nil ?_
  refine thn_n ?_
  refine WF.block ?_
  refine WF.named (fun F1 hF2 => ?_)
  refine WF.loopN (fun mL0 f' w' => mL0 = 0 ∧ f' 2 = .int .i64 0 ∧ Agree [0] f' F1 ∧ w = w') ?_ ?_
  · exact ⟨_, rfl, (congrFun hF2 2), (Agree.refl _ _), rfl⟩
  · rintro mL0 fL0 wL0 ⟨hmL0, e2_L0, hAL0, rfl⟩
    refine WF.seq ?_
    refine WF.seq ?_
    refine WF.region ?_
    refine WL.va rfl rfl rfl (X.moveI e2_L0) ?_
    refine WL.va rfl rfl rfl (X.move ((hAL0.eq 0).trans (congrFun hF2 0))) ?_
    refine WL.va rfl rfl rfl (X.len (Row.nil w 3) rfl Try.underlying37) ?_
    refine WL.va rfl rfl rfl (X.lss rfl rfl) ?_
    refine WL.nil ?_
    refine thn_n ?_
    refine WF.cond rfl (fun h0_3 => ?_) (fun h0_3 => ?_)
    · have gh0_3 := (of_decide_eq_true h0_3)
      exact absurd gh0_3 (by decide)
    · have gh0_3 := (of_decide_eq_false h0_3)
      refine WF.exit ?_
      refine thn_x ?_
      refine thn_x ?_
      refine blk_eq ?_
      refine fin_n ?_
      exact rfl

theorem spoilNoB_ok (w : World) : FnOk Try.prog 40 [nilS] w (fun _ w' => w = w') := by
  refine FnOk.enter (rs := []) Try.func40 rfl Try.ntmps40 Try.results40 rfl rfl ?_
  refine WF.seq ?_
  refine WF.region ?_
  refine WL.va rfl rfl rfl (X.assignI rfl) ?_
  refine WL.nil ?_
  refine thn_n ?_
  refine WF.block ?_
  refine WF.named (fun F1 hF2 => ?_)
  refine WF.loopN (fun mL0 f' w' => mL0 = 0 ∧ f' 2 = .int .i64 0 ∧ Agree [0] f' F1 ∧ w = w') ?_ ?_
  · exact ⟨_, rfl, (congrFun hF2 2), (Agree.refl _ _), rfl⟩
  · rintro mL0 fL0 wL0 ⟨hmL0, e2_L0, hAL0, rfl⟩
    refine WF.seq ?_
    refine WF.seq ?_
    refine WF.region ?_
    refine WL.va rfl rfl rfl (X.moveI e2_L0) ?_
    refine WL.va rfl rfl rfl (X.move ((hAL0.eq 0).trans (congrFun hF2 0))) ?_
    refine WL.va rfl rfl rfl (X.len (Row.nil w 1) rfl Try.underlying38) ?_
    refine WL.va rfl rfl rfl (X.lss rfl rfl) ?_
    refine WL.nil ?_
    refine thn_n ?_
    refine WF.cond rfl (fun h0_3 => ?_) (fun h0_3 => ?_)
    · have gh0_3 := (of_decide_eq_true h0_3)
      exact absurd gh0_3 (by decide)
    · have gh0_3 := (of_decide_eq_false h0_3)
      refine WF.exit ?_
      refine thn_x ?_
      refine thn_x ?_
      refine blk_eq ?_
      refine fin_n ?_
      exact rfl

set_option maxHeartbeats 1600000 in
theorem spoilMsgs_ok (v : Value) (l : List Msg) (w : World) (B : Nat) (h : OwnM w B 40 v l) : FnOk Try.prog 20 [v] w (fun _ w' => w.grownBy w' v.ownBlock) := by
  have hle : (l.length : Int) ≤ 9223372036854775807 := by obtain ⟨_, c, _, h1, h2, _⟩ := (Row.of_own h).shape; unfold maxLen at h2; omega
  refine FnOk.enter (rs := []) Try.func20 rfl Try.ntmps20 Try.results20 rfl rfl ?_
  refine WF.seq ?_
  refine WF.region ?_
  refine WL.va rfl rfl rfl (X.assignI rfl) ?_
  refine WL.nil ?_
  refine thn_n ?_
  refine WF.block ?_
  refine WF.named (fun F1 hF2 => ?_)
  refine WF.loopN (fun mL0 f' w' => ∃ (k : Nat) (L : List Msg), mL0 = l.length - k ∧ f' 2 = .int .i64 (k : Int) ∧ Agree [0] f' F1 ∧ w.grownBy w' v.ownBlock ∧ k ≤ l.length ∧ L.length = l.length ∧ w'.ownsRow B 40 17 v l.length (L.flatMap Msg.bare)) ?_ ?_
  · exact ⟨_, 0, l, rfl, (congrFun hF2 2), (Agree.refl _ _), (World.grownBy.refl _ _), ⟨Nat.zero_le _, rfl, h⟩⟩
  · rintro mL0 fL0 wL0 ⟨k, L, hmL0, e2_L0, hAL0, hwL0, ⟨hk0, hLl, hrow⟩⟩
    refine WF.seq ?_
    refine WF.seq ?_
    refine WF.region ?_
    refine WL.va rfl rfl rfl (X.moveI e2_L0) ?_
    refine WL.va rfl rfl rfl (X.move ((hAL0.eq 0).trans (congrFun hF2 0))) ?_
    refine WL.va rfl rfl rfl (X.len (Row.of_own hrow) rfl Try.underlying36) ?_
    refine WL.va rfl rfl rfl (X.lss rfl rfl) ?_
    refine WL.nil ?_
    refine thn_n ?_
    refine WF.cond rfl (fun h0_3 => ?_) (fun h0_3 => ?_)
    · have gh0_3 := (of_decide_eq_true h0_3)
      have hk : k < l.length := by omega
      refine WF.skip ?_
      refine thn_n ?_
      refine WF.seq ?_
      refine WF.block ?_
      refine WF.seq ?_
      refine WF.region ?_
      refine WL.va rfl rfl rfl (X.move ((hAL0.eq 0).trans (congrFun hF2 0))) ?_
      refine WL.va rfl rfl rfl (X.moveI e2_L0) ?_
      refine WL.va rfl rfl rfl (X.idx (Row.of_own hrow) rfl rfl (by omega) Try.underlying36 Try.sizeOf40) ?_
      refine WL.va rfl rfl rfl (X.fieldAddrA rfl Try.underlying40 rfl rfl Try.sizeOf37) ?_
      refine WL.va rfl rfl rfl (X.loadE (Row.of_own hrow) (Ext.refl _) rfl (by omega) ((Msg.get (l := L) (by omega) (by decide)).trans rfl) Try.isAgg37) ?_
      refine WL.c rfl rfl rfl (X.call Try.call39 (evl_cons rfl evl_nil)) (spoilNoE_ok _) ?_
      rintro v6 w5 rfl
      refine WL.nil ?_
      refine thn_n ?_
      refine WF.seq ?_
      refine WF.region ?_
      refine WL.va rfl rfl rfl (X.move ((hAL0.eq 0).trans (congrFun hF2 0))) ?_
      refine WL.va rfl rfl rfl (X.moveI e2_L0) ?_
      refine WL.va rfl rfl rfl (X.idx (Row.of_own hrow) rfl rfl (by omega) Try.underlying36 Try.sizeOf40) ?_
      refine WL.va rfl rfl rfl (X.fieldAddrA rfl Try.underlying40 rfl rfl Try.sizeOf38) ?_
      refine WL.va rfl rfl rfl (X.loadE (Row.of_own hrow) (Ext.refl _) rfl (by omega) ((Msg.get (l := L) (by omega) (by decide)).trans rfl) Try.isAgg38) ?_
      refine WL.c rfl rfl rfl (X.call Try.call40 (evl_cons rfl evl_nil)) (spoilNoB_ok _) ?_
      rintro v9 w8 rfl
      refine WL.nil ?_
      refine thn_n ?_
      refine WF.region ?_
      refine WL.va rfl rfl rfl (X.move ((hAL0.eq 0).trans (congrFun hF2 0))) ?_
      refine WL.va rfl rfl rfl (X.moveI e2_L0) ?_
      refine WL.va rfl rfl rfl (X.buildT (P := Try.prog) (t := 40) (cs := (Msg.bare { Msg.zero with Kind := -77 })) (zs := [i64 0, i64 0, i64 0, i64 0, i64 0, i64 0, i64 0, i64 0, i64 0, i64 0, i64 0, i64 0, i64 0, i64 0, .bool false, .slice none 0 0, .slice none 0 0]) (places := [(0, 1), (1, 1), (2, 1), (3, 1), (4, 1), (5, 1), (6, 1), (7, 1), (8, 1), (9, 1), (10, 1), (11, 1), (12, 1), (13, 1), (14, 1), (15, 1), (16, 1)]) (n := 17) (evp_cons rfl evp_nil) Try.type40 Try.underlying40 rfl rfl ⟨rfl, trivial⟩ rfl rfl rfl) ?_
      refine WL.va rfl rfl rfl (X.idx (Row.of_own hrow) rfl rfl hk Try.underlying36 Try.sizeOf40) ?_
      refine WL.op rfl (OW.storeEl (ds := (Msg.bare { Msg.zero with Kind := -77 })) hrow hk rfl rfl rfl (Msg.bare_one _) Try.sizeOf40 ?_)
      intro w11 ho14 hx13
      have ho2 : OwnM _ _ _ _ _ := OwnM.set (l := L) (k := k) (a := { Msg.zero with Kind := -77 }) (by omega) (by rw [hLl]; exact ho14)
      have hg2 := hx13
      refine WL.nil ?_
      refine blk_n ?_
      refine thn_n ?_
      refine WF.region ?_
      refine WL.va rfl rfl rfl (X.moveI e2_L0) ?_
      refine WL.va rfl rfl rfl (X.add rfl rfl (w64 (by omega))) ?_
      refine WL.va rfl rfl rfl (X.assignI rfl) ?_
      refine WL.nil ?_
      exact thn_n ⟨_, (by omega), k + 1, L.set k { Msg.zero with Kind := -77 }, rfl, rfl, (by repeat (first | exact hAL0 | refine Agree.put ?_ rfl | refine Agree.named hF2 ?_)), (spoil_trans hwL0 hg2), ⟨by omega, by rw [List.length_set]; exact hLl, by have := ho2; unfold OwnM at this; rw [List.length_set, hLl] at this; exact this⟩⟩
    · have gh0_3 := (of_decide_eq_false h0_3)
      refine WF.exit ?_
      refine thn_x ?_
      refine thn_x ?_
      refine blk_eq ?_
      refine fin_n ?_
      exact hwL0

theorem indexI_ok (v : Value) (l : List Int) (x : Int) (w : World) (hb : Ints w v l) : FnOk Try.prog 45 [v, i64 x] w (fun r w' => Idx (fun k => decide (l.getD k 0 = x)) l.length r ∧ Ext w w') := by
  have hl := hb.le64
  refine FnOk.enter (rs := [4]) Try.func45 rfl Try.ntmps45 Try.results45 rfl rfl ?_
  refine WF.seq ?_
  refine WF.region ?_
  refine WL.va rfl rfl rfl (X.assignI rfl) ?_
  refine WL.nil ?_
  refine thn_n ?_
  refine WF.seq ?_
  refine WF.seq ?_
  refine WF.region ?_
  refine WL.va rfl rfl rfl (X.move rfl) ?_
  refine WL.va rfl rfl rfl (X.len hb rfl Try.underlying22) ?_
  refine WL.va rfl rfl rfl (X.moveI rfl) ?_
  refine WL.nil ?_
  refine thn_n ?_
  refine WF.block ?_
  refine WF.named (fun F1 hF2 => ?_)
  refine WF.loopN (fun mL0 f' w' => ∃ (k : Nat), mL0 = l.length - k ∧ f' 8 = .int .i64 (k : Int) ∧ Agree [0, 1, 6, 7] f' F1 ∧ Ext w w' ∧ k ≤ l.length ∧ ∀ j, j < k → decide (l.getD j 0 = x) = false) ?_ ?_
  · exact ⟨_, 0, rfl, (congrFun hF2 8), (Agree.refl _ _), (Ext.refl _), ⟨Nat.zero_le _, fun j hj => by omega⟩⟩
  · rintro mL0 fL0 wL0 ⟨k, hmL0, e8_L0, hAL0, hwL0, ⟨hk, hno⟩⟩
    refine WF.seq ?_
    refine WF.region ?_
    refine WL.va rfl rfl rfl (X.lss e8_L0 ((hAL0.eq 7).trans (congrFun hF2 7))) ?_
    refine WL.nil ?_
    refine thn_n ?_
    refine WF.seq ?_
    refine WF.cond rfl (fun h0_3 => ?_) (fun h0_3 => ?_)
    · have gh0_3 := (of_decide_eq_true h0_3)
      have hka : k < l.length := by omega
      refine WF.skip ?_
      refine thn_n ?_
      refine WF.seq ?_
      refine WF.block ?_
      refine WF.seq ?_
      refine WF.region ?_
      refine WL.va rfl rfl rfl (X.moveI e8_L0) ?_
      refine WL.va rfl rfl rfl (X.assignI rfl) ?_
      refine WL.nil ?_
      refine thn_n ?_
      refine WF.seq ?_
      refine WF.region ?_
      refine WL.va rfl rfl rfl (X.moveI ((hAL0.eq 1).trans (congrFun hF2 1))) ?_
      refine WL.va rfl rfl rfl (X.move ((hAL0.eq 0).trans (congrFun hF2 0))) ?_
      refine WL.va rfl rfl rfl (X.moveI rfl) ?_
      refine WL.va rfl rfl rfl (X.idx hb rfl rfl (by omega) Try.underlying22 Try.sizeOf3) ?_
      refine WL.va rfl rfl rfl (X.loadI hb hwL0 rfl (by omega) Try.isAgg3) ?_
      refine WL.va rfl rfl rfl (X.eql rfl rfl) ?_
      refine WL.nil ?_
      refine thn_n ?_
      refine WF.cond rfl (fun h1_5 => ?_) (fun h1_5 => ?_)
      · have gh1_5 := (of_decide_eq_true h1_5)
        have hpk : decide (l.getD k 0 = x) = true := decide_eq_true (by first | exact gh1_5.symm | exact gh1_5)
        refine WF.seq ?_
        refine WF.region ?_
        refine WL.va rfl rfl rfl (X.moveI rfl) ?_
        refine WL.va rfl rfl rfl (X.assignI rfl) ?_
        refine WL.nil ?_
        refine thn_n ?_
        refine WF.ret ?_
        refine blk_r ?_
        refine thn_r ?_
        refine thn_r ?_
        refine blk_r ?_
        refine thn_r ?_
        refine fin_r ?_
        exact ⟨⟨_, rfl, .inl ⟨k, hka, rfl, hpk, hno⟩⟩, hwL0⟩
      · have gh1_5 := (of_decide_eq_false h1_5)
        have hpk : decide (l.getD k 0 = x) = false := decide_eq_false (fun e => by first | exact gh1_5 e | exact gh1_5 e.symm)
        refine WF.skip ?_
        refine blk_n ?_
        refine thn_n ?_
        refine WF.region ?_
        refine WL.va rfl rfl rfl (X.add e8_L0 rfl (w64 (by omega))) ?_
        refine WL.va rfl rfl rfl (X.moveI rfl) ?_
        refine WL.nil ?_
        exact thn_n ⟨_, (by omega), k + 1, rfl, rfl, (by repeat (first | exact hAL0 | refine Agree.put ?_ rfl | refine Agree.named hF2 ?_)), hwL0, ⟨by omega, fun j hj => by rcases Nat.lt_succ_iff_lt_or_eq.1 hj with h | rfl; exact hno j h; exact hpk⟩⟩
    · have gh0_3 := (of_decide_eq_false h0_3)
      refine WF.exit ?_
      refine thn_x ?_
      refine thn_x ?_
      refine blk_eq ?_
      refine thn_n ?_
      refine WF.seq ?_
      refine WF.region ?_
      refine WL.va rfl rfl rfl (X.assignI rfl) ?_
      refine WL.nil ?_
      refine thn_n ?_
      refine WF.ret ?_
      refine fin_r ?_
      exact ⟨⟨_, rfl, .inr ⟨rfl, fun j hj => hno j (by omega)⟩⟩, hwL0⟩

theorem idxZ_mem {p : Nat → Bool} {n : Nat} {z : Int} (h : IdxZ p n z) : decide (z ≥ 0) = decide (∃ k, k < n ∧ p k = true) := by
  apply decide_eq_decide.2
  rcases h with ⟨k, h1, h2, h3, _⟩ | ⟨h1, h2⟩
  · exact ⟨fun _ => ⟨k, h1, h3⟩, fun _ => by omega⟩
  · refine ⟨fun h => by omega, ?_⟩
    rintro ⟨k, hk, hp⟩
    rw [h2 k hk] at hp; cases hp
theorem mem_getD {l : List Int} {x : Int} : (∃ k, k < l.length ∧ decide (l.getD k 0 = x) = true) ↔ x ∈ l := by
  constructor
  · rintro ⟨k, hk, h⟩
    have h := of_decide_eq_true h
    rw [List.getD_eq_getElem?_getD, List.getElem?_eq_getElem hk] at h
    exact h ▸ List.getElem_mem hk
  · intro h
    obtain ⟨k, hk, rfl⟩ := List.getElem_of_mem h
    exact ⟨k, hk, decide_eq_true (by simp [hk])⟩
theorem containsI_ok (v : Value) (l : List Int) (x : Int) (w : World) (hb : Ints w v l) : FnOk Try.prog 33 [v, i64 x] w (fun r w' => r = .bool (decide (x ∈ l)) ∧ Ext w w') := by
  refine FnOk.enter (rs := [4]) Try.func33 rfl Try.ntmps33 Try.results33 rfl rfl ?_
  refine WF.seq ?_
  refine WF.region ?_
  refine WL.va rfl rfl rfl (X.assignB rfl) ?_
  refine WL.nil ?_
  refine thn_n ?_
  refine WF.seq ?_
  refine WF.region ?_
  refine WL.va rfl rfl rfl (X.move rfl) ?_
  refine WL.va rfl rfl rfl (X.moveI rfl) ?_
  refine WL.c rfl rfl rfl (X.call Try.call45 (evl_cons rfl (evl_cons rfl evl_nil))) (indexI_ok _ l x _ (Row.ext hb (Ext.refl w))) ?_
  rintro v3 w2 ⟨⟨z, rfl, hz⟩, hx4⟩
  refine WL.va rfl rfl rfl (X.geq rfl rfl) ?_
  refine WL.va rfl rfl rfl (X.assignB rfl) ?_
  refine WL.nil ?_
  refine thn_n ?_
  refine WF.ret ?_
  refine fin_r ?_
  exact ⟨congrArg Value.bool ((idxZ_mem hz).trans (decide_eq_decide.2 mem_getD)), hx4⟩

theorem indexP_ok (v vf : Value) (cs : List Value) (n : Nat) (p : Nat → Bool) (w : World) (hb : Row w v n 3 cs) (hf : ∀ k w1, k < n → Ext w w1 → CloOk Try.prog vf [agg (el cs 3 k)] w1 (fun r w2 => r = .bool (p k) ∧ Ext w1 w2)) : FnOk Try.prog 60 [v, vf] w (fun r w' => Idx p n r ∧ Ext w w') := by
  have hl : (n : Int) ≤ 9223372036854775807 := by obtain ⟨_, c, _, h1, h2, _⟩ := hb.shape; unfold maxLen at h2; omega
  refine FnOk.enter (rs := [4]) Try.func60 rfl Try.ntmps60 Try.results60 rfl rfl ?_
  refine WF.seq ?_
  refine WF.region ?_
  refine WL.va rfl rfl rfl (X.assignI rfl) ?_
  refine WL.nil ?_
  refine thn_n ?_
  refine WF.seq ?_
  refine WF.seq ?_
  refine WF.region ?_
  refine WL.va rfl rfl rfl (X.move rfl) ?_
  refine WL.va rfl rfl rfl (X.len hb rfl Try.underlying91) ?_
  refine WL.va rfl rfl rfl (X.moveI rfl) ?_
  refine WL.nil ?_
  refine thn_n ?_
  refine WF.block ?_
  refine WF.named (fun F1 hF2 => ?_)
  refine WF.loopN (fun mL0 f' w' => ∃ (k : Nat), mL0 = n - k ∧ f' 8 = .int .i64 (k : Int) ∧ Agree [0, 1, 6, 7] f' F1 ∧ Ext w w' ∧ k ≤ n ∧ ∀ j, j < k → p j = false) ?_ ?_
  · exact ⟨_, 0, rfl, (congrFun hF2 8), (Agree.refl _ _), (Ext.refl _), ⟨Nat.zero_le _, fun j hj => by omega⟩⟩
  · rintro mL0 fL0 wL0 ⟨k, hmL0, e8_L0, hAL0, hwL0, ⟨hk, hno⟩⟩
    refine WF.seq ?_
    refine WF.region ?_
    refine WL.va rfl rfl rfl (X.lss e8_L0 ((hAL0.eq 7).trans (congrFun hF2 7))) ?_
    refine WL.nil ?_
    refine thn_n ?_
    refine WF.seq ?_
    refine WF.cond rfl (fun h0_3 => ?_) (fun h0_3 => ?_)
    · have gh0_3 := (of_decide_eq_true h0_3)
      have hka : k < n := by omega
      refine WF.skip ?_
      refine thn_n ?_
      refine WF.seq ?_
      refine WF.block ?_
      refine WF.seq ?_
      refine WF.region ?_
      refine WL.va rfl rfl rfl (X.moveI e8_L0) ?_
      refine WL.va rfl rfl rfl (X.assignI rfl) ?_
      refine WL.nil ?_
      refine thn_n ?_
      refine WF.seq ?_
      refine WF.region ?_
      refine WL.va rfl rfl rfl (X.move ((hAL0.eq 1).trans (congrFun hF2 1))) ?_
      refine WL.va rfl rfl rfl (X.move ((hAL0.eq 0).trans (congrFun hF2 0))) ?_
      refine WL.va rfl rfl rfl (X.moveI rfl) ?_
      refine WL.va rfl rfl rfl (X.idx hb rfl rfl (by omega) Try.underlying91 Try.sizeOf94) ?_
      refine WL.va rfl rfl rfl (X.loadEl hb hwL0 rfl (by omega) rfl Try.isAgg94 Try.sizeOf94) ?_
      refine WL.op rfl (OW.callV rfl (evl_cons rfl evl_nil) (hf k _ hka hwL0) ?_ (by decide))
      rintro v6 w5 ⟨rfl, hx7⟩
      refine WL.nil ?_
      refine thn_n ?_
      refine WF.cond rfl (fun h1_8 => ?_) (fun h1_8 => ?_)
      · have gh1_8 := h1_8
        have hpk := gh1_8
        refine WF.seq ?_
        refine WF.region ?_
        refine WL.va rfl rfl rfl (X.moveI rfl) ?_
        refine WL.va rfl rfl rfl (X.assignI rfl) ?_
        refine WL.nil ?_
        refine thn_n ?_
        refine WF.ret ?_
        refine blk_r ?_
        refine thn_r ?_
        refine thn_r ?_
        refine blk_r ?_
        refine thn_r ?_
        refine fin_r ?_
        exact ⟨⟨_, rfl, .inl ⟨k, hka, rfl, hpk, hno⟩⟩, (Ext.trans hwL0 hx7)⟩
      · have gh1_8 := h1_8
        have hpk := gh1_8
        refine WF.skip ?_
        refine blk_n ?_
        refine thn_n ?_
        refine WF.region ?_
        refine WL.va rfl rfl rfl (X.add e8_L0 rfl (w64 (by omega))) ?_
        refine WL.va rfl rfl rfl (X.moveI rfl) ?_
        refine WL.nil ?_
        exact thn_n ⟨_, (by omega), k + 1, rfl, rfl, (by repeat (first | exact hAL0 | refine Agree.put ?_ rfl | refine Agree.named hF2 ?_)), (Ext.trans hwL0 hx7), ⟨by omega, fun j hj => by rcases Nat.lt_succ_iff_lt_or_eq.1 hj with h | rfl; exact hno j h; exact hpk⟩⟩
    · have gh0_3 := (of_decide_eq_false h0_3)
      refine WF.exit ?_
      refine thn_x ?_
      refine thn_x ?_
      refine blk_eq ?_
      refine thn_n ?_
      refine WF.seq ?_
      refine WF.region ?_
      refine WL.va rfl rfl rfl (X.assignI rfl) ?_
      refine WL.nil ?_
      refine thn_n ?_
      refine WF.ret ?_
      refine fin_r ?_
      exact ⟨⟨_, rfl, .inr ⟨rfl, fun j hj => hno j (by omega)⟩⟩, hwL0⟩

theorem containsP_ok (v vf : Value) (cs : List Value) (n : Nat) (p : Nat → Bool) (w : World) (hb : Row w v n 3 cs) (hf : ∀ k w1, k < n → Ext w w1 → CloOk Try.prog vf [agg (el cs 3 k)] w1 (fun r w2 => r = .bool (p k) ∧ Ext w1 w2)) : FnOk Try.prog 46 [v, vf] w (fun r w' => r = .bool (decide (∃ k, k < n ∧ p k = true)) ∧ Ext w w') := by
  refine FnOk.enter (rs := [4]) Try.func46 rfl Try.ntmps46 Try.results46 rfl rfl ?_
  refine WF.seq ?_
  refine WF.region ?_
  refine WL.va rfl rfl rfl (X.assignB rfl) ?_
  refine WL.nil ?_
  refine thn_n ?_
  refine WF.seq ?_
  refine WF.region ?_
  refine WL.va rfl rfl rfl (X.move rfl) ?_
  refine WL.va rfl rfl rfl (X.move rfl) ?_
  refine WL.c rfl rfl rfl (X.call Try.call60 (evl_cons rfl (evl_cons rfl evl_nil))) (indexP_ok _ _ cs n p _ (Row.ext hb (Ext.refl w)) (fun k w1 hk hx => hf k w1 hk (Ext.trans (Ext.refl w) hx))) ?_
  rintro v3 w2 ⟨⟨z, rfl, hz⟩, hx4⟩
  refine WL.va rfl rfl rfl (X.geq rfl rfl) ?_
  refine WL.va rfl rfl rfl (X.assignB rfl) ?_
  refine WL.nil ?_
  refine thn_n ?_
  refine WF.ret ?_
  refine fin_r ?_
  exact ⟨congrArg Value.bool (idxZ_mem hz), hx4⟩

theorem cloneI_ok (v : Value) (l : List Int) (w : World) (hb : Ints w v l) (hn : l.length ≤ 1000000) : FnOk Try.prog 28 [v] w (fun r w' => OwnI w' w.heap.size 3 r l ∧ Ext w w') := by
  refine FnOk.enter (rs := [2]) Try.func28 rfl Try.ntmps28 Try.results28 rfl rfl ?_
  refine WF.seq ?_
  refine WF.region ?_
  refine WL.va rfl rfl rfl (X.assign rfl) ?_
  refine WL.nil ?_
  refine thn_n ?_
  refine WF.seq ?_
  refine WF.seq ?_
  refine WF.region ?_
  refine WL.va rfl rfl rfl (X.move rfl) ?_
  refine WL.va rfl rfl rfl (X.eqlNilS hb rfl rfl Try.underlying22) ?_
  refine WL.nil ?_
  refine thn_n ?_
  refine WF.cond rfl (fun h0_1 => ?_) (fun h0_1 => ?_)
  · have gh0_1 := h0_1
    obtain rfl : l = [] := List.eq_nil_of_length_eq_zero (isNilS_len hb gh0_1)
    refine WF.seq ?_
    refine WF.region ?_
    refine WL.va rfl rfl rfl (X.assign rfl) ?_
    refine WL.nil ?_
    refine thn_n ?_
    refine WF.ret ?_
    refine thn_r ?_
    refine fin_r ?_
    exact ⟨World.ownsRow_nil _ _ _ _, (Ext.refl _)⟩
  · have gh0_1 := h0_1
    refine WF.skip ?_
    refine thn_n ?_
    refine WF.seq ?_
    refine WF.region ?_
    refine WL.op rfl (OW.lit0 Try.underlying22 Try.sizeOf3 ?_ (by decide))
    intro v4 w3 ho6 hx5
    have hn0 : OwnI _ _ 3 _ [] := ho6
    refine WL.va rfl rfl rfl (X.move rfl) ?_
    refine WL.op rfl (OW.appendI hn0 (Row.ext hb hx5) rfl rfl Try.underlying22 Try.type3 rfl rfl rfl rfl (by simp; omega) (hx5).size ?_ (by decide))
    intro v8 w7 ho10 hx9 hmvhx9
    have ho := ho10
    refine WL.va rfl rfl rfl (X.assign rfl) ?_
    refine WL.nil ?_
    refine thn_n ?_
    refine WF.ret ?_
    refine fin_r ?_
    rw [List.nil_append] at ho; exact ⟨ho, (Ext.own hx5 hn0 (Nat.le_refl _) hx9)⟩

theorem inR_ok (v : Value) (l : List Int) (x : Int) (w : World) (hb : Ints w v l) : FnOk Try.prog 36 [v, i64 x] w (fun r w' => r = .bool (decide (x ∈ l)) ∧ Ext w w') := by
  have hl := hb.le64
  refine FnOk.enter (rs := [4]) Try.func36 rfl Try.ntmps36 Try.results36 rfl rfl ?_
  refine WF.seq ?_
  refine WF.region ?_
  refine WL.va rfl rfl rfl (X.assignB rfl) ?_
  refine WL.nil ?_
  refine thn_n ?_
  refine WF.seq ?_
  refine WF.seq ?_
  refine WF.region ?_
  refine WL.va rfl rfl rfl (X.assignI rfl) ?_
  refine WL.nil ?_
  refine thn_n ?_
  refine WF.block ?_
  refine WF.named (fun F2 hF3 => ?_)
  refine WF.loopN (fun mL0 f' w' => ∃ (k : Nat), mL0 = l.length - k ∧ f' 5 = .int .i64 (k : Int) ∧ Agree [0, 1] f' F2 ∧ Ext w w' ∧ k ≤ l.length ∧ ∀ j, j < k → ¬ l.getD j 0 = x) ?_ ?_
  · exact ⟨_, 0, rfl, (congrFun hF3 5), (Agree.refl _ _), (Ext.refl _), ⟨Nat.zero_le _, fun j hj => by omega⟩⟩
  · rintro mL0 fL0 wL0 ⟨k, hmL0, e5_L0, hAL0, hwL0, ⟨hk, hno⟩⟩
    refine WF.seq ?_
    refine WF.seq ?_
    refine WF.region ?_
    refine WL.va rfl rfl rfl (X.moveI e5_L0) ?_
    refine WL.va rfl rfl rfl (X.move ((hAL0.eq 0).trans (congrFun hF3 0))) ?_
    refine WL.va rfl rfl rfl (X.len hb rfl Try.underlying22) ?_
    refine WL.va rfl rfl rfl (X.lss rfl rfl) ?_
    refine WL.nil ?_
    refine thn_n ?_
    refine WF.cond rfl (fun h0_4 => ?_) (fun h0_4 => ?_)
    · have gh0_4 := (of_decide_eq_true h0_4)
      have hka : k < l.length := by omega
      refine WF.skip ?_
      refine thn_n ?_
      refine WF.seq ?_
      refine WF.block ?_
      refine WF.seq ?_
      refine WF.region ?_
      refine WL.va rfl rfl rfl (X.move ((hAL0.eq 0).trans (congrFun hF3 0))) ?_
      refine WL.va rfl rfl rfl (X.moveI e5_L0) ?_
      refine WL.va rfl rfl rfl (X.idx hb rfl rfl (by omega) Try.underlying22 Try.sizeOf3) ?_
      refine WL.va rfl rfl rfl (X.loadI hb hwL0 rfl (by omega) Try.isAgg3) ?_
      refine WL.va rfl rfl rfl (X.moveI ((hAL0.eq 1).trans (congrFun hF3 1))) ?_
      refine WL.va rfl rfl rfl (X.eql rfl rfl) ?_
      refine WL.nil ?_
      refine thn_n ?_
      refine WF.cond rfl (fun h1_6 => ?_) (fun h1_6 => ?_)
      · have gh1_6 := (of_decide_eq_true h1_6)
        have hpk : l.getD k 0 = x := gh1_6
        refine WF.seq ?_
        refine WF.region ?_
        refine WL.va rfl rfl rfl (X.assignB rfl) ?_
        refine WL.nil ?_
        refine thn_n ?_
        refine WF.ret ?_
        refine blk_r ?_
        refine thn_r ?_
        refine thn_r ?_
        refine blk_r ?_
        refine thn_r ?_
        refine fin_r ?_
        exact ⟨congrArg Value.bool (decide_eq_true (mem_getD.1 ⟨k, hka, decide_eq_true hpk⟩)).symm, hwL0⟩
      · have gh1_6 := (of_decide_eq_false h1_6)
        have hpk : ¬ l.getD k 0 = x := gh1_6
        refine WF.skip ?_
        refine blk_n ?_
        refine thn_n ?_
        refine WF.region ?_
        refine WL.va rfl rfl rfl (X.moveI e5_L0) ?_
        refine WL.va rfl rfl rfl (X.add rfl rfl (w64 (by omega))) ?_
        refine WL.va rfl rfl rfl (X.assignI rfl) ?_
        refine WL.nil ?_
        exact thn_n ⟨_, (by omega), k + 1, rfl, rfl, (by repeat (first | exact hAL0 | refine Agree.put ?_ rfl | refine Agree.named hF3 ?_)), hwL0, ⟨by omega, fun j hj => by rcases Nat.lt_succ_iff_lt_or_eq.1 hj with h | rfl; exact hno j h; exact hpk⟩⟩
    · have gh0_4 := (of_decide_eq_false h0_4)
      refine WF.exit ?_
      refine thn_x ?_
      refine thn_x ?_
      refine blk_eq ?_
      refine thn_n ?_
      refine WF.seq ?_
      refine WF.region ?_
      refine WL.va rfl rfl rfl (X.assignB rfl) ?_
      refine WL.nil ?_
      refine thn_n ?_
      refine WF.ret ?_
      refine fin_r ?_
      exact ⟨congrArg Value.bool (decide_eq_false (fun h => by obtain ⟨j, hj, e⟩ := mem_getD.2 h; exact hno j (by omega) (of_decide_eq_true e))).symm, hwL0⟩

end Go.Proofs.Ytjmddkaokmdkbaa
