/- The walks of the kit's functions over bytes and blocks. -/
import Derived.Test.YtobjmehppmhkdaaChecked
import Derived.Test.YtobjmehppmhkdaaRecs
namespace Go.Proofs.Ytobjmehppmhkdaa
open Go Go.RowKit Kf
set_option maxRecDepth 20000

theorem kept_ne0 {la l : List UInt8} (h : (la.length : Int) ≠ (l.length : Int) + 5) : la ≠ l ++ List.replicate 5 0xA5 := fun e => by
  apply h; rw [e]; simp
theorem kept_ne1 {la l : List UInt8} (h : decide ((la.drop 0).take (l.length - 0) = l) = false) : la ≠ l ++ List.replicate 5 0xA5 := fun e => by
  rw [e] at h; simp at h
theorem kept_ne2 {la l : List UInt8} {k : Nat} (h1 : l.length ≤ k) (h2 : k < l.length + 5) (h : ¬ la.getD k 0 = 0xA5) : la ≠ l ++ List.replicate 5 0xA5 := fun e => by
  apply h
  rw [e, List.getD_eq_getElem?_getD, List.getElem?_append_right h1, List.getElem?_replicate, if_pos (by omega)]
  rfl
theorem kept_eq {la l : List UInt8} (h : la.length = l.length + 5) (hp : decide ((la.drop 0).take (l.length - 0) = l) = true) (hm : ∀ i, l.length ≤ i → i < la.length → la.getD i 0 = 0xA5) : la = l ++ List.replicate 5 0xA5 := by
  have hp := of_decide_eq_true hp
  simp only [List.drop_zero, Nat.sub_zero] at hp
  conv => lhs; rw [← List.take_append_drop l.length la, hp]
  congr 1
  apply List.ext_getElem?
  intro i
  rw [List.getElem?_drop, List.getElem?_replicate]
  by_cases hi : i < 5
  · rw [if_pos hi]
    have := hm (l.length + i) (by omega) (by omega)
    rw [List.getD_eq_getElem?_getD, List.getElem?_eq_getElem (by omega)] at this
    rw [List.getElem?_eq_getElem (by omega)]
    simpa using this
  · rw [if_neg hi, List.getElem?_eq_none (by omega)]
theorem lent_part {w : World} {B : Nat} {v : Value} {l : List UInt8} (ho : OwnB w B 5 v (l ++ List.replicate 5 0xA5)) : Bytes w (Kf.part v 0 l.length 1) l := by
  have := Bytes.part (Bytes.of_own ho) 0 l.length (Nat.zero_le _) (by simp)
  simpa using this
theorem spoil_trans {a b c : World} {r : Option Nat} (h : a.grownBy b r) (k : b.grownBy c r) : a.grownBy c r :=
  ⟨k.os.trans h.os, k.tape.trans h.tape, k.output.trans h.output, Nat.le_trans h.size k.size, fun i hi hn => (k.block i (Nat.lt_of_lt_of_le hi h.size) hn).trans (h.block i hi hn)⟩
theorem lent_step1 {l L : List UInt8} {k : Nat} {w : World} {B : Nat} {v : Value} (_hk : k ≤ l.length + 5) (hL : L.length = l.length + 5) (hLk : L.take k = (l ++ List.replicate 5 0xA5).take k) (h : k < l.length)
    (ho : OwnB w B 5 v ((L.set k 0xA5).set k (l.getD k 0))) : k + 1 ≤ l.length + 5 ∧ ((L.set k 0xA5).set k (l.getD k 0)).length = l.length + 5 ∧ ((L.set k 0xA5).set k (l.getD k 0)).take (k + 1) = (l ++ List.replicate 5 0xA5).take (k + 1) ∧ OwnB w B 5 v ((L.set k 0xA5).set k (l.getD k 0)) := by
  refine ⟨by omega, by simp [hL], ?_, ho⟩
  rw [List.set_set, take_set_succ _ _ _ (by omega), hLk, take_getD _ _ (by simp; omega)]
  rw [List.getD_eq_getElem?_getD, List.getD_eq_getElem?_getD, List.getElem?_append_left h]
theorem lent_step2 {l L : List UInt8} {k : Nat} {w : World} {B : Nat} {v : Value} (_hk : k ≤ l.length + 5) (hL : L.length = l.length + 5) (hLk : L.take k = (l ++ List.replicate 5 0xA5).take k) (h : l.length ≤ k) (h2 : k < l.length + 5)
    (ho : OwnB w B 5 v (L.set k 0xA5)) : k + 1 ≤ l.length + 5 ∧ (L.set k 0xA5).length = l.length + 5 ∧ (L.set k 0xA5).take (k + 1) = (l ++ List.replicate 5 0xA5).take (k + 1) ∧ OwnB w B 5 v (L.set k 0xA5) := by
  refine ⟨by omega, by simp [hL], ?_, ho⟩
  rw [take_set_succ _ _ _ (by omega), hLk, take_getD _ _ (by simp; omega)]
  have : (l ++ List.replicate 5 (0xA5 : UInt8)).getD k 0 = 0xA5 := by
    simp only [List.getD_eq_getElem?_getD]
    rw [List.getElem?_append_right h, List.getElem?_replicate, if_pos (by omega)]
    rfl
  rw [this]
theorem sameBytes_ok (va vb : Value) (la lb : List UInt8) (w : World) (ha : Bytes w va la) (hb : Bytes w vb lb) : FnOk Try.prog 84 [va, vb] w (fun r w' => r = .bool (decide (la = lb)) ∧ Ext w w') := by
  have hla := ha.le64
  have hlb := hb.le64
  refine FnOk.enter (rs := [4]) Try.func84 rfl Try.ntmps84 Try.results84 rfl rfl ?_
  refine WF.seq ?_
  refine WF.region ?_
  refine WL.va rfl rfl rfl (X.assignB rfl) ?_
  refine WL.nil ?_
  refine thn_n ?_
  refine WF.seq ?_
  refine WF.seq ?_
  refine WF.region ?_
  refine WL.va rfl rfl rfl (X.move rfl) ?_
  refine WL.va rfl rfl rfl (X.len ha rfl Try.underlying36) ?_
  refine WL.va rfl rfl rfl (X.move rfl) ?_
  refine WL.va rfl rfl rfl (X.len hb rfl Try.underlying36) ?_
  refine WL.va rfl rfl rfl (X.neq rfl rfl) ?_
  refine WL.nil ?_
  refine thn_n ?_
  refine WF.cond rfl (fun h0_2 => ?_) (fun h0_2 => ?_)
  · have gh0_2 := (of_decide_eq_true h0_2)
    have hlen := gh0_2
    have hne : la ≠ lb := fun e => by rw [e] at gh0_2; exact gh0_2 rfl
    refine WF.seq ?_
    refine WF.region ?_
    refine WL.va rfl rfl rfl (X.assignB rfl) ?_
    refine WL.nil ?_
    refine thn_n ?_
    refine WF.ret ?_
    refine thn_r ?_
    refine fin_r ?_
    exact ⟨congrArg Value.bool (decide_eq_false hne).symm, (Ext.refl _)⟩
  · have gh0_2 := (Decidable.of_not_not (of_decide_eq_false h0_2))
    have hlen := gh0_2
    refine WF.skip ?_
    refine thn_n ?_
    refine WF.seq ?_
    refine WF.seq ?_
    refine WF.region ?_
    refine WL.va rfl rfl rfl (X.assignI rfl) ?_
    refine WL.nil ?_
    refine thn_n ?_
    refine WF.block ?_
    refine WF.named (fun F5 hF6 => ?_)
    refine WF.loopN (fun mL0 f' w' => ∃ (k : Nat), mL0 = la.length - k ∧ f' 5 = .int .i64 (k : Int) ∧ Agree [0, 1, 6, 7, 8, 9, 10] f' F5 ∧ Ext w w' ∧ k ≤ la.length ∧ la.take k = lb.take k) ?_ ?_
    · exact ⟨_, 0, rfl, (congrFun hF6 5), (Agree.refl _ _), (Ext.refl _), ⟨Nat.zero_le _, rfl⟩⟩
    · rintro mL0 fL0 wL0 ⟨k, hmL0, e5_L0, hAL0, hwL0, ⟨hk, hkk⟩⟩
      refine WF.seq ?_
      refine WF.seq ?_
      refine WF.region ?_
      refine WL.va rfl rfl rfl (X.moveI e5_L0) ?_
      refine WL.va rfl rfl rfl (X.move ((hAL0.eq 0).trans (congrFun hF6 0))) ?_
      refine WL.va rfl rfl rfl (X.len ha rfl Try.underlying36) ?_
      refine WL.va rfl rfl rfl (X.lss rfl rfl) ?_
      refine WL.nil ?_
      refine thn_n ?_
      refine WF.cond rfl (fun h1_7 => ?_) (fun h1_7 => ?_)
      · have gh1_7 := (of_decide_eq_true h1_7)
        have hlt := gh1_7
        refine WF.skip ?_
        refine thn_n ?_
        refine WF.seq ?_
        refine WF.block ?_
        refine WF.seq ?_
        refine WF.drawn (.q 0 (.q 1 (.q 2 (.q 3 (.q 4 (.q 5 (.q 6 (.q 7 (.q 8 .nil))))))))) (fun w' => Ext wL0 w') 9 (by kernel_rfl) (by kernel_rfl) (Ext.drew _) ?_
        refine WO.q rfl rfl rfl rfl (fun w' hE9 => (X.move ((hAL0.eq 0).trans (congrFun hF6 0)))) ?_
        refine WO.q rfl rfl rfl rfl (fun w' hE9 => (X.moveI e5_L0)) ?_
        refine WO.q rfl rfl rfl rfl (fun w' hE9 => (X.idx ha rfl rfl (by omega) Try.underlying36 Try.sizeOf5)) ?_
        refine WO.q rfl rfl rfl rfl (fun w' hE9 => (X.loadB ha (Ext.trans hwL0 hE9) rfl (by omega) Try.isAgg5)) ?_
        refine WO.q rfl rfl rfl rfl (fun w' hE9 => (X.move ((hAL0.eq 1).trans (congrFun hF6 1)))) ?_
        refine WO.q rfl rfl rfl rfl (fun w' hE9 => (X.moveI e5_L0)) ?_
        refine WO.q rfl rfl rfl rfl (fun w' hE9 => (X.idx hb rfl rfl (by omega) Try.underlying36 Try.sizeOf5)) ?_
        refine WO.q rfl rfl rfl rfl (fun w' hE9 => (X.loadB hb (Ext.trans hwL0 hE9) rfl (by omega) Try.isAgg5)) ?_
        refine WO.q rfl rfl rfl rfl (fun w' hE9 => (X.neq rfl rfl)) ?_
        refine WO.nil ?_
        refine WL.nil ?_
        refine thn_n ?_
        refine WF.cond rfl (fun h2_10 => ?_) (fun h2_10 => ?_)
        · have gh2_10 := (of_decide_eq_true h2_10)
          have hne : la ≠ lb := fun e => gh2_10 (by subst e; rfl)
          refine WF.seq ?_
          refine WF.region ?_
          refine WL.va rfl rfl rfl (X.assignB rfl) ?_
          refine WL.nil ?_
          refine thn_n ?_
          refine WF.ret ?_
          refine blk_r ?_
          refine thn_r ?_
          refine thn_r ?_
          refine blk_r ?_
          refine thn_r ?_
          refine fin_r ?_
          exact ⟨congrArg Value.bool (decide_eq_false hne).symm, (Ext.trans hwL0 (Ext.drew _))⟩
        · have gh2_10 := (Decidable.of_not_not (of_decide_eq_false h2_10))
          have heq := gh2_10
          refine WF.skip ?_
          refine blk_n ?_
          refine thn_n ?_
          refine WF.region ?_
          refine WL.va rfl rfl rfl (X.moveI e5_L0) ?_
          refine WL.va rfl rfl rfl (X.add rfl rfl (w64 (by omega))) ?_
          refine WL.va rfl rfl rfl (X.assignI rfl) ?_
          refine WL.nil ?_
          exact thn_n ⟨_, (by omega), k + 1, rfl, rfl, (by repeat (first | exact hAL0 | refine Agree.put ?_ rfl | refine Agree.named hF6 ?_)), (Ext.trans hwL0 (Ext.drew _)), ⟨by omega, by rw [take_getD _ _ (by omega), take_getD _ _ (by omega), hkk, byte_eq heq]⟩⟩
      · have gh1_7 := (of_decide_eq_false h1_7)
        have hlt := gh1_7
        refine WF.exit ?_
        refine thn_x ?_
        refine thn_x ?_
        refine blk_eq ?_
        refine thn_n ?_
        refine WF.seq ?_
        refine WF.region ?_
        refine WL.va rfl rfl rfl (X.assignB rfl) ?_
        refine WL.nil ?_
        refine thn_n ?_
        refine WF.ret ?_
        refine fin_r ?_
        exact ⟨congrArg Value.bool (decide_eq_true (by rw [List.take_of_length_le (by omega), List.take_of_length_le (by omega)] at hkk; exact hkk)).symm, hwL0⟩

theorem copyBytes_ok (v : Value) (l : List UInt8) (w : World) (hb : Bytes w v l) (hm : l.length ≤ 140737488355328) : FnOk Try.prog 25 [v] w (fun r w' => OwnB w' w.heap.size 5 r l ∧ Ext w w') := by
  have hl := hb.le64
  refine FnOk.enter (rs := [2]) Try.func25 rfl Try.ntmps25 Try.results25 rfl rfl ?_
  refine WF.seq ?_
  refine WF.region ?_
  refine WL.va rfl rfl rfl (X.assign rfl) ?_
  refine WL.nil ?_
  refine thn_n ?_
  refine WF.seq ?_
  refine WF.region ?_
  refine WL.va rfl rfl rfl (X.assign rfl) ?_
  refine WL.nil ?_
  refine thn_n ?_
  refine WF.seq ?_
  refine WF.seq ?_
  refine WF.region ?_
  refine WL.va rfl rfl rfl (X.assignI rfl) ?_
  refine WL.nil ?_
  refine thn_n ?_
  refine WF.block ?_
  refine WF.named (fun F1 hF2 => ?_)
  refine WF.loopN (fun mL0 f' w' => ∃ (k : Nat) (vo : Value), mL0 = l.length - k ∧ f' 4 = .int .i64 (k : Int) ∧ f' 3 = vo ∧ Agree [0, 2] f' F1 ∧ Ext w w' ∧ k ≤ l.length ∧ OwnB w' w.heap.size 5 vo (l.take k)) ?_ ?_
  · exact ⟨_, 0, (.slice none 0 0), rfl, (congrFun hF2 4), (congrFun hF2 3), (Agree.refl _ _), (Ext.refl _), ⟨Nat.zero_le _, OwnB.nil _ _ _⟩⟩
  · rintro mL0 fL0 wL0 ⟨k, vo, hmL0, e4_L0, e3_L0, hAL0, hwL0, ⟨hk, ho⟩⟩
    refine WF.seq ?_
    refine WF.seq ?_
    refine WF.region ?_
    refine WL.va rfl rfl rfl (X.moveI e4_L0) ?_
    refine WL.va rfl rfl rfl (X.move ((hAL0.eq 0).trans (congrFun hF2 0))) ?_
    refine WL.va rfl rfl rfl (X.len hb rfl Try.underlying36) ?_
    refine WL.va rfl rfl rfl (X.lss rfl rfl) ?_
    refine WL.nil ?_
    refine thn_n ?_
    refine WF.cond rfl (fun h0_3 => ?_) (fun h0_3 => ?_)
    · have gh0_3 := (of_decide_eq_true h0_3)
      refine WF.skip ?_
      refine thn_n ?_
      refine WF.seq ?_
      refine WF.block ?_
      refine WF.region ?_
      refine WL.va rfl rfl rfl (X.move e3_L0) ?_
      refine WL.va rfl rfl rfl (X.move ((hAL0.eq 0).trans (congrFun hF2 0))) ?_
      refine WL.va rfl rfl rfl (X.moveI e4_L0) ?_
      refine WL.va rfl rfl rfl (X.idx hb rfl rfl (by omega) Try.underlying36 Try.sizeOf5) ?_
      refine WL.va rfl rfl rfl (X.loadB hb hwL0 rfl (by omega) Try.isAgg5) ?_
      refine WL.op rfl (OW.lits (vs := [u8 (l.getD k 0)]) (evp_cons rfl evp_nil) Try.underlying36 Try.sizeOf5 Try.zeroValue5 ⟨rfl, trivial⟩ rfl rfl rfl ?_ (by decide))
      intro v6 w5 ho8 hx7
      have ho1 := ho.ext hx7
      refine WL.op rfl (OW.appendB ho1 (show Bytes _ _ [(l.getD k 0)] from Row.of_own ho8) rfl rfl Try.underlying36 Try.type5 rfl rfl rfl rfl (by simp; omega) ((Ext.trans hwL0 hx7)).size ?_ (by decide))
      intro v10 w9 ho12 hx11 hmvhx11
      have ho2 := ho12
      refine WL.va rfl rfl rfl (X.assign rfl) ?_
      refine WL.nil ?_
      refine blk_n ?_
      refine thn_n ?_
      refine WF.region ?_
      refine WL.va rfl rfl rfl (X.moveI e4_L0) ?_
      refine WL.va rfl rfl rfl (X.add rfl rfl (w64 (by omega))) ?_
      refine WL.va rfl rfl rfl (X.assignI rfl) ?_
      refine WL.nil ?_
      exact thn_n ⟨_, (by omega), k + 1, _, rfl, rfl, rfl, (by repeat (first | exact hAL0 | refine Agree.put ?_ rfl | refine Agree.named hF2 ?_)), (Ext.own (Ext.trans hwL0 hx7) ho1 (Nat.le_refl _) hx11), ⟨by omega, by rw [take_getD _ _ (by omega)]; exact ho2⟩⟩
    · have gh0_3 := (of_decide_eq_false h0_3)
      refine WF.exit ?_
      refine thn_x ?_
      refine thn_x ?_
      refine blk_eq ?_
      refine thn_n ?_
      refine WF.seq ?_
      refine WF.region ?_
      refine WL.va rfl rfl rfl (X.move e3_L0) ?_
      refine WL.va rfl rfl rfl (X.assign rfl) ?_
      refine WL.nil ?_
      refine thn_n ?_
      refine WF.ret ?_
      refine fin_r ?_
      exact ⟨by rw [show l.take k = l from List.take_of_length_le (by omega)] at ho; exact ho, hwL0⟩

theorem spoilBytes_ok (v : Value) (l : List UInt8) (w : World) (B : Nat) (ho : OwnB w B 5 v l) : FnOk Try.prog 68 [v] w (fun _ w' => (∃ l', OwnB w' B 5 v l') ∧ w.grownBy w' v.ownBlock) := by
  have hb := Bytes.of_own ho
  have hl := hb.le64
  refine FnOk.enter (rs := []) Try.func68 rfl Try.ntmps68 Try.results68 rfl rfl ?_
  refine WF.seq ?_
  refine WF.region ?_
  refine WL.va rfl rfl rfl (X.assignI rfl) ?_
  refine WL.nil ?_
  refine thn_n ?_
  refine WF.block ?_
  refine WF.named (fun F1 hF2 => ?_)
  refine WF.loopN (fun mL0 f' w' => ∃ (k : Nat) (L : List UInt8), mL0 = l.length - k ∧ f' 2 = .int .i64 (k : Int) ∧ Agree [0] f' F1 ∧ w.grownBy w' v.ownBlock ∧ k ≤ l.length ∧ L.length = l.length ∧ OwnB w' B 5 v L) ?_ ?_
  · exact ⟨_, 0, l, rfl, (congrFun hF2 2), (Agree.refl _ _), (World.grownBy.refl _ _), ⟨Nat.zero_le _, rfl, ho⟩⟩
  · rintro mL0 fL0 wL0 ⟨k, L, hmL0, e2_L0, hAL0, hwL0, ⟨hk, hL, ho⟩⟩
    refine WF.seq ?_
    refine WF.seq ?_
    refine WF.region ?_
    refine WL.va rfl rfl rfl (X.moveI e2_L0) ?_
    refine WL.va rfl rfl rfl (X.move ((hAL0.eq 0).trans (congrFun hF2 0))) ?_
    refine WL.va rfl rfl rfl (X.len (Bytes.of_own ho) rfl Try.underlying36) ?_
    refine WL.va rfl rfl rfl (X.lss rfl rfl) ?_
    refine WL.nil ?_
    refine thn_n ?_
    refine WF.cond rfl (fun h0_3 => ?_) (fun h0_3 => ?_)
    · have gh0_3 := (of_decide_eq_true h0_3)
      refine WF.skip ?_
      refine thn_n ?_
      refine WF.seq ?_
      refine WF.block ?_
      refine WF.region ?_
      refine WL.va rfl rfl rfl (X.move ((hAL0.eq 0).trans (congrFun hF2 0))) ?_
      refine WL.va rfl rfl rfl (X.moveI e2_L0) ?_
      refine WL.va rfl rfl rfl (X.move ((hAL0.eq 0).trans (congrFun hF2 0))) ?_
      refine WL.va rfl rfl rfl (X.moveI e2_L0) ?_
      refine WL.va rfl rfl rfl (X.idx (Bytes.of_own ho) rfl rfl (by omega) Try.underlying36 Try.sizeOf5) ?_
      refine WL.va rfl rfl rfl (X.loadB (Bytes.of_own ho) (Ext.refl _) rfl (by omega) Try.isAgg5) ?_
      refine WL.va rfl rfl rfl (X.xor rfl rfl (xor8 _ 0x5A)) ?_
      refine WL.va rfl rfl rfl (X.idx (Bytes.of_own ho) rfl rfl (by omega) Try.underlying36 Try.sizeOf5) ?_
      refine WL.op rfl (OW.storeB ho (by omega) rfl rfl Try.sizeOf5 ?_)
      intro w5 ho8 hx7
      have ho1 := ho8
      have hg1 := hx7
      refine WL.nil ?_
      refine blk_n ?_
      refine thn_n ?_
      refine WF.region ?_
      refine WL.va rfl rfl rfl (X.moveI e2_L0) ?_
      refine WL.va rfl rfl rfl (X.add rfl rfl (w64 (by omega))) ?_
      refine WL.va rfl rfl rfl (X.assignI rfl) ?_
      refine WL.nil ?_
      exact thn_n ⟨_, (by omega), k + 1, _, rfl, rfl, (by repeat (first | exact hAL0 | refine Agree.put ?_ rfl | refine Agree.named hF2 ?_)), (spoil_trans hwL0 hg1), ⟨by omega, by simp [hL], ho1⟩⟩
    · have gh0_3 := (of_decide_eq_false h0_3)
      refine WF.exit ?_
      refine thn_x ?_
      refine thn_x ?_
      refine blk_eq ?_
      refine fin_n ?_
      exact ⟨⟨_, ho⟩, hwL0⟩

/-- the bytes of glebekit.Row -/
def rowB (n : Nat) : List UInt8 := (List.range n).map fun i => UInt8.ofNat (i * 7 + 1)
theorem rowB_len (n : Nat) : (rowB n).length = n := by simp [rowB]
theorem rowB_step {n k : Nat} {L : List UInt8} (hk : k < n) (hL : L.length = n) (h : L.take k = (rowB n).take k) : (L.set k (UInt8.ofNat (k * 7 + 1))).take (k + 1) = (rowB n).take (k + 1) := by
  rw [take_set_succ _ _ _ (by omega), h, List.take_succ_eq_append_getElem (by rw [rowB_len]; omega)]
  simp [rowB]
theorem rowB_u8 (k : Nat) : IntKind.u8.wrap ((k : Int) * 7 + 1) = ((UInt8.ofNat (k * 7 + 1)).toNat : Int) := by
  rw [IntKind.wrap_u8, UInt8.toNat_ofNat']; omega
theorem max0 (n : Int) : max 0 n = (n.toNat : Int) := by omega
theorem cloneB_ok (v : Value) (l : List UInt8) (w : World) (hb : Bytes w v l) (hn : l.length ≤ 1000000) : FnOk Try.prog 50 [v] w (fun r w' => OwnB w' w.heap.size 5 r l ∧ Ext w w') := by
  refine FnOk.enter (rs := [2]) Try.func50 rfl Try.ntmps50 Try.results50 rfl rfl ?_
  refine WF.seq ?_
  refine WF.region ?_
  refine WL.va rfl rfl rfl (X.assign rfl) ?_
  refine WL.nil ?_
  refine thn_n ?_
  refine WF.seq ?_
  refine WF.seq ?_
  refine WF.region ?_
  refine WL.va rfl rfl rfl (X.move rfl) ?_
  refine WL.va rfl rfl rfl (X.eqlNilS hb rfl rfl Try.underlying36) ?_
  refine WL.nil ?_
  refine thn_n ?_
  refine WF.cond rfl (fun h0_1 => ?_) (fun h0_1 => ?_)
  · have gh0_1 := h0_1
    have hl0 : l.length = 0 := isNilS_len hb gh0_1
    obtain rfl : l = [] := List.eq_nil_of_length_eq_zero hl0
    refine WF.seq ?_
    refine WF.region ?_
    refine WL.va rfl rfl rfl (X.assign rfl) ?_
    refine WL.nil ?_
    refine thn_n ?_
    refine WF.ret ?_
    refine thn_r ?_
    refine fin_r ?_
    exact ⟨World.ownsRow_nil _ _ _ _, (Ext.refl _)⟩
  · have gh0_1 := h0_1
    refine WF.skip ?_
    refine thn_n ?_
    refine WF.seq ?_
    refine WF.region ?_
    refine WL.op rfl (OW.lit0 Try.underlying36 Try.sizeOf5 ?_ (by decide))
    intro v4 w3 ho6 hx5
    have hn0 : OwnB w3 _ _ v4 [] := ho6
    refine WL.va rfl rfl rfl (X.move rfl) ?_
    refine WL.op rfl (OW.appendB hn0 (Row.ext hb hx5) rfl rfl Try.underlying36 Try.type5 rfl rfl rfl rfl (by simp; omega) (hx5).size ?_ (by decide))
    intro v8 w7 ho10 hx9 hmvhx9
    have ho := ho10
    refine WL.va rfl rfl rfl (X.assign rfl) ?_
    refine WL.nil ?_
    refine thn_n ?_
    refine WF.ret ?_
    refine fin_r ?_
    exact ⟨ho, (Ext.own hx5 hn0 (Nat.le_refl _) hx9)⟩

theorem sameB_ok (a b : BV) (w : World) (ha : Bytes w a.2 a.1.Data) (hb : Bytes w b.2 b.1.Data) : FnOk Try.prog 66 [agg (BV.c a), agg (BV.c b)] w (fun r w' => r = .bool (decide (a.1 = b.1)) ∧ Ext w w') := by
  refine FnOk.enter (rs := [4]) Try.func66 rfl Try.ntmps66 Try.results66 rfl rfl ?_
  refine WF.seq ?_
  refine WF.region ?_
  refine WL.op rfl (OW.boxA (cs := (BV.c a)) rfl ?_ (by decide))
  intro g2 w1 heg2 hlg2 hO2 hx3
  have := World.grownBy.size hx3
  refine WL.op rfl (OW.boxA (cs := (BV.c b)) rfl ?_ (by decide))
  intro g3 w5 heg3 hlg3 hO3 hx7
  have := World.grownBy.size hx7
  refine WL.va rfl rfl rfl (X.assignB rfl) ?_
  refine WL.nil ?_
  refine thn_n ?_
  refine WF.seq ?_
  refine WF.region ?_
  refine WL.va rfl rfl rfl (X.fieldAddrO (off := 0) rfl Try.underlying74 rfl rfl Try.sizeOf3) ?_
  refine WL.va rfl rfl rfl (X.loadO hO2 hx7 rfl rfl Try.isAgg3) ?_
  refine WL.va rfl rfl rfl (X.fieldAddrO (off := 0) rfl Try.underlying74 rfl rfl Try.sizeOf3) ?_
  refine WL.va rfl rfl rfl (X.loadO hO3 (Ext.refl _) rfl rfl Try.isAgg3) ?_
  refine WL.va rfl rfl rfl (X.eql rfl rfl) ?_
  refine WL.va rfl rfl rfl (X.moveB rfl) ?_
  refine WL.split (j := 5) rfl (fun h11 => ?_) (fun h11 => ?_)
  · have gh11 := (of_decide_eq_true h11)
    have hc0 := gh11
    refine WL.vg rfl (congrArg some h11) rfl rfl (X.fieldAddrO (off := 1) rfl Try.underlying74 rfl rfl Try.sizeOf36) ?_
    refine WL.vg rfl (congrArg some h11) rfl rfl (X.loadO hO2 hx7 rfl rfl Try.isAgg36) ?_
    refine WL.vg rfl (congrArg some h11) rfl rfl (X.fieldAddrO (off := 1) rfl Try.underlying74 rfl rfl Try.sizeOf36) ?_
    refine WL.vg rfl (congrArg some h11) rfl rfl (X.loadO hO3 (Ext.refl _) rfl rfl Try.isAgg36) ?_
    refine WL.cg rfl (congrArg some h11) rfl rfl (X.call Try.call84 (evl_cons rfl (evl_cons rfl evl_nil))) (sameBytes_ok _ _ a.1.Data b.1.Data _ (Row.ext ha (Ext.trans hx3 hx7)) (Row.ext hb (Ext.trans hx3 hx7))) ?_
    rintro v13 w12 ⟨rfl, hx14⟩
    have := World.grownBy.size hx14
    refine WL.va rfl rfl rfl (X.pickT rfl h11 rfl) ?_
    refine WL.va rfl rfl rfl (X.assignB rfl) ?_
    refine WL.nil ?_
    refine thn_n ?_
    refine WF.ret ?_
    refine fin_r ?_
    first | exact ⟨congrArg Value.bool (decide_eq_false hne).symm, (Ext.trans (Ext.trans hx3 hx7) hx14)⟩ | exact ⟨congrArg Value.bool (decide_eq_decide.2 (by rw [Bl.eq_iff]; simp [hc0])), (Ext.trans (Ext.trans hx3 hx7) hx14)⟩
  · have gh11 := (of_decide_eq_false h11)
    have hne : ¬ a.1 = b.1 := fun e => gh11 (by rw [e])
    refine WL.p rfl rfl rfl (congrArg some h11) ?_
    refine WL.p rfl rfl rfl (congrArg some h11) ?_
    refine WL.p rfl rfl rfl (congrArg some h11) ?_
    refine WL.p rfl rfl rfl (congrArg some h11) ?_
    refine WL.p rfl rfl rfl (congrArg some h11) ?_
    refine WL.va rfl rfl rfl (X.pickF rfl h11 rfl) ?_
    refine WL.va rfl rfl rfl (X.assignB rfl) ?_
    refine WL.nil ?_
    refine thn_n ?_
    refine WF.ret ?_
    refine fin_r ?_
    first | exact ⟨congrArg Value.bool (decide_eq_false hne).symm, (Ext.trans hx3 hx7)⟩ | exact ⟨congrArg Value.bool (decide_eq_decide.2 (by rw [Bl.eq_iff]; simp [hc0])), (Ext.trans hx3 hx7)⟩

set_option maxHeartbeats 800000 in
theorem sameBs_ok (va vb : Value) (la lb : List Bl) (w : World) (ha : Bls w va la) (hb : Bls w vb lb) : FnOk Try.prog 42 [va, vb] w (fun r w' => r = .bool (decide (la = lb)) ∧ Ext w w') := by
  obtain ⟨Ea, rfl, ra, da⟩ := ha
  obtain ⟨Eb, rfl, rb, db⟩ := hb
  have hla : (Ea.length : Int) ≤ 9223372036854775807 := by obtain ⟨_, c, _, h1, h2, _⟩ := ra.shape; unfold maxLen at h2; omega
  refine FnOk.enter (rs := [4]) Try.func42 rfl Try.ntmps42 Try.results42 rfl rfl ?_
  refine WF.seq ?_
  refine WF.region ?_
  refine WL.va rfl rfl rfl (X.assignB rfl) ?_
  refine WL.nil ?_
  refine thn_n ?_
  refine WF.seq ?_
  refine WF.seq ?_
  refine WF.region ?_
  refine WL.va rfl rfl rfl (X.move rfl) ?_
  refine WL.va rfl rfl rfl (X.len ra rfl Try.underlying52) ?_
  refine WL.va rfl rfl rfl (X.move rfl) ?_
  refine WL.va rfl rfl rfl (X.len rb rfl Try.underlying52) ?_
  refine WL.va rfl rfl rfl (X.neq rfl rfl) ?_
  refine WL.nil ?_
  refine thn_n ?_
  refine WF.cond rfl (fun h0_2 => ?_) (fun h0_2 => ?_)
  · have gh0_2 := (of_decide_eq_true h0_2)
    have hne : Ea.map Prod.fst ≠ Eb.map Prod.fst := fun e => by have := congrArg List.length e; simp at this; omega
    refine WF.seq ?_
    refine WF.region ?_
    refine WL.va rfl rfl rfl (X.assignB rfl) ?_
    refine WL.nil ?_
    refine thn_n ?_
    refine WF.ret ?_
    refine thn_r ?_
    refine fin_r ?_
    exact ⟨congrArg Value.bool (decide_eq_false hne).symm, (Ext.refl _)⟩
  · have gh0_2 := (Decidable.of_not_not (of_decide_eq_false h0_2))
    refine WF.skip ?_
    refine thn_n ?_
    refine WF.seq ?_
    refine WF.seq ?_
    refine WF.region ?_
    refine WL.va rfl rfl rfl (X.assignI rfl) ?_
    refine WL.nil ?_
    refine thn_n ?_
    refine WF.block ?_
    refine WF.named (fun F5 hF6 => ?_)
    refine WF.loopN (fun mL0 f' w' => ∃ (k : Nat), mL0 = Ea.length - k ∧ f' 5 = .int .i64 (k : Int) ∧ Agree [0, 1, 6, 7, 8, 9, 10] f' F5 ∧ Ext w w' ∧ k ≤ Ea.length ∧ (Ea.map Prod.fst).take k = (Eb.map Prod.fst).take k) ?_ ?_
    · exact ⟨_, 0, rfl, (congrFun hF6 5), (Agree.refl _ _), (Ext.refl _), ⟨Nat.zero_le _, rfl⟩⟩
    · rintro mL0 fL0 wL0 ⟨k, hmL0, e5_L0, hAL0, hwL0, ⟨hk, hkk⟩⟩
      refine WF.seq ?_
      refine WF.seq ?_
      refine WF.region ?_
      refine WL.va rfl rfl rfl (X.moveI e5_L0) ?_
      refine WL.va rfl rfl rfl (X.move ((hAL0.eq 0).trans (congrFun hF6 0))) ?_
      refine WL.va rfl rfl rfl (X.len ra rfl Try.underlying52) ?_
      refine WL.va rfl rfl rfl (X.lss rfl rfl) ?_
      refine WL.nil ?_
      refine thn_n ?_
      refine WF.cond rfl (fun h1_7 => ?_) (fun h1_7 => ?_)
      · have gh1_7 := (of_decide_eq_true h1_7)
        refine WF.skip ?_
        refine thn_n ?_
        refine WF.seq ?_
        refine WF.block ?_
        refine WF.seq ?_
        refine WF.drawn (.q 0 (.q 1 (.q 2 (.q 3 (.q 4 (.q 5 (.q 6 (.q 7 (.l 8 (.q 9 .nil)))))))))) (fun w' => Ext wL0 w') 10 (by kernel_rfl) (by kernel_rfl) (Ext.drew _) ?_
        refine WO.q rfl rfl rfl rfl (fun w' hE9 => (X.move ((hAL0.eq 0).trans (congrFun hF6 0)))) ?_
        refine WO.q rfl rfl rfl rfl (fun w' hE9 => (X.moveI e5_L0)) ?_
        refine WO.q rfl rfl rfl rfl (fun w' hE9 => (X.idx ra rfl rfl (by omega) Try.underlying52 Try.sizeOf74)) ?_
        refine WO.q rfl rfl rfl rfl (fun w' hE9 => (X.loadEl ra (Ext.trans hwL0 hE9) rfl (by omega) (BRow.el (E := Ea) (k := k) (by omega)) Try.isAgg74 Try.sizeOf74)) ?_
        refine WO.q rfl rfl rfl rfl (fun w' hE9 => (X.move ((hAL0.eq 1).trans (congrFun hF6 1)))) ?_
        refine WO.q rfl rfl rfl rfl (fun w' hE9 => (X.moveI e5_L0)) ?_
        refine WO.q rfl rfl rfl rfl (fun w' hE9 => (X.idx rb rfl rfl (by omega) Try.underlying52 Try.sizeOf74)) ?_
        refine WO.q rfl rfl rfl rfl (fun w' hE9 => (X.loadEl rb (Ext.trans hwL0 hE9) rfl (by omega) (BRow.el (E := Eb) (k := k) (by omega)) Try.isAgg74 Try.sizeOf74)) ?_
        refine WO.l ?_
        refine LO.go rfl rfl (OW.enter rfl (by decide) (X.call Try.call66 (evl_cons rfl (evl_cons rfl evl_nil))) (sameB_ok (Ea[k]'(by omega)) (Eb[k]'(by omega)) _ (Row.ext (da _ (List.getElem_mem _)) (Ext.trans hwL0 (Ext.drew _))) (Row.ext (db _ (List.getElem_mem _)) (Ext.trans hwL0 (Ext.drew _)))) ?_)
        rintro v11 w10 ⟨rfl, hx12⟩
        refine ⟨(Ext.trans (Ext.drew _) hx12), ?_⟩
        refine WO.q rfl rfl rfl rfl (fun w' hE9 => (X.not rfl)) ?_
        refine WO.nil ?_
        refine WL.nil ?_
        refine thn_n ?_
        refine WF.cond rfl (fun h2_14 => ?_) (fun h2_14 => ?_)
        · have gh2_14 := (of_decide_eq_false (nt h2_14))
          have hne : Ea.map Prod.fst ≠ Eb.map Prod.fst := fun e => gh2_14 (by have := congrArg (fun z => z[k]?) e; simpa [List.getElem?_eq_getElem (show k < Ea.length by omega), List.getElem?_eq_getElem (show k < Eb.length by omega)] using this)
          refine WF.seq ?_
          refine WF.region ?_
          refine WL.va rfl rfl rfl (X.assignB rfl) ?_
          refine WL.nil ?_
          refine thn_n ?_
          refine WF.ret ?_
          refine blk_r ?_
          refine thn_r ?_
          refine thn_r ?_
          refine blk_r ?_
          refine thn_r ?_
          refine fin_r ?_
          exact ⟨congrArg Value.bool (decide_eq_false hne).symm, (Ext.trans (Ext.trans hwL0 (Ext.drew _)) hx12)⟩
        · have gh2_14 := (of_decide_eq_true (nf h2_14))
          have heq := gh2_14
          refine WF.skip ?_
          refine blk_n ?_
          refine thn_n ?_
          refine WF.region ?_
          refine WL.va rfl rfl rfl (X.moveI e5_L0) ?_
          refine WL.va rfl rfl rfl (X.add rfl rfl (w64 (by omega))) ?_
          refine WL.va rfl rfl rfl (X.assignI rfl) ?_
          refine WL.nil ?_
          exact thn_n ⟨_, (by omega), k + 1, rfl, rfl, (by repeat (first | exact hAL0 | refine Agree.put ?_ rfl | refine Agree.named hF6 ?_)), (Ext.trans (Ext.trans hwL0 (Ext.drew _)) hx12), ⟨by omega, by rw [take_map (by omega), take_map (by omega), hkk, heq]⟩⟩
      · have gh1_7 := (of_decide_eq_false h1_7)
        refine WF.exit ?_
        refine thn_x ?_
        refine thn_x ?_
        refine blk_eq ?_
        refine thn_n ?_
        refine WF.seq ?_
        refine WF.region ?_
        refine WL.va rfl rfl rfl (X.assignB rfl) ?_
        refine WL.nil ?_
        refine thn_n ?_
        refine WF.ret ?_
        refine fin_r ?_
        exact ⟨congrArg Value.bool (decide_eq_true (by rw [List.take_of_length_le (by simp; omega), List.take_of_length_le (by simp; omega)] at hkk; exact hkk)).symm, hwL0⟩

set_option maxHeartbeats 1600000 in
theorem spoilBs_ok (v : Value) (E : List BV) (w : World) (B T : Nat) (h : BOwn w B v E) (hT : BOwn.below T v E) : FnOk Try.prog 44 [v] w (fun _ w' => Chg B T w w') := by
  have hle : (E.length : Int) ≤ 9223372036854775807 := by obtain ⟨_, c, _, h1, h2, _⟩ := h.srow.shape; unfold maxLen at h2; omega
  refine FnOk.enter (rs := []) Try.func44 rfl Try.ntmps44 Try.results44 rfl rfl ?_
  refine WF.seq ?_
  refine WF.region ?_
  refine WL.va rfl rfl rfl (X.assignI rfl) ?_
  refine WL.nil ?_
  refine thn_n ?_
  refine WF.block ?_
  refine WF.named (fun F1 hF2 => ?_)
  refine WF.loopN (fun mL0 f' w' => ∃ (k : Nat) (E1 : List BV), mL0 = E.length - k ∧ f' 2 = .int .i64 (k : Int) ∧ Agree [0] f' F1 ∧ Chg B T w w' ∧ k ≤ E.length ∧ E1.length = E.length ∧ BOwn w' B v E1 ∧ BOwn.below T v E1) ?_ ?_
  · exact ⟨_, 0, E, rfl, (congrFun hF2 2), (Agree.refl _ _), (Chg.refl _ _ _), ⟨Nat.zero_le _, rfl, h, hT⟩⟩
  · rintro mL0 fL0 wL0 ⟨k, E1, hmL0, e2_L0, hAL0, hwL0, ⟨hk0, hE1, ho, hbe⟩⟩
    refine WF.seq ?_
    refine WF.seq ?_
    refine WF.region ?_
    refine WL.va rfl rfl rfl (X.moveI e2_L0) ?_
    refine WL.va rfl rfl rfl (X.move ((hAL0.eq 0).trans (congrFun hF2 0))) ?_
    refine WL.va rfl rfl rfl (X.len ho.srow rfl Try.underlying52) ?_
    refine WL.va rfl rfl rfl (X.lss rfl rfl) ?_
    refine WL.nil ?_
    refine thn_n ?_
    refine WF.cond rfl (fun h0_3 => ?_) (fun h0_3 => ?_)
    · have gh0_3 := (of_decide_eq_true h0_3)
      have hke : k < E1.length := by omega
      refine WF.skip ?_
      refine thn_n ?_
      refine WF.seq ?_
      refine WF.block ?_
      refine WF.seq ?_
      refine WF.region ?_
      refine WL.va rfl rfl rfl (X.move ((hAL0.eq 0).trans (congrFun hF2 0))) ?_
      refine WL.va rfl rfl rfl (X.moveI e2_L0) ?_
      refine WL.va rfl rfl rfl (X.idx ho.srow rfl rfl (by omega) Try.underlying52 Try.sizeOf74) ?_
      refine WL.va rfl rfl rfl (X.fieldAddrA rfl Try.underlying74 rfl rfl Try.sizeOf36) ?_
      refine WL.va rfl rfl rfl (X.loadE ho.srow (Ext.refl _) rfl (by omega) ((BRow.get hke (by decide)).trans rfl) Try.isAgg36) ?_
      refine WL.c rfl rfl rfl (X.call Try.call68 (evl_cons rfl evl_nil)) (spoilBytes_ok _ _ _ B (ho.data _ (List.getElem_mem hke))) ?_
      rintro v6 w5 ⟨⟨l2, od⟩, hx7⟩
      have ho1 := ho.spoil hke od hx7
      have hb1 := BOwn.below_set (k := k) (e := ({ (E1[k]'hke).1 with Data := l2 }, (E1[k]'hke).2)) hbe (show ∀ b, (E1[k]'hke).2.ownBlock = some b → b < T from hbe.2 _ (List.getElem_mem hke))
      have hg1 := Chg.of hx7 (B := B) (T := T) (fun g hg => ⟨((ho.data _ (List.getElem_mem hke)).lt g hg).1, hbe.2 _ (List.getElem_mem hke) g hg⟩)
      refine WL.nil ?_
      refine thn_n ?_
      refine WF.region ?_
      refine WL.va rfl rfl rfl (X.move ((hAL0.eq 0).trans (congrFun hF2 0))) ?_
      refine WL.va rfl rfl rfl (X.moveI e2_L0) ?_
      refine WL.va rfl rfl rfl (X.buildL (P := Try.prog) (t := 74) (cs := [i64 (-77), .slice none 0 0]) (evp_cons rfl evp_nil) Try.type74 Try.underlying74 rfl rfl ⟨rfl, trivial⟩ rfl) ?_
      refine WL.va rfl rfl rfl (X.idx ho1.srow rfl rfl (by rw [List.length_set]; exact hke) Try.underlying52 Try.sizeOf74) ?_
      refine WL.op rfl (OW.storeEl (ds := [i64 (-77), .slice none 0 0]) ho1.row (by rw [List.length_set]; exact hke) rfl rfl rfl (by simp [Value.oneCell']) Try.sizeOf74 ?_)
      intro w8 ho11 hx10
      have ho2 := ho1.blank (by rw [List.length_set]; exact hke) ho11 hx10
      have hb2 := BOwn.below_set (k := k) (e := (⟨-77, []⟩, .slice none 0 0)) hb1 (fun b hb => by cases hb)
      have hg2 := Chg.of hx10 (B := B) (T := T) (fun g hg => ⟨(ho1.row.lt g hg).1, hb1.1 g hg⟩)
      refine WL.nil ?_
      refine blk_n ?_
      refine thn_n ?_
      refine WF.region ?_
      refine WL.va rfl rfl rfl (X.moveI e2_L0) ?_
      refine WL.va rfl rfl rfl (X.add rfl rfl (w64 (by omega))) ?_
      refine WL.va rfl rfl rfl (X.assignI rfl) ?_
      refine WL.nil ?_
      exact thn_n ⟨_, (by omega), k + 1, _, rfl, rfl, (by repeat (first | exact hAL0 | refine Agree.put ?_ rfl | refine Agree.named hF2 ?_)), ((hwL0.trans hg1).trans hg2), ⟨by omega, by simp [hE1], ho2, hb2⟩⟩
    · have gh0_3 := (of_decide_eq_false h0_3)
      refine WF.exit ?_
      refine thn_x ?_
      refine thn_x ?_
      refine blk_eq ?_
      refine fin_n ?_
      exact hwL0

end Go.Proofs.Ytobjmehppmhkdaa
