/- The walks of the kit's functions over bytes, of bytes' and slices' functions. -/
import Derived.Test.YthcjifccfpoekaaChecked
import Derived.Test.YthcjifccfpoekaaSesLaw
namespace Go.Proofs.Ythcjifccfpoekaa
open Go Go.RowKit Kf

theorem kept_ne0 {la l : List UInt8} (h : (la.length : Int) ≠ (l.length : Int) + 5) : la ≠ l ++ List.replicate 5 0xA5 := fun e => by
  apply h; rw [e]; simp
theorem kept_ne1 {la l : List UInt8} (h : decide ((la.drop 0).take (l.length - 0) = l) = false) : la ≠ l ++ List.replicate 5 0xA5 := fun e => by
  rw [e] at h; simp at h
theorem kept_ne2 {la l : List UInt8} {k : Nat} (h1 : l.length ≤ k) (h2 : k < l.length + 5) (h : ¬ la.getD k 0 = 0xA5) : la ≠ l ++ List.replicate 5 0xA5 := fun e => by
  apply h
  rw [e, List.getD_eq_getElem?_getD, List.getElem?_append_right h1, List.getElem?_replicate, if_pos (by omega)]
  rfl
theorem kept_eq {la l : List UInt8} (h : la.length = l.length + 5) (hp : decide ((la.drop 0).take (l.length - 0) = l) = true) (hm : ∀ i, l.length ≤ i → i < la.length → la.getD i 0 = 0xA5) : la = l ++ List.replicate 5 0xA5 := by
  have hp := of_decide_eq_true hp
  simp only [List.drop_zero, Nat.sub_zero] at hp
  conv => lhs; rw [← List.take_append_drop l.length la, hp]
  congr 1
  apply List.ext_getElem?
  intro i
  rw [List.getElem?_drop, List.getElem?_replicate]
  by_cases hi : i < 5
  · rw [if_pos hi]
    have := hm (l.length + i) (by omega) (by omega)
    rw [List.getD_eq_getElem?_getD, List.getElem?_eq_getElem (by omega)] at this
    rw [List.getElem?_eq_getElem (by omega)]
    simpa using this
  · rw [if_neg hi, List.getElem?_eq_none (by omega)]
theorem lent_part {w : World} {B : Nat} {v : Value} {l : List UInt8} (ho : OwnB w B 5 v (l ++ List.replicate 5 0xA5)) : Bytes w (Kf.part v 0 l.length 1) l := by
  have := Bytes.part (Bytes.of_own ho) 0 l.length (Nat.zero_le _) (by simp)
  simpa using this
theorem spoil_trans {a b c : World} {r : Option Nat} (h : a.grownBy b r) (k : b.grownBy c r) : a.grownBy c r :=
  ⟨k.os.trans h.os, k.tape.trans h.tape, k.output.trans h.output, Nat.le_trans h.size k.size, fun i hi hn => (k.block i (Nat.lt_of_lt_of_le hi h.size) hn).trans (h.block i hi hn)⟩
theorem lent_step1 {l L : List UInt8} {k : Nat} {w : World} {B : Nat} {v : Value} (_hk : k ≤ l.length + 5) (hL : L.length = l.length + 5) (hLk : L.take k = (l ++ List.replicate 5 0xA5).take k) (h : k < l.length)
    (ho : OwnB w B 5 v ((L.set k 0xA5).set k (l.getD k 0))) : k + 1 ≤ l.length + 5 ∧ ((L.set k 0xA5).set k (l.getD k 0)).length = l.length + 5 ∧ ((L.set k 0xA5).set k (l.getD k 0)).take (k + 1) = (l ++ List.replicate 5 0xA5).take (k + 1) ∧ OwnB w B 5 v ((L.set k 0xA5).set k (l.getD k 0)) := by
  refine ⟨by omega, by simp [hL], ?_, ho⟩
  rw [List.set_set, take_set_succ _ _ _ (by omega), hLk, take_getD _ _ (by simp; omega)]
  rw [List.getD_eq_getElem?_getD, List.getD_eq_getElem?_getD, List.getElem?_append_left h]
theorem lent_step2 {l L : List UInt8} {k : Nat} {w : World} {B : Nat} {v : Value} (_hk : k ≤ l.length + 5) (hL : L.length = l.length + 5) (hLk : L.take k = (l ++ List.replicate 5 0xA5).take k) (h : l.length ≤ k) (h2 : k < l.length + 5)
    (ho : OwnB w B 5 v (L.set k 0xA5)) : k + 1 ≤ l.length + 5 ∧ (L.set k 0xA5).length = l.length + 5 ∧ (L.set k 0xA5).take (k + 1) = (l ++ List.replicate 5 0xA5).take (k + 1) ∧ OwnB w B 5 v (L.set k 0xA5) := by
  refine ⟨by omega, by simp [hL], ?_, ho⟩
  rw [take_set_succ _ _ _ (by omega), hLk, take_getD _ _ (by simp; omega)]
  have : (l ++ List.replicate 5 (0xA5 : UInt8)).getD k 0 = 0xA5 := by
    simp only [List.getD_eq_getElem?_getD]
    rw [List.getElem?_append_right h, List.getElem?_replicate, if_pos (by omega)]
    rfl
  rw [this]
theorem sameBytes_ok (va vb : Value) (la lb : List UInt8) (w : World) (ha : Bytes w va la) (hb : Bytes w vb lb) : FnOk Try.prog 23 [va, vb] w (fun r w' => r = .bool (decide (la = lb)) ∧ Ext w w') := by
  have hla := ha.le64
  have hlb := hb.le64
  refine FnOk.enter (rs := [4]) Try.func23 rfl Try.ntmps23 Try.results23 rfl rfl ?_
  refine WF.seq ?_
  refine WF.region ?_
  refine WL.va rfl rfl rfl (X.assignB rfl) ?_
  refine WL.nil ?_
  refine thn_n ?_
  refine WF.seq ?_
  refine WF.seq ?_
  refine WF.region ?_
  refine WL.va rfl rfl rfl (X.move rfl) ?_
  refine WL.va rfl rfl rfl (X.len ha rfl Try.underlying27) ?_
  refine WL.va rfl rfl rfl (X.move rfl) ?_
  refine WL.va rfl rfl rfl (X.len hb rfl Try.underlying27) ?_
  refine WL.va rfl rfl rfl (X.neq rfl rfl) ?_
  refine WL.nil ?_
  refine thn_n ?_
  refine WF.cond rfl (fun h0_2 => ?_) (fun h0_2 => ?_)
  · have gh0_2 := (of_decide_eq_true h0_2)
    have hlen := gh0_2
    have hne : la ≠ lb := fun e => by rw [e] at gh0_2; exact gh0_2 rfl
    refine WF.seq ?_
    refine WF.region ?_
    refine WL.va rfl rfl rfl (X.assignB rfl) ?_
    refine WL.nil ?_
    refine thn_n ?_
    refine WF.ret ?_
    refine thn_r ?_
    refine fin_r ?_
    exact ⟨congrArg Value.bool (decide_eq_false hne).symm, (Ext.refl _)⟩
  · have gh0_2 := (Decidable.of_not_not (of_decide_eq_false h0_2))
    have hlen := gh0_2
    refine WF.skip ?_
    refine thn_n ?_
    refine WF.seq ?_
    refine WF.seq ?_
    refine WF.region ?_
    refine WL.va rfl rfl rfl (X.assignI rfl) ?_
    refine WL.nil ?_
    refine thn_n ?_
    refine WF.block ?_
    refine WF.named (fun F5 hF6 => ?_)
    refine WF.loopN (fun mL0 f' w' => ∃ (k : Nat), mL0 = la.length - k ∧ f' 5 = .int .i64 (k : Int) ∧ Agree [0, 1, 6, 7, 8, 9, 10] f' F5 ∧ Ext w w' ∧ k ≤ la.length ∧ la.take k = lb.take k) ?_ ?_
    · exact ⟨_, 0, rfl, (congrFun hF6 5), (Agree.refl _ _), (Ext.refl _), ⟨Nat.zero_le _, rfl⟩⟩
    · rintro mL0 fL0 wL0 ⟨k, hmL0, e5_L0, hAL0, hwL0, ⟨hk, hkk⟩⟩
      refine WF.seq ?_
      refine WF.seq ?_
      refine WF.region ?_
      refine WL.va rfl rfl rfl (X.moveI e5_L0) ?_
      refine WL.va rfl rfl rfl (X.move ((hAL0.eq 0).trans (congrFun hF6 0))) ?_
      refine WL.va rfl rfl rfl (X.len ha rfl Try.underlying27) ?_
      refine WL.va rfl rfl rfl (X.lss rfl rfl) ?_
      refine WL.nil ?_
      refine thn_n ?_
      refine WF.cond rfl (fun h1_7 => ?_) (fun h1_7 => ?_)
      · have gh1_7 := (of_decide_eq_true h1_7)
        have hlt := gh1_7
        refine WF.skip ?_
        refine thn_n ?_
        refine WF.seq ?_
        refine WF.block ?_
        refine WF.seq ?_
        refine WF.drawn (.q 0 (.q 1 (.q 2 (.q 3 (.q 4 (.q 5 (.q 6 (.q 7 (.q 8 .nil))))))))) (fun w' => Ext wL0 w') 9 (by kernel_rfl) (by kernel_rfl) (Ext.drew _) ?_
        refine WO.q rfl rfl rfl rfl (fun w' hE9 => (X.move ((hAL0.eq 0).trans (congrFun hF6 0)))) ?_
        refine WO.q rfl rfl rfl rfl (fun w' hE9 => (X.moveI e5_L0)) ?_
        refine WO.q rfl rfl rfl rfl (fun w' hE9 => (X.idx ha rfl rfl (by omega) Try.underlying27 Try.sizeOf5)) ?_
        refine WO.q rfl rfl rfl rfl (fun w' hE9 => (X.loadB ha (Ext.trans hwL0 hE9) rfl (by omega) Try.isAgg5)) ?_
        refine WO.q rfl rfl rfl rfl (fun w' hE9 => (X.move ((hAL0.eq 1).trans (congrFun hF6 1)))) ?_
        refine WO.q rfl rfl rfl rfl (fun w' hE9 => (X.moveI e5_L0)) ?_
        refine WO.q rfl rfl rfl rfl (fun w' hE9 => (X.idx hb rfl rfl (by omega) Try.underlying27 Try.sizeOf5)) ?_
        refine WO.q rfl rfl rfl rfl (fun w' hE9 => (X.loadB hb (Ext.trans hwL0 hE9) rfl (by omega) Try.isAgg5)) ?_
        refine WO.q rfl rfl rfl rfl (fun w' hE9 => (X.neq rfl rfl)) ?_
        refine WO.nil ?_
        refine WL.nil ?_
        refine thn_n ?_
        refine WF.cond rfl (fun h2_10 => ?_) (fun h2_10 => ?_)
        · have gh2_10 := (of_decide_eq_true h2_10)
          have hne : la ≠ lb := fun e => gh2_10 (by subst e; rfl)
          refine WF.seq ?_
          refine WF.region ?_
          refine WL.va rfl rfl rfl (X.assignB rfl) ?_
          refine WL.nil ?_
          refine thn_n ?_
          refine WF.ret ?_
          refine blk_r ?_
          refine thn_r ?_
          refine thn_r ?_
          refine blk_r ?_
          refine thn_r ?_
          refine fin_r ?_
          exact ⟨congrArg Value.bool (decide_eq_false hne).symm, (Ext.trans hwL0 (Ext.drew _))⟩
        · have gh2_10 := (Decidable.of_not_not (of_decide_eq_false h2_10))
          have heq := gh2_10
          refine WF.skip ?_
          refine blk_n ?_
          refine thn_n ?_
          refine WF.region ?_
          refine WL.va rfl rfl rfl (X.moveI e5_L0) ?_
          refine WL.va rfl rfl rfl (X.add rfl rfl (w64 (by omega))) ?_
          refine WL.va rfl rfl rfl (X.assignI rfl) ?_
          refine WL.nil ?_
          exact thn_n ⟨_, (by omega), k + 1, rfl, rfl, (by repeat (first | exact hAL0 | refine Agree.put ?_ rfl | refine Agree.named hF6 ?_)), (Ext.trans hwL0 (Ext.drew _)), ⟨by omega, by rw [take_getD _ _ (by omega), take_getD _ _ (by omega), hkk, byte_eq heq]⟩⟩
      · have gh1_7 := (of_decide_eq_false h1_7)
        have hlt := gh1_7
        refine WF.exit ?_
        refine thn_x ?_
        refine thn_x ?_
        refine blk_eq ?_
        refine thn_n ?_
        refine WF.seq ?_
        refine WF.region ?_
        refine WL.va rfl rfl rfl (X.assignB rfl) ?_
        refine WL.nil ?_
        refine thn_n ?_
        refine WF.ret ?_
        refine fin_r ?_
        exact ⟨congrArg Value.bool (decide_eq_true (by rw [List.take_of_length_le (by omega), List.take_of_length_le (by omega)] at hkk; exact hkk)).symm, hwL0⟩

theorem copyBytes_ok (v : Value) (l : List UInt8) (w : World) (hb : Bytes w v l) (hm : l.length ≤ 140737488355328) : FnOk Try.prog 16 [v] w (fun r w' => OwnB w' w.heap.size 5 r l ∧ Ext w w') := by
  have hl := hb.le64
  refine FnOk.enter (rs := [2]) Try.func16 rfl Try.ntmps16 Try.results16 rfl rfl ?_
  refine WF.seq ?_
  refine WF.region ?_
  refine WL.va rfl rfl rfl (X.assign rfl) ?_
  refine WL.nil ?_
  refine thn_n ?_
  refine WF.seq ?_
  refine WF.region ?_
  refine WL.va rfl rfl rfl (X.assign rfl) ?_
  refine WL.nil ?_
  refine thn_n ?_
  refine WF.seq ?_
  refine WF.seq ?_
  refine WF.region ?_
  refine WL.va rfl rfl rfl (X.assignI rfl) ?_
  refine WL.nil ?_
  refine thn_n ?_
  refine WF.block ?_
  refine WF.named (fun F1 hF2 => ?_)
  refine WF.loopN (fun mL0 f' w' => ∃ (k : Nat) (vo : Value), mL0 = l.length - k ∧ f' 4 = .int .i64 (k : Int) ∧ f' 3 = vo ∧ Agree [0, 2] f' F1 ∧ Ext w w' ∧ k ≤ l.length ∧ OwnB w' w.heap.size 5 vo (l.take k)) ?_ ?_
  · exact ⟨_, 0, (.slice none 0 0), rfl, (congrFun hF2 4), (congrFun hF2 3), (Agree.refl _ _), (Ext.refl _), ⟨Nat.zero_le _, OwnB.nil _ _ _⟩⟩
  · rintro mL0 fL0 wL0 ⟨k, vo, hmL0, e4_L0, e3_L0, hAL0, hwL0, ⟨hk, ho⟩⟩
    refine WF.seq ?_
    refine WF.seq ?_
    refine WF.region ?_
    refine WL.va rfl rfl rfl (X.moveI e4_L0) ?_
    refine WL.va rfl rfl rfl (X.move ((hAL0.eq 0).trans (congrFun hF2 0))) ?_
    refine WL.va rfl rfl rfl (X.len hb rfl Try.underlying27) ?_
    refine WL.va rfl rfl rfl (X.lss rfl rfl) ?_
    refine WL.nil ?_
    refine thn_n ?_
    refine WF.cond rfl (fun h0_3 => ?_) (fun h0_3 => ?_)
    · have gh0_3 := (of_decide_eq_true h0_3)
      refine WF.skip ?_
      refine thn_n ?_
      refine WF.seq ?_
      refine WF.block ?_
      refine WF.region ?_
      refine WL.va rfl rfl rfl (X.move e3_L0) ?_
      refine WL.va rfl rfl rfl (X.move ((hAL0.eq 0).trans (congrFun hF2 0))) ?_
      refine WL.va rfl rfl rfl (X.moveI e4_L0) ?_
      refine WL.va rfl rfl rfl (X.idx hb rfl rfl (by omega) Try.underlying27 Try.sizeOf5) ?_
      refine WL.va rfl rfl rfl (X.loadB hb hwL0 rfl (by omega) Try.isAgg5) ?_
      refine WL.op rfl (OW.lits (vs := [u8 (l.getD k 0)]) (evp_cons rfl evp_nil) Try.underlying27 Try.sizeOf5 Try.zeroValue5 ⟨rfl, trivial⟩ rfl rfl rfl ?_ (by decide))
      intro v6 w5 ho8 hx7
      have ho1 := ho.ext hx7
      refine WL.op rfl (OW.appendB ho1 (show Bytes _ _ [(l.getD k 0)] from Row.of_own ho8) rfl rfl Try.underlying27 Try.type5 rfl rfl rfl rfl (by simp; omega) ((Ext.trans hwL0 hx7)).size ?_ (by decide))
      intro v10 w9 ho12 hx11 hmvhx11
      have ho2 := ho12
      refine WL.va rfl rfl rfl (X.assign rfl) ?_
      refine WL.nil ?_
      refine blk_n ?_
      refine thn_n ?_
      refine WF.region ?_
      refine WL.va rfl rfl rfl (X.moveI e4_L0) ?_
      refine WL.va rfl rfl rfl (X.add rfl rfl (w64 (by omega))) ?_
      refine WL.va rfl rfl rfl (X.assignI rfl) ?_
      refine WL.nil ?_
      exact thn_n ⟨_, (by omega), k + 1, _, rfl, rfl, rfl, (by repeat (first | exact hAL0 | refine Agree.put ?_ rfl | refine Agree.named hF2 ?_)), (Ext.own (Ext.trans hwL0 hx7) ho1 (Nat.le_refl _) hx11), ⟨by omega, by rw [take_getD _ _ (by omega)]; exact ho2⟩⟩
    · have gh0_3 := (of_decide_eq_false h0_3)
      refine WF.exit ?_
      refine thn_x ?_
      refine thn_x ?_
      refine blk_eq ?_
      refine thn_n ?_
      refine WF.seq ?_
      refine WF.region ?_
      refine WL.va rfl rfl rfl (X.move e3_L0) ?_
      refine WL.va rfl rfl rfl (X.assign rfl) ?_
      refine WL.nil ?_
      refine thn_n ?_
      refine WF.ret ?_
      refine fin_r ?_
      exact ⟨by rw [show l.take k = l from List.take_of_length_le (by omega)] at ho; exact ho, hwL0⟩

theorem spoilBytes_ok (v : Value) (l : List UInt8) (w : World) (B : Nat) (ho : OwnB w B 5 v l) : FnOk Try.prog 14 [v] w (fun _ w' => (∃ l', OwnB w' B 5 v l') ∧ w.grownBy w' v.ownBlock) := by
  have hb := Bytes.of_own ho
  have hl := hb.le64
  refine FnOk.enter (rs := []) Try.func14 rfl Try.ntmps14 Try.results14 rfl rfl ?_
  refine WF.seq ?_
  refine WF.region ?_
  refine WL.va rfl rfl rfl (X.assignI rfl) ?_
  refine WL.nil ?_
  refine thn_n ?_
  refine WF.block ?_
  refine WF.named (fun F1 hF2 => ?_)
  refine WF.loopN (fun mL0 f' w' => ∃ (k : Nat) (L : List UInt8), mL0 = l.length - k ∧ f' 2 = .int .i64 (k : Int) ∧ Agree [0] f' F1 ∧ w.grownBy w' v.ownBlock ∧ k ≤ l.length ∧ L.length = l.length ∧ OwnB w' B 5 v L) ?_ ?_
  · exact ⟨_, 0, l, rfl, (congrFun hF2 2), (Agree.refl _ _), (World.grownBy.refl _ _), ⟨Nat.zero_le _, rfl, ho⟩⟩
  · rintro mL0 fL0 wL0 ⟨k, L, hmL0, e2_L0, hAL0, hwL0, ⟨hk, hL, ho⟩⟩
    refine WF.seq ?_
    refine WF.seq ?_
    refine WF.region ?_
    refine WL.va rfl rfl rfl (X.moveI e2_L0) ?_
    refine WL.va rfl rfl rfl (X.move ((hAL0.eq 0).trans (congrFun hF2 0))) ?_
    refine WL.va rfl rfl rfl (X.len (Bytes.of_own ho) rfl Try.underlying27) ?_
    refine WL.va rfl rfl rfl (X.lss rfl rfl) ?_
    refine WL.nil ?_
    refine thn_n ?_
    refine WF.cond rfl (fun h0_3 => ?_) (fun h0_3 => ?_)
    · have gh0_3 := (of_decide_eq_true h0_3)
      refine WF.skip ?_
      refine thn_n ?_
      refine WF.seq ?_
      refine WF.block ?_
      refine WF.region ?_
      refine WL.va rfl rfl rfl (X.move ((hAL0.eq 0).trans (congrFun hF2 0))) ?_
      refine WL.va rfl rfl rfl (X.moveI e2_L0) ?_
      refine WL.va rfl rfl rfl (X.move ((hAL0.eq 0).trans (congrFun hF2 0))) ?_
      refine WL.va rfl rfl rfl (X.moveI e2_L0) ?_
      refine WL.va rfl rfl rfl (X.idx (Bytes.of_own ho) rfl rfl (by omega) Try.underlying27 Try.sizeOf5) ?_
      refine WL.va rfl rfl rfl (X.loadB (Bytes.of_own ho) (Ext.refl _) rfl (by omega) Try.isAgg5) ?_
      refine WL.va rfl rfl rfl (X.xor rfl rfl (xor8 _ 0x5A)) ?_
      refine WL.va rfl rfl rfl (X.idx (Bytes.of_own ho) rfl rfl (by omega) Try.underlying27 Try.sizeOf5) ?_
      refine WL.op rfl (OW.storeB ho (by omega) rfl rfl Try.sizeOf5 ?_)
      intro w5 ho8 hx7
      have ho1 := ho8
      have hg1 := hx7
      refine WL.nil ?_
      refine blk_n ?_
      refine thn_n ?_
      refine WF.region ?_
      refine WL.va rfl rfl rfl (X.moveI e2_L0) ?_
      refine WL.va rfl rfl rfl (X.add rfl rfl (w64 (by omega))) ?_
      refine WL.va rfl rfl rfl (X.assignI rfl) ?_
      refine WL.nil ?_
      exact thn_n ⟨_, (by omega), k + 1, _, rfl, rfl, (by repeat (first | exact hAL0 | refine Agree.put ?_ rfl | refine Agree.named hF2 ?_)), (spoil_trans hwL0 hg1), ⟨by omega, by simp [hL], ho1⟩⟩
    · have gh0_3 := (of_decide_eq_false h0_3)
      refine WF.exit ?_
      refine thn_x ?_
      refine thn_x ?_
      refine blk_eq ?_
      refine fin_n ?_
      exact ⟨⟨_, ho⟩, hwL0⟩

/-- the bytes of glebekit.Row -/
def rowB (n : Nat) : List UInt8 := (List.range n).map fun i => UInt8.ofNat (i * 7 + 1)
theorem rowB_len (n : Nat) : (rowB n).length = n := by simp [rowB]
theorem rowB_step {n k : Nat} {L : List UInt8} (hk : k < n) (hL : L.length = n) (h : L.take k = (rowB n).take k) : (L.set k (UInt8.ofNat (k * 7 + 1))).take (k + 1) = (rowB n).take (k + 1) := by
  rw [take_set_succ _ _ _ (by omega), h, List.take_succ_eq_append_getElem (by rw [rowB_len]; omega)]
  simp [rowB]
theorem rowB_u8 (k : Nat) : IntKind.u8.wrap ((k : Int) * 7 + 1) = ((UInt8.ofNat (k * 7 + 1)).toNat : Int) := by
  rw [IntKind.wrap_u8, UInt8.toNat_ofNat']; omega
theorem max0 (n : Int) : max 0 n = (n.toNat : Int) := by omega
theorem row_ok (n : Int) (w : World) (hn : n ≤ 281474976710651) : FnOk Try.prog 20 [i64 n] w (fun r w' => OwnB w' w.heap.size 5 r (rowB n.toNat) ∧ Ext w w') := by
  refine FnOk.enter (rs := [2]) Try.func20 rfl Try.ntmps20 Try.results20 rfl rfl ?_
  refine WF.seq ?_
  refine WF.region ?_
  refine WL.va rfl rfl rfl (X.assign rfl) ?_
  refine WL.nil ?_
  refine thn_n ?_
  refine WF.seq ?_
  refine WF.region ?_
  refine WL.va rfl rfl rfl (X.moveI rfl) ?_
  refine WL.va rfl rfl rfl ((X.max2 rfl rfl).trans (by rw [max0])) ?_
  refine WL.op rfl (OW.makeB (n := n.toNat) rfl rfl Try.underlying27 Try.type5 rfl rfl rfl (by omega) ?_ (by decide))
  intro v2 w1 ho4 hx3
  have hmk := ho4
  obtain ⟨vm, hvm⟩ : ∃ vm, vm = v2 := ⟨_, rfl⟩
  subst hvm
  refine WL.va rfl rfl rfl (X.assign rfl) ?_
  refine WL.nil ?_
  refine thn_n ?_
  refine WF.seq ?_
  refine WF.seq ?_
  refine WF.region ?_
  refine WL.va rfl rfl rfl (X.assignI rfl) ?_
  refine WL.nil ?_
  refine thn_n ?_
  refine WF.block ?_
  refine WF.named (fun F5 hF6 => ?_)
  refine WF.loopN (fun mL0 f' w' => ∃ (k : Nat) (L : List UInt8), mL0 = n.toNat - k ∧ f' 4 = .int .i64 (k : Int) ∧ Agree [0, 2, 3, 5, 6, 7] f' F5 ∧ Ext w w' ∧ k ≤ n.toNat ∧ L.length = n.toNat ∧ L.take k = (rowB n.toNat).take k ∧ OwnB w' w.heap.size 5 vm L) ?_ ?_
  · exact ⟨_, 0, List.replicate n.toNat 0, rfl, (congrFun hF6 4), (Agree.refl _ _), hx3, ⟨Nat.zero_le _, by simp, by simp, hmk⟩⟩
  · rintro mL0 fL0 wL0 ⟨k, L, hmL0, e4_L0, hAL0, hwL0, ⟨hk, hL, hLk, ho⟩⟩
    refine WF.seq ?_
    refine WF.seq ?_
    refine WF.region ?_
    refine WL.va rfl rfl rfl (X.moveI e4_L0) ?_
    refine WL.va rfl rfl rfl (X.move ((hAL0.eq 3).trans (congrFun hF6 3))) ?_
    refine WL.va rfl rfl rfl (X.len (Bytes.of_own ho) rfl Try.underlying27) ?_
    refine WL.va rfl rfl rfl (X.lss rfl rfl) ?_
    refine WL.nil ?_
    refine thn_n ?_
    refine WF.cond rfl (fun h0_7 => ?_) (fun h0_7 => ?_)
    · have gh0_7 := (of_decide_eq_true h0_7)
      refine WF.skip ?_
      refine thn_n ?_
      refine WF.seq ?_
      refine WF.block ?_
      refine WF.region ?_
      refine WL.va rfl rfl rfl (X.move ((hAL0.eq 3).trans (congrFun hF6 3))) ?_
      refine WL.va rfl rfl rfl (X.moveI e4_L0) ?_
      refine WL.va rfl rfl rfl (X.moveI e4_L0) ?_
      refine WL.va rfl rfl rfl (X.mul rfl rfl (w64 (by omega))) ?_
      refine WL.va rfl rfl rfl (X.add rfl rfl (w64 (by omega))) ?_
      refine WL.va rfl rfl rfl (X.conv rfl (congrArg Option.isSome Try.underlying3) Try.underlying5 (rowB_u8 k)) ?_
      refine WL.va rfl rfl rfl (X.idx (Bytes.of_own ho) rfl rfl (by omega) Try.underlying27 Try.sizeOf5) ?_
      refine WL.op rfl (OW.storeB (c := UInt8.ofNat (k * 7 + 1)) ho (by omega) rfl rfl Try.sizeOf5 ?_)
      intro w9 ho12 hx11
      have ho1 := ho12
      refine WL.nil ?_
      refine blk_n ?_
      refine thn_n ?_
      refine WF.region ?_
      refine WL.va rfl rfl rfl (X.moveI e4_L0) ?_
      refine WL.va rfl rfl rfl (X.add rfl rfl (w64 (by omega))) ?_
      refine WL.va rfl rfl rfl (X.assignI rfl) ?_
      refine WL.nil ?_
      exact thn_n ⟨_, (by omega), k + 1, _, rfl, rfl, (by repeat (first | exact hAL0 | refine Agree.put ?_ rfl | refine Agree.named hF6 ?_)), (Ext.own hwL0 ho (Nat.le_refl _) hx11), ⟨by omega, by simp [hL], rowB_step (by omega) hL hLk, ho1⟩⟩
    · have gh0_7 := (of_decide_eq_false h0_7)
      refine WF.exit ?_
      refine thn_x ?_
      refine thn_x ?_
      refine blk_eq ?_
      refine thn_n ?_
      refine WF.seq ?_
      refine WF.region ?_
      refine WL.va rfl rfl rfl (X.move ((hAL0.eq 3).trans (congrFun hF6 3))) ?_
      refine WL.va rfl rfl rfl (X.assign rfl) ?_
      refine WL.nil ?_
      refine thn_n ?_
      refine WF.ret ?_
      refine fin_r ?_
      exact ⟨by rw [show L = rowB n.toNat from by rw [List.take_of_length_le (by omega), List.take_of_length_le (by rw [rowB_len]; omega)] at hLk; exact hLk] at ho; exact ho, hwL0⟩

theorem cloneB_ok (v : Value) (l : List UInt8) (w : World) (hb : Bytes w v l) (hn : l.length ≤ 1000000) : FnOk Try.prog 29 [v] w (fun r w' => OwnB w' w.heap.size 5 r l ∧ Ext w w') := by
  refine FnOk.enter (rs := [2]) Try.func29 rfl Try.ntmps29 Try.results29 rfl rfl ?_
  refine WF.seq ?_
  refine WF.region ?_
  refine WL.va rfl rfl rfl (X.assign rfl) ?_
  refine WL.nil ?_
  refine thn_n ?_
  refine WF.seq ?_
  refine WF.seq ?_
  refine WF.region ?_
  refine WL.va rfl rfl rfl (X.move rfl) ?_
  refine WL.va rfl rfl rfl (X.eqlNilS hb rfl rfl Try.underlying27) ?_
  refine WL.nil ?_
  refine thn_n ?_
  refine WF.cond rfl (fun h0_1 => ?_) (fun h0_1 => ?_)
  · have gh0_1 := h0_1
    have hl0 : l.length = 0 := isNilS_len hb gh0_1
    obtain rfl : l = [] := List.eq_nil_of_length_eq_zero hl0
    refine WF.seq ?_
    refine WF.region ?_
    refine WL.va rfl rfl rfl (X.assign rfl) ?_
    refine WL.nil ?_
    refine thn_n ?_
    refine WF.ret ?_
    refine thn_r ?_
    refine fin_r ?_
    exact ⟨World.ownsRow_nil _ _ _ _, (Ext.refl _)⟩
  · have gh0_1 := h0_1
    refine WF.skip ?_
    refine thn_n ?_
    refine WF.seq ?_
    refine WF.region ?_
    refine WL.op rfl (OW.lit0 Try.underlying27 Try.sizeOf5 ?_ (by decide))
    intro v4 w3 ho6 hx5
    have hn0 : OwnB w3 _ _ v4 [] := ho6
    refine WL.va rfl rfl rfl (X.move rfl) ?_
    refine WL.op rfl (OW.appendB hn0 (Row.ext hb hx5) rfl rfl Try.underlying27 Try.type5 rfl rfl rfl rfl (by simp; omega) (hx5).size ?_ (by decide))
    intro v8 w7 ho10 hx9 hmvhx9
    have ho := ho10
    refine WL.va rfl rfl rfl (X.assign rfl) ?_
    refine WL.nil ?_
    refine thn_n ?_
    refine WF.ret ?_
    refine fin_r ?_
    exact ⟨ho, (Ext.own hx5 hn0 (Nat.le_refl _) hx9)⟩

theorem clone_ok (e : SV) (w : World) (hb : Bytes w e.2 e.1.Data) (hn : e.1.Data.length ≤ 1000000) : FnOk Try.prog 22 [agg (SV.c e)] w (fun r w' => ∃ dv, r = agg (SV.c (e.1, dv)) ∧ OwnB w' w.heap.size 5 dv e.1.Data ∧ Ext w w') := by
  refine FnOk.enterC (rs := [.cell 2 45]) Try.func22 rfl Try.ntmps22 Try.results22 rfl rfl ?_
  refine WF.seq ?_
  refine WF.region ?_
  refine WL.op rfl (OW.boxA (cs := (SV.c e)) rfl ?_ (by decide))
  intro g1 w1 heg1 hlg1 hO1 hx3
  have := World.grownBy.size hx3
  refine WL.op rfl (OW.allocO (cs := [i64 0, i64 0, i64 0, .slice none 0 0]) Try.zeroValue45 rfl ?_ (by decide))
  intro g2 w5 heg2 hlg2 hO2 hx7
  have := World.grownBy.size hx7
  refine WL.nil ?_
  refine thn_n ?_
  refine WF.seq ?_
  refine WF.region ?_
  refine WL.va rfl rfl rfl (X.fieldAddrO (off := 2) rfl Try.underlying45 rfl rfl Try.sizeOf29) ?_
  refine WL.va rfl rfl rfl (X.fieldAddrP (off := 1) rfl Try.underlying29 rfl rfl Try.sizeOf27) ?_
  refine WL.va rfl rfl rfl (X.loadO hO1 hx7 rfl rfl Try.isAgg27) ?_
  have szq := World.grownBy.size (Ext.trans hx3 hx7)
  refine WL.c rfl rfl rfl (X.call Try.call29 (evl_cons rfl evl_nil)) (cloneB_ok _ _ _ (Row.ext hb (Ext.trans hx3 hx7)) hn) ?_
  rintro dv w9 ⟨od, hx10⟩
  have := World.grownBy.size hx10
  refine WL.va rfl rfl rfl (X.fieldAddrO (off := 2) rfl Try.underlying45 rfl rfl Try.sizeOf29) ?_
  refine WL.va rfl rfl rfl (X.fieldAddrP (off := 1) rfl Try.underlying29 rfl rfl Try.sizeOf27) ?_
  refine WL.op rfl (OW.storeO (hO1.ext (Ext.trans hx7 hx10)) (Nat.le_of_ble_eq_true rfl) rfl rfl (own_one od) Try.sizeOf27 ?_)
  intro w11 hO1 hx13
  have := World.grownBy.size hx13
  replace hO2 := (hO2.ext hx10).keptO hx13 (by omega)
  replace od := own_keptO od hx13 (by omega)
  replace hO1 : Blk _ _ _ (SV.c (e.1, dv)) := hO1
  refine WL.nil ?_
  refine thn_n ?_
  refine WF.seq ?_
  refine WF.region ?_
  refine WL.va rfl rfl rfl (X.loadOA hO1 (Ext.refl _) rfl rfl Try.isAgg45 Try.sizeOf45) ?_
  refine WL.op rfl (OW.storeOA hO2 rfl rfl rfl (SV.c_one (e := (e.1, dv)) (Bytes.of_own od)) Try.sizeOf45 ?_)
  intro w15 hO2 hx17
  have := World.grownBy.size hx17
  replace hO1 := hO1.keptO hx17 (by omega)
  replace od := own_keptO od hx17 (by omega)
  replace hO2 : Blk _ _ _ (SV.c (e.1, dv)) := hO2
  refine WL.nil ?_
  refine thn_n ?_
  refine WF.ret ?_
  refine finC_r (vs := [_]) ⟨⟨_, rfl, readO hO2 Try.isAgg45 Try.sizeOf45⟩, trivial⟩ ?_
  exact ⟨dv, rfl, own_mono od szq, (Ext.store (Ext.store (Ext.trans (Ext.trans hx3 hx7) hx10) hx13 (by omega)) hx17 (by omega))⟩

theorem findLit_ok (e : SV) (c : Int) (g : Nat) (w : World) (h : Blk w g 3 [i64 c]) : FnOk Try.prog 28 [agg (SV.c e), at_ g] w (fun r w' => r = .bool (decide (e.1.Client = c)) ∧ Ext w w') := by
  refine FnOk.enter (rs := [3]) Try.func28 rfl Try.ntmps28 Try.results28 rfl rfl ?_
  refine WF.seq ?_
  refine WF.region ?_
  refine WL.op rfl (OW.boxA (cs := (SV.c e)) rfl ?_ (by decide))
  intro g2 w1 heg2 hlg2 hO2 hx3
  have := World.grownBy.size hx3
  refine WL.va rfl rfl rfl (X.assignB rfl) ?_
  refine WL.nil ?_
  refine thn_n ?_
  refine WF.seq ?_
  refine WF.region ?_
  refine WL.va rfl rfl rfl (X.fieldAddrO (off := 0) rfl Try.underlying45 rfl rfl Try.sizeOf3) ?_
  refine WL.va rfl rfl rfl (X.loadO hO2 (Ext.refl _) rfl rfl Try.isAgg3) ?_
  refine WL.va rfl rfl rfl (X.loadO h hx3 rfl rfl Try.isAgg3) ?_
  refine WL.va rfl rfl rfl (X.eql rfl rfl) ?_
  refine WL.va rfl rfl rfl (X.assignB rfl) ?_
  refine WL.nil ?_
  refine thn_n ?_
  refine WF.ret ?_
  refine fin_r ?_
  exact ⟨rfl, hx3⟩

theorem noteLit_ok (e : SV) (c : Int) (g : Nat) (w : World) (h : Blk w g 3 [i64 c]) : FnOk Try.prog 26 [agg (SV.c e), at_ g] w (fun r w' => r = .bool (decide (c < e.1.Client)) ∧ Ext w w') := by
  refine FnOk.enter (rs := [3]) Try.func26 rfl Try.ntmps26 Try.results26 rfl rfl ?_
  refine WF.seq ?_
  refine WF.region ?_
  refine WL.op rfl (OW.boxA (cs := (SV.c e)) rfl ?_ (by decide))
  intro g2 w1 heg2 hlg2 hO2 hx3
  have := World.grownBy.size hx3
  refine WL.va rfl rfl rfl (X.assignB rfl) ?_
  refine WL.nil ?_
  refine thn_n ?_
  refine WF.seq ?_
  refine WF.region ?_
  refine WL.va rfl rfl rfl (X.fieldAddrO (off := 0) rfl Try.underlying45 rfl rfl Try.sizeOf3) ?_
  refine WL.va rfl rfl rfl (X.loadO hO2 (Ext.refl _) rfl rfl Try.isAgg3) ?_
  refine WL.va rfl rfl rfl (X.loadO h hx3 rfl rfl Try.isAgg3) ?_
  refine WL.va rfl rfl rfl (X.gtr rfl rfl) ?_
  refine WL.va rfl rfl rfl (X.assignB rfl) ?_
  refine WL.nil ?_
  refine thn_n ?_
  refine WF.ret ?_
  refine fin_r ?_
  exact ⟨rfl, hx3⟩

theorem indexS_ok (v vf : Value) (cs : List Value) (n : Nat) (p : Nat → Bool) (w : World) (hb : Row w v n 4 cs) (hf : ∀ k w1, k < n → Ext w w1 → CloOk Try.prog vf [agg (el cs 4 k)] w1 (fun r w2 => r = .bool (p k) ∧ Ext w1 w2)) : FnOk Try.prog 25 [v, vf] w (fun r w' => Idx p n r ∧ Ext w w') := by
  have hl : (n : Int) ≤ 9223372036854775807 := by obtain ⟨_, c, _, h1, h2, _⟩ := hb.shape; unfold maxLen at h2; omega
  refine FnOk.enter (rs := [4]) Try.func25 rfl Try.ntmps25 Try.results25 rfl rfl ?_
  refine WF.seq ?_
  refine WF.region ?_
  refine WL.va rfl rfl rfl (X.assignI rfl) ?_
  refine WL.nil ?_
  refine thn_n ?_
  refine WF.seq ?_
  refine WF.seq ?_
  refine WF.region ?_
  refine WL.va rfl rfl rfl (X.move rfl) ?_
  refine WL.va rfl rfl rfl (X.len hb rfl Try.underlying22) ?_
  refine WL.va rfl rfl rfl (X.moveI rfl) ?_
  refine WL.nil ?_
  refine thn_n ?_
  refine WF.block ?_
  refine WF.named (fun F1 hF2 => ?_)
  refine WF.loopN (fun mL0 f' w' => ∃ (k : Nat), mL0 = n - k ∧ f' 8 = .int .i64 (k : Int) ∧ Agree [0, 1, 6, 7] f' F1 ∧ Ext w w' ∧ k ≤ n ∧ ∀ j, j < k → p j = false) ?_ ?_
  · exact ⟨_, 0, rfl, (congrFun hF2 8), (Agree.refl _ _), (Ext.refl _), ⟨Nat.zero_le _, fun j hj => by omega⟩⟩
  · rintro mL0 fL0 wL0 ⟨k, hmL0, e8_L0, hAL0, hwL0, ⟨hk, hno⟩⟩
    refine WF.seq ?_
    refine WF.region ?_
    refine WL.va rfl rfl rfl (X.lss e8_L0 ((hAL0.eq 7).trans (congrFun hF2 7))) ?_
    refine WL.nil ?_
    refine thn_n ?_
    refine WF.seq ?_
    refine WF.cond rfl (fun h0_3 => ?_) (fun h0_3 => ?_)
    · have gh0_3 := (of_decide_eq_true h0_3)
      have hka : k < n := by omega
      refine WF.skip ?_
      refine thn_n ?_
      refine WF.seq ?_
      refine WF.block ?_
      refine WF.seq ?_
      refine WF.region ?_
      refine WL.va rfl rfl rfl (X.moveI e8_L0) ?_
      refine WL.va rfl rfl rfl (X.assignI rfl) ?_
      refine WL.nil ?_
      refine thn_n ?_
      refine WF.seq ?_
      refine WF.region ?_
      refine WL.va rfl rfl rfl (X.move ((hAL0.eq 1).trans (congrFun hF2 1))) ?_
      refine WL.va rfl rfl rfl (X.move ((hAL0.eq 0).trans (congrFun hF2 0))) ?_
      refine WL.va rfl rfl rfl (X.moveI rfl) ?_
      refine WL.va rfl rfl rfl (X.idx hb rfl rfl (by omega) Try.underlying22 Try.sizeOf45) ?_
      refine WL.va rfl rfl rfl (X.loadEl hb hwL0 rfl (by omega) rfl Try.isAgg45 Try.sizeOf45) ?_
      refine WL.op rfl (OW.callV rfl (evl_cons rfl evl_nil) (hf k _ hka hwL0) ?_ (by decide))
      rintro v6 w5 ⟨rfl, hx7⟩
      refine WL.nil ?_
      refine thn_n ?_
      refine WF.cond rfl (fun h1_8 => ?_) (fun h1_8 => ?_)
      · have gh1_8 := h1_8
        have hpk := gh1_8
        refine WF.seq ?_
        refine WF.region ?_
        refine WL.va rfl rfl rfl (X.moveI rfl) ?_
        refine WL.va rfl rfl rfl (X.assignI rfl) ?_
        refine WL.nil ?_
        refine thn_n ?_
        refine WF.ret ?_
        refine blk_r ?_
        refine thn_r ?_
        refine thn_r ?_
        refine blk_r ?_
        refine thn_r ?_
        refine fin_r ?_
        exact ⟨⟨_, rfl, .inl ⟨k, hka, rfl, hpk, hno⟩⟩, (Ext.trans hwL0 hx7)⟩
      · have gh1_8 := h1_8
        have hpk := gh1_8
        refine WF.skip ?_
        refine blk_n ?_
        refine thn_n ?_
        refine WF.region ?_
        refine WL.va rfl rfl rfl (X.add e8_L0 rfl (w64 (by omega))) ?_
        refine WL.va rfl rfl rfl (X.moveI rfl) ?_
        refine WL.nil ?_
        exact thn_n ⟨_, (by omega), k + 1, rfl, rfl, (by repeat (first | exact hAL0 | refine Agree.put ?_ rfl | refine Agree.named hF2 ?_)), (Ext.trans hwL0 hx7), ⟨by omega, fun j hj => by rcases Nat.lt_succ_iff_lt_or_eq.1 hj with h | rfl; exact hno j h; exact hpk⟩⟩
    · have gh0_3 := (of_decide_eq_false h0_3)
      refine WF.exit ?_
      refine thn_x ?_
      refine thn_x ?_
      refine blk_eq ?_
      refine thn_n ?_
      refine WF.seq ?_
      refine WF.region ?_
      refine WL.va rfl rfl rfl (X.assignI rfl) ?_
      refine WL.nil ?_
      refine thn_n ?_
      refine WF.ret ?_
      refine fin_r ?_
      exact ⟨⟨_, rfl, .inr ⟨rfl, fun j hj => hno j (by omega)⟩⟩, hwL0⟩

set_option maxHeartbeats 2000000 in
theorem insertS_ok (v va : Value) (xs news : List Value) (n i : Nat) (w : World) (B B2 : Nat) (ho : w.ownsRow B 45 4 v n xs) (hv : w.ownsRow B2 45 4 va 1 news) (hap : Apart va v) (h1x : ∀ u ∈ xs, u.oneCell' = true) (h1n : ∀ u ∈ news, u.oneCell' = true) (hi : i ≤ n) (hn : n ≤ 1000000) (hB : B ≤ w.heap.size) : FnOk Try.prog 27 [v, i64 (i : Int), va] w (fun r w' => w'.ownsRow B 45 4 r (n + 1) (xs.take (i * 4) ++ news ++ xs.drop (i * 4)) ∧ w.grownBy w' v.ownBlock ∧ Moved w v r) := by
  have hxl := ho.1
  have hnl := hv.1
  have hcp := own_cap ho
  unfold maxLen at hcp
  refine FnOk.enter (rs := [6]) Try.func27 rfl Try.ntmps27 Try.results27 rfl rfl ?_
  refine WF.seq ?_
  refine WF.region ?_
  refine WL.va rfl rfl rfl (X.assign rfl) ?_
  refine WL.nil ?_
  refine thn_n ?_
  refine WF.seq ?_
  refine WF.region ?_
  refine WL.va rfl rfl rfl (X.move rfl) ?_
  refine WL.va rfl rfl rfl (X.moveI rfl) ?_
  refine WL.va rfl rfl rfl (X.slL (Row.of_own ho) rfl rfl (by omega) Try.underlying22 Try.sizeOf45) ?_
  refine WL.nil ?_
  refine thn_n ?_
  refine WF.seq ?_
  refine WF.region ?_
  refine WL.va rfl rfl rfl (X.move rfl) ?_
  refine WL.va rfl rfl rfl (X.len (Row.of_own hv) rfl Try.underlying22) ?_
  refine WL.va rfl rfl rfl (X.assignI rfl) ?_
  refine WL.nil ?_
  refine thn_n ?_
  refine WF.seq ?_
  refine WF.seq ?_
  refine WF.region ?_
  refine WL.va rfl rfl rfl (X.moveI rfl) ?_
  refine WL.va rfl rfl rfl (X.eql rfl rfl) ?_
  refine WL.nil ?_
  refine thn_n ?_
  refine WF.cond rfl (fun h0_1 => ?_) (fun h0_1 => ?_)
  · have gh0_1 := (of_decide_eq_true h0_1)
    exact absurd gh0_1 (by omega)
  · have gh0_1 := (of_decide_eq_false h0_1)
    refine WF.skip ?_
    refine thn_n ?_
    refine WF.seq ?_
    refine WF.region ?_
    refine WL.va rfl rfl rfl (X.move rfl) ?_
    refine WL.va rfl rfl rfl (X.len (Row.of_own ho) rfl Try.underlying22) ?_
    refine WL.va rfl rfl rfl (X.assignI rfl) ?_
    refine WL.nil ?_
    refine thn_n ?_
    refine WF.seq ?_
    refine WF.seq ?_
    refine WF.region ?_
    refine WL.va rfl rfl rfl (X.moveI rfl) ?_
    refine WL.va rfl rfl rfl (X.moveI rfl) ?_
    refine WL.va rfl rfl rfl (X.eql rfl rfl) ?_
    refine WL.nil ?_
    refine thn_n ?_
    refine WF.cond rfl (fun h1_3 => ?_) (fun h1_3 => ?_)
    · have gh1_3 := (of_decide_eq_true h1_3)
      refine WF.seq ?_
      refine WF.region ?_
      refine WL.va rfl rfl rfl (X.move rfl) ?_
      refine WL.va rfl rfl rfl (X.move rfl) ?_
      refine WL.op rfl (OW.append (bytes := 48) ho (Row.of_own hv) h1n rfl rfl Try.underlying22 Try.type45 rfl rfl rfl rfl (by decide) (by unfold maxLen; omega) (by omega) hB ?_ (by decide))
      intro v6 w5 ho8 hx7 hmvhx7
      have o7 := ho8
      have g7 := hx7
      have m7 := hmvhx7
      refine WL.va rfl rfl rfl (X.assign rfl) ?_
      refine WL.nil ?_
      refine thn_n ?_
      refine WF.ret ?_
      refine thn_r ?_
      refine fin_r ?_
      obtain rfl : i = n := by omega
      refine ⟨?_, g7, m7⟩
      rw [List.take_of_length_le (by omega), List.drop_of_length_le (by omega), List.append_nil]; exact o7
    · have gh1_3 := (of_decide_eq_false h1_3)
      refine WF.skip ?_
      refine thn_n ?_
      refine WF.seq ?_
      refine WF.seq ?_
      refine WF.region ?_
      refine WL.va rfl rfl rfl (X.moveI rfl) ?_
      refine WL.va rfl rfl rfl (X.moveI rfl) ?_
      refine WL.va rfl rfl rfl (X.add rfl rfl (w64 (by omega))) ?_
      refine WL.va rfl rfl rfl (X.move rfl) ?_
      refine WL.va rfl rfl rfl (X.cap (Row.of_own ho) rfl Try.underlying22) ?_
      refine WL.va rfl rfl rfl (X.gtr rfl rfl) ?_
      refine WL.nil ?_
      refine thn_n ?_
      refine WF.cond rfl (fun h2_9 => ?_) (fun h2_9 => ?_)
      · have gh2_9 := (of_decide_eq_true h2_9)
        have hlt : i < n := by omega
        refine WF.seq ?_
        refine WF.region ?_
        refine WL.va rfl rfl rfl (X.move rfl) ?_
        refine WL.va rfl rfl rfl (X.moveI rfl) ?_
        refine WL.va rfl rfl rfl (X.slH (Row.of_own ho) rfl rfl (by omega) Try.underlying22 Try.sizeOf45) ?_
        refine WL.va rfl rfl rfl (X.moveI rfl) ?_
        refine WL.va rfl rfl rfl (X.moveI rfl) ?_
        refine WL.va rfl rfl rfl (X.add rfl rfl (w64 (by omega))) ?_
        refine WL.va rfl rfl rfl (X.moveI rfl) ?_
        refine WL.va rfl rfl rfl (X.sub rfl rfl (show IntKind.i64.wrap ((n : Int) + ((1 : Nat) : Int) - (i : Int)) = ((n + 1 - i : Nat) : Int) from (w64 (by omega)).trans (by omega))) ?_
        refine WL.op rfl (OW.appendMake (bytes := 48) (m := n + 1 - i) (own_take ho i hi) rfl rfl Try.underlying3 Try.underlying22 Try.type45 rfl rfl rfl rfl (by decide) (by unfold maxLen; omega) (by omega) (by omega) (by rw [cap_part ho]; omega) ?_ (by decide))
        intro v12 w11 ho14 hx13
        obtain ⟨zs, hzl, o9⟩ : ∃ zs : List Value, zs.length = (n + 1 - i) * 4 ∧ World.ownsRow w11 w.heap.size 45 4 v12 (n + 1) (xs.take (i * 4) ++ zs) := ⟨_, (by simp [size_madeCells]), (show i + (n + 1 - i) = n + 1 by omega) ▸ ho14⟩
        have szw := World.grownBy.size hx13
        refine WL.va rfl rfl rfl (X.assign rfl) ?_
        refine WL.nil ?_
        refine thn_n ?_
        refine WF.seq ?_
        refine WF.region ?_
        refine WL.va rfl rfl rfl (X.move rfl) ?_
        refine WL.va rfl rfl rfl (X.moveI rfl) ?_
        refine WL.va rfl rfl rfl (X.slL (Row.of_own o9) rfl rfl (by omega) Try.underlying22 Try.sizeOf45) ?_
        refine WL.va rfl rfl rfl (X.move rfl) ?_
        refine WL.op rfl (OW.copyAt (m := 1) (j := i) (news := news) o9 (by decide) (Row.ext (Row.of_own hv) hx13) (by rw [List.take_of_length_le (by omega)]) h1n rfl (Nat.min_eq_left (by omega)) (by decide) rfl rfl Try.underlying22 Try.type45 rfl ?_ (by decide))
        intro w15 ho18 hx17
        have o10 := ho18
        refine WL.nil ?_
        refine thn_n ?_
        refine WF.seq ?_
        refine WF.drawn (.q 0 (.q 1 (.q 2 (.q 3 (.q 4 (.q 5 (.q 6 (.q 7 .nil)))))))) (fun w' => Ext w15 w') 8 (by kernel_rfl) (by kernel_rfl) (Ext.drew _) ?_
        refine WO.q rfl rfl rfl rfl (fun w' hE19 => (X.move rfl)) ?_
        refine WO.q rfl rfl rfl rfl (fun w' hE19 => (X.moveI rfl)) ?_
        refine WO.q rfl rfl rfl rfl (fun w' hE19 => (X.moveI rfl)) ?_
        refine WO.q rfl rfl rfl rfl (fun w' hE19 => (X.add rfl rfl (show _ = ((i + 1 : Nat) : Int) from w64 (by omega)))) ?_
        refine WO.q rfl rfl rfl rfl (fun w' hE19 => (X.slL (Row.of_own o10) rfl rfl (by omega) Try.underlying22 Try.sizeOf45)) ?_
        refine WO.q rfl rfl rfl rfl (fun w' hE19 => (X.move rfl)) ?_
        refine WO.q rfl rfl rfl rfl (fun w' hE19 => (X.moveI rfl)) ?_
        refine WO.q rfl rfl rfl rfl (fun w' hE19 => (X.slL (Row.of_own ho) rfl rfl (by omega) Try.underlying22 Try.sizeOf45)) ?_
        refine WO.nil ?_
        refine WL.op rfl (OW.copyAt (m := n - i) (j := i + 1) (news := _) (own_ext o10 (Ext.drew _)) (by decide) (Row.ext (Row.part (Row.of_own ho) i n (by omega) (Nat.le_refl _)) (Ext.trans (Ext.own hx13 o9 (Nat.le_refl _) hx17) (Ext.drew _))) (by rw [List.take_take, Nat.min_self]) (fun u hu => h1x u (List.mem_of_mem_drop (List.mem_of_mem_take hu))) rfl (by rw [show n + 1 - (i + 1) = n - i by omega]; exact Nat.min_self _) (by omega) rfl rfl Try.underlying22 Try.type45 rfl ?_ (by decide))
        intro w20 ho23 hx22
        have o11 := ho23
        refine WL.nil ?_
        refine thn_n ?_
        refine WF.seq ?_
        refine WF.region ?_
        refine WL.va rfl rfl rfl (X.move rfl) ?_
        refine WL.va rfl rfl rfl (X.assign rfl) ?_
        refine WL.nil ?_
        refine thn_n ?_
        refine WF.ret ?_
        refine thn_r ?_
        refine fin_r ?_
        refine ⟨?_, grown_of_ext (Ext.own (Ext.trans (Ext.own hx13 o9 (Nat.le_refl _) hx17) (Ext.drew _)) (own_ext o10 (Ext.drew _)) (Nat.le_refl _) hx22), .inr fun k hk => (o11.lt k hk).1⟩
        rw [ins_new hxl hnl hi hzl rfl] at o11; exact own_mono o11 hB
      · have gh2_9 := (of_decide_eq_false h2_9)
        have hlt : i < n := by omega
        obtain ⟨ys, b, c, rfl, hc1, hc0, hyl, hom⟩ := own_more ho 1 (by omega) (by omega)
        have h1xy : ∀ u ∈ xs, u.oneCell' = true := h1x
        refine WF.skip ?_
        refine thn_n ?_
        refine WF.seq ?_
        refine WF.region ?_
        refine WL.va rfl rfl rfl (X.move rfl) ?_
        refine WL.va rfl rfl rfl (X.moveI rfl) ?_
        refine WL.va rfl rfl rfl (X.moveI rfl) ?_
        refine WL.va rfl rfl rfl (X.add rfl rfl (show _ = ((n + 1 : Nat) : Int) from w64 (by omega))) ?_
        refine WL.va rfl rfl rfl (X.slHc rfl rfl (by omega) hc0 Try.underlying22 Try.sizeOf45) ?_
        refine WL.va rfl rfl rfl (X.assign rfl) ?_
        refine WL.nil ?_
        refine thn_n ?_
        refine WF.seq ?_
        refine WF.seq ?_
        refine WF.region ?_
        refine WL.va rfl rfl rfl (X.move rfl) ?_
        refine WL.va rfl rfl rfl (X.move rfl) ?_
        refine WL.va rfl rfl rfl (X.moveI rfl) ?_
        refine WL.va rfl rfl rfl (X.moveI rfl) ?_
        refine WL.va rfl rfl rfl (X.add rfl rfl (show _ = ((i + 1 : Nat) : Int) from w64 (by omega))) ?_
        refine WL.va rfl rfl rfl (X.slL (Row.of_own hom) rfl rfl (by omega) Try.underlying22 Try.sizeOf45) ?_
        refine WL.va rfl rfl rfl (X.overlapsF (tR := 4) (fun q => run_callFunc_extern Try.func30 (by kernel_rfl) (by kernel_rfl) (by kernel_rfl) (e := Extern.SlicesOverlaps.overlaps #[22, 22] #[4]) (by kernel_rfl) q _) Try.underlying22 Try.sizeOf45 hv hom hap (by decide) (by omega) (by decide) rfl rfl rfl) ?_
        refine WL.va rfl rfl rfl (X.not rfl) ?_
        refine WL.nil ?_
        refine thn_n ?_
        refine WF.cond_t rfl ?_
        refine WF.seq ?_
        refine WF.drawn (.q 0 (.q 1 (.q 2 (.q 3 (.q 4 (.q 5 (.q 6 (.q 7 .nil)))))))) (fun w' => Ext w w') 8 (by kernel_rfl) (by kernel_rfl) (Ext.drew _) ?_
        refine WO.q rfl rfl rfl rfl (fun w' hE26 => (X.move rfl)) ?_
        refine WO.q rfl rfl rfl rfl (fun w' hE26 => (X.moveI rfl)) ?_
        refine WO.q rfl rfl rfl rfl (fun w' hE26 => (X.moveI rfl)) ?_
        refine WO.q rfl rfl rfl rfl (fun w' hE26 => (X.add rfl rfl (show _ = ((i + 1 : Nat) : Int) from w64 (by omega)))) ?_
        refine WO.q rfl rfl rfl rfl (fun w' hE26 => (X.slL (Row.of_own hom) rfl rfl (by omega) Try.underlying22 Try.sizeOf45)) ?_
        refine WO.q rfl rfl rfl rfl (fun w' hE26 => (X.move rfl)) ?_
        refine WO.q rfl rfl rfl rfl (fun w' hE26 => (X.moveI rfl)) ?_
        refine WO.q rfl rfl rfl rfl (fun w' hE26 => (X.slL (Row.of_own hom) rfl rfl (by omega) Try.underlying22 Try.sizeOf45)) ?_
        refine WO.nil ?_
        refine WL.op rfl (OW.copyAt (m := n - i) (j := i + 1) (news := _) (own_ext hom (Ext.drew _)) (by decide) (Row.ext (Row.part (Row.of_own hom) i (n + 1) (by omega) (Nat.le_refl _)) (Ext.drew _)) rfl (fun u hu => h1x u (List.mem_of_mem_drop ((place_src hxl hyl hlt) ▸ hu))) rfl (by rw [show n + 1 - (i + 1) = n - i by omega]; exact Nat.min_eq_right (by omega)) (by omega) rfl rfl Try.underlying22 Try.type45 rfl ?_ (by decide))
        intro w27 ho30 hx29
        have o15 := ho30
        have g15 := ext_grown (Ext.drew w) hx29
        have hv15 := World.ownsRow.kept (own_ext hv (Ext.drew _)) hx29 hap.ne
        refine WL.nil ?_
        refine thn_n ?_
        refine WF.seq ?_
        refine WF.region ?_
        refine WL.va rfl rfl rfl (X.move rfl) ?_
        refine WL.va rfl rfl rfl (X.moveI rfl) ?_
        refine WL.va rfl rfl rfl (X.slL (Row.of_own o15) rfl rfl (by omega) Try.underlying22 Try.sizeOf45) ?_
        refine WL.va rfl rfl rfl (X.move rfl) ?_
        refine WL.op rfl (OW.copyAt (m := 1) (j := i) (news := news) o15 (by decide) (Row.of_own hv15) (by rw [List.take_of_length_le (by omega)]) h1n rfl (Nat.min_eq_left (by omega)) (by decide) rfl rfl Try.underlying22 Try.type45 rfl ?_ (by decide))
        intro w31 ho34 hx33
        have o16 := ho34
        have g16 := grown2 g15 hx33
        refine WL.nil ?_
        refine thn_n ?_
        refine WF.seq ?_
        refine WF.region ?_
        refine WL.va rfl rfl rfl (X.move rfl) ?_
        refine WL.va rfl rfl rfl (X.assign rfl) ?_
        refine WL.nil ?_
        refine thn_n ?_
        refine WF.ret ?_
        refine thn_r ?_
        refine fin_r ?_
        refine ⟨?_, g16, .inl rfl⟩
        rw [ins_place hxl hyl hnl hlt rfl] at o16; exact o16

theorem find_ok (v : Value) (E : List SV) (c : Int) (w : World) (hv : SRow w v E) : FnOk Try.prog 21 [v, i64 c] w (fun r w' => Idx (fun k => ofC c ((E.map Prod.fst).getD k default)) E.length r ∧ Ext w w') := by
  refine FnOk.enter (rs := [4]) Try.func21 rfl Try.ntmps21 Try.results21 rfl rfl ?_
  refine WF.seq ?_
  refine WF.region ?_
  refine WL.op rfl (OW.box1 rfl rfl ?_ (by decide))
  intro g3 w1 heg3 hlg3 hO3 hx3
  have := World.grownBy.size hx3
  refine WL.va rfl rfl rfl (X.assignI rfl) ?_
  refine WL.nil ?_
  refine thn_n ?_
  refine WF.seq ?_
  refine WF.region ?_
  refine WL.va rfl rfl rfl (X.move rfl) ?_
  refine WL.va rfl rfl rfl (X.makeFunc (evl_cons rfl evl_nil)) ?_
  have hclo : ∀ k wq, k < E.length → Ext w1 wq → CloOk Try.prog (.func (.func 28) #[] [at_ g3].toArray) [agg (el (E.flatMap SV.c) 4 k)] wq (fun r w2 => r = .bool (ofC c (((E.map Prod.fst).getD k default))) ∧ Ext wq w2) := fun k wq hk hx => ⟨_, _, rfl, Try.call28, (by rw [show el (E.flatMap SV.c) 4 k = SV.c (E[k]'hk) from SRow.el hk, show (E.map Prod.fst).getD k default = (E[k]'hk).1 from by simp [hk]]; exact findLit_ok _ _ _ _ (hO3.ext hx))⟩
  refine WL.c rfl rfl rfl (X.call Try.call25 (evl_cons rfl (evl_cons rfl evl_nil))) (indexS_ok _ _ _ _ (fun k => ofC c ((E.map Prod.fst).getD k default)) _ (Row.ext hv hx3) hclo) ?_
  rintro v6 w5 ⟨⟨z, rfl, hz⟩, hx7⟩
  have := World.grownBy.size hx7
  refine WL.va rfl rfl rfl (X.assignI rfl) ?_
  refine WL.nil ?_
  refine thn_n ?_
  refine WF.ret ?_
  refine fin_r ?_
  exact ⟨⟨z, rfl, hz⟩, (Ext.trans hx3 hx7)⟩

end Go.Proofs.Ythcjifccfpoekaa
