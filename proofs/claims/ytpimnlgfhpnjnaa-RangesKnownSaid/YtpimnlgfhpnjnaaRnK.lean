/- The walks of the kit's functions over ranges. -/
import Derived.Test.YtpimnlgfhpnjnaaChecked
import Derived.Test.YtpimnlgfhpnjnaaRw
import Derived.Test.YtpimnlgfhpnjnaaChg
import Derived.Test.YtpimnlgfhpnjnaaOpen
import Derived.Test.YtpimnlgfhpnjnaaIn
namespace Go.Proofs.Ytpimnlgfhpnjnaa
open Go Go.RowKit Kf
set_option maxRecDepth 20000

theorem flatR : flatB Try.prog 41 4 = true := by kernel_rfl
theorem fieldsR : Try.prog.underlying 41 = some (.struct (Try.prog.fieldsOf 41)) := by rw [Try.underlying41]; unfold Program.fieldsOf; rw [Try.underlying41]
theorem offsR : offs Try.prog 41 = [0, 1, 2, 3] := by kernel_rfl
theorem sameRanges_ok (va vb : Value) (la lb : List Rg) (w : World) (ha : Rgs w va la) (hb : Rgs w vb lb) : FnOk Try.prog 21 [va, vb] w (fun r w' => r = .bool (decide (la = lb)) ∧ Ext w w') := by
  have hla := ha.le64
  have hlb := hb.le64
  refine FnOk.enter (rs := [4]) Try.func21 rfl Try.ntmps21 Try.results21 rfl rfl ?_
  refine WF.seq ?_
  refine WF.region ?_
  refine WL.va rfl rfl rfl (X.assignB rfl) ?_
  refine WL.nil ?_
  refine thn_n ?_
  refine WF.seq ?_
  refine WF.seq ?_
  refine WF.region ?_
  refine WL.va rfl rfl rfl (X.move rfl) ?_
  refine WL.va rfl rfl rfl (X.len ha rfl Try.underlying22) ?_
  refine WL.va rfl rfl rfl (X.move rfl) ?_
  refine WL.va rfl rfl rfl (X.len hb rfl Try.underlying22) ?_
  refine WL.va rfl rfl rfl (X.neq rfl rfl) ?_
  refine WL.nil ?_
  refine thn_n ?_
  refine WF.cond rfl (fun h0_2 => ?_) (fun h0_2 => ?_)
  · have gh0_2 := (of_decide_eq_true h0_2)
    have hne : la ≠ lb := fun e => by rw [e] at gh0_2; exact gh0_2 rfl
    refine WF.seq ?_
    refine WF.region ?_
    refine WL.va rfl rfl rfl (X.assignB rfl) ?_
    refine WL.nil ?_
    refine thn_n ?_
    refine WF.ret ?_
    refine thn_r ?_
    refine fin_r ?_
    exact ⟨congrArg Value.bool (decide_eq_false hne).symm, (Ext.refl _)⟩
  · have gh0_2 := (Decidable.of_not_not (of_decide_eq_false h0_2))
    refine WF.skip ?_
    refine thn_n ?_
    refine WF.seq ?_
    refine WF.seq ?_
    refine WF.region ?_
    refine WL.va rfl rfl rfl (X.assignI rfl) ?_
    refine WL.nil ?_
    refine thn_n ?_
    refine WF.block ?_
    refine WF.named (fun F5 hF6 => ?_)
    refine WF.loopN (fun mL0 f' w' => ∃ (k : Nat), mL0 = la.length - k ∧ f' 5 = .int .i64 (k : Int) ∧ Agree [0, 1, 6, 7, 8, 9, 10] f' F5 ∧ Ext w w' ∧ k ≤ la.length ∧ la.take k = lb.take k) ?_ ?_
    · exact ⟨_, 0, rfl, (congrFun hF6 5), (Agree.refl _ _), (Ext.refl _), ⟨Nat.zero_le _, rfl⟩⟩
    · rintro mL0 fL0 wL0 ⟨k, hmL0, e5_L0, hAL0, hwL0, ⟨hk, hkk⟩⟩
      refine WF.seq ?_
      refine WF.seq ?_
      refine WF.region ?_
      refine WL.va rfl rfl rfl (X.moveI e5_L0) ?_
      refine WL.va rfl rfl rfl (X.move ((hAL0.eq 0).trans (congrFun hF6 0))) ?_
      refine WL.va rfl rfl rfl (X.len ha rfl Try.underlying22) ?_
      refine WL.va rfl rfl rfl (X.lss rfl rfl) ?_
      refine WL.nil ?_
      refine thn_n ?_
      refine WF.cond rfl (fun h1_7 => ?_) (fun h1_7 => ?_)
      · have gh1_7 := (of_decide_eq_true h1_7)
        refine WF.skip ?_
        refine thn_n ?_
        refine WF.seq ?_
        refine WF.block ?_
        refine WF.seq ?_
        refine WF.drawn (.q 0 (.q 1 (.q 2 (.q 3 (.q 4 (.q 5 (.q 6 (.q 7 (.q 8 .nil))))))))) (fun w' => Ext wL0 w') 9 (by kernel_rfl) (by kernel_rfl) (Ext.drew _) ?_
        refine WO.q rfl rfl rfl rfl (fun w' hE9 => (X.move ((hAL0.eq 0).trans (congrFun hF6 0)))) ?_
        refine WO.q rfl rfl rfl rfl (fun w' hE9 => (X.moveI e5_L0)) ?_
        refine WO.q rfl rfl rfl rfl (fun w' hE9 => (X.idx ha rfl rfl (by omega) Try.underlying22 Try.sizeOf41)) ?_
        refine WO.q rfl rfl rfl rfl (fun w' hE9 => (X.loadEl ha (Ext.trans hwL0 hE9) rfl (by omega) (Rgs.el (l := la) (k := k) (by omega)) Try.isAgg41 Try.sizeOf41)) ?_
        refine WO.q rfl rfl rfl rfl (fun w' hE9 => (X.move ((hAL0.eq 1).trans (congrFun hF6 1)))) ?_
        refine WO.q rfl rfl rfl rfl (fun w' hE9 => (X.moveI e5_L0)) ?_
        refine WO.q rfl rfl rfl rfl (fun w' hE9 => (X.idx hb rfl rfl (by omega) Try.underlying22 Try.sizeOf41)) ?_
        refine WO.q rfl rfl rfl rfl (fun w' hE9 => (X.loadEl hb (Ext.trans hwL0 hE9) rfl (by omega) (Rgs.el (l := lb) (k := k) (by omega)) Try.isAgg41 Try.sizeOf41)) ?_
        refine WO.q rfl rfl rfl rfl (fun w' hE9 => (X.neqA (na := (la[k]'(by omega)).ints) (nb := (lb[k]'(by omega)).ints) flatR fieldsR offsR rfl rfl rfl rfl (Rg.eqB _ _))) ?_
        refine WO.nil ?_
        refine WL.nil ?_
        refine thn_n ?_
        refine WF.cond rfl (fun h2_10 => ?_) (fun h2_10 => ?_)
        · have gh2_10 := h2_10
          have hne : la ≠ lb := fun e => of_decide_eq_false (nt gh2_10) (by subst e; rfl)
          refine WF.seq ?_
          refine WF.region ?_
          refine WL.va rfl rfl rfl (X.assignB rfl) ?_
          refine WL.nil ?_
          refine thn_n ?_
          refine WF.ret ?_
          refine blk_r ?_
          refine thn_r ?_
          refine thn_r ?_
          refine blk_r ?_
          refine thn_r ?_
          refine fin_r ?_
          exact ⟨congrArg Value.bool (decide_eq_false hne).symm, (Ext.trans hwL0 (Ext.drew _))⟩
        · have gh2_10 := h2_10
          have heq := of_decide_eq_true (nf gh2_10)
          refine WF.skip ?_
          refine blk_n ?_
          refine thn_n ?_
          refine WF.region ?_
          refine WL.va rfl rfl rfl (X.moveI e5_L0) ?_
          refine WL.va rfl rfl rfl (X.add rfl rfl (w64 (by omega))) ?_
          refine WL.va rfl rfl rfl (X.assignI rfl) ?_
          refine WL.nil ?_
          exact thn_n ⟨_, (by omega), k + 1, rfl, rfl, (by repeat (first | exact hAL0 | refine Agree.put ?_ rfl | refine Agree.named hF6 ?_)), (Ext.trans hwL0 (Ext.drew _)), ⟨by omega, by rw [takeV _ _ (by omega), takeV _ _ (by omega), hkk, heq]⟩⟩
      · have gh1_7 := (of_decide_eq_false h1_7)
        refine WF.exit ?_
        refine thn_x ?_
        refine thn_x ?_
        refine blk_eq ?_
        refine thn_n ?_
        refine WF.seq ?_
        refine WF.region ?_
        refine WL.va rfl rfl rfl (X.assignB rfl) ?_
        refine WL.nil ?_
        refine thn_n ?_
        refine WF.ret ?_
        refine fin_r ?_
        exact ⟨congrArg Value.bool (decide_eq_true (by rw [List.take_of_length_le (by omega), List.take_of_length_le (by omega)] at hkk; exact hkk)).symm, hwL0⟩

theorem copyRanges_ok (v : Value) (l : List Rg) (w : World) (hb : Rgs w v l) (hm : l.length ≤ 1000000) : FnOk Try.prog 53 [v] w (fun r w' => OwnR w' w.heap.size 41 r l ∧ Ext w w') := by
  have hl := hb.le64
  refine FnOk.enter (rs := [2]) Try.func53 rfl Try.ntmps53 Try.results53 rfl rfl ?_
  refine WF.seq ?_
  refine WF.region ?_
  refine WL.va rfl rfl rfl (X.assign rfl) ?_
  refine WL.nil ?_
  refine thn_n ?_
  refine WF.seq ?_
  refine WF.region ?_
  refine WL.va rfl rfl rfl (X.assign rfl) ?_
  refine WL.nil ?_
  refine thn_n ?_
  refine WF.seq ?_
  refine WF.seq ?_
  refine WF.region ?_
  refine WL.va rfl rfl rfl (X.assignI rfl) ?_
  refine WL.nil ?_
  refine thn_n ?_
  refine WF.block ?_
  refine WF.named (fun F1 hF2 => ?_)
  refine WF.loopN (fun mL0 f' w' => ∃ (k : Nat) (vo : Value), mL0 = l.length - k ∧ f' 4 = .int .i64 (k : Int) ∧ f' 3 = vo ∧ Agree [0, 2] f' F1 ∧ Ext w w' ∧ k ≤ l.length ∧ OwnR w' w.heap.size 41 vo (l.take k)) ?_ ?_
  · exact ⟨_, 0, (.slice none 0 0), rfl, (congrFun hF2 4), (congrFun hF2 3), (Agree.refl _ _), (Ext.refl _), ⟨Nat.zero_le _, OwnR.nil _ _ _⟩⟩
  · rintro mL0 fL0 wL0 ⟨k, vo, hmL0, e4_L0, e3_L0, hAL0, hwL0, ⟨hk, ho⟩⟩
    refine WF.seq ?_
    refine WF.seq ?_
    refine WF.region ?_
    refine WL.va rfl rfl rfl (X.moveI e4_L0) ?_
    refine WL.va rfl rfl rfl (X.move ((hAL0.eq 0).trans (congrFun hF2 0))) ?_
    refine WL.va rfl rfl rfl (X.len hb rfl Try.underlying22) ?_
    refine WL.va rfl rfl rfl (X.lss rfl rfl) ?_
    refine WL.nil ?_
    refine thn_n ?_
    refine WF.cond rfl (fun h0_3 => ?_) (fun h0_3 => ?_)
    · have gh0_3 := (of_decide_eq_true h0_3)
      refine WF.skip ?_
      refine thn_n ?_
      refine WF.seq ?_
      refine WF.block ?_
      refine WF.region ?_
      refine WL.va rfl rfl rfl (X.move e3_L0) ?_
      refine WL.va rfl rfl rfl (X.move ((hAL0.eq 0).trans (congrFun hF2 0))) ?_
      refine WL.va rfl rfl rfl (X.moveI e4_L0) ?_
      refine WL.va rfl rfl rfl (X.idx hb rfl rfl (by omega) Try.underlying22 Try.sizeOf41) ?_
      refine WL.va rfl rfl rfl (X.loadEl hb hwL0 rfl (by omega) (Rgs.el (l := l) (k := k) (by omega)) Try.isAgg41 Try.sizeOf41) ?_
      refine WL.op rfl (OW.lits (vs := [agg (l[k]'(by omega)).c]) (evp_cons rfl evp_nil) Try.underlying22 Try.sizeOf41 Try.zeroValue41 ⟨rfl, trivial⟩ rfl rfl rfl ?_ (by decide))
      intro v6 w5 ho8 hx7
      have o1 : OwnR w5 _ _ _ [l[k]'(by omega)] := ho8
      have ho1 := own_ext ho hx7
      refine WL.op rfl (OW.append (bytes := 32) ho1 (Row.of_own o1) rgs_one rfl rfl Try.underlying22 Try.type41 rfl rfl rfl rfl (by decide) (by unfold maxLen; simp; omega) (by simp; omega) ((Ext.trans hwL0 hx7)).size ?_ (by decide))
      intro v10 w9 ho12 hx11 hmvhx11
      have ho2 := OwnR.app ho12
      refine WL.va rfl rfl rfl (X.assign rfl) ?_
      refine WL.nil ?_
      refine blk_n ?_
      refine thn_n ?_
      refine WF.region ?_
      refine WL.va rfl rfl rfl (X.moveI e4_L0) ?_
      refine WL.va rfl rfl rfl (X.add rfl rfl (w64 (by omega))) ?_
      refine WL.va rfl rfl rfl (X.assignI rfl) ?_
      refine WL.nil ?_
      exact thn_n ⟨_, (by omega), k + 1, _, rfl, rfl, rfl, (by repeat (first | exact hAL0 | refine Agree.put ?_ rfl | refine Agree.named hF2 ?_)), (Ext.own (Ext.trans hwL0 hx7) ho1 (Nat.le_refl _) hx11), ⟨by omega, by rw [takeV _ _ (by omega)]; exact ho2⟩⟩
    · have gh0_3 := (of_decide_eq_false h0_3)
      refine WF.exit ?_
      refine thn_x ?_
      refine thn_x ?_
      refine blk_eq ?_
      refine thn_n ?_
      refine WF.seq ?_
      refine WF.region ?_
      refine WL.va rfl rfl rfl (X.move e3_L0) ?_
      refine WL.va rfl rfl rfl (X.assign rfl) ?_
      refine WL.nil ?_
      refine thn_n ?_
      refine WF.ret ?_
      refine fin_r ?_
      exact ⟨by rw [show l.take k = l from List.take_of_length_le (by omega)] at ho; exact ho, hwL0⟩

theorem lentR_step1 {l L : List Rg} {k : Nat} {w : World} {B e : Nat} {v : Value} (_hk : k ≤ l.length + 5) (hL : L.length = l.length + 5) (hLk : L.take k = (l ++ List.replicate 5 filler).take k) (h : k < l.length)
    (ho : OwnR w B e v ((L.set k filler).set k l[k])) : k + 1 ≤ l.length + 5 ∧ ((L.set k filler).set k l[k]).length = l.length + 5 ∧ ((L.set k filler).set k l[k]).take (k + 1) = (l ++ List.replicate 5 filler).take (k + 1) ∧ OwnR w B e v ((L.set k filler).set k l[k]) := by
  refine ⟨by omega, by simp [hL], ?_, ho⟩
  rw [List.set_set, take_set_succ _ _ _ (by omega), hLk, takeV _ _ (by simp; omega)]
  rw [List.getElem_append_left h]
theorem lentR_step2 {l L : List Rg} {k : Nat} {w : World} {B e : Nat} {v : Value} (_hk : k ≤ l.length + 5) (hL : L.length = l.length + 5) (hLk : L.take k = (l ++ List.replicate 5 filler).take k) (h : l.length ≤ k) (h2 : k < l.length + 5)
    (ho : OwnR w B e v (L.set k filler)) : k + 1 ≤ l.length + 5 ∧ (L.set k filler).length = l.length + 5 ∧ (L.set k filler).take (k + 1) = (l ++ List.replicate 5 filler).take (k + 1) ∧ OwnR w B e v (L.set k filler) := by
  refine ⟨by omega, by simp [hL], ?_, ho⟩
  rw [take_set_succ _ _ _ (by omega), hLk, takeV _ _ (by simp; omega)]
  rw [List.getElem_append_right h, List.getElem_replicate]
theorem lentR_part {w : World} {B e : Nat} {v : Value} {l : List Rg} (ho : OwnR w B e v (l ++ List.replicate 5 filler)) : Rgs w (Kf.part v 0 l.length 4) l := by
  have := Row.part (Row.of_own ho) 0 l.length (Nat.zero_le _) (by simp)
  rw [Nat.sub_zero, Nat.zero_mul, List.drop_zero, flat_take Rg.c_len, List.take_left' rfl] at this
  exact this
theorem keptR_ne {la l : List Rg} (h : (la.length : Int) ≠ (l.length : Int) + 5) : la ≠ l ++ List.replicate 5 filler := fun e => by
  apply h; rw [e]; simp
theorem keptR_eq {la l : List Rg} (h : la.length = l.length + 5) (hp : la.take l.length = l) (hm : ∀ i (hi : i < la.length), l.length ≤ i → la[i] = filler) : la = l ++ List.replicate 5 filler := by
  conv => lhs; rw [← List.take_append_drop l.length la, hp]
  congr 1
  apply List.ext_getElem (by simp; omega)
  intro i h1 h2
  simp only [List.length_replicate] at h2
  rw [List.getElem_drop, List.getElem_replicate]
  exact hm _ _ (by omega)
theorem rgs_part {w : World} {v : Value} {l : List Rg} (h : Rgs w v l) (n : Nat) (hn : n ≤ l.length) : Rgs w (Kf.part v 0 n 4) (l.take n) := by
  have := Row.part h 0 n (Nat.zero_le _) hn
  rw [Nat.sub_zero, Nat.zero_mul, List.drop_zero, flat_take Rg.c_len] at this
  unfold Rgs
  rw [List.length_take, Nat.min_eq_left hn]
  exact this
theorem lentRanges_ok (v : Value) (l : List Rg) (w : World) (hb : Rgs w v l) (hm : l.length ≤ 1000000) : FnOk Try.prog 25 [v] w (fun r w' => OwnR w' w.heap.size 41 r (l ++ List.replicate 5 filler) ∧ Ext w w') := by
  have hl := hb.le64
  refine FnOk.enter (rs := [2]) Try.func25 rfl Try.ntmps25 Try.results25 rfl rfl ?_
  refine WF.seq ?_
  refine WF.region ?_
  refine WL.va rfl rfl rfl (X.assign rfl) ?_
  refine WL.nil ?_
  refine thn_n ?_
  refine WF.seq ?_
  refine WF.region ?_
  refine WL.va rfl rfl rfl (X.move rfl) ?_
  refine WL.va rfl rfl rfl (X.len hb rfl Try.underlying22) ?_
  refine WL.va rfl rfl rfl (X.add rfl rfl (w64 (by omega))) ?_
  refine WL.op rfl (OW.make (n := l.length + 5) rfl rfl Try.underlying22 Try.type41 rfl rfl (show 32 * (l.length + 5) ≤ _ by omega) (by unfold maxLen; omega) ?_ (by decide))
  intro v2 w1 ho4 hx3
  have hmk := OwnR.made ho4
  obtain ⟨vm, hvm⟩ : ∃ vm, vm = v2 := ⟨_, rfl⟩
  subst hvm
  refine WL.va rfl rfl rfl (X.assign rfl) ?_
  refine WL.nil ?_
  refine thn_n ?_
  refine WF.seq ?_
  refine WF.seq ?_
  refine WF.region ?_
  refine WL.va rfl rfl rfl (X.assignI rfl) ?_
  refine WL.nil ?_
  refine thn_n ?_
  refine WF.block ?_
  refine WF.named (fun F5 hF6 => ?_)
  refine WF.loopN (fun mL0 f' w' => ∃ (k : Nat) (L : List Rg), mL0 = l.length + 5 - k ∧ f' 4 = .int .i64 (k : Int) ∧ Agree [0, 2, 3, 5, 6, 7, 8] f' F5 ∧ Ext w w' ∧ k ≤ l.length + 5 ∧ L.length = l.length + 5 ∧ L.take k = (l ++ List.replicate 5 filler).take k ∧ OwnR w' w.heap.size 41 vm L) ?_ ?_
  · exact ⟨_, 0, List.replicate (l.length + 5) ⟨0, 0, 0, 0⟩, rfl, (congrFun hF6 4), (Agree.refl _ _), hx3, ⟨Nat.zero_le _, by simp, by simp, hmk⟩⟩
  · rintro mL0 fL0 wL0 ⟨k, L, hmL0, e4_L0, hAL0, hwL0, ⟨hk, hL, hLk, ho⟩⟩
    refine WF.seq ?_
    refine WF.seq ?_
    refine WF.region ?_
    refine WL.va rfl rfl rfl (X.moveI e4_L0) ?_
    refine WL.va rfl rfl rfl (X.move ((hAL0.eq 3).trans (congrFun hF6 3))) ?_
    refine WL.va rfl rfl rfl (X.len (Row.of_own ho) rfl Try.underlying22) ?_
    refine WL.va rfl rfl rfl (X.lss rfl rfl) ?_
    refine WL.nil ?_
    refine thn_n ?_
    refine WF.cond rfl (fun h0_7 => ?_) (fun h0_7 => ?_)
    · have gh0_7 := (of_decide_eq_true h0_7)
      refine WF.skip ?_
      refine thn_n ?_
      refine WF.seq ?_
      refine WF.block ?_
      refine WF.seq ?_
      refine WF.region ?_
      refine WL.va rfl rfl rfl (X.move ((hAL0.eq 3).trans (congrFun hF6 3))) ?_
      refine WL.va rfl rfl rfl (X.moveI e4_L0) ?_
      refine WL.va rfl rfl rfl (X.build (evp_cons rfl evp_nil) Try.type41 Try.underlying41 rfl rfl ⟨rfl, trivial⟩ rfl) ?_
      refine WL.va rfl rfl rfl (X.idx (Row.of_own ho) rfl rfl (by omega) Try.underlying22 Try.sizeOf41) ?_
      refine WL.op rfl (OW.storeEl (ds := Rg.c filler) ho (by omega) rfl rfl rfl (by simp [Value.oneCell']) Try.sizeOf41 ?_)
      intro w9 ho12 hx11
      have ho1 : OwnR _ _ _ _ _ := OwnR.set (by omega) ho12
      have fo1 := Row.of_own ho1
      refine WL.nil ?_
      refine thn_n ?_
      refine WF.seq ?_
      refine WF.region ?_
      refine WL.va rfl rfl rfl (X.moveI e4_L0) ?_
      refine WL.va rfl rfl rfl (X.move ((hAL0.eq 0).trans (congrFun hF6 0))) ?_
      refine WL.va rfl rfl rfl (X.len hb rfl Try.underlying22) ?_
      refine WL.va rfl rfl rfl (X.lss rfl rfl) ?_
      refine WL.nil ?_
      refine thn_n ?_
      refine WF.cond rfl (fun h1_13 => ?_) (fun h1_13 => ?_)
      · have gh1_13 := (of_decide_eq_true h1_13)
        refine WF.region ?_
        refine WL.va rfl rfl rfl (X.move ((hAL0.eq 3).trans (congrFun hF6 3))) ?_
        refine WL.va rfl rfl rfl (X.moveI e4_L0) ?_
        refine WL.va rfl rfl rfl (X.move ((hAL0.eq 0).trans (congrFun hF6 0))) ?_
        refine WL.va rfl rfl rfl (X.moveI e4_L0) ?_
        refine WL.va rfl rfl rfl (X.idx hb rfl rfl (by omega) Try.underlying22 Try.sizeOf41) ?_
        refine WL.va rfl rfl rfl (X.loadEl hb (Ext.own hwL0 ho (Nat.le_refl _) hx11) rfl (by omega) (Rgs.el (l := l) (k := k) (by omega)) Try.isAgg41 Try.sizeOf41) ?_
        refine WL.va rfl rfl rfl (X.idx fo1 rfl rfl (by simp; omega) Try.underlying22 Try.sizeOf41) ?_
        refine WL.op rfl (OW.storeEl (ds := Rg.c (l[k]'(by omega))) ho1 (by simp; omega) rfl rfl rfl (by simp [Value.oneCell']) Try.sizeOf41 ?_)
        intro w15 ho18 hx17
        have ho2 : OwnR _ _ _ _ _ := OwnR.set (by simp; omega) ho18
        refine WL.nil ?_
        refine blk_n ?_
        refine thn_n ?_
        refine WF.region ?_
        refine WL.va rfl rfl rfl (X.moveI e4_L0) ?_
        refine WL.va rfl rfl rfl (X.add rfl rfl (w64 (by omega))) ?_
        refine WL.va rfl rfl rfl (X.assignI rfl) ?_
        refine WL.nil ?_
        exact thn_n ⟨_, (by omega), k + 1, _, rfl, rfl, (by repeat (first | exact hAL0 | refine Agree.put ?_ rfl | refine Agree.named hF6 ?_)), (Ext.own (Ext.own hwL0 ho (Nat.le_refl _) hx11) ho1 (Nat.le_refl _) hx17), (by first | exact lentR_step1 hk hL hLk (by omega) ho2 | exact lentR_step2 hk hL hLk (by omega) (by omega) ho1)⟩
      · have gh1_13 := (of_decide_eq_false h1_13)
        refine WF.skip ?_
        refine blk_n ?_
        refine thn_n ?_
        refine WF.region ?_
        refine WL.va rfl rfl rfl (X.moveI e4_L0) ?_
        refine WL.va rfl rfl rfl (X.add rfl rfl (w64 (by omega))) ?_
        refine WL.va rfl rfl rfl (X.assignI rfl) ?_
        refine WL.nil ?_
        exact thn_n ⟨_, (by omega), k + 1, _, rfl, rfl, (by repeat (first | exact hAL0 | refine Agree.put ?_ rfl | refine Agree.named hF6 ?_)), (Ext.own hwL0 ho (Nat.le_refl _) hx11), (by first | exact lentR_step1 hk hL hLk (by omega) ho2 | exact lentR_step2 hk hL hLk (by omega) (by omega) ho1)⟩
    · have gh0_7 := (of_decide_eq_false h0_7)
      refine WF.exit ?_
      refine thn_x ?_
      refine thn_x ?_
      refine blk_eq ?_
      refine thn_n ?_
      refine WF.seq ?_
      refine WF.region ?_
      refine WL.va rfl rfl rfl (X.move ((hAL0.eq 3).trans (congrFun hF6 3))) ?_
      refine WL.va rfl rfl rfl (X.assign rfl) ?_
      refine WL.nil ?_
      refine thn_n ?_
      refine WF.ret ?_
      refine fin_r ?_
      exact ⟨by rw [show L = l ++ List.replicate 5 filler from by rw [List.take_of_length_le (by omega), List.take_of_length_le (by simp; omega)] at hLk; exact hLk] at ho; exact ho, hwL0⟩

theorem keptRanges_ok (va vl : Value) (la l : List Rg) (w : World) (ha : Rgs w va la) (hb : Rgs w vl l) (hm : l.length ≤ 1000000) : FnOk Try.prog 30 [va, vl] w (fun r w' => r = .bool (decide (la = l ++ List.replicate 5 filler)) ∧ Ext w w') := by
  have hla := ha.le64
  have hlb := hb.le64
  refine FnOk.enter (rs := [4]) Try.func30 rfl Try.ntmps30 Try.results30 rfl rfl ?_
  refine WF.seq ?_
  refine WF.region ?_
  refine WL.va rfl rfl rfl (X.assignB rfl) ?_
  refine WL.nil ?_
  refine thn_n ?_
  refine WF.seq ?_
  refine WF.seq ?_
  refine WF.region ?_
  refine WL.va rfl rfl rfl (X.move rfl) ?_
  refine WL.va rfl rfl rfl (X.len ha rfl Try.underlying22) ?_
  refine WL.va rfl rfl rfl (X.move rfl) ?_
  refine WL.va rfl rfl rfl (X.len hb rfl Try.underlying22) ?_
  refine WL.va rfl rfl rfl (X.add rfl rfl (w64 (by omega))) ?_
  refine WL.va rfl rfl rfl (X.neq rfl rfl) ?_
  refine WL.va rfl rfl rfl (X.moveB rfl) ?_
  refine WL.split (j := 6) rfl (fun h3 => ?_) (fun h3 => ?_)
  · have gh3 := (of_decide_eq_true h3)
    refine WL.p rfl rfl rfl (congrArg some h3) ?_
    refine WL.p rfl rfl rfl (congrArg some h3) ?_
    refine WL.p rfl rfl rfl (congrArg some h3) ?_
    refine WL.p rfl rfl rfl (congrArg some h3) ?_
    refine WL.p rfl rfl rfl (congrArg some h3) ?_
    refine WL.p rfl rfl rfl (congrArg some h3) ?_
    refine WL.p rfl rfl rfl (congrArg some h3) ?_
    refine WL.va rfl rfl rfl (X.pickT rfl h3 rfl) ?_
    refine WL.nil ?_
    refine thn_n ?_
    refine WF.cond_t rfl ?_
    refine WF.seq ?_
    refine WF.region ?_
    refine WL.va rfl rfl rfl (X.assignB rfl) ?_
    refine WL.nil ?_
    refine thn_n ?_
    refine WF.ret ?_
    refine thn_r ?_
    refine fin_r ?_
    first | exact ⟨congrArg Value.bool (decide_eq_false (keptR_ne (by assumption))).symm, (Ext.refl _)⟩ | exact ⟨congrArg Value.bool (decide_eq_false (fun e => by have h2 : ¬ (la.take l.length = l) := (by assumption); exact h2 (by rw [e]; simp))).symm, (Ext.refl _)⟩
  · have gh3 := (Decidable.of_not_not (of_decide_eq_false h3))
    have hlen := gh3
    refine WL.vg rfl (congrArg some h3) rfl rfl (X.move rfl) ?_
    refine WL.vg rfl (congrArg some h3) rfl rfl (X.move rfl) ?_
    refine WL.vg rfl (congrArg some h3) rfl rfl (X.len hb rfl Try.underlying22) ?_
    refine WL.vg rfl (congrArg some h3) rfl rfl (X.slH ha rfl rfl (by omega) Try.underlying22 Try.sizeOf41) ?_
    refine WL.vg rfl (congrArg some h3) rfl rfl (X.move rfl) ?_
    refine WL.cg rfl (congrArg some h3) rfl rfl (X.call Try.call21 (evl_cons rfl (evl_cons rfl evl_nil))) (sameRanges_ok _ _ _ _ _ (rgs_part ha l.length (by omega)) hb) ?_
    rintro v7 w6 ⟨rfl, hx8⟩
    refine WL.vg rfl (congrArg some h3) rfl rfl (X.not rfl) ?_
    refine WL.va rfl rfl rfl (X.pickF rfl h3 rfl) ?_
    refine WL.nil ?_
    refine thn_n ?_
    refine WF.cond rfl (fun h0_10 => ?_) (fun h0_10 => ?_)
    · have gh0_10 := (of_decide_eq_false (nt h0_10))
      refine WF.seq ?_
      refine WF.region ?_
      refine WL.va rfl rfl rfl (X.assignB rfl) ?_
      refine WL.nil ?_
      refine thn_n ?_
      refine WF.ret ?_
      refine thn_r ?_
      refine fin_r ?_
      first | exact ⟨congrArg Value.bool (decide_eq_false (keptR_ne (by assumption))).symm, hx8⟩ | exact ⟨congrArg Value.bool (decide_eq_false (fun e => by have h2 : ¬ (la.take l.length = l) := (by assumption); exact h2 (by rw [e]; simp))).symm, hx8⟩
    · have gh0_10 := (of_decide_eq_true (nf h0_10))
      have hpre := gh0_10
      refine WF.skip ?_
      refine thn_n ?_
      refine WF.seq ?_
      refine WF.seq ?_
      refine WF.region ?_
      refine WL.va rfl rfl rfl (X.move rfl) ?_
      refine WL.va rfl rfl rfl (X.len hb rfl Try.underlying22) ?_
      refine WL.va rfl rfl rfl (X.assignI rfl) ?_
      refine WL.nil ?_
      refine thn_n ?_
      refine WF.block ?_
      refine WF.named (fun F13 hF14 => ?_)
      refine WF.loopN (fun mL0 f' w' => ∃ (k : Nat), mL0 = la.length - k ∧ f' 5 = .int .i64 (k : Int) ∧ Agree [0, 1, 6, 7, 8, 9, 10, 11, 12, 13, 14, 15, 16, 17, 18, 19, 20, 21, 22] f' F13 ∧ Ext w w' ∧ l.length ≤ k ∧ k ≤ la.length ∧ ∀ i (hi : i < la.length), l.length ≤ i → i < k → la[i] = filler) ?_ ?_
      · exact ⟨_, l.length, rfl, (congrFun hF14 5), (Agree.refl _ _), hx8, ⟨Nat.le_refl _, by omega, by intro i h1 h2; omega⟩⟩
      · rintro mL0 fL0 wL0 ⟨k, hmL0, e5_L0, hAL0, hwL0, ⟨hk0, hk, hkk⟩⟩
        refine WF.seq ?_
        refine WF.seq ?_
        refine WF.region ?_
        refine WL.va rfl rfl rfl (X.moveI e5_L0) ?_
        refine WL.va rfl rfl rfl (X.move ((hAL0.eq 0).trans (congrFun hF14 0))) ?_
        refine WL.va rfl rfl rfl (X.len ha rfl Try.underlying22) ?_
        refine WL.va rfl rfl rfl (X.lss rfl rfl) ?_
        refine WL.nil ?_
        refine thn_n ?_
        refine WF.cond rfl (fun h1_15 => ?_) (fun h1_15 => ?_)
        · have gh1_15 := (of_decide_eq_true h1_15)
          refine WF.skip ?_
          refine thn_n ?_
          refine WF.seq ?_
          refine WF.block ?_
          refine WF.seq ?_
          refine WF.region ?_
          refine WL.va rfl rfl rfl (X.move ((hAL0.eq 0).trans (congrFun hF14 0))) ?_
          refine WL.va rfl rfl rfl (X.moveI e5_L0) ?_
          refine WL.va rfl rfl rfl (X.idx ha rfl rfl (by omega) Try.underlying22 Try.sizeOf41) ?_
          refine WL.va rfl rfl rfl (X.loadEl ha hwL0 rfl (by omega) (Rgs.el (l := la) (k := k) (by omega)) Try.isAgg41 Try.sizeOf41) ?_
          refine WL.va rfl rfl rfl (X.build (evp_cons rfl evp_nil) Try.type41 Try.underlying41 rfl rfl ⟨rfl, trivial⟩ rfl) ?_
          refine WL.va rfl rfl rfl (X.neqA (na := (la[k]'(by omega)).ints) (nb := filler.ints) flatR fieldsR offsR rfl rfl rfl rfl (Rg.eqB _ _)) ?_
          refine WL.nil ?_
          refine thn_n ?_
          refine WF.cond rfl (fun h2_17 => ?_) (fun h2_17 => ?_)
          · have gh2_17 := h2_17
            have hne : la ≠ l ++ List.replicate 5 filler := fun e => of_decide_eq_false (nt gh2_17) (by subst e; rw [List.getElem_append_right (by omega), List.getElem_replicate])
            refine WF.seq ?_
            refine WF.region ?_
            refine WL.va rfl rfl rfl (X.assignB rfl) ?_
            refine WL.nil ?_
            refine thn_n ?_
            refine WF.ret ?_
            refine blk_r ?_
            refine thn_r ?_
            refine thn_r ?_
            refine blk_r ?_
            refine thn_r ?_
            refine fin_r ?_
            exact ⟨congrArg Value.bool (decide_eq_false hne).symm, hwL0⟩
          · have gh2_17 := h2_17
            have hm5 := of_decide_eq_true (nf gh2_17)
            refine WF.skip ?_
            refine blk_n ?_
            refine thn_n ?_
            refine WF.region ?_
            refine WL.va rfl rfl rfl (X.moveI e5_L0) ?_
            refine WL.va rfl rfl rfl (X.add rfl rfl (w64 (by omega))) ?_
            refine WL.va rfl rfl rfl (X.assignI rfl) ?_
            refine WL.nil ?_
            exact thn_n ⟨_, (by omega), k + 1, rfl, rfl, (by repeat (first | exact hAL0 | refine Agree.put ?_ rfl | refine Agree.named hF14 ?_)), hwL0, ⟨by omega, by omega, fun i hi h1 h2 => by rcases Nat.lt_succ_iff_lt_or_eq.1 h2 with h | rfl; exact hkk i hi h1 h; exact hm5⟩⟩
        · have gh1_15 := (of_decide_eq_false h1_15)
          refine WF.exit ?_
          refine thn_x ?_
          refine thn_x ?_
          refine blk_eq ?_
          refine thn_n ?_
          refine WF.seq ?_
          refine WF.region ?_
          refine WL.va rfl rfl rfl (X.assignB rfl) ?_
          refine WL.nil ?_
          refine thn_n ?_
          refine WF.ret ?_
          refine fin_r ?_
          exact ⟨congrArg Value.bool (decide_eq_true (keptR_eq (by omega) hpre (fun i hi h1 => hkk i hi h1 (by omega)))).symm, hwL0⟩

theorem spoilRanges_ok (v : Value) (l : List Rg) (w : World) (B : Nat) (ho : OwnR w B 41 v l) : FnOk Try.prog 20 [v] w (fun _ w' => (∃ l', OwnR w' B 41 v l') ∧ w.grownBy w' v.ownBlock) := by
  have hb := Row.of_own ho
  have hl := Rgs.le64 hb
  refine FnOk.enter (rs := []) Try.func20 rfl Try.ntmps20 Try.results20 rfl rfl ?_
  refine WF.seq ?_
  refine WF.region ?_
  refine WL.va rfl rfl rfl (X.assignI rfl) ?_
  refine WL.nil ?_
  refine thn_n ?_
  refine WF.block ?_
  refine WF.named (fun F1 hF2 => ?_)
  refine WF.loopN (fun mL0 f' w' => ∃ (k : Nat) (L : List Rg), mL0 = l.length - k ∧ f' 2 = .int .i64 (k : Int) ∧ Agree [0] f' F1 ∧ w.grownBy w' v.ownBlock ∧ k ≤ l.length ∧ L.length = l.length ∧ OwnR w' B 41 v L) ?_ ?_
  · exact ⟨_, 0, l, rfl, (congrFun hF2 2), (Agree.refl _ _), (World.grownBy.refl _ _), ⟨Nat.zero_le _, rfl, ho⟩⟩
  · rintro mL0 fL0 wL0 ⟨k, L, hmL0, e2_L0, hAL0, hwL0, ⟨hk, hL, ho⟩⟩
    refine WF.seq ?_
    refine WF.seq ?_
    refine WF.region ?_
    refine WL.va rfl rfl rfl (X.moveI e2_L0) ?_
    refine WL.va rfl rfl rfl (X.move ((hAL0.eq 0).trans (congrFun hF2 0))) ?_
    refine WL.va rfl rfl rfl (X.len (Row.of_own ho) rfl Try.underlying22) ?_
    refine WL.va rfl rfl rfl (X.lss rfl rfl) ?_
    refine WL.nil ?_
    refine thn_n ?_
    refine WF.cond rfl (fun h0_3 => ?_) (fun h0_3 => ?_)
    · have gh0_3 := (of_decide_eq_true h0_3)
      refine WF.skip ?_
      refine thn_n ?_
      refine WF.seq ?_
      refine WF.block ?_
      refine WF.region ?_
      refine WL.va rfl rfl rfl (X.move ((hAL0.eq 0).trans (congrFun hF2 0))) ?_
      refine WL.va rfl rfl rfl (X.moveI e2_L0) ?_
      refine WL.va rfl rfl rfl (X.move ((hAL0.eq 0).trans (congrFun hF2 0))) ?_
      refine WL.va rfl rfl rfl (X.moveI e2_L0) ?_
      refine WL.va rfl rfl rfl (X.idx (Row.of_own ho) rfl rfl (by omega) Try.underlying22 Try.sizeOf41) ?_
      refine WL.va rfl rfl rfl (X.fieldAddrA rfl Try.underlying41 rfl rfl Try.sizeOf3) ?_
      refine WL.va rfl rfl rfl (X.loadE (Row.of_own ho) (Ext.refl _) rfl (by omega) ((Rgs.get (by omega) (by decide)).trans rfl) Try.isAgg3) ?_
      refine WL.va rfl rfl rfl (X.xor rfl rfl rfl) ?_
      refine WL.va rfl rfl rfl (X.build (evp_cons rfl evp_nil) Try.type41 Try.underlying41 rfl rfl ⟨rfl, trivial⟩ rfl) ?_
      refine WL.va rfl rfl rfl (X.idx (Row.of_own ho) rfl rfl (by omega) Try.underlying22 Try.sizeOf41) ?_
      refine WL.op rfl (OW.storeEl (ds := [i64 _, i64 0, i64 0, i64 0]) ho (by omega) rfl rfl rfl (by simp [Value.oneCell']) Try.sizeOf41 ?_)
      intro w5 ho8 hx7
      have ho1 : OwnR _ _ _ _ _ := OwnR.set (a := ⟨_, 0, 0, 0⟩) (by omega) ho8
      have hg1 := hx7
      refine WL.nil ?_
      refine blk_n ?_
      refine thn_n ?_
      refine WF.region ?_
      refine WL.va rfl rfl rfl (X.moveI e2_L0) ?_
      refine WL.va rfl rfl rfl (X.add rfl rfl (w64 (by omega))) ?_
      refine WL.va rfl rfl rfl (X.assignI rfl) ?_
      refine WL.nil ?_
      exact thn_n ⟨_, (by omega), k + 1, _, rfl, rfl, (by repeat (first | exact hAL0 | refine Agree.put ?_ rfl | refine Agree.named hF2 ?_)), (grown2 hwL0 hg1), ⟨by omega, by simp [hL], ho1⟩⟩
    · have gh0_3 := (of_decide_eq_false h0_3)
      refine WF.exit ?_
      refine thn_x ?_
      refine thn_x ?_
      refine blk_eq ?_
      refine fin_n ?_
      exact ⟨⟨_, ho⟩, hwL0⟩

theorem isNaN_ok (x : Int) (w : World) : FnOk Try.prog 98 [i64 x] w (fun r w' => r = .bool false ∧ w = w') := by
  refine FnOk.enter (rs := [2]) Try.func98 rfl Try.ntmps98 Try.results98 rfl rfl ?_
  refine WF.seq ?_
  refine WF.region ?_
  refine WL.va rfl rfl rfl (X.assignB rfl) ?_
  refine WL.nil ?_
  refine thn_n ?_
  refine WF.seq ?_
  refine WF.region ?_
  refine WL.va rfl rfl rfl (X.moveI rfl) ?_
  refine WL.va rfl rfl rfl (X.moveI rfl) ?_
  refine WL.va rfl rfl rfl (X.neq rfl rfl) ?_
  refine WL.va rfl rfl rfl (X.assignB rfl) ?_
  refine WL.nil ?_
  refine thn_n ?_
  refine WF.ret ?_
  refine fin_r ?_
  exact ⟨congrArg Value.bool (by simp), rfl⟩

theorem compare_ok (x y : Int) (w : World) : FnOk Try.prog 59 [i64 x, i64 y] w (fun r w' => r = i64 (cmpI x y) ∧ w = w') := by
  refine FnOk.enter (rs := [4]) Try.func59 rfl Try.ntmps59 Try.results59 rfl rfl ?_
  refine WF.seq ?_
  refine WF.region ?_
  refine WL.va rfl rfl rfl (X.assignI rfl) ?_
  refine WL.nil ?_
  refine thn_n ?_
  refine WF.seq ?_
  refine WF.region ?_
  refine WL.va rfl rfl rfl (X.moveI rfl) ?_
  refine WL.c rfl rfl rfl (X.call Try.call98 (evl_cons rfl evl_nil)) (isNaN_ok _ _) ?_
  rintro v2 w1 ⟨rfl, rfl⟩
  refine WL.va rfl rfl rfl (X.assignB rfl) ?_
  refine WL.nil ?_
  refine thn_n ?_
  refine WF.seq ?_
  refine WF.region ?_
  refine WL.va rfl rfl rfl (X.moveI rfl) ?_
  refine WL.c rfl rfl rfl (X.call Try.call98 (evl_cons rfl evl_nil)) (isNaN_ok _ _) ?_
  rintro v6 w5 ⟨rfl, rfl⟩
  refine WL.va rfl rfl rfl (X.assignB rfl) ?_
  refine WL.nil ?_
  refine thn_n ?_
  refine WF.seq ?_
  refine WF.seq ?_
  refine WF.region ?_
  refine WL.va rfl rfl rfl (X.moveB rfl) ?_
  refine WL.nil ?_
  refine thn_n ?_
  refine WF.cond_f rfl ?_
  refine WF.skip ?_
  refine thn_n ?_
  refine WF.seq ?_
  refine WF.seq ?_
  refine WF.region ?_
  refine WL.va rfl rfl rfl (X.moveB rfl) ?_
  refine WL.nil ?_
  refine thn_n ?_
  refine WF.cond_f rfl ?_
  refine WF.skip ?_
  refine thn_n ?_
  refine WF.seq ?_
  refine WF.seq ?_
  refine WF.region ?_
  refine WL.va rfl rfl rfl (X.moveI rfl) ?_
  refine WL.va rfl rfl rfl (X.moveI rfl) ?_
  refine WL.va rfl rfl rfl (X.lss rfl rfl) ?_
  refine WL.nil ?_
  refine thn_n ?_
  refine WF.cond rfl (fun h3_9 => ?_) (fun h3_9 => ?_)
  · have gh3_9 := (of_decide_eq_true h3_9)
    refine WF.seq ?_
    refine WF.region ?_
    refine WL.va rfl rfl rfl (X.assignI rfl) ?_
    refine WL.nil ?_
    refine thn_n ?_
    refine WF.ret ?_
    refine thn_r ?_
    refine fin_r ?_
    exact ⟨by unfold cmpI; first | rw [if_pos (by assumption)]; rfl | rw [if_neg (by omega), if_pos (by omega)]; rfl | rw [if_neg (by omega), if_neg (by omega)]; rfl, rfl⟩
  · have gh3_9 := (of_decide_eq_false h3_9)
    refine WF.skip ?_
    refine thn_n ?_
    refine WF.seq ?_
    refine WF.seq ?_
    refine WF.region ?_
    refine WL.va rfl rfl rfl (X.moveI rfl) ?_
    refine WL.va rfl rfl rfl (X.moveI rfl) ?_
    refine WL.va rfl rfl rfl (X.gtr rfl rfl) ?_
    refine WL.nil ?_
    refine thn_n ?_
    refine WF.cond rfl (fun h4_11 => ?_) (fun h4_11 => ?_)
    · have gh4_11 := (of_decide_eq_true h4_11)
      refine WF.seq ?_
      refine WF.region ?_
      refine WL.va rfl rfl rfl (X.assignI rfl) ?_
      refine WL.nil ?_
      refine thn_n ?_
      refine WF.ret ?_
      refine thn_r ?_
      refine fin_r ?_
      exact ⟨by unfold cmpI; first | rw [if_pos (by assumption)]; rfl | rw [if_neg (by omega), if_pos (by omega)]; rfl | rw [if_neg (by omega), if_neg (by omega)]; rfl, rfl⟩
    · have gh4_11 := (of_decide_eq_false h4_11)
      refine WF.skip ?_
      refine thn_n ?_
      refine WF.seq ?_
      refine WF.region ?_
      refine WL.va rfl rfl rfl (X.assignI rfl) ?_
      refine WL.nil ?_
      refine thn_n ?_
      refine WF.ret ?_
      refine fin_r ?_
      exact ⟨by unfold cmpI; first | rw [if_pos (by assumption)]; rfl | rw [if_neg (by omega), if_pos (by omega)]; rfl | rw [if_neg (by omega), if_neg (by omega)]; rfl, rfl⟩

theorem indexR_ok (v vf : Value) (cs : List Value) (n : Nat) (p : Nat → Bool) (w : World) (hb : Row w v n 4 cs) (hf : ∀ k w1, k < n → Ext w w1 → CloOk Try.prog vf [agg (el cs 4 k)] w1 (fun r w2 => r = .bool (p k) ∧ Ext w1 w2)) : FnOk Try.prog 60 [v, vf] w (fun r w' => Idx p n r ∧ Ext w w') := by
  have hl : (n : Int) ≤ 9223372036854775807 := by obtain ⟨_, c, _, h1, h2, _⟩ := hb.shape; unfold maxLen at h2; omega
  refine FnOk.enter (rs := [4]) Try.func60 rfl Try.ntmps60 Try.results60 rfl rfl ?_
  refine WF.seq ?_
  refine WF.region ?_
  refine WL.va rfl rfl rfl (X.assignI rfl) ?_
  refine WL.nil ?_
  refine thn_n ?_
  refine WF.seq ?_
  refine WF.seq ?_
  refine WF.region ?_
  refine WL.va rfl rfl rfl (X.move rfl) ?_
  refine WL.va rfl rfl rfl (X.len hb rfl Try.underlying22) ?_
  refine WL.va rfl rfl rfl (X.moveI rfl) ?_
  refine WL.nil ?_
  refine thn_n ?_
  refine WF.block ?_
  refine WF.named (fun F1 hF2 => ?_)
  refine WF.loopN (fun mL0 f' w' => ∃ (k : Nat), mL0 = n - k ∧ f' 8 = .int .i64 (k : Int) ∧ Agree [0, 1, 6, 7] f' F1 ∧ Ext w w' ∧ k ≤ n ∧ ∀ j, j < k → p j = false) ?_ ?_
  · exact ⟨_, 0, rfl, (congrFun hF2 8), (Agree.refl _ _), (Ext.refl _), ⟨Nat.zero_le _, fun j hj => by omega⟩⟩
  · rintro mL0 fL0 wL0 ⟨k, hmL0, e8_L0, hAL0, hwL0, ⟨hk, hno⟩⟩
    refine WF.seq ?_
    refine WF.region ?_
    refine WL.va rfl rfl rfl (X.lss e8_L0 ((hAL0.eq 7).trans (congrFun hF2 7))) ?_
    refine WL.nil ?_
    refine thn_n ?_
    refine WF.seq ?_
    refine WF.cond rfl (fun h0_3 => ?_) (fun h0_3 => ?_)
    · have gh0_3 := (of_decide_eq_true h0_3)
      have hka : k < n := by omega
      refine WF.skip ?_
      refine thn_n ?_
      refine WF.seq ?_
      refine WF.block ?_
      refine WF.seq ?_
      refine WF.region ?_
      refine WL.va rfl rfl rfl (X.moveI e8_L0) ?_
      refine WL.va rfl rfl rfl (X.assignI rfl) ?_
      refine WL.nil ?_
      refine thn_n ?_
      refine WF.seq ?_
      refine WF.region ?_
      refine WL.va rfl rfl rfl (X.move ((hAL0.eq 1).trans (congrFun hF2 1))) ?_
      refine WL.va rfl rfl rfl (X.move ((hAL0.eq 0).trans (congrFun hF2 0))) ?_
      refine WL.va rfl rfl rfl (X.moveI rfl) ?_
      refine WL.va rfl rfl rfl (X.idx hb rfl rfl (by omega) Try.underlying22 Try.sizeOf41) ?_
      refine WL.va rfl rfl rfl (X.loadEl hb hwL0 rfl (by omega) rfl Try.isAgg41 Try.sizeOf41) ?_
      refine WL.op rfl (OW.callV rfl (evl_cons rfl evl_nil) (hf k _ hka hwL0) ?_ (by decide))
      rintro v6 w5 ⟨rfl, hx7⟩
      refine WL.nil ?_
      refine thn_n ?_
      refine WF.cond rfl (fun h1_8 => ?_) (fun h1_8 => ?_)
      · have gh1_8 := h1_8
        have hpk := gh1_8
        refine WF.seq ?_
        refine WF.region ?_
        refine WL.va rfl rfl rfl (X.moveI rfl) ?_
        refine WL.va rfl rfl rfl (X.assignI rfl) ?_
        refine WL.nil ?_
        refine thn_n ?_
        refine WF.ret ?_
        refine blk_r ?_
        refine thn_r ?_
        refine thn_r ?_
        refine blk_r ?_
        refine thn_r ?_
        refine fin_r ?_
        exact ⟨⟨_, rfl, .inl ⟨k, hka, rfl, hpk, hno⟩⟩, (Ext.trans hwL0 hx7)⟩
      · have gh1_8 := h1_8
        have hpk := gh1_8
        refine WF.skip ?_
        refine blk_n ?_
        refine thn_n ?_
        refine WF.region ?_
        refine WL.va rfl rfl rfl (X.add e8_L0 rfl (w64 (by omega))) ?_
        refine WL.va rfl rfl rfl (X.moveI rfl) ?_
        refine WL.nil ?_
        exact thn_n ⟨_, (by omega), k + 1, rfl, rfl, (by repeat (first | exact hAL0 | refine Agree.put ?_ rfl | refine Agree.named hF2 ?_)), (Ext.trans hwL0 hx7), ⟨by omega, fun j hj => by rcases Nat.lt_succ_iff_lt_or_eq.1 hj with h | rfl; exact hno j h; exact hpk⟩⟩
    · have gh0_3 := (of_decide_eq_false h0_3)
      refine WF.exit ?_
      refine thn_x ?_
      refine thn_x ?_
      refine blk_eq ?_
      refine thn_n ?_
      refine WF.seq ?_
      refine WF.region ?_
      refine WL.va rfl rfl rfl (X.assignI rfl) ?_
      refine WL.nil ?_
      refine thn_n ?_
      refine WF.ret ?_
      refine fin_r ?_
      exact ⟨⟨_, rfl, .inr ⟨rfl, fun j hj => hno j (by omega)⟩⟩, hwL0⟩

theorem cloneR_ok (v : Value) (cs : List Value) (n : Nat) (w : World) (hb : Row w v n 4 cs) (h1 : ∀ u ∈ cs, u.oneCell' = true) (hn : n ≤ 1000000) : FnOk Try.prog 55 [v] w (fun r w' => w'.ownsRow w.heap.size 41 4 r n cs ∧ Ext w w') := by
  refine FnOk.enter (rs := [2]) Try.func55 rfl Try.ntmps55 Try.results55 rfl rfl ?_
  refine WF.seq ?_
  refine WF.region ?_
  refine WL.va rfl rfl rfl (X.assign rfl) ?_
  refine WL.nil ?_
  refine thn_n ?_
  refine WF.seq ?_
  refine WF.seq ?_
  refine WF.region ?_
  refine WL.va rfl rfl rfl (X.move rfl) ?_
  refine WL.va rfl rfl rfl (X.eqlNilS hb rfl rfl Try.underlying22) ?_
  refine WL.nil ?_
  refine thn_n ?_
  refine WF.cond rfl (fun h0_1 => ?_) (fun h0_1 => ?_)
  · have gh0_1 := h0_1
    obtain rfl : n = 0 := isNilS_len hb gh0_1
    obtain rfl : cs = [] := List.eq_nil_of_length_eq_zero (by have := hb.len; omega)
    refine WF.seq ?_
    refine WF.region ?_
    refine WL.va rfl rfl rfl (X.assign rfl) ?_
    refine WL.nil ?_
    refine thn_n ?_
    refine WF.ret ?_
    refine thn_r ?_
    refine fin_r ?_
    exact ⟨World.ownsRow_nil _ _ _ _, (Ext.refl _)⟩
  · have gh0_1 := h0_1
    refine WF.skip ?_
    refine thn_n ?_
    refine WF.seq ?_
    refine WF.region ?_
    refine WL.op rfl (OW.lit0 Try.underlying22 Try.sizeOf41 ?_ (by decide))
    intro v4 w3 ho6 hx5
    have hn0 := ho6
    refine WL.va rfl rfl rfl (X.move rfl) ?_
    refine WL.op rfl (OW.append (bytes := 32) hn0 (Row.ext hb hx5) h1 rfl rfl Try.underlying22 Try.type41 rfl rfl rfl rfl (by decide) (by unfold maxLen; omega) (by omega) (hx5).size ?_ (by decide))
    intro v8 w7 ho10 hx9 hmvhx9
    have ho := ho10
    refine WL.va rfl rfl rfl (X.assign rfl) ?_
    refine WL.nil ?_
    refine thn_n ?_
    refine WF.ret ?_
    refine fin_r ?_
    rw [List.nil_append, Nat.zero_add] at ho; exact ⟨ho, (Ext.own hx5 hn0 (Nat.le_refl _) hx9)⟩

end Go.Proofs.Ytpimnlgfhpnjnaa
