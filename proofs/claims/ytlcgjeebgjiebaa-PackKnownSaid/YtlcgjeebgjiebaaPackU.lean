/- Unlike things are put as unlike bytes; what is cut off is not read. -/
import Derived.Test.YtlcgjeebgjiebaaThu
namespace Go.Proofs.Ytlcgjeebgjiebaa
open Go Go.RowKit Kf

theorem map_take_succ {α β : Type} (f : α → β) (l : List α) {k : Nat} (h : k < l.length) : (l.map f).take (k + 1) = (l.map f).take k ++ [f l[k]] := by
  rw [List.take_succ_eq_append_getElem (by simpa using h)]; simp
theorem map_ne {α β : Type} {f : α → β} {a b : List α} {k : Nat} (h1 : k < a.length) (h2 : k < b.length) (h : f a[k] ≠ f b[k]) : a.map f ≠ b.map f := fun e => by
  apply h
  have : (a.map f)[k]? = (b.map f)[k]? := by rw [e]
  simpa [h1, h2] using this
theorem cls_ne1 {a b : Thing} (h : (!(decide (a.kind = 1) == decide (b.kind = 1))) = true) : cls a ≠ cls b := fun e => by
  rw [(cls_iff.1 e).1] at h; simp at h
theorem cls_ne2 {a b : Thing} (h : (!(decide (a.kind = 2) == decide (b.kind = 2))) = true) : cls a ≠ cls b := fun e => by
  rw [(cls_iff.1 e).2] at h; simp at h
theorem cls_eq {a b : Thing} (h1 : (!(decide (a.kind = 1) == decide (b.kind = 1))) = false) (h2 : (!(decide (a.kind = 2) == decide (b.kind = 2))) = false) : cls a = cls b := cls_iff.2 ⟨by simpa using h1, by simpa using h2⟩
theorem kinds_ok (x y : Value) (a b : List Thing) (w : World) (hA0 : Things w x a) (hB0 : Things w y b) : FnOk Try.prog 31 [x, y] w (fun r w' => r = .bool (decide (a.map cls = b.map cls)) ∧ Ext w w') := by
  obtain ⟨ca, ra, hA⟩ := hA0
  obtain ⟨cb, rb, hB⟩ := hB0
  have hlm : (a.length : Int) ≤ 9223372036854775807 := by obtain ⟨_, c, _, h1, h2, _⟩ := ra.shape; unfold maxLen at h2; omega
  refine FnOk.enter (rs := [4]) Try.func31 rfl Try.ntmps31 Try.results31 rfl rfl ?_
  refine WF.seq ?_
  refine WF.region ?_
  refine WL.va rfl rfl rfl (X.assignB rfl) ?_
  refine WL.nil ?_
  refine thn_n ?_
  refine WF.seq ?_
  refine WF.seq ?_
  refine WF.region ?_
  refine WL.va rfl rfl rfl (X.move rfl) ?_
  refine WL.va rfl rfl rfl (X.len ra rfl Try.underlying45) ?_
  refine WL.va rfl rfl rfl (X.move rfl) ?_
  refine WL.va rfl rfl rfl (X.len rb rfl Try.underlying45) ?_
  refine WL.va rfl rfl rfl (X.neq rfl rfl) ?_
  refine WL.nil ?_
  refine thn_n ?_
  refine WF.cond rfl (fun h0_2 => ?_) (fun h0_2 => ?_)
  · have gh0_2 := (of_decide_eq_true h0_2)
    have hne : a.map cls ≠ b.map cls := fun e => by have := congrArg List.length e; simp at this; omega
    refine WF.seq ?_
    refine WF.region ?_
    refine WL.va rfl rfl rfl (X.assignB rfl) ?_
    refine WL.nil ?_
    refine thn_n ?_
    refine WF.ret ?_
    refine thn_r ?_
    refine fin_r ?_
    exact ⟨congrArg Value.bool (decide_eq_false hne).symm, (Ext.refl _)⟩
  · have gh0_2 := (Decidable.of_not_not (of_decide_eq_false h0_2))
    refine WF.skip ?_
    refine thn_n ?_
    refine WF.seq ?_
    refine WF.seq ?_
    refine WF.region ?_
    refine WL.va rfl rfl rfl (X.assignI rfl) ?_
    refine WL.nil ?_
    refine thn_n ?_
    refine WF.block ?_
    refine WF.named (fun F5 hF6 => ?_)
    refine WF.loopN (fun mL0 f' w' => ∃ (k : Nat), mL0 = a.length - k ∧ f' 5 = .int .i64 (k : Int) ∧ Agree [0, 1, 8, 9, 10, 11, 12] f' F5 ∧ Ext w w' ∧ k ≤ a.length ∧ (a.map cls).take k = (b.map cls).take k) ?_ ?_
    · exact ⟨_, 0, rfl, (congrFun hF6 5), (Agree.refl _ _), (Ext.refl _), ⟨Nat.zero_le _, rfl⟩⟩
    · rintro mL0 fL0 wL0 ⟨k, hmL0, e5_L0, hAL0, hwL0, ⟨hk, hkk⟩⟩
      refine WF.seq ?_
      refine WF.seq ?_
      refine WF.region ?_
      refine WL.va rfl rfl rfl (X.moveI e5_L0) ?_
      refine WL.va rfl rfl rfl (X.move ((hAL0.eq 0).trans (congrFun hF6 0))) ?_
      refine WL.va rfl rfl rfl (X.len ra rfl Try.underlying45) ?_
      refine WL.va rfl rfl rfl (X.lss rfl rfl) ?_
      refine WL.nil ?_
      refine thn_n ?_
      refine WF.cond rfl (fun h1_7 => ?_) (fun h1_7 => ?_)
      · have gh1_7 := (of_decide_eq_true h1_7)
        have hkl : k < a.length := by omega
        have hkb : k < b.length := by omega
        obtain ⟨_, _, u0, _⟩ := hA k hkl
        obtain ⟨_, _, z0, _⟩ := hB k hkb
        refine WF.skip ?_
        refine thn_n ?_
        refine WF.seq ?_
        refine WF.block ?_
        refine WF.seq ?_
        refine WF.region ?_
        refine WL.va rfl rfl rfl (X.move ((hAL0.eq 0).trans (congrFun hF6 0))) ?_
        refine WL.va rfl rfl rfl (X.moveI e5_L0) ?_
        refine WL.va rfl rfl rfl (X.idx ra rfl rfl (by omega) Try.underlying45 Try.sizeOf55) ?_
        refine WL.va rfl rfl rfl (X.fieldAddrA rfl Try.underlying55 rfl rfl Try.sizeOf3) ?_
        refine WL.va rfl rfl rfl (X.loadE ra hwL0 rfl (by omega) u0 Try.isAgg3) ?_
        refine WL.va rfl rfl rfl (X.eql rfl rfl) ?_
        refine WL.va rfl rfl rfl (X.assignB rfl) ?_
        refine WL.nil ?_
        refine thn_n ?_
        refine WF.seq ?_
        refine WF.region ?_
        refine WL.va rfl rfl rfl (X.move ((hAL0.eq 0).trans (congrFun hF6 0))) ?_
        refine WL.va rfl rfl rfl (X.moveI e5_L0) ?_
        refine WL.va rfl rfl rfl (X.idx ra rfl rfl (by omega) Try.underlying45 Try.sizeOf55) ?_
        refine WL.va rfl rfl rfl (X.fieldAddrA rfl Try.underlying55 rfl rfl Try.sizeOf3) ?_
        refine WL.va rfl rfl rfl (X.loadE ra hwL0 rfl (by omega) u0 Try.isAgg3) ?_
        refine WL.va rfl rfl rfl (X.eql rfl rfl) ?_
        refine WL.va rfl rfl rfl (X.assignB rfl) ?_
        refine WL.nil ?_
        refine thn_n ?_
        refine WF.seq ?_
        refine WF.region ?_
        refine WL.va rfl rfl rfl (X.moveB rfl) ?_
        refine WL.va rfl rfl rfl (X.move ((hAL0.eq 1).trans (congrFun hF6 1))) ?_
        refine WL.va rfl rfl rfl (X.moveI e5_L0) ?_
        refine WL.va rfl rfl rfl (X.idx rb rfl rfl (by omega) Try.underlying45 Try.sizeOf55) ?_
        refine WL.va rfl rfl rfl (X.fieldAddrA rfl Try.underlying55 rfl rfl Try.sizeOf3) ?_
        refine WL.va rfl rfl rfl (X.loadE rb hwL0 rfl (by omega) z0 Try.isAgg3) ?_
        refine WL.va rfl rfl rfl (X.eql rfl rfl) ?_
        refine WL.va rfl rfl rfl (X.neqB rfl rfl Try.underlying4) ?_
        refine WL.va rfl rfl rfl (X.moveB rfl) ?_
        refine WL.split (j := 8) rfl (fun h13 => ?_) (fun h13 => ?_)
        · have gh13 := h13
          have hne : a.map cls ≠ b.map cls := map_ne hkl hkb (cls_ne1 gh13)
          refine WL.p rfl rfl rfl (congrArg some h13) ?_
          refine WL.p rfl rfl rfl (congrArg some h13) ?_
          refine WL.p rfl rfl rfl (congrArg some h13) ?_
          refine WL.p rfl rfl rfl (congrArg some h13) ?_
          refine WL.p rfl rfl rfl (congrArg some h13) ?_
          refine WL.p rfl rfl rfl (congrArg some h13) ?_
          refine WL.p rfl rfl rfl (congrArg some h13) ?_
          refine WL.p rfl rfl rfl (congrArg some h13) ?_
          refine WL.va rfl rfl rfl (X.pickT rfl h13 rfl) ?_
          refine WL.nil ?_
          refine thn_n ?_
          refine WF.cond_t rfl ?_
          refine WF.seq ?_
          refine WF.region ?_
          refine WL.va rfl rfl rfl (X.assignB rfl) ?_
          refine WL.nil ?_
          refine thn_n ?_
          refine WF.ret ?_
          refine blk_r ?_
          refine thn_r ?_
          refine thn_r ?_
          refine blk_r ?_
          refine thn_r ?_
          refine fin_r ?_
          exact ⟨congrArg Value.bool (decide_eq_false hne).symm, hwL0⟩
        · have gh13 := h13
          have hq1 := gh13
          refine WL.vg rfl (congrArg some h13) rfl rfl (X.moveB rfl) ?_
          refine WL.vg rfl (congrArg some h13) rfl rfl (X.move ((hAL0.eq 1).trans (congrFun hF6 1))) ?_
          refine WL.vg rfl (congrArg some h13) rfl rfl (X.moveI e5_L0) ?_
          refine WL.vg rfl (congrArg some h13) rfl rfl (X.idx rb rfl rfl (by omega) Try.underlying45 Try.sizeOf55) ?_
          refine WL.vg rfl (congrArg some h13) rfl rfl (X.fieldAddrA rfl Try.underlying55 rfl rfl Try.sizeOf3) ?_
          refine WL.vg rfl (congrArg some h13) rfl rfl (X.loadE rb hwL0 rfl (by omega) z0 Try.isAgg3) ?_
          refine WL.vg rfl (congrArg some h13) rfl rfl (X.eql rfl rfl) ?_
          refine WL.vg rfl (congrArg some h13) rfl rfl (X.neqB rfl rfl Try.underlying4) ?_
          refine WL.va rfl rfl rfl (X.pickF rfl h13 rfl) ?_
          refine WL.nil ?_
          refine thn_n ?_
          refine WF.cond rfl (fun h2_17 => ?_) (fun h2_17 => ?_)
          · have gh2_17 := h2_17
            have hne : a.map cls ≠ b.map cls := map_ne hkl hkb (cls_ne2 gh2_17)
            refine WF.seq ?_
            refine WF.region ?_
            refine WL.va rfl rfl rfl (X.assignB rfl) ?_
            refine WL.nil ?_
            refine thn_n ?_
            refine WF.ret ?_
            refine blk_r ?_
            refine thn_r ?_
            refine thn_r ?_
            refine blk_r ?_
            refine thn_r ?_
            refine fin_r ?_
            exact ⟨congrArg Value.bool (decide_eq_false hne).symm, hwL0⟩
          · have gh2_17 := h2_17
            have hcls := cls_eq hq1 gh2_17
            refine WF.skip ?_
            refine blk_n ?_
            refine thn_n ?_
            refine WF.region ?_
            refine WL.va rfl rfl rfl (X.moveI e5_L0) ?_
            refine WL.va rfl rfl rfl (X.add rfl rfl (w64 (by omega))) ?_
            refine WL.va rfl rfl rfl (X.assignI rfl) ?_
            refine WL.nil ?_
            exact thn_n ⟨_, (by omega), k + 1, rfl, rfl, (by repeat (first | exact hAL0 | refine Agree.put ?_ rfl | refine Agree.named hF6 ?_)), hwL0, ⟨by omega, by rw [map_take_succ _ _ hkl, map_take_succ _ _ hkb, hkk, hcls]⟩⟩
      · have gh1_7 := (of_decide_eq_false h1_7)
        refine WF.exit ?_
        refine thn_x ?_
        refine thn_x ?_
        refine blk_eq ?_
        refine thn_n ?_
        refine WF.seq ?_
        refine WF.region ?_
        refine WL.va rfl rfl rfl (X.assignB rfl) ?_
        refine WL.nil ?_
        refine thn_n ?_
        refine WF.ret ?_
        refine fin_r ?_
        exact ⟨congrArg Value.bool (decide_eq_true (by rw [List.take_of_length_le (by simp; omega), List.take_of_length_le (by simp; omega)] at hkk; exact hkk)).symm, hwL0⟩

theorem packUnlike_walk (x : Value) (a : List Thing) (y : Value) (b : List Thing) (w : World) (hA : Things w x a) (hB : Things w y b) : FnOk Try.prog 5 [x, y] w (fun r w' => r = .bool true ∧ Ext w w') := by
  refine FnOk.enter (rs := [4]) Try.func5 rfl Try.ntmps5 Try.results5 rfl rfl ?_
  refine WF.seq ?_
  refine WF.region ?_
  refine WL.va rfl rfl rfl (X.assignB rfl) ?_
  refine WL.nil ?_
  refine thn_n ?_
  refine WF.seq ?_
  refine WF.region ?_
  refine WL.va rfl rfl rfl (X.move rfl) ?_
  refine WL.c rfl rfl rfl (X.call Try.call30 (evl_cons rfl evl_nil)) (laid_ok _ a _ hA) ?_
  rintro v3 w2 ⟨⟨vb, rfl, o1⟩, hx4⟩
  have f1 := Bytes.of_own o1
  refine WL.va rfl rfl rfl (X.move rfl) ?_
  refine WL.va rfl rfl rfl (X.extract rfl rfl) ?_
  refine WL.va rfl rfl rfl (X.extract rfl rfl) ?_
  refine WL.va rfl rfl rfl (X.assign rfl) ?_
  refine WL.va rfl rfl rfl (X.assignB rfl) ?_
  refine WL.nil ?_
  refine thn_n ?_
  refine WF.seq ?_
  refine WF.region ?_
  refine WL.va rfl rfl rfl (X.move rfl) ?_
  refine WL.c rfl rfl rfl (X.call Try.call30 (evl_cons rfl evl_nil)) (laid_ok _ b _ (hB.ext hx4)) ?_
  rintro v7 w6 ⟨⟨vc, rfl, o2⟩, hx8⟩
  have f2 := Bytes.of_own o2
  have f1 := f1.ext hx8
  refine WL.va rfl rfl rfl (X.move rfl) ?_
  refine WL.va rfl rfl rfl (X.extract rfl rfl) ?_
  refine WL.va rfl rfl rfl (X.extract rfl rfl) ?_
  refine WL.va rfl rfl rfl (X.assign rfl) ?_
  refine WL.va rfl rfl rfl (X.assignB rfl) ?_
  refine WL.nil ?_
  refine thn_n ?_
  refine WF.seq ?_
  refine WF.seq ?_
  refine WF.region ?_
  refine WL.va rfl rfl rfl (X.moveB rfl) ?_
  refine WL.va rfl rfl rfl (X.not rfl) ?_
  refine WL.va rfl rfl rfl (X.moveB rfl) ?_
  refine WL.split (j := 2) rfl (fun h11 => ?_) (fun h11 => ?_)
  · have gh11 := (nt h11)
    refine WL.p rfl rfl rfl (congrArg some h11) ?_
    refine WL.p rfl rfl rfl (congrArg some h11) ?_
    refine WL.va rfl rfl rfl (X.pickT rfl h11 rfl) ?_
    refine WL.va rfl rfl rfl (X.moveB rfl) ?_
    refine WL.p rfl rfl rfl rfl ?_
    refine WL.p rfl rfl rfl rfl ?_
    refine WL.p rfl rfl rfl rfl ?_
    refine WL.p rfl rfl rfl rfl ?_
    refine WL.va rfl rfl rfl (X.pickT rfl rfl rfl) ?_
    refine WL.nil ?_
    refine thn_n ?_
    refine WF.cond_t rfl ?_
    refine WF.seq ?_
    refine WF.region ?_
    refine WL.c rfl rfl rfl (X.call Try.call9 evl_nil) (works_ok _) ?_
    rintro v15 w14 ⟨rfl, hx16⟩
    refine WL.va rfl rfl rfl (X.assignB rfl) ?_
    refine WL.nil ?_
    refine thn_n ?_
    refine WF.ret ?_
    refine thn_r ?_
    refine fin_r ?_
    exact ⟨rfl, (Ext.trans (Ext.trans hx4 hx8) hx16)⟩
  · have gh11 := (nf h11)
    have hoka := of_decide_eq_true gh11
    refine WL.vg rfl (congrArg some h11) rfl rfl (X.moveB rfl) ?_
    refine WL.vg rfl (congrArg some h11) rfl rfl (X.not rfl) ?_
    refine WL.va rfl rfl rfl (X.pickF rfl h11 rfl) ?_
    refine WL.va rfl rfl rfl (X.moveB rfl) ?_
    refine WL.split (j := 6) rfl (fun h19 => ?_) (fun h19 => ?_)
    · have gh19 := (nt h19)
      refine WL.p rfl rfl rfl (congrArg some h19) ?_
      refine WL.p rfl rfl rfl (congrArg some h19) ?_
      refine WL.p rfl rfl rfl (congrArg some h19) ?_
      refine WL.p rfl rfl rfl (congrArg some h19) ?_
      refine WL.va rfl rfl rfl (X.pickT rfl h19 rfl) ?_
      refine WL.nil ?_
      refine thn_n ?_
      refine WF.cond_t rfl ?_
      refine WF.seq ?_
      refine WF.region ?_
      refine WL.c rfl rfl rfl (X.call Try.call9 evl_nil) (works_ok _) ?_
      rintro v22 w21 ⟨rfl, hx23⟩
      refine WL.va rfl rfl rfl (X.assignB rfl) ?_
      refine WL.nil ?_
      refine thn_n ?_
      refine WF.ret ?_
      refine thn_r ?_
      refine fin_r ?_
      exact ⟨rfl, (Ext.trans (Ext.trans hx4 hx8) hx23)⟩
    · have gh19 := (nf h19)
      have hokb := of_decide_eq_true gh19
      refine WL.vg rfl (congrArg some h19) rfl rfl (X.move rfl) ?_
      refine WL.vg rfl (congrArg some h19) rfl rfl (X.move rfl) ?_
      refine WL.cg rfl (congrArg some h19) rfl rfl (X.call Try.call31 (evl_cons rfl (evl_cons rfl evl_nil))) (kinds_ok _ _ _ _ _ (hA.ext (Ext.trans hx4 hx8)) (hB.ext (Ext.trans hx4 hx8))) ?_
      rintro v26 w25 ⟨rfl, hx27⟩
      have f1 := f1.ext hx27
      have f2 := f2.ext hx27
      refine WL.vg rfl (congrArg some h19) rfl rfl (X.not rfl) ?_
      refine WL.va rfl rfl rfl (X.pickF rfl h19 rfl) ?_
      refine WL.nil ?_
      refine thn_n ?_
      refine WF.cond rfl (fun h0_29 => ?_) (fun h0_29 => ?_)
      · have gh0_29 := (of_decide_eq_false (nt h0_29))
        refine WF.seq ?_
        refine WF.region ?_
        refine WL.c rfl rfl rfl (X.call Try.call9 evl_nil) (works_ok _) ?_
        rintro v32 w31 ⟨rfl, hx33⟩
        refine WL.va rfl rfl rfl (X.assignB rfl) ?_
        refine WL.nil ?_
        refine thn_n ?_
        refine WF.ret ?_
        refine thn_r ?_
        refine fin_r ?_
        exact ⟨rfl, (Ext.trans (Ext.trans (Ext.trans hx4 hx8) hx27) hx33)⟩
      · have gh0_29 := (of_decide_eq_true (nf h0_29))
        have hkk := gh0_29
        have hbla : (Pk.laidB a).length ≤ 140737488355328 := by unfold Pk.laidB; rw [if_pos hoka]; have := Pk.encAll_len hoka.2; have := hoka.1; omega
        have ela : Pk.laidB a = Pk.encAll a := if_pos hoka
        have hblb : (Pk.laidB b).length ≤ 140737488355328 := by unfold Pk.laidB; rw [if_pos hokb]; have := Pk.encAll_len hokb.2; have := hokb.1; omega
        have elb : Pk.laidB b = Pk.encAll b := if_pos hokb
        have hrd : (readAll ⟨Pk.laidB a, false⟩ b).1 = decide (a.map pay = b.map pay) := by have := readAll_like a b (hA.good hoka) hkk []; rwa [List.append_nil, ← ela] at this
        have hbg := begins_iff (hA.good hoka) (hB.good hokb) hkk rfl
        rw [← ela, ← elb] at hbg
        refine WF.skip ?_
        refine thn_n ?_
        refine WF.seq ?_
        refine WF.region ?_
        refine WL.va rfl rfl rfl (X.move rfl) ?_
        refine WL.va rfl rfl rfl (X.len f1 rfl Try.underlying22) ?_
        refine WL.va rfl rfl rfl (X.move rfl) ?_
        refine WL.va rfl rfl rfl (X.len f2 rfl Try.underlying22) ?_
        refine WL.va rfl rfl rfl (X.min2N rfl rfl) ?_
        refine WL.va rfl rfl rfl (X.assignI rfl) ?_
        refine WL.nil ?_
        refine thn_n ?_
        refine WF.seq ?_
        refine WF.drawn (.q 0 (.q 1 (.q 2 (.q 3 (.q 4 (.q 5 (.l 6 (.q 7 .nil)))))))) (fun w' => Ext w25 w') 8 (by kernel_rfl) (by kernel_rfl) (Ext.drew _) ?_
        refine WO.q rfl rfl rfl rfl (fun w' hE35 => (X.move rfl)) ?_
        refine WO.q rfl rfl rfl rfl (fun w' hE35 => (X.moveI rfl)) ?_
        refine WO.q rfl rfl rfl rfl (fun w' hE35 => (X.slH f1 rfl rfl (by omega) Try.underlying22 Try.sizeOf5)) ?_
        refine WO.q rfl rfl rfl rfl (fun w' hE35 => (X.move rfl)) ?_
        refine WO.q rfl rfl rfl rfl (fun w' hE35 => (X.moveI rfl)) ?_
        refine WO.q rfl rfl rfl rfl (fun w' hE35 => (X.slH f2 rfl rfl (by omega) Try.underlying22 Try.sizeOf5)) ?_
        refine WO.l ?_
        have f1 := Row.ext f1 (Ext.drew _)
        have f2 := Row.ext f2 (Ext.drew _)
        refine LO.go rfl rfl (OW.enter rfl (by decide) (X.call Try.call15 (evl_cons rfl (evl_cons rfl evl_nil))) (sameBytes_ok _ _ _ _ _ (Bytes.part f1 0 (min (Pk.laidB a).length (Pk.laidB b).length) (Nat.zero_le _) (Nat.min_le_left _ _)) (Bytes.part f2 0 (min (Pk.laidB a).length (Pk.laidB b).length) (Nat.zero_le _) (Nat.min_le_right _ _))) ?_)
        rintro v37 w36 ⟨rfl, hx38⟩
        refine ⟨(Ext.trans (Ext.drew _) hx38), ?_⟩
        have f1 := f1.ext hx38
        have f2 := f2.ext hx38
        refine WO.q rfl rfl rfl rfl (fun w' hE35 => (X.assignB rfl)) ?_
        refine WO.nil ?_
        refine WL.nil ?_
        refine thn_n ?_
        refine WF.seq ?_
        refine WF.seq ?_
        refine WF.region ?_
        refine WL.va rfl rfl rfl (X.moveB rfl) ?_
        refine WL.va rfl rfl rfl (X.move rfl) ?_
        have szw := World.grownBy.size (Ext.trans (Ext.trans (Ext.trans (Ext.trans hx4 hx8) hx27) (Ext.drew _)) hx38)
        refine WL.c rfl rfl rfl (X.call Try.call22 (evl_cons rfl evl_nil)) (read_ok _ _ _ f1 hbla) ?_
        rintro vr w40 ⟨⟨D, left, p0⟩, hx41⟩
        refine WL.va rfl rfl rfl (X.move rfl) ?_
        refine WL.c rfl rfl rfl (X.call Try.call32 (evl_cons rfl (evl_cons rfl evl_nil))) (readT_ok vr D left _ _ _ _ b w _ _ p0 hB (Ext.trans (Ext.trans (Ext.trans (Ext.trans (Ext.trans hx4 hx8) hx27) (Ext.drew _)) hx38) hx41) szw) ?_
        rintro v43 w42 ⟨rfl, ⟨a1, left1, p1⟩, hx44⟩
        refine WL.va rfl rfl rfl (X.neqB rfl rfl Try.underlying4) ?_
        refine WL.nil ?_
        refine thn_n ?_
        refine WF.cond rfl (fun h1_46 => ?_) (fun h1_46 => ?_)
        · have gh1_46 := h1_46
          rw [hrd] at gh1_46; simp [hbg] at gh1_46
        · have gh1_46 := h1_46
          refine WF.skip ?_
          refine thn_n ?_
          refine WF.seq ?_
          refine WF.region ?_
          refine WL.va rfl rfl rfl (X.moveB rfl) ?_
          refine WL.va rfl rfl rfl (X.not rfl) ?_
          refine WL.va rfl rfl rfl (X.moveB rfl) ?_
          refine WL.split (j := 2) rfl (fun h49 => ?_) (fun h49 => ?_)
          · have gh49 := (of_decide_eq_false (nt h49))
            refine WL.p rfl rfl rfl (congrArg some h49) ?_
            refine WL.p rfl rfl rfl (congrArg some h49) ?_
            refine WL.p rfl rfl rfl (congrArg some h49) ?_
            refine WL.p rfl rfl rfl (congrArg some h49) ?_
            refine WL.p rfl rfl rfl (congrArg some h49) ?_
            refine WL.va rfl rfl rfl (X.pickT rfl h49 rfl) ?_
            refine WL.va rfl rfl rfl (X.moveB rfl) ?_
            refine WL.cg rfl rfl rfl rfl (X.call Try.call9 evl_nil) (works_ok _) ?_
            rintro v52 w51 ⟨rfl, hx53⟩
            refine WL.va rfl rfl rfl (X.pickT rfl rfl rfl) ?_
            refine WL.va rfl rfl rfl (X.assignB rfl) ?_
            refine WL.nil ?_
            refine thn_n ?_
            refine WF.ret ?_
            refine fin_r ?_
            exact ⟨rfl, (Ext.trans (hx44) hx53)⟩
          · have gh49 := (of_decide_eq_true (nf h49))
            have hb9 := gh49
            refine WL.vg rfl (congrArg some h49) rfl rfl (X.move rfl) ?_
            refine WL.vg rfl (congrArg some h49) rfl rfl (X.len f1 rfl Try.underlying22) ?_
            refine WL.vg rfl (congrArg some h49) rfl rfl (X.move rfl) ?_
            refine WL.vg rfl (congrArg some h49) rfl rfl (X.len f2 rfl Try.underlying22) ?_
            refine WL.vg rfl (congrArg some h49) rfl rfl (X.eql rfl rfl) ?_
            refine WL.va rfl rfl rfl (X.pickF rfl h49 rfl) ?_
            refine WL.va rfl rfl rfl (X.moveB rfl) ?_
            refine WL.split (j := 9) rfl (fun h56 => ?_) (fun h56 => ?_)
            · have gh56 := (of_decide_eq_true h56)
              refine WL.cg rfl (congrArg some h56) rfl rfl (X.call Try.call9 evl_nil) (works_ok _) ?_
              rintro v58 w57 ⟨rfl, hx59⟩
              refine WL.va rfl rfl rfl (X.pickT rfl h56 rfl) ?_
              refine WL.va rfl rfl rfl (X.assignB rfl) ?_
              refine WL.nil ?_
              refine thn_n ?_
              refine WF.ret ?_
              refine fin_r ?_
              exact ⟨rfl, (Ext.trans (hx44) hx59)⟩
            · have gh56 := (of_decide_eq_false h56)
              exact absurd (by rw [ela, elb, encAll_pay (hbg.1 (by simpa using hb9))]) gh56

end Go.Proofs.Ytlcgjeebgjiebaa
