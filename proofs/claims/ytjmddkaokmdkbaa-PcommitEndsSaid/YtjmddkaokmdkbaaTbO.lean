/- The walk of PcommitOne, over the law's invariant. -/
import Derived.Test.YtjmddkaokmdkbaaTbB
import Derived.Test.YtjmddkaokmdkbaaPcoP
namespace Go.Proofs.Ytjmddkaokmdkbaa
open Go Go.RowKit Kf
set_option maxRecDepth 20000

/-- a move -/
structure Mq where
  K : Int
  A : Int
abbrev Mq.c (m : Mq) : List Value := [i64 m.K, i64 m.A]
theorem Mq.c_len (m : Mq) : m.c.length = 2 := rfl
def Mqs (w : World) (v : Value) (l : List Mq) : Prop := Row w v l.length 2 (l.flatMap Mq.c)
theorem Mqs.ext {w w' : World} {v : Value} {l : List Mq} (h : Mqs w v l) (k : Ext w w') : Mqs w' v l := Row.ext h k
def abortB (l : List Int) : Bool := l.any fun v => v == 2
theorem abort_0 (l : List Int) : abortB (l.take 0) = false := rfl
theorem abort_t {l : List Int} {k : Nat} (hk : k < l.length) (h : abortB (l.take k) = true) : Value.bool true = Value.bool (abortB (l.take (k + 1))) := by
  rw [List.take_succ_eq_append_getElem hk]; unfold abortB at *; rw [List.any_append, h]; rfl
theorem abort_f {l : List Int} {k : Nat} (hk : k < l.length) (h : abortB (l.take k) = false) : Value.bool (decide (l.getD k 0 = 2)) = Value.bool (abortB (l.take (k + 1))) := by
  rw [List.take_succ_eq_append_getElem hk]; unfold abortB at *; rw [List.any_append, h, List.getD_eq_getElem?_getD, List.getElem?_eq_getElem hk]; simp; rfl
/-- what the law shows -/
structure LawOne (Inv : Tb → Nat → Prop) : Prop where
  start : ∀ x, Began x → Inv x 0
  move : ∀ x n K A, Inv x n → n < 300 → x.post.length < 3000 → Inv (x.move K A) (n + 1)
  ok : ∀ x n, Inv x n → n < 300 → x.post.length < 3000 → TbOk x
  bad : ∀ x n, Inv x n → x.bad = false
  one : ∀ x n, Inv x n → x.value = 1 → abortB x.votes = false
  two : ∀ x n, Inv x n → x.value = 2 → abortB x.votes = true ∨ x.above = true
def MqIn (l : List Mq) : Prop := ∀ m ∈ l, (-9223372036854775808 ≤ m.K ∧ m.K ≤ 9223372036854775807) ∧ (-9223372036854775808 ≤ m.A ∧ m.A ≤ 9223372036854775807)
set_option maxHeartbeats 16000000 in
theorem one_walk {Inv : Tb → Nat → Prop} (L : LawOne Inv) (dP dA dN : Int) (vl : Value) (l : List Mq) (w : World) (hP : -9223372036854775808 ≤ dP ∧ dP ≤ 9223372036854775807) (hA : -9223372036854775808 ≤ dA ∧ dA ≤ 9223372036854775807) (hN : -9223372036854775808 ≤ dN ∧ dN ≤ 9223372036854775807) (hv : Mqs w vl l) (hl : MqIn l) : FnOk Try.prog 5 [agg [i64 dP, i64 dA, i64 dN], vl] w (fun r w' => r = .bool true ∧ Ext w w') := by
  have hle : (l.length : Int) ≤ 9223372036854775807 := by obtain ⟨_, c, _, h1, h2, _⟩ := hv.shape; unfold maxLen at h2; omega
  refine FnOk.enter (rs := [4]) Try.func5 rfl Try.ntmps5 Try.results5 rfl rfl ?_
  refine WF.seq ?_
  refine WF.region ?_
  refine WL.op rfl (OW.boxA (cs := [i64 dP, i64 dA, i64 dN]) rfl ?_ (by decide))
  intro g2 w1 heg2 hlg2 hO2 hx2
  have := World.grownBy.size hx2
  refine WL.va rfl rfl rfl (X.assignB rfl) ?_
  refine WL.nil ?_
  refine thn_n ?_
  refine WF.seq ?_
  refine WF.region ?_
  refine WL.va rfl rfl rfl (X.loadOA hO2 (Ext.refl _) rfl rfl Try.isAgg55 Try.sizeOf55) ?_
  refine WL.c rfl rfl rfl (X.call Try.call22 (evl_cons (v := (agg [i64 dP, i64 dA, i64 dN])) rfl evl_nil)) (begin_ok dP dA dN _ hP hA hN) ?_
  rintro v5 wB ⟨g, x0, rfl, hTB, hB0⟩
  have hI0 : Inv x0 0 := L.start x0 hB0
  have hT := hTB
  obtain ⟨G1, vp, vv, vc, vo, vk, gk, hI⟩ := hT
  have hx := hI.obj
  have tg := hx.lt
  refine WL.va rfl rfl rfl (X.assign rfl) ?_
  refine WL.nil ?_
  refine thn_n ?_
  refine WF.named (fun F7 hF8 => ?_)
  refine WF.cut (fun f' w' => ∃ (i : Nat) (x : Tb), Agree [0, 1, 2, 4, 5, 9, 10] f' F7 ∧ Ext w1 w' ∧ TAt w1 w' g x ∧ Inv x i) ?_ ?_
  · refine WF.seq ?_
    refine WF.region ?_
    refine WL.va rfl rfl rfl (X.assignI rfl) ?_
    refine WL.nil ?_
    refine thn_n ?_
    refine WF.block ?_
    refine WF.named (fun F9 hF10 => ?_)
    refine WF.loopN (fun mL0 f' w' => ∃ (i : Nat) (x : Tb), mL0 = l.length - i ∧ f' 6 = .int .i64 (i : Int) ∧ Agree [0, 1, 2, 4, 5, 9, 10] f' F9 ∧ Ext w1 w' ∧ i ≤ l.length ∧ TAt w1 w' g x ∧ Inv x i) ?_ ?_
    · exact ⟨_, 0, x0, rfl, (congrFun hF10 6), (Agree.refl _ _), (hTB.since), ⟨Nat.zero_le _, hTB, hI0⟩⟩
    · rintro mL0 fL0 wL0 ⟨i, x, hmL0, e6_L0, hAL0, hwL0, ⟨hi0, hT, hIv⟩⟩
      have := World.grownBy.size hwL0
      have hTE := hT
      obtain ⟨G1, vp, vv, vc, vo, vk, gk, hI⟩ := hT
      have hx := hI.obj
      have tg := hx.lt
      refine WF.seq ?_
      refine WF.seq ?_
      refine WF.region ?_
      refine WL.va rfl rfl rfl (X.moveI e6_L0) ?_
      refine WL.va rfl rfl rfl (X.move ((hAL0.eq 1).trans ((congrFun hF10 1).trans (congrFun hF8 1)))) ?_
      refine WL.va rfl rfl rfl (X.len hv rfl Try.underlying56) ?_
      refine WL.va rfl rfl rfl (X.lss rfl rfl) ?_
      refine WL.va rfl rfl rfl (X.moveB rfl) ?_
      refine WL.split (j := 4) rfl (fun h12 => ?_) (fun h12 => ?_)
      · have gh12 := (of_decide_eq_true h12)
        have q1 : i < l.length := by have := gh12; omega
        refine WL.vg rfl (congrArg some h12) rfl rfl (X.moveI e6_L0) ?_
        refine WL.vg rfl (congrArg some h12) rfl rfl (X.lss rfl rfl) ?_
        refine WL.va rfl rfl rfl (X.pickT rfl h12 rfl) ?_
        refine WL.va rfl rfl rfl (X.moveB rfl) ?_
        refine WL.split (j := 8) rfl (fun h14 => ?_) (fun h14 => ?_)
        · have gh14 := (of_decide_eq_true h14)
          have q2 : i < 300 := by have := gh14; omega
          refine WL.vg rfl (congrArg some h14) rfl rfl (X.move ((hAL0.eq 5).trans ((congrFun hF10 5).trans (congrFun hF8 5)))) ?_
          refine WL.vg rfl (congrArg some h14) rfl rfl (X.nilCheck rfl) ?_
          refine WL.vg rfl (congrArg some h14) rfl rfl (X.fieldAddrP (off := 13) rfl Try.underlying63 rfl rfl Try.sizeOf36) ?_
          refine WL.vg rfl (congrArg some h14) rfl rfl (X.loadO hx (Ext.refl _) rfl rfl Try.isAgg36) ?_
          refine WL.vg rfl (congrArg some h14) rfl rfl (X.len (hI.post.rd) rfl Try.underlying36) ?_
          refine WL.vg rfl (congrArg some h14) rfl rfl (X.lss rfl rfl) ?_
          refine WL.va rfl rfl rfl (X.pickT rfl h14 rfl) ?_
          refine WL.nil ?_
          refine thn_n ?_
          refine WF.cond rfl (fun h0_15 => ?_) (fun h0_15 => ?_)
          · have gh0_15 := (of_decide_eq_true h0_15)
            have q3 : x.post.length < 3000 := by have := gh0_15; omega
            refine WF.skip ?_
            refine thn_n ?_
            refine WF.seq ?_
            refine WF.block ?_
            refine WF.region ?_
            refine WL.va rfl rfl rfl (X.move ((hAL0.eq 5).trans ((congrFun hF10 5).trans (congrFun hF8 5)))) ?_
            refine WL.va rfl rfl rfl (X.move ((hAL0.eq 1).trans ((congrFun hF10 1).trans (congrFun hF8 1)))) ?_
            refine WL.va rfl rfl rfl (X.moveI e6_L0) ?_
            refine WL.va rfl rfl rfl (X.idx hv rfl rfl q1 Try.underlying56 Try.sizeOf66) ?_
            refine WL.va rfl rfl rfl (X.loadEl hv (Ext.trans hx2 hwL0) rfl q1 (flat_el Mq.c_len q1) Try.isAgg66 Try.sizeOf66) ?_
            refine WL.c rfl rfl rfl (X.call Try.call23 (evl_cons (v := (at_ g)) rfl (evl_cons (v := (agg (Mq.c (l[i]'q1)))) rfl evl_nil))) (move_ok w1 _ G1 g x (l[i]'q1).K (l[i]'q1).A ⟨_, _, _, _, _, _, hI⟩ (L.ok x i hIv q2 q3) (hl _ (List.getElem_mem q1)).1 (hl _ (List.getElem_mem q1)).2) ?_
            rintro v18 w17 hTP
            refine WL.nil ?_
            refine blk_n ?_
            refine thn_n ?_
            refine WF.region ?_
            refine WL.va rfl rfl rfl (X.moveI e6_L0) ?_
            refine WL.va rfl rfl rfl (X.add rfl rfl (w64 (by omega))) ?_
            refine WL.va rfl rfl rfl (X.assignI rfl) ?_
            refine WL.nil ?_
            exact thn_n ⟨_, (by omega), i + 1, x.move (l[i]'q1).K (l[i]'q1).A, rfl, rfl, (by repeat (first | exact hAL0 | refine Agree.put ?_ rfl | refine Agree.named hF10 ?_ | refine Agree.named hF8 ?_)), ((TP.at' hTP).since), ⟨by omega, TP.at' hTP, L.move x i _ _ hIv q2 q3⟩⟩
          · have gh0_15 := (of_decide_eq_false h0_15)
            refine WF.exit ?_
            refine thn_x ?_
            refine thn_x ?_
            refine blk_eq ?_
            refine thn_n ?_
            exact ⟨i, x, (by repeat (first | exact (Agree.refl _ F7) | refine Agree.put ?_ rfl | refine Agree.sub hAL0 rfl ?_ | refine Agree.named hF10 ?_ | refine Agree.named hF8 ?_)), hTE.since, ⟨hTE, hIv⟩⟩
        · have gh14 := (of_decide_eq_false h14)
          refine WL.p rfl rfl rfl (congrArg some h14) ?_
          refine WL.p rfl rfl rfl (congrArg some h14) ?_
          refine WL.p rfl rfl rfl (congrArg some h14) ?_
          refine WL.p rfl rfl rfl (congrArg some h14) ?_
          refine WL.p rfl rfl rfl (congrArg some h14) ?_
          refine WL.p rfl rfl rfl (congrArg some h14) ?_
          refine WL.va rfl rfl rfl (X.pickF rfl h14 rfl) ?_
          refine WL.nil ?_
          refine thn_n ?_
          refine WF.cond_f rfl ?_
          refine WF.exit ?_
          refine thn_x ?_
          refine thn_x ?_
          refine blk_eq ?_
          refine thn_n ?_
          exact ⟨i, x, (by repeat (first | exact (Agree.refl _ F7) | refine Agree.put ?_ rfl | refine Agree.sub hAL0 rfl ?_ | refine Agree.named hF10 ?_ | refine Agree.named hF8 ?_)), hTE.since, ⟨hTE, hIv⟩⟩
      · have gh12 := (of_decide_eq_false h12)
        refine WL.p rfl rfl rfl (congrArg some h12) ?_
        refine WL.p rfl rfl rfl (congrArg some h12) ?_
        refine WL.va rfl rfl rfl (X.pickF rfl h12 rfl) ?_
        refine WL.va rfl rfl rfl (X.moveB rfl) ?_
        refine WL.p rfl rfl rfl rfl ?_
        refine WL.p rfl rfl rfl rfl ?_
        refine WL.p rfl rfl rfl rfl ?_
        refine WL.p rfl rfl rfl rfl ?_
        refine WL.p rfl rfl rfl rfl ?_
        refine WL.p rfl rfl rfl rfl ?_
        refine WL.va rfl rfl rfl (X.pickF rfl rfl rfl) ?_
        refine WL.nil ?_
        refine thn_n ?_
        refine WF.cond_f rfl ?_
        refine WF.exit ?_
        refine thn_x ?_
        refine thn_x ?_
        refine blk_eq ?_
        refine thn_n ?_
        exact ⟨i, x, (by repeat (first | exact (Agree.refl _ F7) | refine Agree.put ?_ rfl | refine Agree.sub hAL0 rfl ?_ | refine Agree.named hF10 ?_ | refine Agree.named hF8 ?_)), hTE.since, ⟨hTE, hIv⟩⟩
  · rintro fCs2 wCs2 ⟨i, x, hACs2, hwCs2, ⟨hT, hIv⟩⟩
    have := World.grownBy.size hwCs2
    obtain ⟨G1, vp, vv, vc, vo, vk, gk, hI⟩ := hT
    have hx := hI.obj
    have tg := hx.lt
    have hvl : (x.votes.length : Int) ≤ 9223372036854775807 := by obtain ⟨_, c, _, h1, h2, _⟩ := hI.votes.rd.shape; unfold maxLen at h2; omega
    have hE1 := L.bad x i hIv
    have hE2 := L.one x i hIv
    have hE3 := L.two x i hIv
    refine WF.seq ?_
    refine WF.region ?_
    refine WL.va rfl rfl rfl (X.assignB rfl) ?_
    refine WL.nil ?_
    refine thn_n ?_
    refine WF.seq ?_
    refine WF.seq ?_
    refine WF.region ?_
    refine WL.va rfl rfl rfl (X.assignI rfl) ?_
    refine WL.nil ?_
    refine thn_n ?_
    refine WF.block ?_
    refine WF.named (fun F24 hF25 => ?_)
    refine WF.loopN (fun mL1 f' w' => ∃ (k : Nat), mL1 = x.votes.length - k ∧ f' 8 = .int .i64 (k : Int) ∧ f' 7 = .bool (abortB (x.votes.take k)) ∧ Agree [0, 1, 2, 4, 5, 9, 10] f' F24 ∧ wCs2 = w' ∧ k ≤ x.votes.length) ?_ ?_
    · exact ⟨_, 0, rfl, (congrFun hF25 8), (congrFun hF25 7), (Agree.refl _ _), rfl, (Nat.zero_le _)⟩
    · rintro mL1 fL1 wL1 ⟨k, hmL1, e8_L1, e7_L1, hAL1, rfl, hk0⟩
      refine WF.seq ?_
      refine WF.seq ?_
      refine WF.region ?_
      refine WL.va rfl rfl rfl (X.moveI e8_L1) ?_
      refine WL.va rfl rfl rfl (X.move ((hAL1.eq 5).trans ((congrFun hF25 5).trans ((hACs2.eq 5).trans (congrFun hF8 5))))) ?_
      refine WL.va rfl rfl rfl (X.nilCheck rfl) ?_
      refine WL.va rfl rfl rfl (X.fieldAddrP (off := 1) rfl Try.underlying63 rfl rfl Try.sizeOf22) ?_
      refine WL.va rfl rfl rfl (X.loadO hx (Ext.refl _) rfl rfl Try.isAgg22) ?_
      refine WL.va rfl rfl rfl (X.len (hI.votes.rd) rfl Try.underlying22) ?_
      refine WL.va rfl rfl rfl (X.lss rfl rfl) ?_
      refine WL.nil ?_
      refine thn_n ?_
      refine WF.cond rfl (fun h1_27 => ?_) (fun h1_27 => ?_)
      · have gh1_27 := (of_decide_eq_true h1_27)
        have hk : k < x.votes.length := by have := gh1_27; omega
        refine WF.skip ?_
        refine thn_n ?_
        refine WF.seq ?_
        refine WF.block ?_
        refine WF.region ?_
        refine WL.va rfl rfl rfl (X.moveB e7_L1) ?_
        refine WL.va rfl rfl rfl (X.moveB rfl) ?_
        refine WL.split (j := 1) rfl (fun h29 => ?_) (fun h29 => ?_)
        · have gh29 := h29
          have hb : abortB (x.votes.take k) = true := gh29
          refine WL.p rfl rfl rfl (congrArg some h29) ?_
          refine WL.p rfl rfl rfl (congrArg some h29) ?_
          refine WL.p rfl rfl rfl (congrArg some h29) ?_
          refine WL.p rfl rfl rfl (congrArg some h29) ?_
          refine WL.p rfl rfl rfl (congrArg some h29) ?_
          refine WL.p rfl rfl rfl (congrArg some h29) ?_
          refine WL.p rfl rfl rfl (congrArg some h29) ?_
          refine WL.p rfl rfl rfl (congrArg some h29) ?_
          refine WL.va rfl rfl rfl (X.pickT rfl h29 rfl) ?_
          refine WL.va rfl rfl rfl (X.assignB rfl) ?_
          refine WL.nil ?_
          refine blk_n ?_
          refine thn_n ?_
          refine WF.region ?_
          refine WL.va rfl rfl rfl (X.moveI e8_L1) ?_
          refine WL.va rfl rfl rfl (X.add rfl rfl (w64 (by omega))) ?_
          refine WL.va rfl rfl rfl (X.assignI rfl) ?_
          refine WL.nil ?_
          exact thn_n ⟨_, (by omega), k + 1, rfl, rfl, (Eq.trans rfl (by first | exact abort_t hk hb | exact abort_f hk hb)), (by repeat (first | exact hAL1 | refine Agree.put ?_ rfl | refine Agree.sub hACs2 rfl ?_ | refine Agree.named hF25 ?_ | refine Agree.named hF8 ?_)), rfl, (by omega)⟩
        · have gh29 := h29
          have hb : abortB (x.votes.take k) = false := gh29
          refine WL.vg rfl (congrArg some h29) rfl rfl (X.move ((hAL1.eq 5).trans ((congrFun hF25 5).trans ((hACs2.eq 5).trans (congrFun hF8 5))))) ?_
          refine WL.vg rfl (congrArg some h29) rfl rfl (X.nilCheck rfl) ?_
          refine WL.vg rfl (congrArg some h29) rfl rfl (X.fieldAddrP (off := 1) rfl Try.underlying63 rfl rfl Try.sizeOf22) ?_
          refine WL.vg rfl (congrArg some h29) rfl rfl (X.loadO hx (Ext.refl _) rfl rfl Try.isAgg22) ?_
          refine WL.vg rfl (congrArg some h29) rfl rfl (X.moveI e8_L1) ?_
          refine WL.vg rfl (congrArg some h29) rfl rfl (X.idx (hI.votes.rd) rfl rfl (by omega) Try.underlying22 Try.sizeOf3) ?_
          refine WL.vg rfl (congrArg some h29) rfl rfl (X.loadI (hI.votes.rd) (Ext.refl _) rfl (by omega) Try.isAgg3) ?_
          refine WL.vg rfl (congrArg some h29) rfl rfl (X.eql rfl rfl) ?_
          refine WL.va rfl rfl rfl (X.pickF rfl h29 rfl) ?_
          refine WL.va rfl rfl rfl (X.assignB rfl) ?_
          refine WL.nil ?_
          refine blk_n ?_
          refine thn_n ?_
          refine WF.region ?_
          refine WL.va rfl rfl rfl (X.moveI e8_L1) ?_
          refine WL.va rfl rfl rfl (X.add rfl rfl (w64 (by omega))) ?_
          refine WL.va rfl rfl rfl (X.assignI rfl) ?_
          refine WL.nil ?_
          exact thn_n ⟨_, (by omega), k + 1, rfl, rfl, (Eq.trans rfl (by first | exact abort_t hk hb | exact abort_f hk hb)), (by repeat (first | exact hAL1 | refine Agree.put ?_ rfl | refine Agree.sub hACs2 rfl ?_ | refine Agree.named hF25 ?_ | refine Agree.named hF8 ?_)), rfl, (by omega)⟩
      · have gh1_27 := (of_decide_eq_false h1_27)
        have hke : x.votes.length ≤ k := by have := gh1_27; omega
        have hta : x.votes.take k = x.votes := List.take_of_length_le hke
        rw [← hta] at hE2 hE3
        refine WF.exit ?_
        refine thn_x ?_
        refine thn_x ?_
        refine blk_eq ?_
        refine thn_n ?_
        refine WF.seq ?_
        refine WF.seq ?_
        refine WF.region ?_
        refine WL.va rfl rfl rfl (X.move ((hAL1.eq 5).trans ((congrFun hF25 5).trans ((hACs2.eq 5).trans (congrFun hF8 5))))) ?_
        refine WL.va rfl rfl rfl (X.nilCheck rfl) ?_
        refine WL.va rfl rfl rfl (X.fieldAddrP (off := 16) rfl Try.underlying63 rfl rfl Try.sizeOf4) ?_
        refine WL.va rfl rfl rfl (X.loadO hx (Ext.refl _) rfl rfl Try.isAgg4) ?_
        refine WL.va rfl rfl rfl (X.moveB rfl) ?_
        refine WL.split (j := 4) rfl (fun h33 => ?_) (fun h33 => ?_)
        · have gh33 := h33
          exact absurd (hE1.symm.trans gh33) (by decide)
        · have gh33 := h33
          refine WL.vg rfl (congrArg some h33) rfl rfl (X.move ((hAL1.eq 5).trans ((congrFun hF25 5).trans ((hACs2.eq 5).trans (congrFun hF8 5))))) ?_
          refine WL.vg rfl (congrArg some h33) rfl rfl (X.nilCheck rfl) ?_
          refine WL.vg rfl (congrArg some h33) rfl rfl (X.fieldAddrP (off := 14) rfl Try.underlying63 rfl rfl Try.sizeOf3) ?_
          refine WL.vg rfl (congrArg some h33) rfl rfl (X.loadO hx (Ext.refl _) rfl rfl Try.isAgg3) ?_
          refine WL.vg rfl (congrArg some h33) rfl rfl (X.eql rfl rfl) ?_
          refine WL.vg rfl (congrArg some h33) rfl rfl (X.moveB rfl) ?_
          refine WL.split (j := 10) rfl (fun h35 => ?_) (fun h35 => ?_)
          · have gh35 := (of_decide_eq_true h35)
            have v1 : x.value = 1 := gh35
            refine WL.vg rfl (congrArg some h35) rfl rfl (X.moveB e7_L1) ?_
            refine WL.vg rfl (congrArg some h33) rfl rfl (X.pickT rfl h35 rfl) ?_
            refine WL.va rfl rfl rfl (X.pickF rfl h33 rfl) ?_
            refine WL.va rfl rfl rfl (X.moveB rfl) ?_
            refine WL.split (j := 14) rfl (fun h36 => ?_) (fun h36 => ?_)
            · have gh36 := h36
              exact absurd ((hE2 v1).symm.trans gh36) (by decide)
            · have gh36 := h36
              have ab0 := gh36
              refine WL.vg rfl (congrArg some h36) rfl rfl (X.move ((hAL1.eq 5).trans ((congrFun hF25 5).trans ((hACs2.eq 5).trans (congrFun hF8 5))))) ?_
              refine WL.vg rfl (congrArg some h36) rfl rfl (X.nilCheck rfl) ?_
              refine WL.vg rfl (congrArg some h36) rfl rfl (X.fieldAddrP (off := 14) rfl Try.underlying63 rfl rfl Try.sizeOf3) ?_
              refine WL.vg rfl (congrArg some h36) rfl rfl (X.loadO hx (Ext.refl _) rfl rfl Try.isAgg3) ?_
              refine WL.vg rfl (congrArg some h36) rfl rfl (X.eql rfl rfl) ?_
              refine WL.vg rfl (congrArg some h36) rfl rfl (X.moveB rfl) ?_
              refine WL.split (j := 20) rfl (fun h38 => ?_) (fun h38 => ?_)
              · have gh38 := (of_decide_eq_true h38)
                have v2 : x.value = 2 := gh38
                refine WL.vg rfl (congrArg some h38) rfl rfl (X.moveB e7_L1) ?_
                refine WL.vg rfl (congrArg some h38) rfl rfl (X.not rfl) ?_
                refine WL.vg rfl (congrArg some h36) rfl rfl (X.pickT rfl h38 rfl) ?_
                refine WL.vg rfl (congrArg some h36) rfl rfl (X.moveB rfl) ?_
                refine WL.vg rfl (congrArg some (congrArg (fun z => !z) h36)) rfl rfl (X.move ((hAL1.eq 5).trans ((congrFun hF25 5).trans ((hACs2.eq 5).trans (congrFun hF8 5))))) ?_
                refine WL.vg rfl (congrArg some (congrArg (fun z => !z) h36)) rfl rfl (X.nilCheck rfl) ?_
                refine WL.vg rfl (congrArg some (congrArg (fun z => !z) h36)) rfl rfl (X.fieldAddrP (off := 15) rfl Try.underlying63 rfl rfl Try.sizeOf4) ?_
                refine WL.vg rfl (congrArg some (congrArg (fun z => !z) h36)) rfl rfl (X.loadO hx (Ext.refl _) rfl rfl Try.isAgg4) ?_
                refine WL.vg rfl (congrArg some (congrArg (fun z => !z) h36)) rfl rfl (X.not rfl) ?_
                refine WL.vg rfl (congrArg some h36) rfl rfl (X.pickT rfl (congrArg (fun z => !z) h36) rfl) ?_
                refine WL.va rfl rfl rfl (X.pickF rfl h36 rfl) ?_
                refine WL.nil ?_
                refine thn_n ?_
                refine WF.cond rfl (fun h2_41 => ?_) (fun h2_41 => ?_)
                · have gh2_41 := (nt h2_41)
                  exact absurd (hE3 v2) (fun q => by rcases q with q | q <;> simp_all)
                · have gh2_41 := (nf h2_41)
                  refine WF.skip ?_
                  refine thn_n ?_
                  refine WF.seq ?_
                  refine WF.region ?_
                  refine WL.c rfl rfl rfl (X.call Try.call21 evl_nil) (known_ok _) ?_
                  rintro v44 w43 ⟨rfl, hx45⟩
                  have := World.grownBy.size hx45
                  refine WL.va rfl rfl rfl (X.assignB rfl) ?_
                  refine WL.nil ?_
                  refine thn_n ?_
                  refine WF.ret ?_
                  refine fin_r ?_
                  exact ⟨rfl, (Ext.trans (Ext.trans hx2 hwCs2) hx45)⟩
              · have gh38 := (of_decide_eq_false h38)
                refine WL.p rfl rfl rfl (congrArg some h38) ?_
                refine WL.p rfl rfl rfl (congrArg some h38) ?_
                refine WL.vg rfl (congrArg some h36) rfl rfl (X.pickF rfl h38 rfl) ?_
                refine WL.vg rfl (congrArg some h36) rfl rfl (X.moveB rfl) ?_
                refine WL.p rfl rfl rfl rfl ?_
                refine WL.p rfl rfl rfl rfl ?_
                refine WL.p rfl rfl rfl rfl ?_
                refine WL.p rfl rfl rfl rfl ?_
                refine WL.p rfl rfl rfl rfl ?_
                refine WL.vg rfl (congrArg some h36) rfl rfl (X.pickF rfl rfl rfl) ?_
                refine WL.va rfl rfl rfl (X.pickF rfl h36 rfl) ?_
                refine WL.nil ?_
                refine thn_n ?_
                refine WF.cond_f rfl ?_
                refine WF.skip ?_
                refine thn_n ?_
                refine WF.seq ?_
                refine WF.region ?_
                refine WL.c rfl rfl rfl (X.call Try.call21 evl_nil) (known_ok _) ?_
                rintro v50 w49 ⟨rfl, hx51⟩
                have := World.grownBy.size hx51
                refine WL.va rfl rfl rfl (X.assignB rfl) ?_
                refine WL.nil ?_
                refine thn_n ?_
                refine WF.ret ?_
                refine fin_r ?_
                exact ⟨rfl, (Ext.trans (Ext.trans hx2 hwCs2) hx51)⟩
          · have gh35 := (of_decide_eq_false h35)
            refine WL.p rfl rfl rfl (congrArg some h35) ?_
            refine WL.vg rfl (congrArg some h33) rfl rfl (X.pickF rfl h35 rfl) ?_
            refine WL.va rfl rfl rfl (X.pickF rfl h33 rfl) ?_
            refine WL.va rfl rfl rfl (X.moveB rfl) ?_
            refine WL.vg rfl rfl rfl rfl (X.move ((hAL1.eq 5).trans ((congrFun hF25 5).trans ((hACs2.eq 5).trans (congrFun hF8 5))))) ?_
            refine WL.vg rfl rfl rfl rfl (X.nilCheck rfl) ?_
            refine WL.vg rfl rfl rfl rfl (X.fieldAddrP (off := 14) rfl Try.underlying63 rfl rfl Try.sizeOf3) ?_
            refine WL.vg rfl rfl rfl rfl (X.loadO hx (Ext.refl _) rfl rfl Try.isAgg3) ?_
            refine WL.vg rfl rfl rfl rfl (X.eql rfl rfl) ?_
            refine WL.vg rfl rfl rfl rfl (X.moveB rfl) ?_
            refine WL.split (j := 20) rfl (fun h55 => ?_) (fun h55 => ?_)
            · have gh55 := (of_decide_eq_true h55)
              have v2 : x.value = 2 := gh55
              refine WL.vg rfl (congrArg some h55) rfl rfl (X.moveB e7_L1) ?_
              refine WL.vg rfl (congrArg some h55) rfl rfl (X.not rfl) ?_
              refine WL.vg rfl rfl rfl rfl (X.pickT rfl h55 rfl) ?_
              refine WL.vg rfl rfl rfl rfl (X.moveB rfl) ?_
              refine WL.split (j := 24) rfl (fun h57 => ?_) (fun h57 => ?_)
              · have gh57 := (nt h57)
                have ab1 := gh57
                refine WL.vg rfl (congrArg some h57) rfl rfl (X.move ((hAL1.eq 5).trans ((congrFun hF25 5).trans ((hACs2.eq 5).trans (congrFun hF8 5))))) ?_
                refine WL.vg rfl (congrArg some h57) rfl rfl (X.nilCheck rfl) ?_
                refine WL.vg rfl (congrArg some h57) rfl rfl (X.fieldAddrP (off := 15) rfl Try.underlying63 rfl rfl Try.sizeOf4) ?_
                refine WL.vg rfl (congrArg some h57) rfl rfl (X.loadO hx (Ext.refl _) rfl rfl Try.isAgg4) ?_
                refine WL.vg rfl (congrArg some h57) rfl rfl (X.not rfl) ?_
                refine WL.vg rfl rfl rfl rfl (X.pickT rfl h57 rfl) ?_
                refine WL.va rfl rfl rfl (X.pickF rfl rfl rfl) ?_
                refine WL.nil ?_
                refine thn_n ?_
                refine WF.cond rfl (fun h2_59 => ?_) (fun h2_59 => ?_)
                · have gh2_59 := (nt h2_59)
                  exact absurd (hE3 v2) (fun q => by rcases q with q | q <;> simp_all)
                · have gh2_59 := (nf h2_59)
                  refine WF.skip ?_
                  refine thn_n ?_
                  refine WF.seq ?_
                  refine WF.region ?_
                  refine WL.c rfl rfl rfl (X.call Try.call21 evl_nil) (known_ok _) ?_
                  rintro v62 w61 ⟨rfl, hx63⟩
                  have := World.grownBy.size hx63
                  refine WL.va rfl rfl rfl (X.assignB rfl) ?_
                  refine WL.nil ?_
                  refine thn_n ?_
                  refine WF.ret ?_
                  refine fin_r ?_
                  exact ⟨rfl, (Ext.trans (Ext.trans hx2 hwCs2) hx63)⟩
              · have gh57 := (nf h57)
                refine WL.p rfl rfl rfl (congrArg some h57) ?_
                refine WL.p rfl rfl rfl (congrArg some h57) ?_
                refine WL.p rfl rfl rfl (congrArg some h57) ?_
                refine WL.p rfl rfl rfl (congrArg some h57) ?_
                refine WL.p rfl rfl rfl (congrArg some h57) ?_
                refine WL.vg rfl rfl rfl rfl (X.pickF rfl h57 rfl) ?_
                refine WL.va rfl rfl rfl (X.pickF rfl rfl rfl) ?_
                refine WL.nil ?_
                refine thn_n ?_
                refine WF.cond_f rfl ?_
                refine WF.skip ?_
                refine thn_n ?_
                refine WF.seq ?_
                refine WF.region ?_
                refine WL.c rfl rfl rfl (X.call Try.call21 evl_nil) (known_ok _) ?_
                rintro v68 w67 ⟨rfl, hx69⟩
                have := World.grownBy.size hx69
                refine WL.va rfl rfl rfl (X.assignB rfl) ?_
                refine WL.nil ?_
                refine thn_n ?_
                refine WF.ret ?_
                refine fin_r ?_
                exact ⟨rfl, (Ext.trans (Ext.trans hx2 hwCs2) hx69)⟩
            · have gh55 := (of_decide_eq_false h55)
              refine WL.p rfl rfl rfl (congrArg some h55) ?_
              refine WL.p rfl rfl rfl (congrArg some h55) ?_
              refine WL.vg rfl rfl rfl rfl (X.pickF rfl h55 rfl) ?_
              refine WL.vg rfl rfl rfl rfl (X.moveB rfl) ?_
              refine WL.p rfl rfl rfl rfl ?_
              refine WL.p rfl rfl rfl rfl ?_
              refine WL.p rfl rfl rfl rfl ?_
              refine WL.p rfl rfl rfl rfl ?_
              refine WL.p rfl rfl rfl rfl ?_
              refine WL.vg rfl rfl rfl rfl (X.pickF rfl rfl rfl) ?_
              refine WL.va rfl rfl rfl (X.pickF rfl rfl rfl) ?_
              refine WL.nil ?_
              refine thn_n ?_
              refine WF.cond_f rfl ?_
              refine WF.skip ?_
              refine thn_n ?_
              refine WF.seq ?_
              refine WF.region ?_
              refine WL.c rfl rfl rfl (X.call Try.call21 evl_nil) (known_ok _) ?_
              rintro v74 w73 ⟨rfl, hx75⟩
              have := World.grownBy.size hx75
              refine WL.va rfl rfl rfl (X.assignB rfl) ?_
              refine WL.nil ?_
              refine thn_n ?_
              refine WF.ret ?_
              refine fin_r ?_
              exact ⟨rfl, (Ext.trans (Ext.trans hx2 hwCs2) hx75)⟩

end Go.Proofs.Ytjmddkaokmdkbaa
