/- The walk of PcommitEnds, over the laws' invariants. -/
import Derived.Test.YtjmddkaokmdkbaaTbO
namespace Go.Proofs.Ytjmddkaokmdkbaa
open Go Go.RowKit Kf
set_option maxRecDepth 20000

/-- what the law of the end shows -/
structure LawEnds (Inv : Tb → Nat → Prop) (Run : Nat → Tb → Nat → Prop) : Prop where
  pre : ∀ x n, Inv x n → n ≤ 200 → (∀ q, q < 3 → (x.co q).ok) ∧ 0 ≤ x.starts ∧ x.starts ≤ 1000
  start : ∀ x n k, Inv x n → n ≤ 200 → k < 3 → Run k (({ x with post := [] } : Tb).start k) 0
  ok : ∀ k y j, k < 3 → Run k y j → TbOk y
  come : ∀ k y j, k < 3 → Run k y j → 0 < y.post.length → Run k (y.come 0).values (j + 1)
  bad : ∀ k y j, k < 3 → Run k y j → y.bad = false
  fin : ∀ k y j, k < 3 → Run k y j → j = 3000 ∨ y.post.length = 0 → (y.co k).value ≠ 0
set_option maxHeartbeats 16000000 in
theorem ends_walk {Inv : Tb → Nat → Prop} {Run : Nat → Tb → Nat → Prop} (L : LawOne Inv) (E : LawEnds Inv Run) (dP dA dN : Int) (vl : Value) (l : List Mq) (kz : Int) (w : World) (hP : -9223372036854775808 ≤ dP ∧ dP ≤ 9223372036854775807) (hA : -9223372036854775808 ≤ dA ∧ dA ≤ 9223372036854775807) (hN : -9223372036854775808 ≤ dN ∧ dN ≤ 9223372036854775807) (hv : Mqs w vl l) (hl : MqIn l) (hz : -9223372036854775808 ≤ kz ∧ kz ≤ 9223372036854775807) : FnOk Try.prog 6 [agg [i64 dP, i64 dA, i64 dN], vl, i64 kz] w (fun r w' => r = .bool true ∧ Ext w w') := by
  have hle : (l.length : Int) ≤ 9223372036854775807 := by obtain ⟨_, c, _, h1, h2, _⟩ := hv.shape; unfold maxLen at h2; omega
  obtain ⟨k, hke⟩ : ∃ k, k = pickN kz 3 := ⟨_, rfl⟩
  have hk : k < 3 := by rw [hke]; exact pickN_lt (by omega)
  refine FnOk.enter (rs := [6]) Try.func6 rfl Try.ntmps6 Try.results6 rfl rfl ?_
  refine WF.seq ?_
  refine WF.region ?_
  refine WL.op rfl (OW.boxA (cs := [i64 dP, i64 dA, i64 dN]) rfl ?_ (by decide))
  intro g3 w1 heg3 hlg3 hO3 hx2
  have := World.grownBy.size hx2
  refine WL.va rfl rfl rfl (X.assignB rfl) ?_
  refine WL.nil ?_
  refine thn_n ?_
  refine WF.seq ?_
  refine WF.region ?_
  refine WL.va rfl rfl rfl (X.loadOA hO3 (Ext.refl _) rfl rfl Try.isAgg55 Try.sizeOf55) ?_
  refine WL.c rfl rfl rfl (X.call Try.call22 (evl_cons (v := (agg [i64 dP, i64 dA, i64 dN])) rfl evl_nil)) (begin_ok dP dA dN _ hP hA hN) ?_
  rintro v5 wB ⟨g, x0, rfl, hTB, hB0⟩
  have hI0 : Inv x0 0 := L.start x0 hB0
  have hT := hTB
  obtain ⟨G1, vp, vv, vc, vo, vk, gk, hI⟩ := hT
  have hx := hI.obj
  have tg := hx.lt
  refine WL.va rfl rfl rfl (X.assign rfl) ?_
  refine WL.nil ?_
  refine thn_n ?_
  refine WF.named (fun F7 hF8 => ?_)
  refine WF.cut (fun f' w' => ∃ (i : Nat) (x : Tb), Agree [0, 1, 2, 3, 6, 7, 10, 11] f' F7 ∧ Ext w1 w' ∧ TAt w1 w' g x ∧ Inv x i ∧ i ≤ 200) ?_ ?_
  · refine WF.seq ?_
    refine WF.region ?_
    refine WL.va rfl rfl rfl (X.assignI rfl) ?_
    refine WL.nil ?_
    refine thn_n ?_
    refine WF.block ?_
    refine WF.named (fun F9 hF10 => ?_)
    refine WF.loopN (fun mL0 f' w' => ∃ (i : Nat) (x : Tb), mL0 = l.length - i ∧ f' 8 = .int .i64 (i : Int) ∧ Agree [0, 1, 2, 3, 6, 7, 10, 11] f' F9 ∧ Ext w1 w' ∧ i ≤ l.length ∧ TAt w1 w' g x ∧ Inv x i ∧ i ≤ 200) ?_ ?_
    · exact ⟨_, 0, x0, rfl, (congrFun hF10 8), (Agree.refl _ _), (hTB.since), ⟨Nat.zero_le _, hTB, hI0, by omega⟩⟩
    · rintro mL0 fL0 wL0 ⟨i, x, hmL0, e8_L0, hAL0, hwL0, ⟨hi0, hT, hIv, hi2⟩⟩
      have := World.grownBy.size hwL0
      have hTE := hT
      obtain ⟨G1, vp, vv, vc, vo, vk, gk, hI⟩ := hT
      have hx := hI.obj
      have tg := hx.lt
      refine WF.seq ?_
      refine WF.seq ?_
      refine WF.region ?_
      refine WL.va rfl rfl rfl (X.moveI e8_L0) ?_
      refine WL.va rfl rfl rfl (X.move ((hAL0.eq 1).trans ((congrFun hF10 1).trans (congrFun hF8 1)))) ?_
      refine WL.va rfl rfl rfl (X.len hv rfl Try.underlying56) ?_
      refine WL.va rfl rfl rfl (X.lss rfl rfl) ?_
      refine WL.va rfl rfl rfl (X.moveB rfl) ?_
      refine WL.split (j := 4) rfl (fun h12 => ?_) (fun h12 => ?_)
      · have gh12 := (of_decide_eq_true h12)
        have q1 : i < l.length := by have := gh12; omega
        refine WL.vg rfl (congrArg some h12) rfl rfl (X.moveI e8_L0) ?_
        refine WL.vg rfl (congrArg some h12) rfl rfl (X.lss rfl rfl) ?_
        refine WL.va rfl rfl rfl (X.pickT rfl h12 rfl) ?_
        refine WL.va rfl rfl rfl (X.moveB rfl) ?_
        refine WL.split (j := 8) rfl (fun h14 => ?_) (fun h14 => ?_)
        · have gh14 := (of_decide_eq_true h14)
          have q2 : i < 200 := by have := gh14; omega
          refine WL.vg rfl (congrArg some h14) rfl rfl (X.move ((hAL0.eq 7).trans ((congrFun hF10 7).trans (congrFun hF8 7)))) ?_
          refine WL.vg rfl (congrArg some h14) rfl rfl (X.nilCheck rfl) ?_
          refine WL.vg rfl (congrArg some h14) rfl rfl (X.fieldAddrP (off := 13) rfl Try.underlying63 rfl rfl Try.sizeOf36) ?_
          refine WL.vg rfl (congrArg some h14) rfl rfl (X.loadO hx (Ext.refl _) rfl rfl Try.isAgg36) ?_
          refine WL.vg rfl (congrArg some h14) rfl rfl (X.len (hI.post.rd) rfl Try.underlying36) ?_
          refine WL.vg rfl (congrArg some h14) rfl rfl (X.lss rfl rfl) ?_
          refine WL.va rfl rfl rfl (X.pickT rfl h14 rfl) ?_
          refine WL.nil ?_
          refine thn_n ?_
          refine WF.cond rfl (fun h0_15 => ?_) (fun h0_15 => ?_)
          · have gh0_15 := (of_decide_eq_true h0_15)
            have q3 : x.post.length < 2000 := by have := gh0_15; omega
            refine WF.skip ?_
            refine thn_n ?_
            refine WF.seq ?_
            refine WF.block ?_
            refine WF.region ?_
            refine WL.va rfl rfl rfl (X.move ((hAL0.eq 7).trans ((congrFun hF10 7).trans (congrFun hF8 7)))) ?_
            refine WL.va rfl rfl rfl (X.move ((hAL0.eq 1).trans ((congrFun hF10 1).trans (congrFun hF8 1)))) ?_
            refine WL.va rfl rfl rfl (X.moveI e8_L0) ?_
            refine WL.va rfl rfl rfl (X.idx hv rfl rfl q1 Try.underlying56 Try.sizeOf66) ?_
            refine WL.va rfl rfl rfl (X.loadEl hv (Ext.trans hx2 hwL0) rfl q1 (flat_el Mq.c_len q1) Try.isAgg66 Try.sizeOf66) ?_
            refine WL.c rfl rfl rfl (X.call Try.call23 (evl_cons (v := (at_ g)) rfl (evl_cons (v := (agg (Mq.c (l[i]'q1)))) rfl evl_nil))) (move_ok w1 _ G1 g x (l[i]'q1).K (l[i]'q1).A ⟨_, _, _, _, _, _, hI⟩ (L.ok x i hIv (by omega) (by omega)) (hl _ (List.getElem_mem q1)).1 (hl _ (List.getElem_mem q1)).2) ?_
            rintro v18 w17 hTP
            refine WL.nil ?_
            refine blk_n ?_
            refine thn_n ?_
            refine WF.region ?_
            refine WL.va rfl rfl rfl (X.moveI e8_L0) ?_
            refine WL.va rfl rfl rfl (X.add rfl rfl (w64 (by omega))) ?_
            refine WL.va rfl rfl rfl (X.assignI rfl) ?_
            refine WL.nil ?_
            exact thn_n ⟨_, (by omega), i + 1, x.move (l[i]'q1).K (l[i]'q1).A, rfl, rfl, (by repeat (first | exact hAL0 | refine Agree.put ?_ rfl | refine Agree.named hF10 ?_ | refine Agree.named hF8 ?_)), ((TP.at' hTP).since), ⟨by omega, TP.at' hTP, L.move x i _ _ hIv (by omega) (by omega), by omega⟩⟩
          · have gh0_15 := (of_decide_eq_false h0_15)
            refine WF.exit ?_
            refine thn_x ?_
            refine thn_x ?_
            refine blk_eq ?_
            refine thn_n ?_
            exact ⟨i, x, (by repeat (first | exact (Agree.refl _ F7) | refine Agree.put ?_ rfl | refine Agree.sub hAL0 rfl ?_ | refine Agree.named hF10 ?_ | refine Agree.named hF8 ?_)), hTE.since, ⟨hTE, hIv, hi2⟩⟩
        · have gh14 := (of_decide_eq_false h14)
          refine WL.p rfl rfl rfl (congrArg some h14) ?_
          refine WL.p rfl rfl rfl (congrArg some h14) ?_
          refine WL.p rfl rfl rfl (congrArg some h14) ?_
          refine WL.p rfl rfl rfl (congrArg some h14) ?_
          refine WL.p rfl rfl rfl (congrArg some h14) ?_
          refine WL.p rfl rfl rfl (congrArg some h14) ?_
          refine WL.va rfl rfl rfl (X.pickF rfl h14 rfl) ?_
          refine WL.nil ?_
          refine thn_n ?_
          refine WF.cond_f rfl ?_
          refine WF.exit ?_
          refine thn_x ?_
          refine thn_x ?_
          refine blk_eq ?_
          refine thn_n ?_
          exact ⟨i, x, (by repeat (first | exact (Agree.refl _ F7) | refine Agree.put ?_ rfl | refine Agree.sub hAL0 rfl ?_ | refine Agree.named hF10 ?_ | refine Agree.named hF8 ?_)), hTE.since, ⟨hTE, hIv, hi2⟩⟩
      · have gh12 := (of_decide_eq_false h12)
        refine WL.p rfl rfl rfl (congrArg some h12) ?_
        refine WL.p rfl rfl rfl (congrArg some h12) ?_
        refine WL.va rfl rfl rfl (X.pickF rfl h12 rfl) ?_
        refine WL.va rfl rfl rfl (X.moveB rfl) ?_
        refine WL.p rfl rfl rfl rfl ?_
        refine WL.p rfl rfl rfl rfl ?_
        refine WL.p rfl rfl rfl rfl ?_
        refine WL.p rfl rfl rfl rfl ?_
        refine WL.p rfl rfl rfl rfl ?_
        refine WL.p rfl rfl rfl rfl ?_
        refine WL.va rfl rfl rfl (X.pickF rfl rfl rfl) ?_
        refine WL.nil ?_
        refine thn_n ?_
        refine WF.cond_f rfl ?_
        refine WF.exit ?_
        refine thn_x ?_
        refine thn_x ?_
        refine blk_eq ?_
        refine thn_n ?_
        exact ⟨i, x, (by repeat (first | exact (Agree.refl _ F7) | refine Agree.put ?_ rfl | refine Agree.sub hAL0 rfl ?_ | refine Agree.named hF10 ?_ | refine Agree.named hF8 ?_)), hTE.since, ⟨hTE, hIv, hi2⟩⟩
  · rintro fCs2 wCs2 ⟨i, x, hACs2, hwCs2, ⟨hT, hIv, hi2⟩⟩
    have := World.grownBy.size hwCs2
    obtain ⟨G1, vp, vv, vc, vo, vk, gk, hI⟩ := hT
    have hx := hI.obj
    have tg := hx.lt
    refine WF.seq ?_
    refine WF.region ?_
    refine WL.va rfl rfl rfl (X.move ((hACs2.eq 7).trans (congrFun hF8 7))) ?_
    refine WL.va rfl rfl rfl (X.nilCheck rfl) ?_
    refine WL.va rfl rfl rfl (X.fieldAddrP (off := 13) rfl Try.underlying63 rfl rfl Try.sizeOf36) ?_
    have hIb := hI
    refine WL.op rfl (OW.storeO hx (Nat.le_of_ble_eq_true rfl) rfl rfl rfl Try.sizeOf36 ?_)
    intro w23 hx hx25
    have := World.grownBy.size hx25
    replace hx : Blk _ _ _ (Tb.cells { x with post := [] } vp vv vc nilS vk) := hx
    have hTP6 := hIb.setPost (v := nilS) (l := []) hx (World.ownsRow_nil _ _ _ _) (fun b e => by cases e) ((ChgS.refl _ _).row1 hx25 (.inl (.inl rfl)))
    obtain ⟨G2, n2, c2, hT2⟩ := hTP6
    have hpre := E.pre x i hIv hi2
    refine WL.nil ?_
    refine thn_n ?_
    refine WF.seq ?_
    refine WF.region ?_
    refine WL.va rfl rfl rfl (X.move ((hACs2.eq 7).trans (congrFun hF8 7))) ?_
    refine WL.va rfl rfl rfl (X.moveI ((hACs2.eq 2).trans (congrFun hF8 2))) ?_
    refine WL.c rfl rfl rfl (X.call Try.call25 (evl_cons (v := (i64 kz)) rfl (evl_cons (v := (i64 (3 : Nat))) rfl evl_nil))) (pick_to hke kz 3 _ hz (by omega)) ?_
    rintro v28 w27 ⟨rfl, rfl⟩
    refine WL.c rfl rfl rfl (X.call Try.call24 (evl_cons (v := (at_ g)) rfl (evl_cons (v := (i64 (k : Int))) rfl evl_nil))) (tstart_ok w1 _ G2 g k { x with post := [] } hT2 hk hpre.1 ⟨hpre.2.1, by have := hpre.2.2; show x.starts ≤ _; omega⟩ (Nat.zero_le _)) ?_
    rintro v30 wS hTPs
    have hTS := TP.at' hTPs
    have hRS := E.start x i k hIv hi2 hk
    refine WL.nil ?_
    refine thn_n ?_
    refine WF.named (fun F32 hF33 => ?_)
    refine WF.cut (fun f' w' => ∃ (j : Nat) (y : Tb), Agree [0, 1, 2, 3, 6, 7, 10, 11, 36, 37, 38, 39, 40, 41] f' F32 ∧ Ext w1 w' ∧ TAt w1 w' g y ∧ Run k y j ∧ (j = 3000 ∨ y.post.length = 0)) ?_ ?_
    · refine WF.seq ?_
      refine WF.region ?_
      refine WL.va rfl rfl rfl (X.assignI rfl) ?_
      refine WL.nil ?_
      refine thn_n ?_
      refine WF.block ?_
      refine WF.named (fun F34 hF35 => ?_)
      refine WF.loopN (fun mL1 f' w' => ∃ (j : Nat) (y : Tb), mL1 = 3000 - j ∧ f' 9 = .int .i64 (j : Int) ∧ Agree [0, 1, 2, 3, 6, 7, 10, 11, 36, 37, 38, 39, 40, 41] f' F34 ∧ Ext w1 w' ∧ TAt w1 w' g y ∧ Run k y j ∧ j ≤ 3000) ?_ ?_
      · exact ⟨_, 0, _, rfl, (congrFun hF35 9), (Agree.refl _ _), ((TP.at' hTPs).since), ⟨hTS, hRS, by omega⟩⟩
      · rintro mL1 fL1 wL1 ⟨j, y, hmL1, e9_L1, hAL1, hwL1, ⟨hT, hR, hj0⟩⟩
        have hTE := hT
        obtain ⟨G1, vp, vv, vc, vo, vk, gk, hI⟩ := hT
        have hx := hI.obj
        have tg := hx.lt
        have hOk := E.ok k y j hk hR
        refine WF.seq ?_
        refine WF.seq ?_
        refine WF.region ?_
        refine WL.va rfl rfl rfl (X.moveI e9_L1) ?_
        refine WL.va rfl rfl rfl (X.lss rfl rfl) ?_
        refine WL.va rfl rfl rfl (X.moveB rfl) ?_
        refine WL.split (j := 2) rfl (fun h37 => ?_) (fun h37 => ?_)
        · have gh37 := (of_decide_eq_true h37)
          have q5 : j < 3000 := by have := gh37; omega
          refine WL.vg rfl (congrArg some h37) rfl rfl (X.move ((hAL1.eq 7).trans ((congrFun hF35 7).trans ((congrFun hF33 7).trans ((hACs2.eq 7).trans (congrFun hF8 7)))))) ?_
          refine WL.vg rfl (congrArg some h37) rfl rfl (X.nilCheck rfl) ?_
          refine WL.vg rfl (congrArg some h37) rfl rfl (X.fieldAddrP (off := 13) rfl Try.underlying63 rfl rfl Try.sizeOf36) ?_
          refine WL.vg rfl (congrArg some h37) rfl rfl (X.loadO hx (Ext.refl _) rfl rfl Try.isAgg36) ?_
          refine WL.vg rfl (congrArg some h37) rfl rfl (X.len (hI.post.rd) rfl Try.underlying36) ?_
          refine WL.vg rfl (congrArg some h37) rfl rfl (X.gtr rfl rfl) ?_
          refine WL.va rfl rfl rfl (X.pickT rfl h37 rfl) ?_
          refine WL.nil ?_
          refine thn_n ?_
          refine WF.cond rfl (fun h1_38 => ?_) (fun h1_38 => ?_)
          · have gh1_38 := (of_decide_eq_true h1_38)
            have q6 : 0 < y.post.length := by have := gh1_38; omega
            refine WF.skip ?_
            refine thn_n ?_
            refine WF.seq ?_
            refine WF.block ?_
            refine WF.seq ?_
            refine WF.region ?_
            refine WL.va rfl rfl rfl (X.move ((hAL1.eq 7).trans ((congrFun hF35 7).trans ((congrFun hF33 7).trans ((hACs2.eq 7).trans (congrFun hF8 7)))))) ?_
            refine WL.c rfl rfl rfl (X.call Try.call26 (evl_cons (v := (at_ g)) rfl (evl_cons (v := (i64 (0 : Nat))) rfl evl_nil))) (tcome_ok w1 _ G1 g 0 y (y.post[0]'q6) ⟨_, _, _, _, _, _, hI⟩ (List.getElem?_eq_getElem q6) (hOk.msg _ (List.getElem_mem q6)).1 (hOk.msg _ (List.getElem_mem q6)).2.1 (hOk.msg _ (List.getElem_mem q6)).2.2 hOk.ok (by have := hOk.post; omega)) ?_
            rintro v41 w40 hTPc
            obtain ⟨G4, n4, c4, hG4⟩ := id hTPc
            refine WL.nil ?_
            refine thn_n ?_
            refine WF.region ?_
            refine WL.va rfl rfl rfl (X.move ((hAL1.eq 7).trans ((congrFun hF35 7).trans ((congrFun hF33 7).trans ((hACs2.eq 7).trans (congrFun hF8 7)))))) ?_
            refine WL.c rfl rfl rfl (X.call Try.call27 (evl_cons (v := (at_ g)) rfl evl_nil)) (values_ok w1 _ G4 g (y.come 0) hG4 (come_ok' hOk q6)) ?_
            rintro v44 w43 hTPv
            refine WL.nil ?_
            refine blk_n ?_
            refine thn_n ?_
            refine WF.region ?_
            refine WL.va rfl rfl rfl (X.moveI e9_L1) ?_
            refine WL.va rfl rfl rfl (X.add rfl rfl (w64 (by omega))) ?_
            refine WL.va rfl rfl rfl (X.assignI rfl) ?_
            refine WL.nil ?_
            exact thn_n ⟨_, (by omega), j + 1, (y.come 0).values, rfl, rfl, (by repeat (first | exact hAL1 | refine Agree.put ?_ rfl | refine Agree.sub hACs2 rfl ?_ | refine Agree.named hF35 ?_ | refine Agree.named hF33 ?_ | refine Agree.named hF8 ?_)), ((TP.at' hTPv).since), ⟨TP.at' hTPv, E.come k y j hk hR q6, by omega⟩⟩
          · have gh1_38 := (of_decide_eq_false h1_38)
            have q7 : j = 3000 ∨ y.post.length = 0 := .inr (by have := gh1_38; omega)
            refine WF.exit ?_
            refine thn_x ?_
            refine thn_x ?_
            refine blk_eq ?_
            refine thn_n ?_
            exact ⟨j, y, (by repeat (first | exact (Agree.refl _ F32) | refine Agree.put ?_ rfl | refine Agree.sub hAL1 rfl ?_ | refine Agree.sub hACs2 rfl ?_ | refine Agree.named hF35 ?_ | refine Agree.named hF33 ?_ | refine Agree.named hF8 ?_)), hTE.since, ⟨hTE, hR, q7⟩⟩
        · have gh37 := (of_decide_eq_false h37)
          have q7 : j = 3000 ∨ y.post.length = 0 := .inl (by have := gh37; omega)
          refine WL.p rfl rfl rfl (congrArg some h37) ?_
          refine WL.p rfl rfl rfl (congrArg some h37) ?_
          refine WL.p rfl rfl rfl (congrArg some h37) ?_
          refine WL.p rfl rfl rfl (congrArg some h37) ?_
          refine WL.p rfl rfl rfl (congrArg some h37) ?_
          refine WL.p rfl rfl rfl (congrArg some h37) ?_
          refine WL.va rfl rfl rfl (X.pickF rfl h37 rfl) ?_
          refine WL.nil ?_
          refine thn_n ?_
          refine WF.cond_f rfl ?_
          refine WF.exit ?_
          refine thn_x ?_
          refine thn_x ?_
          refine blk_eq ?_
          refine thn_n ?_
          exact ⟨j, y, (by repeat (first | exact (Agree.refl _ F32) | refine Agree.put ?_ rfl | refine Agree.sub hAL1 rfl ?_ | refine Agree.sub hACs2 rfl ?_ | refine Agree.named hF35 ?_ | refine Agree.named hF33 ?_ | refine Agree.named hF8 ?_)), hTE.since, ⟨hTE, hR, q7⟩⟩
    · rintro fCs8 wCs8 ⟨j, y, hACs8, hwCs8, ⟨hT, hR, q7⟩⟩
      have := World.grownBy.size hwCs8
      obtain ⟨G1, vp, vv, vc, vo, vk, gk, hI⟩ := hT
      have hx := hI.obj
      have tg := hx.lt
      have hE1 := E.bad k y j hk hR
      have hE2 := E.fin k y j hk hR q7
      refine WF.seq ?_
      refine WF.drawn (.q 0 (.q 1 (.q 2 (.q 3 (.q 4 (.q 5 (.q 6 (.q 7 (.q 8 (.q 9 (.q 10 (.l 11 (.q 12 (.q 13 (.l 14 (.q 15 (.q 16 (.q 17 (.l 18 (.q 19 (.q 20 .nil))))))))))))))))))))) (fun w' => Ext wCs8 w') 21 (by kernel_rfl) (by kernel_rfl) (Ext.drew _) ?_
      have := World.grownBy.size (Ext.drew wCs8)
      refine WO.q rfl rfl rfl rfl (fun w' hE47 => (X.move ((hACs8.eq 7).trans ((congrFun hF33 7).trans ((hACs2.eq 7).trans (congrFun hF8 7)))))) ?_
      refine WO.q rfl rfl rfl rfl (fun w' hE47 => (X.nilCheck rfl)) ?_
      refine WO.q rfl rfl rfl rfl (fun w' hE47 => (X.fieldAddrP (off := 16) rfl Try.underlying63 rfl rfl Try.sizeOf4)) ?_
      refine WO.q rfl rfl rfl rfl (fun w' hE47 => (X.loadO hx hE47 rfl rfl Try.isAgg4)) ?_
      refine WO.q rfl rfl rfl rfl (fun w' hE47 => (X.not rfl)) ?_
      refine WO.q rfl rfl rfl rfl (fun w' hE47 => (X.moveB rfl)) ?_
      refine WO.split (j := 5) rfl (fun h50 => ?_) (fun h50 => ?_)
      · have gh50 := (nt h50)
        refine WO.qg rfl rfl (congrArg some h50) rfl rfl (fun w' hE47 => (X.move ((hACs8.eq 7).trans ((congrFun hF33 7).trans ((hACs2.eq 7).trans (congrFun hF8 7)))))) ?_
        refine WO.qg rfl rfl (congrArg some h50) rfl rfl (fun w' hE47 => (X.nilCheck rfl)) ?_
        refine WO.qg rfl rfl (congrArg some h50) rfl rfl (fun w' hE47 => (X.fieldAddrP (off := 11) rfl Try.underlying63 rfl rfl Try.sizeOf61)) ?_
        refine WO.qg rfl rfl (congrArg some h50) rfl rfl (fun w' hE47 => (X.loadO hx hE47 rfl rfl Try.isAgg61)) ?_
        refine WO.qg rfl rfl (congrArg some h50) rfl rfl (fun w' hE47 => (X.moveI ((hACs8.eq 2).trans ((congrFun hF33 2).trans ((hACs2.eq 2).trans (congrFun hF8 2)))))) ?_
        refine WO.l ?_
        refine LO.gog rfl rfl (congrArg some h50) (OW.enter rfl (by decide) (X.call Try.call25 (evl_cons (v := (i64 kz)) rfl (evl_cons (v := (i64 (3 : Nat))) rfl evl_nil))) (pick_to hke kz 3 _ hz (by omega)) ?_)
        rintro v52 w51 ⟨rfl, rfl⟩
        refine ⟨(Ext.drew _), ?_⟩
        refine WO.qg rfl rfl (congrArg some h50) rfl rfl (fun w' hE47 => (X.idx (hI.coords.rd) rfl rfl hk Try.underlying61 Try.sizeOf27)) ?_
        refine WO.qg rfl rfl (congrArg some h50) rfl rfl (fun w' hE47 => (X.loadP1 hI.coords.rd hE47 rfl (ptrs_at hk) Try.isAgg27)) ?_
        refine WO.l ?_
        refine LO.gog rfl rfl (congrArg some h50) (OW.enter rfl (by decide) (X.call Try.call17 (evl_cons (v := (at_ (gk k))) rfl evl_nil)) (value_ok (coF G1 k) (gk k) (y.co k) _ ((hI.co k hk).ext (show Ext wCs8 wCs8.drew from (Ext.drew _))) ((E.ok k y j hk hR).ok k hk)) ?_)
        rintro v55 w54 ⟨rfl, hx56⟩
        have := World.grownBy.size hx56
        refine ⟨(Ext.trans (Ext.drew _) hx56), ?_⟩
        refine WO.qg rfl rfl (congrArg some h50) rfl rfl (fun w' hE47 => (X.neq rfl rfl)) ?_
        refine WO.q rfl rfl rfl rfl (fun w' hE47 => (X.pickT rfl h50 rfl)) ?_
        refine WO.q rfl rfl rfl rfl (fun w' hE47 => (X.moveB rfl)) ?_
        refine WO.l ?_
        refine LO.split (j := 17) rfl (fun h58 => ?_) (fun h58 => ?_)
        · have gh58 := (of_decide_eq_true h58)
          refine LO.gog rfl rfl (congrArg some h58) (OW.enter rfl (by decide) (X.call Try.call21 evl_nil) (known_ok _) ?_)
          rintro v60 w59 ⟨rfl, hx61⟩
          have := World.grownBy.size hx61
          refine ⟨(Ext.trans (Ext.trans (Ext.drew _) hx56) hx61), ?_⟩
          refine WO.q rfl rfl rfl rfl (fun w' hE47 => (X.pickT rfl h58 rfl)) ?_
          refine WO.q rfl rfl rfl rfl (fun w' hE47 => (X.assignB rfl)) ?_
          refine WO.nil ?_
          refine WL.nil ?_
          refine thn_n ?_
          refine WF.ret ?_
          refine fin_r ?_
          exact ⟨rfl, (Ext.trans (Ext.trans (Ext.trans (Ext.trans hx2 hwCs8) (Ext.drew _)) hx56) hx61)⟩
        · have gh58 := (Decidable.of_not_not (of_decide_eq_false h58))
          exact absurd (by simp_all) hE2
      · have gh50 := (nf h50)
        exact absurd hE1 (by simp_all)

end Go.Proofs.Ytjmddkaokmdkbaa
