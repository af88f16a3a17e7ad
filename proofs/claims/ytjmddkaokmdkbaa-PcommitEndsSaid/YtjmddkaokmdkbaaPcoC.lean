/- The walks of the coordinator's functions. -/
import Derived.Test.YtjmddkaokmdkbaaPcoK
namespace Go.Proofs.Ytjmddkaokmdkbaa
open Go Go.RowKit Kf
set_option maxRecDepth 20000

theorem allM_take {me txn num nac : Int} {m : Msg} {k : Nat} (hk : (k : Int) < nac) : (allM me txn num nac m).take (k + 1) = (allM me txn num nac m).take k ++ [{ m with From := me, To := (k : Int) + 1, Txn := txn, Ballot := num }] := by
  unfold allM
  rw [take_map (by simp; omega)]
  simp
theorem allM_len {me txn num nac : Int} {m : Msg} : (allM me txn num nac m).length = nac.toNat := by simp [allM]
theorem OwnM.app1 {w : World} {B : Nat} {e : TypeId} {v : Value} {l : List Msg} {m : Msg} (h : w.ownsRow B e 17 v (l.length + 1) (l.flatMap Msg.bare ++ m.bare)) : OwnM w B e v (l ++ [m]) := by
  unfold OwnM; rw [List.length_append, List.flatMap_append]; simpa using h
set_option maxHeartbeats 1000000 in
theorem all_ok (g ga gc : Nat) (c : CC) (vp vr vo : Value) (m : Msg) (w : World) (h : Blk w g 75 (c.cells vp ga gc vr vo)) (hn : c.nac ≤ 7) : FnOk Try.prog 30 [at_ g, agg m.bare] w (fun r w' => OwnM w' w.heap.size 40 r (c.all m) ∧ Ext w w') := by
  have hO := h
  have hlg := h.lt
  refine FnOk.enter (rs := [4]) Try.func30 rfl Try.ntmps30 Try.results30 rfl rfl ?_
  refine WF.seq ?_
  refine WF.region ?_
  refine WL.op rfl (OW.boxA (cs := (Msg.bare m)) rfl ?_ (by decide))
  intro g3 wb heg3 hlg3 hO3 hx2
  have := World.grownBy.size hx2
  refine WL.va rfl rfl rfl (X.assign rfl) ?_
  refine WL.nil ?_
  refine thn_n ?_
  refine WF.seq ?_
  refine WF.region ?_
  refine WL.va rfl rfl rfl (X.assign rfl) ?_
  refine WL.nil ?_
  refine thn_n ?_
  refine WF.seq ?_
  refine WF.drawn (.q 0 (.q 1 (.q 2 (.q 3 (.q 4 (.q 5 (.q 6 (.q 7 (.q 8 (.q 9 (.q 10 (.q 11 (.q 12 (.l 13 (.q 14 (.l 15 (.q 16 .nil))))))))))))))))) (fun w' => World.grownBy wb w' (some g3)) 17 (by kernel_rfl) (by kernel_rfl) (grown_of_ext (Ext.drew _)) ?_
  have := World.grownBy.size (Ext.drew wb)
  refine WO.q rfl rfl rfl rfl (fun w' hE4 => (X.move rfl)) ?_
  refine WO.q rfl rfl rfl rfl (fun w' hE4 => (X.nilCheck rfl)) ?_
  refine WO.q rfl rfl rfl rfl (fun w' hE4 => (X.fieldAddrP (off := 0) rfl Try.underlying75 rfl rfl Try.sizeOf3)) ?_
  refine WO.q rfl rfl rfl rfl (fun w' hE4 => (X.loadO ((hO.ext hx2).keptO hE4 (by omega)) (Ext.refl _) rfl rfl Try.isAgg3)) ?_
  refine WO.q rfl rfl rfl rfl (fun w' hE4 => (X.move rfl)) ?_
  refine WO.q rfl rfl rfl rfl (fun w' hE4 => (X.nilCheck rfl)) ?_
  refine WO.q rfl rfl rfl rfl (fun w' hE4 => (X.fieldAddrP (off := 1) rfl Try.underlying75 rfl rfl Try.sizeOf3)) ?_
  refine WO.q rfl rfl rfl rfl (fun w' hE4 => (X.loadO ((hO.ext hx2).keptO hE4 (by omega)) (Ext.refl _) rfl rfl Try.isAgg3)) ?_
  refine WO.q rfl rfl rfl rfl (fun w' hE4 => (X.move rfl)) ?_
  refine WO.q rfl rfl rfl rfl (fun w' hE4 => (X.nilCheck rfl)) ?_
  refine WO.q rfl rfl rfl rfl (fun w' hE4 => (X.fieldAddrP (off := 7) rfl Try.underlying75 rfl rfl Try.sizeOf3)) ?_
  refine WO.q rfl rfl rfl rfl (fun w' hE4 => (X.loadO ((hO.ext hx2).keptO hE4 (by omega)) (Ext.refl _) rfl rfl Try.isAgg3)) ?_
  refine WO.q rfl rfl rfl rfl (fun w' hE4 => (X.fieldAddrO (off := 1) rfl Try.underlying40 rfl rfl Try.sizeOf3)) ?_
  refine WO.l ?_
  refine LO.go rfl rfl (OW.storeO (hO3.ext (Ext.drew _)) (Nat.le_of_ble_eq_true rfl) rfl rfl rfl Try.sizeOf3 ?_)
  intro w5 hO3 hx7
  have := World.grownBy.size hx7
  replace hO := (hO.ext (Ext.trans hx2 (Ext.drew _))).keptO hx7 (by omega)
  refine ⟨(grown2 (grown_of_ext (Ext.drew _)) hx7), ?_⟩
  refine WO.q rfl rfl rfl rfl (fun w' hE4 => (X.fieldAddrO (off := 9) rfl Try.underlying40 rfl rfl Try.sizeOf3)) ?_
  refine WO.l ?_
  refine LO.go rfl rfl (OW.storeO hO3 (Nat.le_of_ble_eq_true rfl) rfl rfl rfl Try.sizeOf3 ?_)
  intro w9 hO3 hx11
  have := World.grownBy.size hx11
  replace hO := hO.keptO hx11 (by omega)
  refine ⟨(grown2 (grown2 (grown_of_ext (Ext.drew _)) hx7) hx11), ?_⟩
  refine WO.q rfl rfl rfl rfl (fun w' hE4 => (X.fieldAddrO (off := 11) rfl Try.underlying40 rfl rfl Try.sizeOf3)) ?_
  refine WO.nil ?_
  refine WL.op rfl (OW.storeO hO3 (Nat.le_of_ble_eq_true rfl) rfl rfl rfl Try.sizeOf3 ?_)
  intro w13 hO3 hx15
  have := World.grownBy.size hx15
  replace hO := hO.keptO hx15 (by omega)
  replace hO3 : Blk _ _ _ (Msg.bare { m with From := c.me, Txn := c.txn, Ballot := c.num, To := m.To }) := hO3
  refine WL.nil ?_
  refine thn_n ?_
  refine WF.seq ?_
  refine WF.seq ?_
  refine WF.region ?_
  refine WL.va rfl rfl rfl (X.move rfl) ?_
  refine WL.va rfl rfl rfl (X.nilCheck rfl) ?_
  refine WL.va rfl rfl rfl (X.fieldAddrP (off := 3) rfl Try.underlying75 rfl rfl Try.sizeOf3) ?_
  refine WL.va rfl rfl rfl (X.loadO hO (Ext.refl _) rfl rfl Try.isAgg3) ?_
  refine WL.va rfl rfl rfl (X.moveI rfl) ?_
  refine WL.nil ?_
  refine thn_n ?_
  refine WF.block ?_
  refine WF.named (fun F17 hF18 => ?_)
  refine WF.loopN (fun mL0 f' w' => ∃ (k : Nat) (t : Int) (vm : Value), mL0 = c.nac.toNat - k ∧ f' 26 = .int .i64 (k : Int) ∧ f' 5 = vm ∧ Agree [0, 1, 3, 4, 7, 8, 9, 10, 11, 12, 13, 14, 15, 16, 17, 18, 19, 20, 21, 22, 23, 24, 25] f' F17 ∧ Ext w w' ∧ k ≤ c.nac.toNat ∧ Blk w' g3 40 (Msg.bare { m with From := c.me, Txn := c.txn, Ballot := c.num, To := t }) ∧ OwnM w' wb.heap.size 40 vm ((c.all m).take k) ∧ wb.heap.size ≤ w'.heap.size) ?_ ?_
  · exact ⟨_, 0, m.To, nilS, rfl, (congrFun hF18 26), (congrFun hF18 5), (Agree.refl _ _), (Ext.store (Ext.store (Ext.store (Ext.trans hx2 (Ext.drew _)) hx7 (by omega)) hx11 (by omega)) hx15 (by omega)), ⟨Nat.zero_le _, hO3, OwnM.nil _ _ _, by omega⟩⟩
  · rintro mL0 fL0 wL0 ⟨k, t, vm, hmL0, e26_L0, e5_L0, hAL0, hwL0, ⟨hk, hO3, hom, hgb⟩⟩
    have := World.grownBy.size hwL0
    have hkl : ((c.all m).take k).length = k := by rw [List.length_take, allM_len]; omega
    refine WF.seq ?_
    refine WF.region ?_
    refine WL.va rfl rfl rfl (X.lss e26_L0 ((hAL0.eq 25).trans (congrFun hF18 25))) ?_
    refine WL.nil ?_
    refine thn_n ?_
    refine WF.seq ?_
    refine WF.cond rfl (fun h0_19 => ?_) (fun h0_19 => ?_)
    · have gh0_19 := (of_decide_eq_true h0_19)
      refine WF.skip ?_
      refine thn_n ?_
      refine WF.seq ?_
      refine WF.block ?_
      refine WF.seq ?_
      refine WF.region ?_
      refine WL.va rfl rfl rfl (X.moveI e26_L0) ?_
      refine WL.va rfl rfl rfl (X.assignI rfl) ?_
      refine WL.nil ?_
      refine thn_n ?_
      refine WF.seq ?_
      refine WF.region ?_
      refine WL.va rfl rfl rfl (X.moveI rfl) ?_
      refine WL.va rfl rfl rfl (X.add rfl rfl (w64 (by omega))) ?_
      refine WL.va rfl rfl rfl (X.fieldAddrO (off := 2) ((hAL0.eq 3).trans (congrFun hF18 3)) Try.underlying40 rfl rfl Try.sizeOf3) ?_
      refine WL.op rfl (OW.storeO hO3 (Nat.le_of_ble_eq_true rfl) rfl rfl rfl Try.sizeOf3 ?_)
      intro w21 hO3 hx23
      have := World.grownBy.size hx23
      replace hom := own_keptO hom hx23 (by omega)
      replace hO3 : Blk _ _ _ (Msg.bare { m with From := c.me, Txn := c.txn, Ballot := c.num, To := ((k : Int) + 1) }) := hO3
      refine WL.nil ?_
      refine thn_n ?_
      refine WF.region ?_
      refine WL.va rfl rfl rfl (X.move e5_L0) ?_
      refine WL.va rfl rfl rfl (X.loadOA hO3 (Ext.refl _) ((hAL0.eq 3).trans (congrFun hF18 3)) rfl Try.isAgg40 Try.sizeOf40) ?_
      refine WL.op rfl (OW.lits (vs := [_]) (evp_cons rfl evp_nil) Try.underlying36 Try.sizeOf40 Try.zeroValue40 ⟨rfl, trivial⟩ rfl rfl rfl ?_ (by decide))
      intro v26 w25 ho28 hx27
      have := World.grownBy.size hx27
      have hlt := ho28
      refine WL.op rfl (OW.append (bytes := 168) (own_ext hom hx27) (Row.of_own hlt) (Msg.bare_one _) rfl rfl Try.underlying36 Try.type40 rfl rfl rfl rfl (by decide) (by unfold maxLen; omega) (by omega) (by omega) ?_ (by decide))
      intro v30 w29 ho32 hx31 hmvhx31
      have := World.grownBy.size hx31
      replace hO3 := (hO3.ext hx27).keptR hx31 (fun b hb => by have := ((own_ext hom hx27).lt b hb).1; omega)
      have hom4 := OwnM.app1 (m := { m with From := c.me, To := (k : Int) + 1, Txn := c.txn, Ballot := c.num }) ho32
      refine WL.va rfl rfl rfl (X.assign rfl) ?_
      refine WL.nil ?_
      refine blk_n ?_
      refine thn_n ?_
      refine WF.region ?_
      refine WL.va rfl rfl rfl (X.add e26_L0 rfl (w64 (by omega))) ?_
      refine WL.va rfl rfl rfl (X.moveI rfl) ?_
      refine WL.nil ?_
      exact thn_n ⟨_, (by omega), k + 1, (k : Int) + 1, _, rfl, rfl, rfl, (by repeat (first | exact hAL0 | refine Agree.put ?_ rfl | refine Agree.named hF18 ?_)), (Ext.own (Ext.trans (Ext.store hwL0 hx23 (by omega)) hx27) (own_mono (own_ext hom hx27) (by omega)) (Nat.le_refl _) hx31), ⟨by omega, hO3, by rw [allM_take (by omega)]; exact hom4, by omega⟩⟩
    · have gh0_19 := (of_decide_eq_false h0_19)
      refine WF.exit ?_
      refine thn_x ?_
      refine thn_x ?_
      refine blk_eq ?_
      refine thn_n ?_
      refine WF.seq ?_
      refine WF.region ?_
      refine WL.va rfl rfl rfl (X.move e5_L0) ?_
      refine WL.va rfl rfl rfl (X.assign rfl) ?_
      refine WL.nil ?_
      refine thn_n ?_
      refine WF.ret ?_
      refine fin_r ?_
      rw [List.take_of_length_le (by rw [allM_len]; omega)] at hom; exact ⟨own_mono hom (by omega), hwL0⟩

theorem kk : KeyK Try.prog 90 (encN (n := 3)) := struct_keys (by kernel_rfl) Try.underlying90 (by kernel_rfl)
theorem ki : KeyK Try.prog 3 i64 := int_keys Try.underlying3
theorem look_acc {L : List (KeyN 3 × Value)} {G : KeyN 3 → Option Nat} (hG : ∀ k, getM L k = (G k).map mp_) (k : KeyN 3) : (getM L k).getD (.map none) = .map (G k) := by
  rw [hG]; cases G k <;> rfl
theorem addF_len (l : List Int) (f : Int) : (addF l f).length ≤ l.length + 1 := by
  unfold addF; split <;> simp
theorem isNone_t {o : Option Nat} (h : o.isNone = true) : o = none := by cases o <;> simp_all
theorem isNone_f {o : Option Nat} (h : o.isNone = false) : ∃ g, o = some g := by cases o <;> simp_all
set_option maxHeartbeats 2000000 in
theorem accept_ok (F : Fp Rl) (g : Nat) (c : CC) (m : Msg) (em dm : Value) (w : World) (h : CAt w F g c) (hok : c.ok) : FnOk Try.prog 34 [at_ g, agg (m.c em dm)] w (fun _ w' => CPost w w' F g (c.accept m) nilS) := by
  obtain ⟨vp, ga, gc, vr, vo, hI⟩ := h
  have hO := hI.obj
  obtain ⟨L, G, hMa, hG, hG0, hGi⟩ := hI.acc
  obtain ⟨Lc, hMc, hLc⟩ := hI.ch
  obtain ⟨d1, d2, d3⟩ := hI.dist
  obtain ⟨z1, z2, z3⟩ := hI.lts
  refine FnOk.enter (rs := []) Try.func34 rfl Try.ntmps34 Try.results34 rfl rfl ?_
  refine WF.seq ?_
  refine WF.region ?_
  refine WL.op rfl (OW.boxA (cs := (m.c em dm)) rfl ?_ (by decide))
  intro g3 w1 heg3 hlg3 hO3 hx3
  have := World.grownBy.size hx3
  refine WL.nil ?_
  refine thn_n ?_
  refine WF.seq ?_
  refine WF.named (fun F5 hF6 => ?_)
  refine WF.cut (fun f' w' => f' 12 = .bool (decide (m.Value ≠ 1 ∧ m.Value ≠ 2)) ∧ Agree [0, 1, 3] f' F5 ∧ w1 = w') ?_ ?_
  · refine WF.region ?_
    refine WL.va rfl rfl rfl (X.fieldAddrO (off := 12) (congrFun hF6 3) Try.underlying40 rfl rfl Try.sizeOf3) ?_
    refine WL.va rfl rfl rfl (X.loadO hO3 (Ext.refl _) rfl rfl Try.isAgg3) ?_
    refine WL.va rfl rfl rfl (X.neq rfl rfl) ?_
    refine WL.va rfl rfl rfl (X.moveB rfl) ?_
    refine WL.split (j := 3) rfl (fun h8 => ?_) (fun h8 => ?_)
    · have gh8 := (of_decide_eq_true h8)
      have hv1 : m.Value ≠ 1 := gh8
      refine WL.vg rfl (congrArg some h8) rfl rfl (X.fieldAddrO (off := 12) (congrFun hF6 3) Try.underlying40 rfl rfl Try.sizeOf3) ?_
      refine WL.vg rfl (congrArg some h8) rfl rfl (X.loadO hO3 (Ext.refl _) rfl rfl Try.isAgg3) ?_
      refine WL.vg rfl (congrArg some h8) rfl rfl (X.neq rfl rfl) ?_
      refine WL.va rfl rfl rfl (X.pickT rfl h8 rfl) ?_
      refine WL.nil ?_
      refine thn_n ?_
      exact ⟨(congrArg Value.bool (by first | exact (decide_eq_false (fun e => e.1 hv1)).symm | (apply decide_eq_decide.2; exact ⟨fun e => ⟨hv1, e⟩, fun e => e.2⟩))), (by repeat (first | exact (Agree.refl _ F5) | refine Agree.put ?_ rfl | refine Agree.named hF6 ?_)), rfl⟩
    · have gh8 := (Decidable.of_not_not (of_decide_eq_false h8))
      have hv1 : m.Value = 1 := gh8
      refine WL.p rfl rfl rfl (congrArg some h8) ?_
      refine WL.p rfl rfl rfl (congrArg some h8) ?_
      refine WL.p rfl rfl rfl (congrArg some h8) ?_
      refine WL.va rfl rfl rfl (X.pickF rfl h8 rfl) ?_
      refine WL.nil ?_
      refine thn_n ?_
      exact ⟨(congrArg Value.bool (by first | exact (decide_eq_false (fun e => e.1 hv1)).symm | (apply decide_eq_decide.2; exact ⟨fun e => ⟨hv1, e⟩, fun e => e.2⟩))), (by repeat (first | exact (Agree.refl _ F5) | refine Agree.put ?_ rfl | refine Agree.named hF6 ?_)), rfl⟩
  · rintro fCr1 wCr1 ⟨e12_Cr1, hACr1, rfl⟩
    refine WF.cond e12_Cr1 (fun h0_11 => ?_) (fun h0_11 => ?_)
    · have gh0_11 := (of_decide_eq_true h0_11)
      have hvv : m.Value ≠ 1 ∧ m.Value ≠ 2 := gh0_11
      refine WF.ret ?_
      refine thn_r ?_
      refine fin_r ?_
      rw [show c.accept m = c from if_pos hvv]; exact CPost.same ⟨_, _, _, _, _, hI⟩ hx3
    · have gh0_11 := (of_decide_eq_false h0_11)
      have hvv : ¬ (m.Value ≠ 1 ∧ m.Value ≠ 2) := gh0_11
      refine WF.skip ?_
      refine thn_n ?_
      refine WF.seq ?_
      refine WF.region ?_
      refine WL.va rfl rfl rfl (X.fieldAddrO (off := 10) ((hACr1.eq 3).trans (congrFun hF6 3)) Try.underlying40 rfl rfl Try.sizeOf3) ?_
      refine WL.va rfl rfl rfl (X.loadO hO3 (Ext.refl _) rfl rfl Try.isAgg3) ?_
      refine WL.va rfl rfl rfl (X.fieldAddrO (off := 11) ((hACr1.eq 3).trans (congrFun hF6 3)) Try.underlying40 rfl rfl Try.sizeOf3) ?_
      refine WL.va rfl rfl rfl (X.loadO hO3 (Ext.refl _) rfl rfl Try.isAgg3) ?_
      refine WL.va rfl rfl rfl (X.fieldAddrO (off := 12) ((hACr1.eq 3).trans (congrFun hF6 3)) Try.underlying40 rfl rfl Try.sizeOf3) ?_
      refine WL.va rfl rfl rfl (X.loadO hO3 (Ext.refl _) rfl rfl Try.isAgg3) ?_
      refine WL.va rfl rfl rfl (X.buildL (P := Try.prog) (t := 90) (cs := [i64 m.Part, i64 m.Ballot, i64 m.Value]) (evp_cons rfl (evp_cons rfl (evp_cons rfl evp_nil))) Try.type90 Try.underlying90 rfl rfl ⟨rfl, rfl, rfl, trivial⟩ rfl) ?_
      refine WL.op rfl (OW.allocO (cs := [i64 0, i64 0, i64 0]) Try.zeroValue90 rfl ?_ (by decide))
      intro g4 w13 heg4 hlg4 hO4 hx15
      have := World.grownBy.size hx15
      refine WL.op rfl (OW.storeOA hO4 rfl rfl rfl (by simp [Value.oneCell']) Try.sizeOf90 ?_)
      intro w17 hO4 hx19
      have := World.grownBy.size hx19
      replace hMa := (hMa.ext (Ext.trans hx3 hx15)).keptO hx19 (by omega)
      replace hMc := (hMc.ext (Ext.trans hx3 hx15)).keptO hx19 (by omega)
      replace hO := (hO.ext (Ext.trans hx3 hx15)).keptO hx19 (by omega)
      replace hO3 := (hO3.ext hx15).keptO hx19 (by omega)
      replace hO4 : Blk _ _ _ [i64 m.Part, i64 m.Ballot, i64 m.Value] := hO4
      refine WL.nil ?_
      refine thn_n ?_
      refine WF.seq ?_
      refine WF.seq ?_
      refine WF.drawn (.q 0 (.q 1 (.q 2 (.q 3 (.q 4 (.q 5 (.q 6 .nil))))))) (fun w' => Ext w17 w') 7 (by kernel_rfl) (by kernel_rfl) (Ext.drew _) ?_
      have := World.grownBy.size (Ext.drew w17)
      refine WO.q rfl rfl rfl rfl (fun w' hE21 => (X.move ((hACr1.eq 0).trans (congrFun hF6 0)))) ?_
      refine WO.q rfl rfl rfl rfl (fun w' hE21 => (X.nilCheck rfl)) ?_
      refine WO.q rfl rfl rfl rfl (fun w' hE21 => (X.fieldAddrP (off := 4) rfl Try.underlying75 rfl rfl Try.sizeOf71)) ?_
      refine WO.q rfl rfl rfl rfl (fun w' hE21 => (X.loadO hO hE21 rfl rfl Try.isAgg71)) ?_
      refine WO.q rfl rfl rfl rfl (fun w' hE21 => (X.loadOA hO4 hE21 rfl rfl Try.isAgg90 Try.sizeOf90)) ?_
      refine WO.q rfl rfl rfl rfl (fun w' hE21 => (X.lookM kk (hMa.ext hE21) Try.underlying71 Try.zeroValue72 rfl (show _ = encN (k3 m.Part m.Ballot m.Value) from rfl) (look_acc hG _))) ?_
      refine WO.q rfl rfl rfl rfl (fun w' hE21 => (X.eqlMN rfl rfl Try.underlying72)) ?_
      refine WO.nil ?_
      refine WL.nil ?_
      refine thn_n ?_
      refine WF.cond rfl (fun h1_22 => ?_) (fun h1_22 => ?_)
      · have gh1_22 := h1_22
        have hGn : G (k3 m.Part m.Ballot m.Value) = none := isNone_t gh1_22
        refine WF.drawn (.q 0 (.q 1 (.q 2 (.q 3 (.q 4 (.l 5 .nil)))))) (fun w' => Ext w17.drew w') 6 (by kernel_rfl) (by kernel_rfl) (Ext.drew _) ?_
        have := World.grownBy.size (Ext.drew w17.drew)
        refine WO.q rfl rfl rfl rfl (fun w' hE24 => (X.move ((hACr1.eq 0).trans (congrFun hF6 0)))) ?_
        refine WO.q rfl rfl rfl rfl (fun w' hE24 => (X.nilCheck rfl)) ?_
        refine WO.q rfl rfl rfl rfl (fun w' hE24 => (X.fieldAddrP (off := 4) rfl Try.underlying75 rfl rfl Try.sizeOf71)) ?_
        refine WO.q rfl rfl rfl rfl (fun w' hE24 => (X.loadO hO (Ext.trans (Ext.drew _) hE24) rfl rfl Try.isAgg71)) ?_
        refine WO.q rfl rfl rfl rfl (fun w' hE24 => (X.loadOA hO4 (Ext.trans (Ext.drew _) hE24) rfl rfl Try.isAgg90 Try.sizeOf90)) ?_
        refine WO.l ?_
        refine LO.go rfl rfl (OW.makeMap (enc := i64) ?_ (by decide))
        intro gM32 w25 hegM32 hlgM32 hM32 hx27
        have := World.grownBy.size hx27
        replace hM32 : MapB i64 w25 gM32 ((c.A (k3 m.Part m.Ballot m.Value)).map fun x => (x, i64 1)) := by rw [hG0 _ hGn]; exact hM32
        refine ⟨(Ext.trans (Ext.drew _) hx27), ?_⟩
        refine WO.nil ?_
        refine WL.op rfl (OW.putM kk (hMa.ext (Ext.trans (Ext.trans (Ext.drew _) (Ext.drew _)) hx27)) Try.underlying71 rfl (show _ = encN (k3 m.Part m.Ballot m.Value) from rfl) rfl ?_)
        intro w29 hMa hx31
        have := World.grownBy.size hx31
        replace hMc := (hMc.ext (Ext.trans (Ext.trans (Ext.drew _) (Ext.drew _)) hx27)).keptO hx31 (by omega)
        replace hO := (hO.ext (Ext.trans (Ext.trans (Ext.drew _) (Ext.drew _)) hx27)).keptO hx31 (by omega)
        replace hO3 := (hO3.ext (Ext.trans (Ext.trans (Ext.drew _) (Ext.drew _)) hx27)).keptO hx31 (by omega)
        replace hO4 := (hO4.ext (Ext.trans (Ext.trans (Ext.drew _) (Ext.drew _)) hx27)).keptO hx31 (by omega)
        replace hM32 := hM32.keptO hx31 (by omega)
        refine WL.nil ?_
        refine thn_n ?_
        refine WF.seq ?_
        refine WF.drawn (.q 0 (.q 1 (.q 2 (.q 3 (.q 4 (.q 5 (.q 6 (.q 7 .nil)))))))) (fun w' => Ext w29 w') 8 (by kernel_rfl) (by kernel_rfl) (Ext.drew _) ?_
        have := World.grownBy.size (Ext.drew w29)
        refine WO.q rfl rfl rfl rfl (fun w' hE33 => (X.move ((hACr1.eq 0).trans (congrFun hF6 0)))) ?_
        refine WO.q rfl rfl rfl rfl (fun w' hE33 => (X.nilCheck rfl)) ?_
        refine WO.q rfl rfl rfl rfl (fun w' hE33 => (X.fieldAddrP (off := 4) rfl Try.underlying75 rfl rfl Try.sizeOf71)) ?_
        refine WO.q rfl rfl rfl rfl (fun w' hE33 => (X.loadO hO hE33 rfl rfl Try.isAgg71)) ?_
        refine WO.q rfl rfl rfl rfl (fun w' hE33 => (X.loadOA hO4 hE33 rfl rfl Try.isAgg90 Try.sizeOf90)) ?_
        refine WO.q rfl rfl rfl rfl (fun w' hE33 => (X.lookM kk (hMa.ext hE33) Try.underlying71 Try.zeroValue72 rfl (show _ = encN (k3 m.Part m.Ballot m.Value) from rfl) (show _ = mp_ gM32 from by rw [getM_put, if_pos rfl]; rfl))) ?_
        refine WO.q rfl rfl rfl rfl (fun w' hE33 => (X.fieldAddrO (off := 1) ((hACr1.eq 3).trans (congrFun hF6 3)) Try.underlying40 rfl rfl Try.sizeOf3)) ?_
        refine WO.q rfl rfl rfl rfl (fun w' hE33 => (X.loadO hO3 hE33 rfl rfl Try.isAgg3)) ?_
        refine WO.nil ?_
        refine WL.op rfl (OW.putM ki (hM32.ext (Ext.drew _)) Try.underlying72 rfl rfl rfl ?_)
        intro w34 hM32 hx36
        have := World.grownBy.size hx36
        replace hMa := (hMa.ext (Ext.drew _)).keptO hx36 (by omega)
        replace hMc := (hMc.ext (Ext.drew _)).keptO hx36 (by omega)
        replace hO := (hO.ext (Ext.drew _)).keptO hx36 (by omega)
        replace hO3 := (hO3.ext (Ext.drew _)).keptO hx36 (by omega)
        replace hO4 := (hO4.ext (Ext.drew _)).keptO hx36 (by omega)
        replace hM32 : MapB i64 w34 gM32 ((addF (c.A (k3 m.Part m.Ballot m.Value)) m.From).map fun x => (x, i64 1)) := by rw [← put_addF]; exact hM32
        have hl8 := addF_len (c.A (k3 m.Part m.Ballot m.Value)) m.From
        have hl7 := hok.lenA (k3 m.Part m.Ballot m.Value)
        refine WL.nil ?_
        refine thn_n ?_
        refine WF.seq ?_
        refine WF.drawn (.q 0 (.q 1 (.q 2 (.q 3 (.q 4 (.q 5 (.q 6 (.q 7 (.q 8 (.q 9 (.q 10 (.q 11 (.q 12 .nil))))))))))))) (fun w' => Ext w34 w') 13 (by kernel_rfl) (by kernel_rfl) (Ext.drew _) ?_
        have := World.grownBy.size (Ext.drew w34)
        refine WO.q rfl rfl rfl rfl (fun w' hE38 => (X.move ((hACr1.eq 0).trans (congrFun hF6 0)))) ?_
        refine WO.q rfl rfl rfl rfl (fun w' hE38 => (X.nilCheck rfl)) ?_
        refine WO.q rfl rfl rfl rfl (fun w' hE38 => (X.fieldAddrP (off := 4) rfl Try.underlying75 rfl rfl Try.sizeOf71)) ?_
        refine WO.q rfl rfl rfl rfl (fun w' hE38 => (X.loadO hO hE38 rfl rfl Try.isAgg71)) ?_
        refine WO.q rfl rfl rfl rfl (fun w' hE38 => (X.loadOA hO4 hE38 rfl rfl Try.isAgg90 Try.sizeOf90)) ?_
        refine WO.q rfl rfl rfl rfl (fun w' hE38 => (X.lookM kk (hMa.ext hE38) Try.underlying71 Try.zeroValue72 rfl (show _ = encN (k3 m.Part m.Ballot m.Value) from rfl) (show _ = mp_ gM32 from by rw [getM_put, if_pos rfl]; rfl))) ?_
        refine WO.q rfl rfl rfl rfl (fun w' hE38 => (X.lenM (hM32.ext hE38) Try.underlying72 rfl (List.length_map _))) ?_
        refine WO.q rfl rfl rfl rfl (fun w' hE38 => (X.mul rfl rfl (w64 (by omega)))) ?_
        refine WO.q rfl rfl rfl rfl (fun w' hE38 => (X.move ((hACr1.eq 0).trans (congrFun hF6 0)))) ?_
        refine WO.q rfl rfl rfl rfl (fun w' hE38 => (X.nilCheck rfl)) ?_
        refine WO.q rfl rfl rfl rfl (fun w' hE38 => (X.fieldAddrP (off := 3) rfl Try.underlying75 rfl rfl Try.sizeOf3)) ?_
        refine WO.q rfl rfl rfl rfl (fun w' hE38 => (X.loadO hO hE38 rfl rfl Try.isAgg3)) ?_
        refine WO.q rfl rfl rfl rfl (fun w' hE38 => (X.gtr rfl rfl)) ?_
        refine WO.nil ?_
        refine WL.nil ?_
        refine thn_n ?_
        refine WF.cond rfl (fun h2_39 => ?_) (fun h2_39 => ?_)
        · have gh2_39 := (of_decide_eq_true h2_39)
          have hbig : c.nac < 2 * ((addF (c.A (k3 m.Part m.Ballot m.Value)) m.From).length : Int) := gh2_39
          refine WF.drawn (.q 0 (.q 1 (.q 2 (.q 3 (.q 4 (.q 5 (.q 6 (.q 7 (.q 8 (.q 9 (.q 10 (.q 11 (.q 12 (.q 13 (.q 14 (.q 15 .nil)))))))))))))))) (fun w' => Ext w34.drew w') 16 (by kernel_rfl) (by kernel_rfl) (Ext.drew _) ?_
          have := World.grownBy.size (Ext.drew w34.drew)
          refine WO.q rfl rfl rfl rfl (fun w' hE41 => (X.move ((hACr1.eq 0).trans (congrFun hF6 0)))) ?_
          refine WO.q rfl rfl rfl rfl (fun w' hE41 => (X.nilCheck rfl)) ?_
          refine WO.q rfl rfl rfl rfl (fun w' hE41 => (X.fieldAddrP (off := 5) rfl Try.underlying75 rfl rfl Try.sizeOf72)) ?_
          refine WO.q rfl rfl rfl rfl (fun w' hE41 => (X.loadO hO (Ext.trans (Ext.drew _) hE41) rfl rfl Try.isAgg72)) ?_
          refine WO.q rfl rfl rfl rfl (fun w' hE41 => (X.fieldAddrO (off := 10) ((hACr1.eq 3).trans (congrFun hF6 3)) Try.underlying40 rfl rfl Try.sizeOf3)) ?_
          refine WO.q rfl rfl rfl rfl (fun w' hE41 => (X.loadO hO3 (Ext.trans (Ext.drew _) hE41) rfl rfl Try.isAgg3)) ?_
          refine WO.q rfl rfl rfl rfl (fun w' hE41 => (X.move ((hACr1.eq 0).trans (congrFun hF6 0)))) ?_
          refine WO.q rfl rfl rfl rfl (fun w' hE41 => (X.nilCheck rfl)) ?_
          refine WO.q rfl rfl rfl rfl (fun w' hE41 => (X.fieldAddrP (off := 5) rfl Try.underlying75 rfl rfl Try.sizeOf72)) ?_
          refine WO.q rfl rfl rfl rfl (fun w' hE41 => (X.loadO hO (Ext.trans (Ext.drew _) hE41) rfl rfl Try.isAgg72)) ?_
          refine WO.q rfl rfl rfl rfl (fun w' hE41 => (X.fieldAddrO (off := 10) ((hACr1.eq 3).trans (congrFun hF6 3)) Try.underlying40 rfl rfl Try.sizeOf3)) ?_
          refine WO.q rfl rfl rfl rfl (fun w' hE41 => (X.loadO hO3 (Ext.trans (Ext.drew _) hE41) rfl rfl Try.isAgg3)) ?_
          refine WO.q rfl rfl rfl rfl (fun w' hE41 => (X.lookM ki ((hMc.ext (Ext.drew _)).ext hE41) Try.underlying72 Try.zeroValue3 rfl rfl (hLc _))) ?_
          refine WO.q rfl rfl rfl rfl (fun w' hE41 => (X.fieldAddrO (off := 12) ((hACr1.eq 3).trans (congrFun hF6 3)) Try.underlying40 rfl rfl Try.sizeOf3)) ?_
          refine WO.q rfl rfl rfl rfl (fun w' hE41 => (X.loadO hO3 (Ext.trans (Ext.drew _) hE41) rfl rfl Try.isAgg3)) ?_
          refine WO.q rfl rfl rfl rfl (fun w' hE41 => (X.max2 rfl rfl)) ?_
          refine WO.nil ?_
          refine WL.op rfl (OW.putM ki (hMc.ext (Ext.trans (Ext.drew _) (Ext.drew _))) Try.underlying72 rfl rfl rfl ?_)
          intro w42 hMc hx44
          have := World.grownBy.size hx44
          replace hMa := (hMa.ext (Ext.trans (Ext.drew _) (Ext.drew _))).keptO hx44 (by omega)
          replace hO := (hO.ext (Ext.trans (Ext.drew _) (Ext.drew _))).keptO hx44 (by omega)
          replace hO3 := (hO3.ext (Ext.trans (Ext.drew _) (Ext.drew _))).keptO hx44 (by omega)
          replace hO4 := (hO4.ext (Ext.trans (Ext.drew _) (Ext.drew _))).keptO hx44 (by omega)
          replace hM32 := (hM32.ext (Ext.trans (Ext.drew _) (Ext.drew _))).keptO hx44 (by omega)
          have hch2 := IntB.put hMc hLc
          refine WL.nil ?_
          refine fin_n ?_
          have hfin := acc_fin (k := (k3 m.Part m.Ballot m.Value)) (gi := gM32) (l := (addF (c.A (k3 m.Part m.Ballot m.Value)) m.From)) hI hG hG0 hGi hMa (fun q => getM_put _ _ _ _) (.inr ⟨hGn, by omega⟩) hM32 hch2 ((((((((((((ChgS.refl (fun b => b = ga ∨ b = gc ∨ F b = some (Rl.inn (k3 m.Part m.Ballot m.Value))) w).ext hx3).ext (Ext.store hx15 hx19 (by omega))).ext (Ext.drew _)).ext (Ext.drew _)).ext hx27).row1 hx31 (.inl (.inl rfl))).ext (Ext.drew _)).row1 hx36 (.inr (by omega))).ext (Ext.drew _)).ext (Ext.drew _)).row1 hx44 (.inl (.inr (.inl rfl))))
          unfold CC.accept
          rw [if_neg hvv]
          first | (simp only [if_pos hbig]; exact hfin) | (simp only [if_neg hbig]; exact hfin)
        · have gh2_39 := (of_decide_eq_false h2_39)
          have hbig : ¬ c.nac < 2 * ((addF (c.A (k3 m.Part m.Ballot m.Value)) m.From).length : Int) := gh2_39
          have hch2 : IntB w34.drew gc c.ch := ⟨_, (hMc.ext (Ext.drew _)), hLc⟩
          refine WF.skip ?_
          refine fin_n ?_
          have hfin := acc_fin (k := (k3 m.Part m.Ballot m.Value)) (gi := gM32) (l := (addF (c.A (k3 m.Part m.Ballot m.Value)) m.From)) hI hG hG0 hGi (hMa.ext (Ext.drew _)) (fun q => getM_put _ _ _ _) (.inr ⟨hGn, by omega⟩) (hM32.ext (Ext.drew _)) hch2 ((((((((((ChgS.refl (fun b => b = ga ∨ b = gc ∨ F b = some (Rl.inn (k3 m.Part m.Ballot m.Value))) w).ext hx3).ext (Ext.store hx15 hx19 (by omega))).ext (Ext.drew _)).ext (Ext.drew _)).ext hx27).row1 hx31 (.inl (.inl rfl))).ext (Ext.drew _)).row1 hx36 (.inr (by omega))).ext (Ext.drew _))
          unfold CC.accept
          rw [if_neg hvv]
          first | (simp only [if_pos hbig]; exact hfin) | (simp only [if_neg hbig]; exact hfin)
      · have gh1_22 := h1_22
        obtain ⟨gi, hgi⟩ := isNone_f gh1_22
        obtain ⟨f1, hMi⟩ := hGi _ _ hgi
        have d4 := Fp.ne f1 hI.fa (by simp)
        have d5 := Fp.ne f1 hI.fc (by simp)
        have d6 := Fp.ne f1 hI.at_ (by simp)
        have d7 := hMi.lt
        refine WF.skip ?_
        refine thn_n ?_
        refine WF.seq ?_
        refine WF.drawn (.q 0 (.q 1 (.q 2 (.q 3 (.q 4 (.q 5 (.q 6 (.q 7 .nil)))))))) (fun w' => Ext w17.drew w') 8 (by kernel_rfl) (by kernel_rfl) (Ext.drew _) ?_
        have := World.grownBy.size (Ext.drew w17.drew)
        refine WO.q rfl rfl rfl rfl (fun w' hE46 => (X.move ((hACr1.eq 0).trans (congrFun hF6 0)))) ?_
        refine WO.q rfl rfl rfl rfl (fun w' hE46 => (X.nilCheck rfl)) ?_
        refine WO.q rfl rfl rfl rfl (fun w' hE46 => (X.fieldAddrP (off := 4) rfl Try.underlying75 rfl rfl Try.sizeOf71)) ?_
        refine WO.q rfl rfl rfl rfl (fun w' hE46 => (X.loadO hO (Ext.trans (Ext.drew _) hE46) rfl rfl Try.isAgg71)) ?_
        refine WO.q rfl rfl rfl rfl (fun w' hE46 => (X.loadOA hO4 (Ext.trans (Ext.drew _) hE46) rfl rfl Try.isAgg90 Try.sizeOf90)) ?_
        refine WO.q rfl rfl rfl rfl (fun w' hE46 => (X.lookM kk ((hMa.ext (Ext.drew _)).ext hE46) Try.underlying71 Try.zeroValue72 rfl (show _ = encN (k3 m.Part m.Ballot m.Value) from rfl) (show _ = mp_ gi from by rw [hG, hgi]; rfl))) ?_
        refine WO.q rfl rfl rfl rfl (fun w' hE46 => (X.fieldAddrO (off := 1) ((hACr1.eq 3).trans (congrFun hF6 3)) Try.underlying40 rfl rfl Try.sizeOf3)) ?_
        refine WO.q rfl rfl rfl rfl (fun w' hE46 => (X.loadO hO3 (Ext.trans (Ext.drew _) hE46) rfl rfl Try.isAgg3)) ?_
        refine WO.nil ?_
        refine WL.op rfl (OW.putM ki (hMi.ext (Ext.trans (Ext.trans (Ext.trans hx3 (Ext.store hx15 hx19 (by omega))) (Ext.drew _)) (Ext.drew _))) Try.underlying72 rfl rfl rfl ?_)
        intro w47 hMi hx49
        have := World.grownBy.size hx49
        replace hMa := (hMa.ext (Ext.trans (Ext.drew _) (Ext.drew _))).keptO hx49 (by omega)
        replace hMc := (hMc.ext (Ext.trans (Ext.drew _) (Ext.drew _))).keptO hx49 (by omega)
        replace hO := (hO.ext (Ext.trans (Ext.drew _) (Ext.drew _))).keptO hx49 (by omega)
        replace hO3 := (hO3.ext (Ext.trans (Ext.drew _) (Ext.drew _))).keptO hx49 (by omega)
        replace hO4 := (hO4.ext (Ext.trans (Ext.drew _) (Ext.drew _))).keptO hx49 (by omega)
        replace hMi : MapB i64 w47 gi ((addF (c.A (k3 m.Part m.Ballot m.Value)) m.From).map fun x => (x, i64 1)) := by rw [← put_addF]; exact hMi
        have hl8 := addF_len (c.A (k3 m.Part m.Ballot m.Value)) m.From
        have hl7 := hok.lenA (k3 m.Part m.Ballot m.Value)
        refine WL.nil ?_
        refine thn_n ?_
        refine WF.seq ?_
        refine WF.drawn (.q 0 (.q 1 (.q 2 (.q 3 (.q 4 (.q 5 (.q 6 (.q 7 (.q 8 (.q 9 (.q 10 (.q 11 (.q 12 .nil))))))))))))) (fun w' => Ext w47 w') 13 (by kernel_rfl) (by kernel_rfl) (Ext.drew _) ?_
        have := World.grownBy.size (Ext.drew w47)
        refine WO.q rfl rfl rfl rfl (fun w' hE51 => (X.move ((hACr1.eq 0).trans (congrFun hF6 0)))) ?_
        refine WO.q rfl rfl rfl rfl (fun w' hE51 => (X.nilCheck rfl)) ?_
        refine WO.q rfl rfl rfl rfl (fun w' hE51 => (X.fieldAddrP (off := 4) rfl Try.underlying75 rfl rfl Try.sizeOf71)) ?_
        refine WO.q rfl rfl rfl rfl (fun w' hE51 => (X.loadO hO hE51 rfl rfl Try.isAgg71)) ?_
        refine WO.q rfl rfl rfl rfl (fun w' hE51 => (X.loadOA hO4 hE51 rfl rfl Try.isAgg90 Try.sizeOf90)) ?_
        refine WO.q rfl rfl rfl rfl (fun w' hE51 => (X.lookM kk (hMa.ext hE51) Try.underlying71 Try.zeroValue72 rfl (show _ = encN (k3 m.Part m.Ballot m.Value) from rfl) (show _ = mp_ gi from by rw [hG, hgi]; rfl))) ?_
        refine WO.q rfl rfl rfl rfl (fun w' hE51 => (X.lenM (hMi.ext hE51) Try.underlying72 rfl (List.length_map _))) ?_
        refine WO.q rfl rfl rfl rfl (fun w' hE51 => (X.mul rfl rfl (w64 (by omega)))) ?_
        refine WO.q rfl rfl rfl rfl (fun w' hE51 => (X.move ((hACr1.eq 0).trans (congrFun hF6 0)))) ?_
        refine WO.q rfl rfl rfl rfl (fun w' hE51 => (X.nilCheck rfl)) ?_
        refine WO.q rfl rfl rfl rfl (fun w' hE51 => (X.fieldAddrP (off := 3) rfl Try.underlying75 rfl rfl Try.sizeOf3)) ?_
        refine WO.q rfl rfl rfl rfl (fun w' hE51 => (X.loadO hO hE51 rfl rfl Try.isAgg3)) ?_
        refine WO.q rfl rfl rfl rfl (fun w' hE51 => (X.gtr rfl rfl)) ?_
        refine WO.nil ?_
        refine WL.nil ?_
        refine thn_n ?_
        refine WF.cond rfl (fun h2_52 => ?_) (fun h2_52 => ?_)
        · have gh2_52 := (of_decide_eq_true h2_52)
          have hbig : c.nac < 2 * ((addF (c.A (k3 m.Part m.Ballot m.Value)) m.From).length : Int) := gh2_52
          refine WF.drawn (.q 0 (.q 1 (.q 2 (.q 3 (.q 4 (.q 5 (.q 6 (.q 7 (.q 8 (.q 9 (.q 10 (.q 11 (.q 12 (.q 13 (.q 14 (.q 15 .nil)))))))))))))))) (fun w' => Ext w47.drew w') 16 (by kernel_rfl) (by kernel_rfl) (Ext.drew _) ?_
          have := World.grownBy.size (Ext.drew w47.drew)
          refine WO.q rfl rfl rfl rfl (fun w' hE54 => (X.move ((hACr1.eq 0).trans (congrFun hF6 0)))) ?_
          refine WO.q rfl rfl rfl rfl (fun w' hE54 => (X.nilCheck rfl)) ?_
          refine WO.q rfl rfl rfl rfl (fun w' hE54 => (X.fieldAddrP (off := 5) rfl Try.underlying75 rfl rfl Try.sizeOf72)) ?_
          refine WO.q rfl rfl rfl rfl (fun w' hE54 => (X.loadO hO (Ext.trans (Ext.drew _) hE54) rfl rfl Try.isAgg72)) ?_
          refine WO.q rfl rfl rfl rfl (fun w' hE54 => (X.fieldAddrO (off := 10) ((hACr1.eq 3).trans (congrFun hF6 3)) Try.underlying40 rfl rfl Try.sizeOf3)) ?_
          refine WO.q rfl rfl rfl rfl (fun w' hE54 => (X.loadO hO3 (Ext.trans (Ext.drew _) hE54) rfl rfl Try.isAgg3)) ?_
          refine WO.q rfl rfl rfl rfl (fun w' hE54 => (X.move ((hACr1.eq 0).trans (congrFun hF6 0)))) ?_
          refine WO.q rfl rfl rfl rfl (fun w' hE54 => (X.nilCheck rfl)) ?_
          refine WO.q rfl rfl rfl rfl (fun w' hE54 => (X.fieldAddrP (off := 5) rfl Try.underlying75 rfl rfl Try.sizeOf72)) ?_
          refine WO.q rfl rfl rfl rfl (fun w' hE54 => (X.loadO hO (Ext.trans (Ext.drew _) hE54) rfl rfl Try.isAgg72)) ?_
          refine WO.q rfl rfl rfl rfl (fun w' hE54 => (X.fieldAddrO (off := 10) ((hACr1.eq 3).trans (congrFun hF6 3)) Try.underlying40 rfl rfl Try.sizeOf3)) ?_
          refine WO.q rfl rfl rfl rfl (fun w' hE54 => (X.loadO hO3 (Ext.trans (Ext.drew _) hE54) rfl rfl Try.isAgg3)) ?_
          refine WO.q rfl rfl rfl rfl (fun w' hE54 => (X.lookM ki ((hMc.ext (Ext.drew _)).ext hE54) Try.underlying72 Try.zeroValue3 rfl rfl (hLc _))) ?_
          refine WO.q rfl rfl rfl rfl (fun w' hE54 => (X.fieldAddrO (off := 12) ((hACr1.eq 3).trans (congrFun hF6 3)) Try.underlying40 rfl rfl Try.sizeOf3)) ?_
          refine WO.q rfl rfl rfl rfl (fun w' hE54 => (X.loadO hO3 (Ext.trans (Ext.drew _) hE54) rfl rfl Try.isAgg3)) ?_
          refine WO.q rfl rfl rfl rfl (fun w' hE54 => (X.max2 rfl rfl)) ?_
          refine WO.nil ?_
          refine WL.op rfl (OW.putM ki (hMc.ext (Ext.trans (Ext.drew _) (Ext.drew _))) Try.underlying72 rfl rfl rfl ?_)
          intro w55 hMc hx57
          have := World.grownBy.size hx57
          replace hMa := (hMa.ext (Ext.trans (Ext.drew _) (Ext.drew _))).keptO hx57 (by omega)
          replace hO := (hO.ext (Ext.trans (Ext.drew _) (Ext.drew _))).keptO hx57 (by omega)
          replace hO3 := (hO3.ext (Ext.trans (Ext.drew _) (Ext.drew _))).keptO hx57 (by omega)
          replace hO4 := (hO4.ext (Ext.trans (Ext.drew _) (Ext.drew _))).keptO hx57 (by omega)
          replace hMi := (hMi.ext (Ext.trans (Ext.drew _) (Ext.drew _))).keptO hx57 (by omega)
          have hch2 := IntB.put hMc hLc
          refine WL.nil ?_
          refine fin_n ?_
          have hfin := acc_fin (k := (k3 m.Part m.Ballot m.Value)) (gi := gi) (l := (addF (c.A (k3 m.Part m.Ballot m.Value)) m.From)) hI hG hG0 hGi hMa (fun q => by split; (rename_i e; subst e; rw [hG, hgi]; rfl); rfl) (.inl hgi) hMi hch2 (((((((((ChgS.refl (fun b => b = ga ∨ b = gc ∨ F b = some (Rl.inn (k3 m.Part m.Ballot m.Value))) w).ext hx3).ext (Ext.store hx15 hx19 (by omega))).ext (Ext.drew _)).ext (Ext.drew _)).row1 hx49 (.inl (.inr (.inr f1)))).ext (Ext.drew _)).ext (Ext.drew _)).row1 hx57 (.inl (.inr (.inl rfl))))
          unfold CC.accept
          rw [if_neg hvv]
          first | (simp only [if_pos hbig]; exact hfin) | (simp only [if_neg hbig]; exact hfin)
        · have gh2_52 := (of_decide_eq_false h2_52)
          have hbig : ¬ c.nac < 2 * ((addF (c.A (k3 m.Part m.Ballot m.Value)) m.From).length : Int) := gh2_52
          have hch2 : IntB w47.drew gc c.ch := ⟨_, (hMc.ext (Ext.drew _)), hLc⟩
          refine WF.skip ?_
          refine fin_n ?_
          have hfin := acc_fin (k := (k3 m.Part m.Ballot m.Value)) (gi := gi) (l := (addF (c.A (k3 m.Part m.Ballot m.Value)) m.From)) hI hG hG0 hGi (hMa.ext (Ext.drew _)) (fun q => by split; (rename_i e; subst e; rw [hG, hgi]; rfl); rfl) (.inl hgi) (hMi.ext (Ext.drew _)) hch2 (((((((ChgS.refl (fun b => b = ga ∨ b = gc ∨ F b = some (Rl.inn (k3 m.Part m.Ballot m.Value))) w).ext hx3).ext (Ext.store hx15 hx19 (by omega))).ext (Ext.drew _)).ext (Ext.drew _)).row1 hx49 (.inl (.inr (.inr f1)))).ext (Ext.drew _))
          unfold CC.accept
          rw [if_neg hvv]
          first | (simp only [if_pos hbig]; exact hfin) | (simp only [if_neg hbig]; exact hfin)

theorem any_ex {l : List P3} {x : Int} : decide (∃ k, k < l.length ∧ ((l.getD k (0, 0, 0)).1 == x) = true) = l.any fun p => p.1 == x := by
  rw [Bool.eq_iff_iff, decide_eq_true_iff, List.any_eq_true]
  constructor
  · rintro ⟨k, hk, h⟩
    rw [List.getD_eq_getElem?_getD, List.getElem?_eq_getElem hk] at h
    exact ⟨_, List.getElem_mem hk, h⟩
  · rintro ⟨p, hp, h⟩
    obtain ⟨k, hk, rfl⟩ := List.getElem_of_mem hp
    exact ⟨k, hk, by simpa [hk] using h⟩
theorem moved_own {F : Fp Rl} {r : Rl} {w wk : World} {v v' : Value} (hm : Moved wk v v') (hf : ∀ b, v.ownBlock = some b → F b = some r) (hb : F.below w) (hk : w.heap.size ≤ wk.heap.size) : ∀ b, v'.ownBlock = some b → F b = some r ∨ F b = none ∧ w.heap.size ≤ b := fun b e => by
  rcases hm with h | h
  · exact .inl (hf b (h ▸ e))
  · have := h b e; exact .inr ⟨Fp.fresh hb (by omega), by omega⟩
theorem CC.promise_a {c : CC} {m : Msg} (h : c.st = false ∨ m.Ballot ≠ c.num ∨ 0 < c.po m.Part) : c.promise m = (c, []) := if_pos h
theorem CC.promise_b {c : CC} {m : Msg} (h1 : ¬ (c.st = false ∨ m.Ballot ≠ c.num ∨ 0 < c.po m.Part)) (h2 : (c.pr m.Part).any (fun p => p.1 == m.From) = true) : c.promise m = (c, []) := (if_neg h1).trans (if_pos h2)
theorem CC.promise_c {c : CC} {m : Msg} (h1 : ¬ (c.st = false ∨ m.Ballot ≠ c.num ∨ 0 < c.po m.Part)) (h2 : ¬ (c.pr m.Part).any (fun p => p.1 == m.From) = true) (h3 : 2 * ((c.pr m.Part ++ [(m.From, m.Index, m.Value)]).length : Int) ≤ c.nac) : c.promise m = ({ c with pr := updI c.pr m.Part (c.pr m.Part ++ [(m.From, m.Index, m.Value)]) }, []) := (if_neg h1).trans ((if_neg h2).trans (if_pos h3))
theorem CC.promise_d {c : CC} {m : Msg} (h1 : ¬ (c.st = false ∨ m.Ballot ≠ c.num ∨ 0 < c.po m.Part)) (h2 : ¬ (c.pr m.Part).any (fun p => p.1 == m.From) = true) (h3 : ¬ 2 * ((c.pr m.Part ++ [(m.From, m.Index, m.Value)]).length : Int) ≤ c.nac) : c.promise m = ({ c with pr := updI c.pr m.Part (c.pr m.Part ++ [(m.From, m.Index, m.Value)]), po := updI c.po m.Part 1 }, c.all (says m.Part (pickV (c.pr m.Part ++ [(m.From, m.Index, m.Value)])))) := (if_neg h1).trans ((if_neg h2).trans (if_neg h3))
theorem promLit_ok (p : P3) (g1 : Nat) (m : Msg) (em dm : Value) (w : World) (h1 : Blk w g1 40 (m.c em dm)) : FnOk Try.prog 47 [agg p.c, at_ g1] w (fun r w' => r = .bool (p.1 == m.From) ∧ Ext w w') := by
  refine FnOk.enter (rs := [3]) Try.func47 rfl Try.ntmps47 Try.results47 rfl rfl ?_
  refine WF.seq ?_
  refine WF.region ?_
  refine WL.op rfl (OW.boxA (cs := _) rfl ?_ (by decide))
  intro g2 w1 heg2 hlg2 hO2 hx3
  have := World.grownBy.size hx3
  refine WL.va rfl rfl rfl (X.assignB rfl) ?_
  refine WL.nil ?_
  refine thn_n ?_
  refine WF.seq ?_
  refine WF.region ?_
  refine WL.va rfl rfl rfl (X.fieldAddrO (off := 0) rfl Try.underlying94 rfl rfl Try.sizeOf3) ?_
  refine WL.va rfl rfl rfl (X.loadO hO2 (Ext.refl _) rfl rfl Try.isAgg3) ?_
  refine WL.va rfl rfl rfl (X.fieldAddrO (off := 1) rfl Try.underlying40 rfl rfl Try.sizeOf3) ?_
  refine WL.va rfl rfl rfl (X.loadO h1 hx3 rfl rfl Try.isAgg3) ?_
  refine WL.va rfl rfl rfl (X.eql rfl rfl) ?_
  refine WL.va rfl rfl rfl (X.assignB rfl) ?_
  refine WL.nil ?_
  refine thn_n ?_
  refine WF.ret ?_
  refine fin_r ?_
  exact ⟨congrArg Value.bool (by rw [Bool.eq_iff_iff]; simp), hx3⟩

set_option maxHeartbeats 1000000 in
theorem promise0_ok (F : Fp Rl) (g : Nat) (c : CC) (m : Msg) (em dm : Value) (w : World) (h : CAt w F g c) (hok : c.ok) (hs : c.st = false) : FnOk Try.prog 35 [at_ g, agg (m.c em dm)] w (fun r w' => OwnM w' w.heap.size 40 r (c.promise m).2 ∧ CPost w w' F g (c.promise m).1 r) := by
  obtain ⟨vp, ga, gc, vr, vo, hI⟩ := h
  have hO := hI.obj
  obtain ⟨L, G, hMa, hG, hG0, hGi⟩ := hI.acc
  obtain ⟨Lc, hMc, hLc⟩ := hI.ch
  obtain ⟨d1, d2, d3⟩ := hI.dist
  obtain ⟨z1, z2, z3⟩ := hI.lts
  refine FnOk.enter (rs := [4]) Try.func35 rfl Try.ntmps35 Try.results35 rfl rfl ?_
  refine WF.seq ?_
  refine WF.region ?_
  refine WL.op rfl (OW.boxA (cs := (m.c em dm)) rfl ?_ (by decide))
  intro g3 w1 heg3 hlg3 hO3 hx3
  have := World.grownBy.size hx3
  refine WL.va rfl rfl rfl (X.assign rfl) ?_
  refine WL.nil ?_
  refine thn_n ?_
  refine WF.seq ?_
  refine WF.seq ?_
  refine WF.drawn (.q 0 (.q 1 (.q 2 (.q 3 (.q 4 (.q 5 (.q 6 (.q 7 (.q 8 (.q 9 (.q 10 (.q 11 (.q 12 (.q 13 (.q 14 (.q 15 (.q 16 (.q 17 (.q 18 (.q 19 (.q 20 (.q 21 (.q 22 (.q 23 .nil)))))))))))))))))))))))) (fun w' => Ext w1 w') 24 (by kernel_rfl) (by kernel_rfl) (Ext.drew _) ?_
  have := World.grownBy.size (Ext.drew w1)
  refine WO.q rfl rfl rfl rfl (fun w' hE5 => (X.move rfl)) ?_
  refine WO.q rfl rfl rfl rfl (fun w' hE5 => (X.nilCheck rfl)) ?_
  refine WO.q rfl rfl rfl rfl (fun w' hE5 => (X.fieldAddrP (off := 6) rfl Try.underlying75 rfl rfl Try.sizeOf4)) ?_
  refine WO.q rfl rfl rfl rfl (fun w' hE5 => (X.loadO hO (Ext.trans hx3 hE5) rfl rfl Try.isAgg4)) ?_
  refine WO.q rfl rfl rfl rfl (fun w' hE5 => (X.not rfl)) ?_
  refine WO.q rfl rfl rfl rfl (fun w' hE5 => (X.moveB rfl)) ?_
  refine WO.split (j := 5) rfl (fun h8 => ?_) (fun h8 => ?_)
  · have gh8 := (nt h8)
    refine WO.qp rfl rfl rfl rfl (congrArg some h8) ?_
    refine WO.qp rfl rfl rfl rfl (congrArg some h8) ?_
    refine WO.qp rfl rfl rfl rfl (congrArg some h8) ?_
    refine WO.qp rfl rfl rfl rfl (congrArg some h8) ?_
    refine WO.qp rfl rfl rfl rfl (congrArg some h8) ?_
    refine WO.qp rfl rfl rfl rfl (congrArg some h8) ?_
    refine WO.qp rfl rfl rfl rfl (congrArg some h8) ?_
    refine WO.q rfl rfl rfl rfl (fun w' hE5 => (X.pickT rfl h8 rfl)) ?_
    refine WO.q rfl rfl rfl rfl (fun w' hE5 => (X.moveB rfl)) ?_
    refine WO.qp rfl rfl rfl rfl rfl ?_
    refine WO.qp rfl rfl rfl rfl rfl ?_
    refine WO.qp rfl rfl rfl rfl rfl ?_
    refine WO.qp rfl rfl rfl rfl rfl ?_
    refine WO.qp rfl rfl rfl rfl rfl ?_
    refine WO.qp rfl rfl rfl rfl rfl ?_
    refine WO.qp rfl rfl rfl rfl rfl ?_
    refine WO.qp rfl rfl rfl rfl rfl ?_
    refine WO.q rfl rfl rfl rfl (fun w' hE5 => (X.pickT rfl rfl rfl)) ?_
    refine WO.nil ?_
    refine WL.nil ?_
    refine thn_n ?_
    refine WF.cond_t rfl ?_
    refine WF.seq ?_
    refine WF.region ?_
    refine WL.va rfl rfl rfl (X.assign rfl) ?_
    refine WL.nil ?_
    refine thn_n ?_
    refine WF.ret ?_
    refine thn_r ?_
    refine fin_r ?_
    rw [CC.promise_a (.inl hs)]; exact ⟨OwnM.nil _ _ _, CPost.same ⟨_, _, _, _, _, hI⟩ (Ext.trans hx3 (Ext.drew _))⟩
  · have gh8 := (nf h8)
    exact absurd gh8 (by rw [hs]; simp)

set_option maxHeartbeats 4000000 in
theorem promise1_ok (F : Fp Rl) (g : Nat) (c : CC) (m : Msg) (em dm : Value) (w : World) (h : CAt w F g c) (hok : c.ok) (hs : c.st = true) : FnOk Try.prog 35 [at_ g, agg (m.c em dm)] w (fun r w' => OwnM w' w.heap.size 40 r (c.promise m).2 ∧ CPost w w' F g (c.promise m).1 r) := by
  obtain ⟨vp, ga, gc, vr, vo, hI⟩ := h
  have hO := hI.obj
  obtain ⟨L, G, hMa, hG, hG0, hGi⟩ := hI.acc
  obtain ⟨Lc, hMc, hLc⟩ := hI.ch
  obtain ⟨d1, d2, d3⟩ := hI.dist
  obtain ⟨z1, z2, z3⟩ := hI.lts
  obtain ⟨gr, go, rfl, rfl, fr, fo, ⟨Lr, V, hMr, hLr, hV⟩, ⟨Lo, hMo, hLo⟩⟩ := hI.run hs
  have e1 := Fp.ne hI.at_ fr (by simp)
  have e2 := Fp.ne hI.at_ fo (by simp)
  have e3 := Fp.ne fr fo (by simp)
  have z4 := Fp.lt hI.below fr
  have z5 := Fp.lt hI.below fo
  obtain ⟨Br, Tr, oR, zR, bR, nR⟩ := (hV m.Part).outT
  have n1 := nR g _ hI.at_ (by simp)
  have n2 := nR gr _ fr (by simp)
  have n3 := nR go _ fo (by simp)
  have hlP := hok.lenP m.Part
  have hLL : (c.pr m.Part ++ [(m.From, m.Index, m.Value)]).length = (c.pr m.Part).length + 1 := by simp
  refine FnOk.enter (rs := [4]) Try.func35 rfl Try.ntmps35 Try.results35 rfl rfl ?_
  refine WF.seq ?_
  refine WF.region ?_
  refine WL.op rfl (OW.boxA (cs := (m.c em dm)) rfl ?_ (by decide))
  intro g3 w1 heg3 hlg3 hO3 hx3
  have := World.grownBy.size hx3
  refine WL.va rfl rfl rfl (X.assign rfl) ?_
  refine WL.nil ?_
  refine thn_n ?_
  refine WF.seq ?_
  refine WF.named (fun F5 hF6 => ?_)
  refine WF.cut (fun f' w' => f' 33 = .bool (decide (m.Ballot ≠ c.num ∨ 0 < c.po m.Part)) ∧ Agree [0, 1, 3, 4] f' F5 ∧ Ext w1 w') ?_ ?_
  · refine WF.drawn (.q 0 (.q 1 (.q 2 (.q 3 (.q 4 (.q 5 (.q 6 (.q 7 (.q 8 (.q 9 (.q 10 (.q 11 (.q 12 (.q 13 (.q 14 (.q 15 (.q 16 (.q 17 (.q 18 (.q 19 (.q 20 (.q 21 (.q 22 (.q 23 .nil)))))))))))))))))))))))) (fun w' => Ext w1 w') 24 (by kernel_rfl) (by kernel_rfl) (Ext.drew _) ?_
    have := World.grownBy.size (Ext.drew w1)
    refine WO.q rfl rfl rfl rfl (fun w' hE7 => (X.move (congrFun hF6 0))) ?_
    refine WO.q rfl rfl rfl rfl (fun w' hE7 => (X.nilCheck rfl)) ?_
    refine WO.q rfl rfl rfl rfl (fun w' hE7 => (X.fieldAddrP (off := 6) rfl Try.underlying75 rfl rfl Try.sizeOf4)) ?_
    refine WO.q rfl rfl rfl rfl (fun w' hE7 => (X.loadO hO (Ext.trans hx3 hE7) rfl rfl Try.isAgg4)) ?_
    refine WO.q rfl rfl rfl rfl (fun w' hE7 => (X.not rfl)) ?_
    refine WO.q rfl rfl rfl rfl (fun w' hE7 => (X.moveB rfl)) ?_
    refine WO.split (j := 5) rfl (fun h10 => ?_) (fun h10 => ?_)
    · have gh10 := (nt h10)
      exact absurd gh10 (by rw [hs]; simp)
    · have gh10 := (nf h10)
      refine WO.qg rfl rfl (congrArg some h10) rfl rfl (fun w' hE7 => (X.fieldAddrO (off := 11) (congrFun hF6 3) Try.underlying40 rfl rfl Try.sizeOf3)) ?_
      refine WO.qg rfl rfl (congrArg some h10) rfl rfl (fun w' hE7 => (X.loadO hO3 hE7 rfl rfl Try.isAgg3)) ?_
      refine WO.qg rfl rfl (congrArg some h10) rfl rfl (fun w' hE7 => (X.move (congrFun hF6 0))) ?_
      refine WO.qg rfl rfl (congrArg some h10) rfl rfl (fun w' hE7 => (X.nilCheck rfl)) ?_
      refine WO.qg rfl rfl (congrArg some h10) rfl rfl (fun w' hE7 => (X.fieldAddrP (off := 7) rfl Try.underlying75 rfl rfl Try.sizeOf3)) ?_
      refine WO.qg rfl rfl (congrArg some h10) rfl rfl (fun w' hE7 => (X.loadO hO (Ext.trans hx3 hE7) rfl rfl Try.isAgg3)) ?_
      refine WO.qg rfl rfl (congrArg some h10) rfl rfl (fun w' hE7 => (X.neq rfl rfl)) ?_
      refine WO.q rfl rfl rfl rfl (fun w' hE7 => (X.pickF rfl h10 rfl)) ?_
      refine WO.q rfl rfl rfl rfl (fun w' hE7 => (X.moveB rfl)) ?_
      refine WO.split (j := 14) rfl (fun h12 => ?_) (fun h12 => ?_)
      · have gh12 := (of_decide_eq_true h12)
        have hb1 : m.Ballot ≠ c.num := gh12
        refine WO.qp rfl rfl rfl rfl (congrArg some h12) ?_
        refine WO.qp rfl rfl rfl rfl (congrArg some h12) ?_
        refine WO.qp rfl rfl rfl rfl (congrArg some h12) ?_
        refine WO.qp rfl rfl rfl rfl (congrArg some h12) ?_
        refine WO.qp rfl rfl rfl rfl (congrArg some h12) ?_
        refine WO.qp rfl rfl rfl rfl (congrArg some h12) ?_
        refine WO.qp rfl rfl rfl rfl (congrArg some h12) ?_
        refine WO.qp rfl rfl rfl rfl (congrArg some h12) ?_
        refine WO.q rfl rfl rfl rfl (fun w' hE7 => (X.pickT rfl h12 rfl)) ?_
        refine WO.nil ?_
        refine WL.nil ?_
        refine thn_n ?_
        exact ⟨(congrArg Value.bool (by first | exact (decide_eq_true (.inl hb1)).symm | (apply decide_eq_decide.2; exact ⟨.inr, fun e => e.resolve_left hb0⟩))), (by repeat (first | exact (Agree.refl _ F5) | refine Agree.put ?_ rfl | refine Agree.named hF6 ?_)), (Ext.drew _)⟩
      · have gh12 := (Decidable.of_not_not (of_decide_eq_false h12))
        have hb0 : ¬ m.Ballot ≠ c.num := fun e => e gh12
        refine WO.qg rfl rfl (congrArg some h12) rfl rfl (fun w' hE7 => (X.move (congrFun hF6 0))) ?_
        refine WO.qg rfl rfl (congrArg some h12) rfl rfl (fun w' hE7 => (X.nilCheck rfl)) ?_
        refine WO.qg rfl rfl (congrArg some h12) rfl rfl (fun w' hE7 => (X.fieldAddrP (off := 9) rfl Try.underlying75 rfl rfl Try.sizeOf72)) ?_
        refine WO.qg rfl rfl (congrArg some h12) rfl rfl (fun w' hE7 => (X.loadO hO (Ext.trans hx3 hE7) rfl rfl Try.isAgg72)) ?_
        refine WO.qg rfl rfl (congrArg some h12) rfl rfl (fun w' hE7 => (X.fieldAddrO (off := 10) (congrFun hF6 3) Try.underlying40 rfl rfl Try.sizeOf3)) ?_
        refine WO.qg rfl rfl (congrArg some h12) rfl rfl (fun w' hE7 => (X.loadO hO3 hE7 rfl rfl Try.isAgg3)) ?_
        refine WO.qg rfl rfl (congrArg some h12) rfl rfl (fun w' hE7 => (X.lookM ki ((hMo.ext hx3).ext hE7) Try.underlying72 Try.zeroValue3 rfl rfl (hLo _))) ?_
        refine WO.qg rfl rfl (congrArg some h12) rfl rfl (fun w' hE7 => (X.gtr rfl rfl)) ?_
        refine WO.q rfl rfl rfl rfl (fun w' hE7 => (X.pickF rfl h12 rfl)) ?_
        refine WO.nil ?_
        refine WL.nil ?_
        refine thn_n ?_
        exact ⟨(congrArg Value.bool (by first | exact (decide_eq_true (.inl hb1)).symm | (apply decide_eq_decide.2; exact ⟨.inr, fun e => e.resolve_left hb0⟩))), (by repeat (first | exact (Agree.refl _ F5) | refine Agree.put ?_ rfl | refine Agree.named hF6 ?_)), (Ext.drew _)⟩
  · rintro fCr1 wCr1 ⟨e33_Cr1, hACr1, hwCr1⟩
    have := World.grownBy.size hwCr1
    refine WF.cond e33_Cr1 (fun h0_15 => ?_) (fun h0_15 => ?_)
    · have gh0_15 := (of_decide_eq_true h0_15)
      have hp1 : c.st = false ∨ m.Ballot ≠ c.num ∨ 0 < c.po m.Part := .inr gh0_15
      refine WF.seq ?_
      refine WF.region ?_
      refine WL.va rfl rfl rfl (X.assign rfl) ?_
      refine WL.nil ?_
      refine thn_n ?_
      refine WF.ret ?_
      refine thn_r ?_
      refine fin_r ?_
      rw [CC.promise_a hp1]; exact ⟨OwnM.nil _ _ _, CPost.same ⟨_, _, _, _, _, hI⟩ (Ext.trans hx3 hwCr1)⟩
    · have gh0_15 := (of_decide_eq_false h0_15)
      have hp1 : ¬ (c.st = false ∨ m.Ballot ≠ c.num ∨ 0 < c.po m.Part) := fun e => e.elim (fun e => by rw [hs] at e; cases e) gh0_15
      refine WF.skip ?_
      refine thn_n ?_
      refine WF.seq ?_
      refine WF.drawn (.q 0 (.q 1 (.q 2 (.q 3 (.q 4 (.q 5 (.q 6 (.q 7 .nil)))))))) (fun w' => Ext wCr1 w') 8 (by kernel_rfl) (by kernel_rfl) (Ext.drew _) ?_
      have := World.grownBy.size (Ext.drew wCr1)
      refine WO.q rfl rfl rfl rfl (fun w' hE17 => (X.move ((hACr1.eq 0).trans (congrFun hF6 0)))) ?_
      refine WO.q rfl rfl rfl rfl (fun w' hE17 => (X.nilCheck rfl)) ?_
      refine WO.q rfl rfl rfl rfl (fun w' hE17 => (X.fieldAddrP (off := 8) rfl Try.underlying75 rfl rfl Try.sizeOf73)) ?_
      refine WO.q rfl rfl rfl rfl (fun w' hE17 => (X.loadO hO (Ext.trans (Ext.trans hx3 hwCr1) hE17) rfl rfl Try.isAgg73)) ?_
      refine WO.q rfl rfl rfl rfl (fun w' hE17 => (X.fieldAddrO (off := 10) ((hACr1.eq 3).trans (congrFun hF6 3)) Try.underlying40 rfl rfl Try.sizeOf3)) ?_
      refine WO.q rfl rfl rfl rfl (fun w' hE17 => (X.loadO hO3 (Ext.trans hwCr1 hE17) rfl rfl Try.isAgg3)) ?_
      refine WO.q rfl rfl rfl rfl (fun w' hE17 => (X.lookM ki ((hMr.ext (Ext.trans hx3 hwCr1)).ext hE17) Try.underlying73 Try.zeroValue91 rfl rfl (hLr _))) ?_
      refine WO.q rfl rfl rfl rfl (fun w' hE17 => (X.assign rfl)) ?_
      refine WO.nil ?_
      refine WL.nil ?_
      refine thn_n ?_
      refine WF.seq ?_
      refine WF.seq ?_
      refine WF.region ?_
      refine WL.va rfl rfl rfl (X.move rfl) ?_
      refine WL.va rfl rfl rfl (X.makeFunc (evl_cons ((hACr1.eq 3).trans (congrFun hF6 3)) evl_nil)) ?_
      have hclo : ∀ k w1, k < (c.pr m.Part).length → Ext wCr1.drew w1 → CloOk Try.prog (.func (.func 47) #[] [at_ g3].toArray) [agg (el ((c.pr m.Part).flatMap P3.c) 3 k)] w1 (fun r w2 => r = .bool (((c.pr m.Part).getD k (0, 0, 0)).1 == m.From) ∧ Ext w1 w2) := fun k w1 hk hx => ⟨_, _, rfl, Try.call47, (by rw [show el ((c.pr m.Part).flatMap P3.c) 3 k = P3.c ((c.pr m.Part)[k]'hk) from flat_el P3.c_len hk, show (c.pr m.Part).getD k (0, 0, 0) = (c.pr m.Part)[k]'hk from by simp [hk]]; exact promLit_ok _ _ _ _ _ _ ((hO3.ext (Ext.trans hwCr1 (Ext.drew _))).ext hx))⟩
      refine WL.c rfl rfl rfl (X.call Try.call46 (evl_cons rfl (evl_cons rfl evl_nil))) (containsP_ok _ _ _ _ (fun k => ((c.pr m.Part).getD k (0, 0, 0)).1 == m.From) _ (Row.ext (hV m.Part).rd (Ext.trans (Ext.trans hx3 hwCr1) (Ext.drew _))) hclo) ?_
      rintro v19 w18 ⟨rfl, hx20⟩
      have := World.grownBy.size hx20
      refine WL.nil ?_
      refine thn_n ?_
      refine WF.cond rfl (fun h1_21 => ?_) (fun h1_21 => ?_)
      · have gh1_21 := h1_21
        have hp2 := any_ex.symm.trans gh1_21
        refine WF.seq ?_
        refine WF.region ?_
        refine WL.va rfl rfl rfl (X.assign rfl) ?_
        refine WL.nil ?_
        refine thn_n ?_
        refine WF.ret ?_
        refine thn_r ?_
        refine fin_r ?_
        rw [CC.promise_b hp1 hp2]; exact ⟨OwnM.nil _ _ _, CPost.same ⟨_, _, _, _, _, hI⟩ (Ext.trans (Ext.trans (Ext.trans hx3 hwCr1) (Ext.drew _)) hx20)⟩
      · have gh1_21 := h1_21
        have hp2 : ¬ (c.pr m.Part).any (fun p => p.1 == m.From) = true := fun e => by rw [← any_ex, gh1_21] at e; cases e
        refine WF.skip ?_
        refine thn_n ?_
        refine WF.seq ?_
        refine WF.region ?_
        refine WL.va rfl rfl rfl (X.move rfl) ?_
        refine WL.va rfl rfl rfl (X.fieldAddrO (off := 1) ((hACr1.eq 3).trans (congrFun hF6 3)) Try.underlying40 rfl rfl Try.sizeOf3) ?_
        refine WL.va rfl rfl rfl (X.loadO hO3 (Ext.trans (Ext.trans hwCr1 (Ext.drew _)) hx20) rfl rfl Try.isAgg3) ?_
        refine WL.va rfl rfl rfl (X.fieldAddrO (off := 5) ((hACr1.eq 3).trans (congrFun hF6 3)) Try.underlying40 rfl rfl Try.sizeOf3) ?_
        refine WL.va rfl rfl rfl (X.loadO hO3 (Ext.trans (Ext.trans hwCr1 (Ext.drew _)) hx20) rfl rfl Try.isAgg3) ?_
        refine WL.va rfl rfl rfl (X.fieldAddrO (off := 12) ((hACr1.eq 3).trans (congrFun hF6 3)) Try.underlying40 rfl rfl Try.sizeOf3) ?_
        refine WL.va rfl rfl rfl (X.loadO hO3 (Ext.trans (Ext.trans hwCr1 (Ext.drew _)) hx20) rfl rfl Try.isAgg3) ?_
        refine WL.va rfl rfl rfl (X.buildL (P := Try.prog) (t := 94) (cs := (P3.c (m.From, m.Index, m.Value))) (evp_cons rfl (evp_cons rfl (evp_cons rfl evp_nil))) Try.type94 Try.underlying94 rfl rfl ⟨rfl, rfl, rfl, trivial⟩ rfl) ?_
        refine WL.op rfl (OW.lits (vs := [_]) (evp_cons rfl evp_nil) Try.underlying91 Try.sizeOf94 Try.zeroValue94 ⟨rfl, trivial⟩ rfl rfl rfl ?_ (by decide))
        intro v24 w23 ho26 hx25
        have := World.grownBy.size hx25
        have hlt := ho26
        refine WL.op rfl (OW.append (bytes := 24) (own_ext (hV m.Part).own (Ext.trans (Ext.trans (Ext.trans (Ext.trans hx3 hwCr1) (Ext.drew _)) hx20) hx25)) (Row.of_own hlt) (P3.c_one (m.From, m.Index, m.Value)) rfl rfl Try.underlying91 Try.type94 rfl rfl rfl rfl (by decide) (by unfold maxLen; omega) (by omega) (Nat.zero_le _) ?_ (by decide))
        intro v28 w27 ho30 hx29 hmvhx29
        have := World.grownBy.size hx29
        replace hMr := (hMr.ext (Ext.trans (Ext.trans (Ext.trans (Ext.trans hx3 hwCr1) (Ext.drew _)) hx20) hx25)).kept hx29 (fun b hb => by have := bR b hb; omega)
        replace hMo := (hMo.ext (Ext.trans (Ext.trans (Ext.trans (Ext.trans hx3 hwCr1) (Ext.drew _)) hx20) hx25)).kept hx29 (fun b hb => by have := bR b hb; omega)
        replace hO := (hO.ext (Ext.trans (Ext.trans (Ext.trans (Ext.trans hx3 hwCr1) (Ext.drew _)) hx20) hx25)).keptR hx29 (fun b hb => by have := bR b hb; omega)
        replace hO3 := (hO3.ext (Ext.trans (Ext.trans (Ext.trans hwCr1 (Ext.drew _)) hx20) hx25)).keptR hx29 (fun b hb => by have := bR b hb; omega)
        have hvq := moved_own hmvhx29 (hV m.Part).fp hI.below (by omega)
        have hleq := Fp.own_le hvq
        have oQ0 : World.ownsRow w27 0 94 3 v28 (c.pr m.Part ++ [(m.From, m.Index, m.Value)]).length ((c.pr m.Part ++ [(m.From, m.Index, m.Value)]).flatMap P3.c) := by
          have e : (c.pr m.Part ++ [(m.From, m.Index, m.Value)]).flatMap P3.c = (c.pr m.Part).flatMap P3.c ++ P3.c (m.From, m.Index, m.Value) := by simp
          rw [hLL, e]; exact ho30
        obtain ⟨B2, T2, oQ, zQ, bQ, nQ⟩ := (RowF.mk' (F := F) (r := Rl.prow m.Part) oQ0).outT
        have n4 := nQ g _ (hleq.sub _ _ hI.at_) (by simp)
        have n5 := nQ gr _ (hleq.sub _ _ fr) (by simp)
        have n6 := nQ go _ (hleq.sub _ _ fo) (by simp)
        refine WL.va rfl rfl rfl (X.assign rfl) ?_
        refine WL.nil ?_
        refine thn_n ?_
        refine WF.seq ?_
        refine WF.drawn (.q 0 (.q 1 (.q 2 (.q 3 (.q 4 (.q 5 (.q 6 .nil))))))) (fun w' => Ext w27 w') 7 (by kernel_rfl) (by kernel_rfl) (Ext.drew _) ?_
        have := World.grownBy.size (Ext.drew w27)
        refine WO.q rfl rfl rfl rfl (fun w' hE31 => (X.move ((hACr1.eq 0).trans (congrFun hF6 0)))) ?_
        refine WO.q rfl rfl rfl rfl (fun w' hE31 => (X.nilCheck rfl)) ?_
        refine WO.q rfl rfl rfl rfl (fun w' hE31 => (X.fieldAddrP (off := 8) rfl Try.underlying75 rfl rfl Try.sizeOf73)) ?_
        refine WO.q rfl rfl rfl rfl (fun w' hE31 => (X.loadO hO hE31 rfl rfl Try.isAgg73)) ?_
        refine WO.q rfl rfl rfl rfl (fun w' hE31 => (X.fieldAddrO (off := 10) ((hACr1.eq 3).trans (congrFun hF6 3)) Try.underlying40 rfl rfl Try.sizeOf3)) ?_
        refine WO.q rfl rfl rfl rfl (fun w' hE31 => (X.loadO hO3 hE31 rfl rfl Try.isAgg3)) ?_
        refine WO.q rfl rfl rfl rfl (fun w' hE31 => (X.move rfl)) ?_
        refine WO.nil ?_
        refine WL.op rfl (OW.putM ki (hMr.ext (Ext.drew _)) Try.underlying73 rfl rfl rfl ?_)
        intro w32 hMr hx34
        have := World.grownBy.size hx34
        replace hMo := (hMo.ext (Ext.drew _)).keptO hx34 (by omega)
        replace hO := (hO.ext (Ext.drew _)).keptO hx34 (by omega)
        replace hO3 := (hO3.ext (Ext.drew _)).keptO hx34 (by omega)
        replace oQ := (oQ.ext (Ext.drew _)).keptO hx34 (by omega)
        refine WL.nil ?_
        refine thn_n ?_
        refine WF.seq ?_
        refine WF.seq ?_
        refine WF.region ?_
        refine WL.va rfl rfl rfl (X.move rfl) ?_
        refine WL.va rfl rfl rfl (X.len (oQ.rd) rfl Try.underlying91) ?_
        refine WL.va rfl rfl rfl (X.mul rfl rfl (w64 (by omega))) ?_
        refine WL.va rfl rfl rfl (X.move ((hACr1.eq 0).trans (congrFun hF6 0))) ?_
        refine WL.va rfl rfl rfl (X.nilCheck rfl) ?_
        refine WL.va rfl rfl rfl (X.fieldAddrP (off := 3) rfl Try.underlying75 rfl rfl Try.sizeOf3) ?_
        refine WL.va rfl rfl rfl (X.loadO hO (Ext.refl _) rfl rfl Try.isAgg3) ?_
        refine WL.va rfl rfl rfl (X.leq rfl rfl) ?_
        refine WL.nil ?_
        refine thn_n ?_
        refine WF.cond rfl (fun h2_36 => ?_) (fun h2_36 => ?_)
        · have gh2_36 := (of_decide_eq_true h2_36)
          have hp3 : 2 * ((c.pr m.Part ++ [(m.From, m.Index, m.Value)]).length : Int) ≤ c.nac := gh2_36
          refine WF.seq ?_
          refine WF.region ?_
          refine WL.va rfl rfl rfl (X.assign rfl) ?_
          refine WL.nil ?_
          refine thn_n ?_
          refine WF.ret ?_
          refine thn_r ?_
          refine fin_r ?_
          rw [CC.promise_c hp1 hp2 hp3]
          refine ⟨OwnM.nil _ _ _, ?_⟩
          exact prom_fin (p := m.Part) (l := (c.pr m.Part ++ [(m.From, m.Index, m.Value)])) hI fr fo hLr hV hMr (own_mono (show World.ownsRow _ B2 94 3 _ _ _ from oQ.own) (Nat.zero_le _)) (fun b e => (hvq b e).imp id And.right) ⟨_, hMo, hLo⟩ (((((((((ChgS.refl (fun b => b = gr ∨ b = go ∨ F b = some (Rl.prow m.Part)) w).ext hx3).ext hwCr1).ext (Ext.drew _)).ext hx20).ext hx25).row hx29 (fun b e => .inl (.inr (.inr ((hV m.Part).fp b e))))).ext (Ext.drew _)).row1 hx34 (.inl (.inl rfl))) (fun b e => by cases e)
        · have gh2_36 := (of_decide_eq_false h2_36)
          have hp3 : ¬ 2 * ((c.pr m.Part ++ [(m.From, m.Index, m.Value)]).length : Int) ≤ c.nac := gh2_36
          refine WF.skip ?_
          refine thn_n ?_
          refine WF.seq ?_
          refine WF.drawn (.q 0 (.q 1 (.q 2 (.q 3 (.q 4 (.q 5 .nil)))))) (fun w' => Ext w32 w') 6 (by kernel_rfl) (by kernel_rfl) (Ext.drew _) ?_
          have := World.grownBy.size (Ext.drew w32)
          refine WO.q rfl rfl rfl rfl (fun w' hE38 => (X.move ((hACr1.eq 0).trans (congrFun hF6 0)))) ?_
          refine WO.q rfl rfl rfl rfl (fun w' hE38 => (X.nilCheck rfl)) ?_
          refine WO.q rfl rfl rfl rfl (fun w' hE38 => (X.fieldAddrP (off := 9) rfl Try.underlying75 rfl rfl Try.sizeOf72)) ?_
          refine WO.q rfl rfl rfl rfl (fun w' hE38 => (X.loadO hO hE38 rfl rfl Try.isAgg72)) ?_
          refine WO.q rfl rfl rfl rfl (fun w' hE38 => (X.fieldAddrO (off := 10) ((hACr1.eq 3).trans (congrFun hF6 3)) Try.underlying40 rfl rfl Try.sizeOf3)) ?_
          refine WO.q rfl rfl rfl rfl (fun w' hE38 => (X.loadO hO3 hE38 rfl rfl Try.isAgg3)) ?_
          refine WO.nil ?_
          refine WL.op rfl (OW.putM ki (hMo.ext (Ext.drew _)) Try.underlying72 rfl rfl rfl ?_)
          intro wP hMo hx40
          have := World.grownBy.size hx40
          replace hMr := (hMr.ext (Ext.drew _)).keptO hx40 (by omega)
          replace hO := (hO.ext (Ext.drew _)).keptO hx40 (by omega)
          replace hO3 := (hO3.ext (Ext.drew _)).keptO hx40 (by omega)
          replace oQ := (oQ.ext (Ext.drew _)).keptO hx40 (by omega)
          refine WL.nil ?_
          refine thn_n ?_
          refine WF.seq ?_
          refine WF.region ?_
          refine WL.va rfl rfl rfl (X.assignI rfl) ?_
          refine WL.va rfl rfl rfl (X.assignI rfl) ?_
          refine WL.nil ?_
          refine thn_n ?_
          refine WF.seq ?_
          refine WF.seq ?_
          refine WF.region ?_
          refine WL.va rfl rfl rfl (X.move rfl) ?_
          refine WL.va rfl rfl rfl (X.len (oQ.rd) rfl Try.underlying91) ?_
          refine WL.va rfl rfl rfl (X.moveI rfl) ?_
          refine WL.nil ?_
          refine thn_n ?_
          refine WF.block ?_
          refine WF.named (fun F42 hF43 => ?_)
          refine WF.loopN (fun mL0 f' w' => ∃ (k : Nat) (s : Int × Int), mL0 = (c.pr m.Part ++ [(m.From, m.Index, m.Value)]).length - k ∧ f' 77 = .int .i64 (k : Int) ∧ f' 6 = i64 s.1 ∧ f' 7 = i64 s.2 ∧ Agree [0, 1, 3, 4, 5, 33, 34, 35, 36, 37, 38, 39, 40, 41, 42, 43, 44, 45, 46, 47, 48, 49, 50, 51, 52, 53, 54, 55, 56, 57, 58, 59, 60, 61, 62, 63, 64, 65, 66, 67, 68, 69, 70, 71, 72, 73, 74, 75, 76] f' F42 ∧ Ext wP w' ∧ k ≤ (c.pr m.Part ++ [(m.From, m.Index, m.Value)]).length ∧ s = ((c.pr m.Part ++ [(m.From, m.Index, m.Value)]).take k).foldl pick1 (0, 0)) ?_ ?_
          · exact ⟨_, 0, (0, 0), rfl, (congrFun hF43 77), (congrFun hF43 6), (congrFun hF43 7), (Agree.refl _ _), (Ext.refl _), ⟨Nat.zero_le _, rfl⟩⟩
          · rintro mL0 fL0 wL0 ⟨k, s, hmL0, e77_L0, e6_L0, e7_L0, hAL0, hwL0, ⟨hk0, hsk⟩⟩
            have := World.grownBy.size hwL0
            refine WF.seq ?_
            refine WF.region ?_
            refine WL.va rfl rfl rfl (X.lss e77_L0 ((hAL0.eq 76).trans (congrFun hF43 76))) ?_
            refine WL.nil ?_
            refine thn_n ?_
            refine WF.seq ?_
            refine WF.cond rfl (fun h3_44 => ?_) (fun h3_44 => ?_)
            · have gh3_44 := (of_decide_eq_true h3_44)
              have hk : k < (c.pr m.Part ++ [(m.From, m.Index, m.Value)]).length := by omega
              refine WF.skip ?_
              refine thn_n ?_
              refine WF.seq ?_
              refine WF.block ?_
              refine WF.seq ?_
              refine WF.region ?_
              refine WL.va rfl rfl rfl (X.idx (oQ.rd) ((hAL0.eq 75).trans (congrFun hF43 75)) e77_L0 (by omega) Try.underlying91 Try.sizeOf94) ?_
              refine WL.va rfl rfl rfl (X.loadEl (oQ.rd) hwL0 rfl (by omega) (flat_el P3.c_len hk) Try.isAgg94 Try.sizeOf94) ?_
              refine WL.op rfl (OW.allocO (cs := [i64 0, i64 0, i64 0]) Try.zeroValue94 rfl ?_ (by decide))
              intro g9 w46 heg9 hlg9 hO9 hx48
              have := World.grownBy.size hx48
              refine WL.op rfl (OW.storeOA hO9 rfl rfl rfl (P3.c_one _) Try.sizeOf94 ?_)
              intro w50 hO9 hx52
              have := World.grownBy.size hx52
              replace hMr := (hMr.ext (Ext.trans hwL0 hx48)).keptO hx52 (by omega)
              replace hMo := (hMo.ext (Ext.trans hwL0 hx48)).keptO hx52 (by omega)
              replace hO := (hO.ext (Ext.trans hwL0 hx48)).keptO hx52 (by omega)
              replace hO3 := (hO3.ext (Ext.trans hwL0 hx48)).keptO hx52 (by omega)
              replace oQ := (oQ.ext (Ext.trans hwL0 hx48)).keptO hx52 (by omega)
              refine WL.nil ?_
              refine thn_n ?_
              refine WF.named (fun F54 hF55 => ?_)
              refine WF.cut (fun f' w' => f' 98 = .bool (decide ((((c.pr m.Part ++ [(m.From, m.Index, m.Value)])[k]).2.2 = 1 ∨ ((c.pr m.Part ++ [(m.From, m.Index, m.Value)])[k]).2.2 = 2) ∧ (s.1 = 0 ∨ s.2 < ((c.pr m.Part ++ [(m.From, m.Index, m.Value)])[k]).2.1))) ∧ Agree [0, 1, 3, 4, 5, 6, 7, 9, 33, 34, 35, 36, 37, 38, 39, 40, 41, 42, 43, 44, 45, 46, 47, 48, 49, 50, 51, 52, 53, 54, 55, 56, 57, 58, 59, 60, 61, 62, 63, 64, 65, 66, 67, 68, 69, 70, 71, 72, 73, 74, 75, 76, 77, 78, 79, 80] f' F54 ∧ w50 = w') ?_ ?_
              · refine WF.region ?_
                refine WL.va rfl rfl rfl (X.fieldAddrO (off := 2) (congrFun hF55 9) Try.underlying94 rfl rfl Try.sizeOf3) ?_
                refine WL.va rfl rfl rfl (X.loadO hO9 (Ext.refl _) rfl rfl Try.isAgg3) ?_
                refine WL.va rfl rfl rfl (X.eql rfl rfl) ?_
                refine WL.va rfl rfl rfl (X.moveB rfl) ?_
                refine WL.split (j := 3) rfl (fun h57 => ?_) (fun h57 => ?_)
                · have gh57 := (of_decide_eq_true h57)
                  have q1 : (((c.pr m.Part ++ [(m.From, m.Index, m.Value)])[k]).2.2 = 1 ∨ ((c.pr m.Part ++ [(m.From, m.Index, m.Value)])[k]).2.2 = 2) := .inl gh57
                  refine WL.p rfl rfl rfl (congrArg some h57) ?_
                  refine WL.p rfl rfl rfl (congrArg some h57) ?_
                  refine WL.p rfl rfl rfl (congrArg some h57) ?_
                  refine WL.va rfl rfl rfl (X.pickT rfl h57 rfl) ?_
                  refine WL.va rfl rfl rfl (X.moveB rfl) ?_
                  refine WL.vg rfl rfl rfl rfl (X.moveI ((congrFun hF55 6).trans e6_L0)) ?_
                  refine WL.vg rfl rfl rfl rfl (X.eql rfl rfl) ?_
                  refine WL.vg rfl rfl rfl rfl (X.moveB rfl) ?_
                  refine WL.split (j := 11) rfl (fun h60 => ?_) (fun h60 => ?_)
                  · have gh60 := (of_decide_eq_true h60)
                    have q2 : (s.1 = 0 ∨ s.2 < ((c.pr m.Part ++ [(m.From, m.Index, m.Value)])[k]).2.1) := .inl gh60
                    refine WL.p rfl rfl rfl (congrArg some h60) ?_
                    refine WL.p rfl rfl rfl (congrArg some h60) ?_
                    refine WL.p rfl rfl rfl (congrArg some h60) ?_
                    refine WL.p rfl rfl rfl (congrArg some h60) ?_
                    refine WL.vg rfl rfl rfl rfl (X.pickT rfl h60 rfl) ?_
                    refine WL.va rfl rfl rfl (X.pickT rfl rfl rfl) ?_
                    refine WL.nil ?_
                    refine thn_n ?_
                    exact ⟨(congrArg Value.bool (by first | exact (decide_eq_true ⟨q1, q2⟩).symm | exact (decide_eq_decide.2 ⟨fun e => ⟨q1, .inr e⟩, fun e => e.2.resolve_left q3⟩) | exact (decide_eq_false (fun e => qn e.1)).symm)), (by repeat (first | exact (Agree.refl _ F54) | refine Agree.put ?_ rfl | refine Agree.sub hAL0 rfl ?_ | refine Agree.sub hACr1 rfl ?_ | refine Agree.named hF55 ?_ | refine Agree.named hF43 ?_ | refine Agree.named hF6 ?_)), rfl⟩
                  · have gh60 := (of_decide_eq_false h60)
                    have q3 : ¬ s.1 = 0 := gh60
                    refine WL.vg rfl (congrArg some h60) rfl rfl (X.fieldAddrO (off := 1) (congrFun hF55 9) Try.underlying94 rfl rfl Try.sizeOf3) ?_
                    refine WL.vg rfl (congrArg some h60) rfl rfl (X.loadO hO9 (Ext.refl _) rfl rfl Try.isAgg3) ?_
                    refine WL.vg rfl (congrArg some h60) rfl rfl (X.moveI ((congrFun hF55 7).trans e7_L0)) ?_
                    refine WL.vg rfl (congrArg some h60) rfl rfl (X.gtr rfl rfl) ?_
                    refine WL.vg rfl rfl rfl rfl (X.pickF rfl h60 rfl) ?_
                    refine WL.va rfl rfl rfl (X.pickT rfl rfl rfl) ?_
                    refine WL.nil ?_
                    refine thn_n ?_
                    exact ⟨(congrArg Value.bool (by first | exact (decide_eq_true ⟨q1, q2⟩).symm | exact (decide_eq_decide.2 ⟨fun e => ⟨q1, .inr e⟩, fun e => e.2.resolve_left q3⟩) | exact (decide_eq_false (fun e => qn e.1)).symm)), (by repeat (first | exact (Agree.refl _ F54) | refine Agree.put ?_ rfl | refine Agree.sub hAL0 rfl ?_ | refine Agree.sub hACr1 rfl ?_ | refine Agree.named hF55 ?_ | refine Agree.named hF43 ?_ | refine Agree.named hF6 ?_)), rfl⟩
                · have gh57 := (of_decide_eq_false h57)
                  have q0 : ¬ ((c.pr m.Part ++ [(m.From, m.Index, m.Value)])[k]).2.2 = 1 := gh57
                  refine WL.vg rfl (congrArg some h57) rfl rfl (X.fieldAddrO (off := 2) (congrFun hF55 9) Try.underlying94 rfl rfl Try.sizeOf3) ?_
                  refine WL.vg rfl (congrArg some h57) rfl rfl (X.loadO hO9 (Ext.refl _) rfl rfl Try.isAgg3) ?_
                  refine WL.vg rfl (congrArg some h57) rfl rfl (X.eql rfl rfl) ?_
                  refine WL.va rfl rfl rfl (X.pickF rfl h57 rfl) ?_
                  refine WL.va rfl rfl rfl (X.moveB rfl) ?_
                  refine WL.split (j := 8) rfl (fun h65 => ?_) (fun h65 => ?_)
                  · have gh65 := (of_decide_eq_true h65)
                    have q1 : (((c.pr m.Part ++ [(m.From, m.Index, m.Value)])[k]).2.2 = 1 ∨ ((c.pr m.Part ++ [(m.From, m.Index, m.Value)])[k]).2.2 = 2) := .inr gh65
                    refine WL.vg rfl (congrArg some h65) rfl rfl (X.moveI ((congrFun hF55 6).trans e6_L0)) ?_
                    refine WL.vg rfl (congrArg some h65) rfl rfl (X.eql rfl rfl) ?_
                    refine WL.vg rfl (congrArg some h65) rfl rfl (X.moveB rfl) ?_
                    refine WL.split (j := 11) rfl (fun h67 => ?_) (fun h67 => ?_)
                    · have gh67 := (of_decide_eq_true h67)
                      have q2 : (s.1 = 0 ∨ s.2 < ((c.pr m.Part ++ [(m.From, m.Index, m.Value)])[k]).2.1) := .inl gh67
                      refine WL.p rfl rfl rfl (congrArg some h67) ?_
                      refine WL.p rfl rfl rfl (congrArg some h67) ?_
                      refine WL.p rfl rfl rfl (congrArg some h67) ?_
                      refine WL.p rfl rfl rfl (congrArg some h67) ?_
                      refine WL.vg rfl (congrArg some h65) rfl rfl (X.pickT rfl h67 rfl) ?_
                      refine WL.va rfl rfl rfl (X.pickT rfl h65 rfl) ?_
                      refine WL.nil ?_
                      refine thn_n ?_
                      exact ⟨(congrArg Value.bool (by first | exact (decide_eq_true ⟨q1, q2⟩).symm | exact (decide_eq_decide.2 ⟨fun e => ⟨q1, .inr e⟩, fun e => e.2.resolve_left q3⟩) | exact (decide_eq_false (fun e => qn e.1)).symm)), (by repeat (first | exact (Agree.refl _ F54) | refine Agree.put ?_ rfl | refine Agree.sub hAL0 rfl ?_ | refine Agree.sub hACr1 rfl ?_ | refine Agree.named hF55 ?_ | refine Agree.named hF43 ?_ | refine Agree.named hF6 ?_)), rfl⟩
                    · have gh67 := (of_decide_eq_false h67)
                      have q3 : ¬ s.1 = 0 := gh67
                      refine WL.vg rfl (congrArg some h67) rfl rfl (X.fieldAddrO (off := 1) (congrFun hF55 9) Try.underlying94 rfl rfl Try.sizeOf3) ?_
                      refine WL.vg rfl (congrArg some h67) rfl rfl (X.loadO hO9 (Ext.refl _) rfl rfl Try.isAgg3) ?_
                      refine WL.vg rfl (congrArg some h67) rfl rfl (X.moveI ((congrFun hF55 7).trans e7_L0)) ?_
                      refine WL.vg rfl (congrArg some h67) rfl rfl (X.gtr rfl rfl) ?_
                      refine WL.vg rfl (congrArg some h65) rfl rfl (X.pickF rfl h67 rfl) ?_
                      refine WL.va rfl rfl rfl (X.pickT rfl h65 rfl) ?_
                      refine WL.nil ?_
                      refine thn_n ?_
                      exact ⟨(congrArg Value.bool (by first | exact (decide_eq_true ⟨q1, q2⟩).symm | exact (decide_eq_decide.2 ⟨fun e => ⟨q1, .inr e⟩, fun e => e.2.resolve_left q3⟩) | exact (decide_eq_false (fun e => qn e.1)).symm)), (by repeat (first | exact (Agree.refl _ F54) | refine Agree.put ?_ rfl | refine Agree.sub hAL0 rfl ?_ | refine Agree.sub hACr1 rfl ?_ | refine Agree.named hF55 ?_ | refine Agree.named hF43 ?_ | refine Agree.named hF6 ?_)), rfl⟩
                  · have gh65 := (of_decide_eq_false h65)
                    have qn : ¬ (((c.pr m.Part ++ [(m.From, m.Index, m.Value)])[k]).2.2 = 1 ∨ ((c.pr m.Part ++ [(m.From, m.Index, m.Value)])[k]).2.2 = 2) := fun e => e.elim q0 gh65
                    refine WL.p rfl rfl rfl (congrArg some h65) ?_
                    refine WL.p rfl rfl rfl (congrArg some h65) ?_
                    refine WL.p rfl rfl rfl (congrArg some h65) ?_
                    refine WL.pn rfl rfl rfl rfl ?_
                    refine WL.pn rfl rfl rfl rfl ?_
                    refine WL.pn rfl rfl rfl rfl ?_
                    refine WL.pn rfl rfl rfl rfl ?_
                    refine WL.p rfl rfl rfl (congrArg some h65) ?_
                    refine WL.va rfl rfl rfl (X.pickF rfl h65 rfl) ?_
                    refine WL.nil ?_
                    refine thn_n ?_
                    exact ⟨(congrArg Value.bool (by first | exact (decide_eq_true ⟨q1, q2⟩).symm | exact (decide_eq_decide.2 ⟨fun e => ⟨q1, .inr e⟩, fun e => e.2.resolve_left q3⟩) | exact (decide_eq_false (fun e => qn e.1)).symm)), (by repeat (first | exact (Agree.refl _ F54) | refine Agree.put ?_ rfl | refine Agree.sub hAL0 rfl ?_ | refine Agree.sub hACr1 rfl ?_ | refine Agree.named hF55 ?_ | refine Agree.named hF43 ?_ | refine Agree.named hF6 ?_)), rfl⟩
              · rintro fCr15 wCr15 ⟨e98_Cr15, hACr15, rfl⟩
                refine WF.cond e98_Cr15 (fun h4_71 => ?_) (fun h4_71 => ?_)
                · have gh4_71 := (of_decide_eq_true h4_71)
                  have e6 : ((c.pr m.Part ++ [(m.From, m.Index, m.Value)])[k]).2.2 = (pick1 s ((c.pr m.Part ++ [(m.From, m.Index, m.Value)])[k])).1 := by rw [pick1, if_pos gh4_71]
                  have e7 : ((c.pr m.Part ++ [(m.From, m.Index, m.Value)])[k]).2.1 = (pick1 s ((c.pr m.Part ++ [(m.From, m.Index, m.Value)])[k])).2 := by rw [pick1, if_pos gh4_71]
                  refine WF.drawn (.q 0 (.q 1 (.q 2 (.q 3 (.q 4 (.q 5 .nil)))))) (fun w' => Ext w50 w') 6 (by kernel_rfl) (by kernel_rfl) (Ext.drew _) ?_
                  have := World.grownBy.size (Ext.drew w50)
                  refine WO.q rfl rfl rfl rfl (fun w' hE73 => (X.fieldAddrO (off := 2) ((hACr15.eq 9).trans (congrFun hF55 9)) Try.underlying94 rfl rfl Try.sizeOf3)) ?_
                  refine WO.q rfl rfl rfl rfl (fun w' hE73 => (X.loadO hO9 hE73 rfl rfl Try.isAgg3)) ?_
                  refine WO.q rfl rfl rfl rfl (fun w' hE73 => (X.fieldAddrO (off := 1) ((hACr15.eq 9).trans (congrFun hF55 9)) Try.underlying94 rfl rfl Try.sizeOf3)) ?_
                  refine WO.q rfl rfl rfl rfl (fun w' hE73 => (X.loadO hO9 hE73 rfl rfl Try.isAgg3)) ?_
                  refine WO.q rfl rfl rfl rfl (fun w' hE73 => (X.assignI rfl)) ?_
                  refine WO.q rfl rfl rfl rfl (fun w' hE73 => (X.assignI rfl)) ?_
                  refine WO.nil ?_
                  refine WL.nil ?_
                  refine blk_n ?_
                  refine thn_n ?_
                  refine WF.region ?_
                  refine WL.va rfl rfl rfl (X.add ((hACr15.eq 77).trans ((congrFun hF55 77).trans e77_L0)) rfl (w64 (by omega))) ?_
                  refine WL.va rfl rfl rfl (X.moveI rfl) ?_
                  refine WL.nil ?_
                  exact thn_n ⟨_, (by omega), k + 1, pick1 s ((c.pr m.Part ++ [(m.From, m.Index, m.Value)])[k]), rfl, rfl, (Eq.trans rfl (congrArg i64 e6)), (Eq.trans rfl (congrArg i64 e7)), (by repeat (first | exact hAL0 | refine Agree.put ?_ rfl | refine Agree.sub hACr15 rfl ?_ | refine Agree.sub hACr1 rfl ?_ | refine Agree.named hF55 ?_ | refine Agree.named hF43 ?_ | refine Agree.named hF6 ?_)), (Ext.trans (Ext.trans hwL0 (Ext.store hx48 hx52 (by omega))) (Ext.drew _)), ⟨by omega, by rw [List.take_succ_eq_append_getElem hk, List.foldl_append, ← hsk]; rfl⟩⟩
                · have gh4_71 := (of_decide_eq_false h4_71)
                  have e6 : s.1 = (pick1 s ((c.pr m.Part ++ [(m.From, m.Index, m.Value)])[k])).1 := by rw [pick1, if_neg gh4_71]
                  have e7 : s.2 = (pick1 s ((c.pr m.Part ++ [(m.From, m.Index, m.Value)])[k])).2 := by rw [pick1, if_neg gh4_71]
                  refine WF.skip ?_
                  refine blk_n ?_
                  refine thn_n ?_
                  refine WF.region ?_
                  refine WL.va rfl rfl rfl (X.add ((hACr15.eq 77).trans ((congrFun hF55 77).trans e77_L0)) rfl (w64 (by omega))) ?_
                  refine WL.va rfl rfl rfl (X.moveI rfl) ?_
                  refine WL.nil ?_
                  exact thn_n ⟨_, (by omega), k + 1, pick1 s ((c.pr m.Part ++ [(m.From, m.Index, m.Value)])[k]), rfl, rfl, (Eq.trans ((hACr15.eq 6).trans ((congrFun hF55 6).trans e6_L0)) (congrArg i64 e6)), (Eq.trans ((hACr15.eq 7).trans ((congrFun hF55 7).trans e7_L0)) (congrArg i64 e7)), (by repeat (first | exact hAL0 | refine Agree.put ?_ rfl | refine Agree.sub hACr15 rfl ?_ | refine Agree.sub hACr1 rfl ?_ | refine Agree.named hF55 ?_ | refine Agree.named hF43 ?_ | refine Agree.named hF6 ?_)), (Ext.trans hwL0 (Ext.store hx48 hx52 (by omega))), ⟨by omega, by rw [List.take_succ_eq_append_getElem hk, List.foldl_append, ← hsk]; rfl⟩⟩
            · have gh3_44 := (of_decide_eq_false h3_44)
              have hsE : (c.pr m.Part ++ [(m.From, m.Index, m.Value)]).foldl pick1 (0, 0) = s := by rw [hsk, List.take_of_length_le (by omega)]
              refine WF.exit ?_
              refine thn_x ?_
              refine thn_x ?_
              refine blk_eq ?_
              refine thn_n ?_
              refine WF.named (fun F74 hF75 => ?_)
              refine WF.cut (fun f' w' => f' 6 = i64 (pickV (c.pr m.Part ++ [(m.From, m.Index, m.Value)])) ∧ Agree [0, 1, 3, 4, 5, 7, 33, 34, 35, 36, 37, 38, 39, 40, 41, 42, 43, 44, 45, 46, 47, 48, 49, 50, 51, 52, 53, 54, 55, 56, 57, 58, 59, 60, 61, 62, 63, 64, 65, 66, 67, 68, 69, 70, 71, 72, 73, 74, 75, 76, 77, 78] f' F74 ∧ wL0 = w') ?_ ?_
              · refine WF.seq ?_
                refine WF.region ?_
                refine WL.va rfl rfl rfl (X.moveI ((congrFun hF75 6).trans e6_L0)) ?_
                refine WL.va rfl rfl rfl (X.eql rfl rfl) ?_
                refine WL.nil ?_
                refine thn_n ?_
                refine WF.cond rfl (fun h5_76 => ?_) (fun h5_76 => ?_)
                · have gh5_76 := (of_decide_eq_true h5_76)
                  have e8 : (2 : Int) = pickV (c.pr m.Part ++ [(m.From, m.Index, m.Value)]) := by unfold pickV; rw [hsE]; simp only []; rw [if_pos gh5_76]
                  refine WF.region ?_
                  refine WL.va rfl rfl rfl (X.assignI rfl) ?_
                  refine WL.nil ?_
                  refine thn_n ?_
                  exact ⟨(Eq.trans rfl (congrArg i64 e8)), (by repeat (first | exact (Agree.refl _ F74) | refine Agree.put ?_ rfl | refine Agree.sub hAL0 rfl ?_ | refine Agree.sub hACr1 rfl ?_ | refine Agree.named hF75 ?_ | refine Agree.named hF43 ?_ | refine Agree.named hF6 ?_)), rfl⟩
                · have gh5_76 := (of_decide_eq_false h5_76)
                  have e8 : s.1 = pickV (c.pr m.Part ++ [(m.From, m.Index, m.Value)]) := by unfold pickV; rw [hsE]; simp only []; rw [if_neg gh5_76]
                  refine WF.skip ?_
                  refine thn_n ?_
                  exact ⟨(Eq.trans ((congrFun hF75 6).trans e6_L0) (congrArg i64 e8)), (by repeat (first | exact (Agree.refl _ F74) | refine Agree.put ?_ rfl | refine Agree.sub hAL0 rfl ?_ | refine Agree.sub hACr1 rfl ?_ | refine Agree.named hF75 ?_ | refine Agree.named hF43 ?_ | refine Agree.named hF6 ?_)), rfl⟩
              · rintro fCs18 wCs18 ⟨e6_Cs18, hACs18, rfl⟩
                refine WF.seq ?_
                refine WF.region ?_
                refine WL.va rfl rfl rfl (X.move ((hACs18.eq 0).trans ((congrFun hF75 0).trans ((hAL0.eq 0).trans ((congrFun hF43 0).trans ((hACr1.eq 0).trans (congrFun hF6 0))))))) ?_
                refine WL.va rfl rfl rfl (X.fieldAddrO (off := 10) ((hACs18.eq 3).trans ((congrFun hF75 3).trans ((hAL0.eq 3).trans ((congrFun hF43 3).trans ((hACr1.eq 3).trans (congrFun hF6 3)))))) Try.underlying40 rfl rfl Try.sizeOf3) ?_
                refine WL.va rfl rfl rfl (X.loadO hO3 hwL0 rfl rfl Try.isAgg3) ?_
                refine WL.va rfl rfl rfl (X.moveI e6_Cs18) ?_
                refine WL.va rfl rfl rfl (X.buildT (P := Try.prog) (t := 40) (cs := (Msg.bare (says m.Part (pickV (c.pr m.Part ++ [(m.From, m.Index, m.Value)]))))) (zs := [i64 0, i64 0, i64 0, i64 0, i64 0, i64 0, i64 0, i64 0, i64 0, i64 0, i64 0, i64 0, i64 0, i64 0, .bool false, .slice none 0 0, .slice none 0 0]) (places := [(0, 1), (1, 1), (2, 1), (3, 1), (4, 1), (5, 1), (6, 1), (7, 1), (8, 1), (9, 1), (10, 1), (11, 1), (12, 1), (13, 1), (14, 1), (15, 1), (16, 1)]) (n := 17) (evp_cons rfl (evp_cons rfl (evp_cons rfl evp_nil))) Try.type40 Try.underlying40 rfl rfl ⟨rfl, rfl, rfl, trivial⟩ rfl rfl rfl) ?_
                have hzz := ((show Ext wP wL0 from hwL0)).size
                refine WL.c rfl rfl rfl (X.call Try.call30 (evl_cons rfl (evl_cons rfl evl_nil))) (all_ok _ _ _ c _ _ _ (says m.Part (pickV (c.pr m.Part ++ [(m.From, m.Index, m.Value)]))) _ (hO.ext hwL0) hok.nac.2) ?_
                rintro v79 w78 ⟨hout, hx80⟩
                have := World.grownBy.size hx80
                refine WL.va rfl rfl rfl (X.assign rfl) ?_
                refine WL.nil ?_
                refine thn_n ?_
                refine WF.ret ?_
                refine fin_r ?_
                rw [CC.promise_d hp1 hp2 hp3]
                refine ⟨own_mono hout (by omega), ?_⟩
                exact prom_fin (p := m.Part) (l := (c.pr m.Part ++ [(m.From, m.Index, m.Value)])) hI fr fo hLr hV (hMr.ext (Ext.trans hwL0 hx80)) (own_mono (show World.ownsRow _ B2 94 3 _ _ _ from (oQ.ext (Ext.trans hwL0 hx80)).own) (Nat.zero_le _)) (fun b e => (hvq b e).imp id And.right) (IntB.put (x := 1) (hMo.ext (Ext.trans hwL0 hx80)) hLo) (((((((((((((ChgS.refl (fun b => b = gr ∨ b = go ∨ F b = some (Rl.prow m.Part)) w).ext hx3).ext hwCr1).ext (Ext.drew _)).ext hx20).ext hx25).row hx29 (fun b e => .inl (.inr (.inr ((hV m.Part).fp b e))))).ext (Ext.drew _)).row1 hx34 (.inl (.inl rfl))).ext (Ext.drew _)).row1 hx40 (.inl (.inr (.inl rfl)))).ext hwL0).ext hx80) (fun b e => ⟨by have := (hout.lt b e).1; omega, fun e2 => by have := (hout.lt b e).1; have := bQ b e2; omega⟩)

end Go.Proofs.Ytjmddkaokmdkbaa
