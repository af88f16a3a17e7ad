/- The walks of the acceptor's functions. -/
import Derived.Test.YtjmddkaokmdkbaaAccS
namespace Go.Proofs.Ytjmddkaokmdkbaa
open Go Go.RowKit Kf
set_option maxRecDepth 20000

theorem flatV : flatB Try.prog 102 5 = true := by kernel_rfl
theorem fieldsV : Try.prog.underlying 102 = some (.struct (Try.prog.fieldsOf 102)) := by rw [Try.underlying102]; unfold Program.fieldsOf; rw [Try.underlying102]
theorem offsV : offs Try.prog 102 = [0, 1, 2, 3, 4] := by kernel_rfl
theorem findLit_ok (a : Acc) (g1 g2 : Nat) (t p : Int) (w : World) (h1 : Blk w g1 3 [i64 t]) (h2 : Blk w g2 3 [i64 p]) : FnOk Try.prog 63 [agg a.c, at_ g1, at_ g2] w (fun r w' => r = .bool (mine t p a) ∧ Ext w w') := by
  refine FnOk.enter (rs := [4]) Try.func63 rfl Try.ntmps63 Try.results63 rfl rfl ?_
  refine WF.seq ?_
  refine WF.region ?_
  refine WL.op rfl (OW.boxA (cs := _) rfl ?_ (by decide))
  intro g3 w1 heg3 hlg3 hO3 hx3
  have := World.grownBy.size hx3
  refine WL.va rfl rfl rfl (X.assignB rfl) ?_
  refine WL.nil ?_
  refine thn_n ?_
  refine WF.seq ?_
  refine WF.region ?_
  refine WL.va rfl rfl rfl (X.fieldAddrO (off := 0) rfl Try.underlying102 rfl rfl Try.sizeOf3) ?_
  refine WL.va rfl rfl rfl (X.loadO hO3 (Ext.refl _) rfl rfl Try.isAgg3) ?_
  refine WL.va rfl rfl rfl (X.loadO h1 hx3 rfl rfl Try.isAgg3) ?_
  refine WL.va rfl rfl rfl (X.eql rfl rfl) ?_
  refine WL.va rfl rfl rfl (X.moveB rfl) ?_
  refine WL.split (j := 4) rfl (fun h7 => ?_) (fun h7 => ?_)
  · have gh7 := (of_decide_eq_true h7)
    have hm : mine t p a = decide (a.Part = p) := by unfold mine; rw [decide_eq_true gh7]; rfl
    refine WL.vg rfl (congrArg some h7) rfl rfl (X.fieldAddrO (off := 1) rfl Try.underlying102 rfl rfl Try.sizeOf3) ?_
    refine WL.vg rfl (congrArg some h7) rfl rfl (X.loadO hO3 (Ext.refl _) rfl rfl Try.isAgg3) ?_
    refine WL.vg rfl (congrArg some h7) rfl rfl (X.loadO h2 hx3 rfl rfl Try.isAgg3) ?_
    refine WL.vg rfl (congrArg some h7) rfl rfl (X.eql rfl rfl) ?_
    refine WL.va rfl rfl rfl (X.pickT rfl h7 rfl) ?_
    refine WL.va rfl rfl rfl (X.assignB rfl) ?_
    refine WL.nil ?_
    refine thn_n ?_
    refine WF.ret ?_
    refine fin_r ?_
    exact ⟨by rw [hm]; rfl, hx3⟩
  · have gh7 := (of_decide_eq_false h7)
    have hm : mine t p a = false := by unfold mine; rw [decide_eq_false gh7]; rfl
    refine WL.p rfl rfl rfl (congrArg some h7) ?_
    refine WL.p rfl rfl rfl (congrArg some h7) ?_
    refine WL.p rfl rfl rfl (congrArg some h7) ?_
    refine WL.p rfl rfl rfl (congrArg some h7) ?_
    refine WL.va rfl rfl rfl (X.pickF rfl h7 rfl) ?_
    refine WL.va rfl rfl rfl (X.assignB rfl) ?_
    refine WL.nil ?_
    refine thn_n ?_
    refine WF.ret ?_
    refine fin_r ?_
    exact ⟨by rw [hm]; rfl, hx3⟩

theorem findI_ok (v : Value) (l : List Acc) (t p : Int) (w : World) (hv : Votes w v l) : FnOk Try.prog 54 [v, i64 t, i64 p] w (fun r w' => Idx (fun k => mine t p (l.getD k default)) l.length r ∧ Ext w w') := by
  refine FnOk.enter (rs := [6]) Try.func54 rfl Try.ntmps54 Try.results54 rfl rfl ?_
  refine WF.seq ?_
  refine WF.region ?_
  refine WL.op rfl (OW.box1 rfl rfl ?_ (by decide))
  intro g4 w1 heg4 hlg4 hO4 hx3
  have := World.grownBy.size hx3
  refine WL.op rfl (OW.box1 rfl rfl ?_ (by decide))
  intro g5 w5 heg5 hlg5 hO5 hx7
  have := World.grownBy.size hx7
  refine WL.va rfl rfl rfl (X.assignI rfl) ?_
  refine WL.nil ?_
  refine thn_n ?_
  refine WF.seq ?_
  refine WF.region ?_
  refine WL.va rfl rfl rfl (X.move rfl) ?_
  refine WL.va rfl rfl rfl (X.makeFunc (evl_cons rfl (evl_cons rfl evl_nil))) ?_
  have hclo : ∀ k w1, k < l.length → Ext w5 w1 → CloOk Try.prog (.func (.func 63) #[] [at_ g4, at_ g5].toArray) [agg (el (l.flatMap Acc.c) 5 k)] w1 (fun r w2 => r = .bool (mine t p (l.getD k default)) ∧ Ext w1 w2) := fun k w1 hk hx => ⟨_, _, rfl, Try.call63, (by rw [show el (l.flatMap Acc.c) 5 k = (l[k]'hk).c from Votes.el hk, show l.getD k default = l[k]'hk from by simp [hk]]; exact findLit_ok _ _ _ _ _ _ ((hO4.ext hx7).ext hx) (hO5.ext hx))⟩
  refine WL.c rfl rfl rfl (X.call Try.call58 (evl_cons rfl (evl_cons rfl evl_nil))) (indexV_ok _ _ _ _ (fun k => mine t p (l.getD k default)) _ (Row.ext hv (Ext.trans hx3 hx7)) hclo) ?_
  rintro v10 w9 ⟨⟨z, rfl, hz⟩, hx11⟩
  have := World.grownBy.size hx11
  refine WL.va rfl rfl rfl (X.assignI rfl) ?_
  refine WL.nil ?_
  refine thn_n ?_
  refine WF.ret ?_
  refine fin_r ?_
  exact ⟨⟨z, rfl, hz⟩, (Ext.trans (Ext.trans hx3 hx7) hx11)⟩

theorem findA_ok (v : Value) (l : List Acc) (t p : Int) (w : World) (hv : Votes w v l) : FnOk Try.prog 51 [v, i64 t, i64 p] w (fun r w' => r = .tuple #[agg (findA l t p).1.c, .bool (findA l t p).2] ∧ Ext w w') := by
  refine FnOk.enterC (rs := [.cell 6 102, .tmp 7]) Try.func51 rfl Try.ntmps51 Try.results51 rfl rfl ?_
  refine WF.seq ?_
  refine WF.region ?_
  refine WL.op rfl (OW.allocO (cs := [i64 0, i64 0, i64 0, i64 0, i64 0]) Try.zeroValue102 rfl ?_ (by decide))
  intro g6 w1 heg6 hlg6 hO6 hx3
  have := World.grownBy.size hx3
  refine WL.va rfl rfl rfl (X.assignB rfl) ?_
  refine WL.nil ?_
  refine thn_n ?_
  refine WF.seq ?_
  refine WF.seq ?_
  refine WF.region ?_
  refine WL.va rfl rfl rfl (X.move rfl) ?_
  refine WL.va rfl rfl rfl (X.moveI rfl) ?_
  refine WL.va rfl rfl rfl (X.moveI rfl) ?_
  refine WL.c rfl rfl rfl (X.call Try.call54 (evl_cons rfl (evl_cons rfl (evl_cons rfl evl_nil)))) (findI_ok _ _ _ _ _ (Row.ext hv hx3)) ?_
  rintro v7 w6 ⟨⟨z, rfl, hz⟩, hx8⟩
  have := World.grownBy.size hx8
  refine WL.va rfl rfl rfl (X.assignI rfl) ?_
  refine WL.nil ?_
  refine thn_n ?_
  refine WF.seq ?_
  refine WF.region ?_
  refine WL.va rfl rfl rfl (X.moveI rfl) ?_
  refine WL.va rfl rfl rfl (X.geq rfl rfl) ?_
  refine WL.nil ?_
  refine thn_n ?_
  refine WF.cond rfl (fun h0_9 => ?_) (fun h0_9 => ?_)
  · have gh0_9 := (of_decide_eq_true h0_9)
    obtain ⟨k, rfl, hk, hp, hno⟩ := hz.pos gh0_9
    have hfa : findA l t p = (l[k], true) := findA_at hk (by simpa [hk] using hp) (fun j hj hjk => by have := hno j hjk; simpa [hj] using this)
    refine WF.seq ?_
    refine WF.region ?_
    refine WL.va rfl rfl rfl (X.move rfl) ?_
    refine WL.va rfl rfl rfl (X.moveI rfl) ?_
    refine WL.va rfl rfl rfl (X.idx hv rfl rfl (by omega) Try.underlying59 Try.sizeOf102) ?_
    refine WL.va rfl rfl rfl (X.loadEl hv (Ext.trans hx3 hx8) rfl (by omega) (Votes.el (l := l) (k := k) hk) Try.isAgg102 Try.sizeOf102) ?_
    refine WL.op rfl (OW.storeOA (hO6.ext hx8) rfl rfl rfl (Acc.c_one _) Try.sizeOf102 ?_)
    intro w11 hO6 hx13
    have := World.grownBy.size hx13
    refine WL.va rfl rfl rfl (X.assignB rfl) ?_
    refine WL.nil ?_
    refine thn_n ?_
    refine WF.ret ?_
    refine thn_r ?_
    refine finC_r (vs := [_, _]) ⟨⟨_, rfl, readO hO6 Try.isAgg102 Try.sizeOf102⟩, rfl, trivial⟩ ?_
    rw [hfa]; exact ⟨rfl, (Ext.store (Ext.trans hx3 hx8) hx13 (by omega))⟩
  · have gh0_9 := (of_decide_eq_false h0_9)
    have hfa : findA l t p = (⟨t, p, 0, 0, 0⟩, false) := findA_none fun j hj => by have := (hz.neg gh0_9).2 j hj; simpa [hj] using this
    refine WF.skip ?_
    refine thn_n ?_
    refine WF.seq ?_
    refine WF.region ?_
    refine WL.va rfl rfl rfl (X.moveI rfl) ?_
    refine WL.va rfl rfl rfl (X.moveI rfl) ?_
    refine WL.va rfl rfl rfl (X.buildL (P := Try.prog) (t := 102) (cs := (Acc.c ⟨t, p, 0, 0, 0⟩)) (evp_cons rfl (evp_cons rfl evp_nil)) Try.type102 Try.underlying102 rfl rfl ⟨rfl, rfl, trivial⟩ rfl) ?_
    refine WL.op rfl (OW.storeOA (hO6.ext hx8) rfl rfl rfl (Acc.c_one _) Try.sizeOf102 ?_)
    intro w16 hO6 hx18
    have := World.grownBy.size hx18
    refine WL.va rfl rfl rfl (X.assignB rfl) ?_
    refine WL.nil ?_
    refine thn_n ?_
    refine WF.ret ?_
    refine finC_r (vs := [_, _]) ⟨⟨_, rfl, readO hO6 Try.isAgg102 Try.sizeOf102⟩, rfl, trivial⟩ ?_
    rw [hfa]; exact ⟨rfl, (Ext.store (Ext.trans hx3 hx8) hx18 (by omega))⟩

theorem clientOf_ok (t : Int) (w : World) (ht : -9223372036854775808 ≤ t ∧ t ≤ 9223372036854775807) : FnOk Try.prog 62 [i64 t] w (fun r w' => r = i64 (client t) ∧ w = w') := by
  have h1 : t.fdiv 1048576 ≤ 9223372036854775807 - 100 ∧ -9223372036854775808 ≤ t.fdiv 1048576 := by rw [Int.fdiv_eq_ediv_of_nonneg _ (by decide)]; omega
  refine FnOk.enter (rs := [2]) Try.func62 rfl Try.ntmps62 Try.results62 rfl rfl ?_
  refine WF.seq ?_
  refine WF.region ?_
  refine WL.va rfl rfl rfl (X.assignI rfl) ?_
  refine WL.nil ?_
  refine thn_n ?_
  refine WF.seq ?_
  refine WF.region ?_
  refine WL.va rfl rfl rfl (X.moveI rfl) ?_
  refine WL.va rfl rfl rfl (X.shr rfl rfl (by omega) (show _ = t.fdiv 1048576 from rfl)) ?_
  refine WL.va rfl rfl rfl (X.add rfl rfl (w64 (by omega))) ?_
  refine WL.va rfl rfl rfl (X.assignI rfl) ?_
  refine WL.nil ?_
  refine thn_n ?_
  refine WF.ret ?_
  refine fin_r ?_
  exact ⟨rfl, rfl⟩

set_option maxHeartbeats 1000000 in
theorem prepared_ok (a : Acc) (m o : Msg) (em dm : Value) (w : World) : FnOk Try.prog 52 [agg a.c, agg (m.c em dm), agg o.bare] w (fun r w' => r = .tuple #[agg (stepP a m o).1.c, agg (stepP a m o).2.bare] ∧ Ext w w') := by
  refine FnOk.enterC (rs := [.cell 6 102, .cell 7 40]) Try.func52 rfl Try.ntmps52 Try.results52 rfl rfl ?_
  refine WF.seq ?_
  refine WF.region ?_
  refine WL.op rfl (OW.boxA (cs := _) rfl ?_ (by decide))
  intro g3 w1 heg3 hlg3 hO3 hx3
  have := World.grownBy.size hx3
  refine WL.op rfl (OW.boxA (cs := _) rfl ?_ (by decide))
  intro g4 w5 heg4 hlg4 hO4 hx7
  have := World.grownBy.size hx7
  refine WL.op rfl (OW.boxA (cs := _) rfl ?_ (by decide))
  intro g5 w9 heg5 hlg5 hO5 hx11
  have := World.grownBy.size hx11
  refine WL.op rfl (OW.allocO (cs := [i64 0, i64 0, i64 0, i64 0, i64 0]) Try.zeroValue102 rfl ?_ (by decide))
  intro g6 w13 heg6 hlg6 hO6 hx15
  have := World.grownBy.size hx15
  refine WL.op rfl (OW.allocO (cs := [i64 0, i64 0, i64 0, i64 0, i64 0, i64 0, i64 0, i64 0, i64 0, i64 0, i64 0, i64 0, i64 0, i64 0, .bool false, .slice none 0 0, .slice none 0 0]) Try.zeroValue40 rfl ?_ (by decide))
  intro g7 w17 heg7 hlg7 hO7 hx19
  have := World.grownBy.size hx19
  refine WL.nil ?_
  refine thn_n ?_
  refine WF.seq ?_
  refine WF.drawn (.q 0 (.q 1 (.q 2 (.q 3 (.q 4 (.q 5 (.l 6 (.q 7 .nil)))))))) (fun w' => World.grownBy w17 w' (some g5)) 8 (by kernel_rfl) (by kernel_rfl) (grown_of_ext (Ext.drew _)) ?_
  have := World.grownBy.size (Ext.drew w17)
  refine WO.q rfl rfl rfl rfl (fun w' hE21 => (X.fieldAddrO (off := 11) rfl Try.underlying40 rfl rfl Try.sizeOf3)) ?_
  refine WO.q rfl rfl rfl rfl (fun w' hE21 => (X.loadO ((hO4.ext (Ext.trans (Ext.trans hx11 hx15) hx19)).keptO hE21 (by omega)) (Ext.refl _) rfl rfl Try.isAgg3)) ?_
  refine WO.q rfl rfl rfl rfl (fun w' hE21 => (X.fieldAddrO (off := 2) rfl Try.underlying102 rfl rfl Try.sizeOf3)) ?_
  refine WO.q rfl rfl rfl rfl (fun w' hE21 => (X.loadO ((hO3.ext (Ext.trans (Ext.trans (Ext.trans hx7 hx11) hx15) hx19)).keptO hE21 (by omega)) (Ext.refl _) rfl rfl Try.isAgg3)) ?_
  refine WO.q rfl rfl rfl rfl (fun w' hE21 => (X.gtr rfl rfl)) ?_
  refine WO.q rfl rfl rfl rfl (fun w' hE21 => (X.fieldAddrO (off := 0) rfl Try.underlying40 rfl rfl Try.sizeOf3)) ?_
  refine WO.l ?_
  refine LO.go rfl rfl (OW.storeO (hO5.ext (Ext.trans (Ext.trans hx15 hx19) (Ext.drew _))) (Nat.le_of_ble_eq_true rfl) rfl rfl rfl Try.sizeOf3 ?_)
  intro w23 hO5 hx25
  have := World.grownBy.size hx25
  replace hO3 := (hO3.ext (Ext.trans (Ext.trans (Ext.trans (Ext.trans hx7 hx11) hx15) hx19) (Ext.drew _))).keptO hx25 (by omega)
  replace hO4 := (hO4.ext (Ext.trans (Ext.trans (Ext.trans hx11 hx15) hx19) (Ext.drew _))).keptO hx25 (by omega)
  replace hO6 := (hO6.ext (Ext.trans hx19 (Ext.drew _))).keptO hx25 (by omega)
  replace hO7 := (hO7.ext (Ext.drew _)).keptO hx25 (by omega)
  replace hO5 : Blk _ _ _ (Msg.bare { o with Kind := 9 }) := hO5
  refine ⟨(grown2 (grown_of_ext (Ext.drew _)) hx25), ?_⟩
  refine WO.q rfl rfl rfl rfl (fun w' hE21 => (X.fieldAddrO (off := 14) rfl Try.underlying40 rfl rfl Try.sizeOf4)) ?_
  refine WO.nil ?_
  refine WL.op rfl (OW.storeO hO5 (Nat.le_of_ble_eq_true rfl) rfl rfl rfl Try.sizeOf4 ?_)
  intro w27 hO5 hx29
  have := World.grownBy.size hx29
  replace hO3 := hO3.keptO hx29 (by omega)
  replace hO4 := hO4.keptO hx29 (by omega)
  replace hO6 := hO6.keptO hx29 (by omega)
  replace hO7 := hO7.keptO hx29 (by omega)
  replace hO5 : Blk _ _ _ (Msg.bare { o with Kind := 9, Ok := decide (a.Promised < m.Ballot) }) := hO5
  refine WL.nil ?_
  refine thn_n ?_
  refine WF.seq ?_
  refine WF.seq ?_
  refine WF.region ?_
  refine WL.va rfl rfl rfl (X.fieldAddrO (off := 14) rfl Try.underlying40 rfl rfl Try.sizeOf4) ?_
  refine WL.va rfl rfl rfl (X.loadO hO5 (Ext.refl _) rfl rfl Try.isAgg4) ?_
  refine WL.va rfl rfl rfl (X.not rfl) ?_
  refine WL.nil ?_
  refine thn_n ?_
  refine WF.cond rfl (fun h0_32 => ?_) (fun h0_32 => ?_)
  · have gh0_32 := (nt h0_32)
    have h9 : decide (a.Promised < m.Ballot) = false := gh0_32
    have hst : stepP a m o = (a, { o with Kind := 9, Ok := false, Index := a.Promised }) := if_neg (of_decide_eq_false h9)
    rw [h9] at hO5
    refine WF.seq ?_
    refine WF.region ?_
    refine WL.va rfl rfl rfl (X.fieldAddrO (off := 2) rfl Try.underlying102 rfl rfl Try.sizeOf3) ?_
    refine WL.va rfl rfl rfl (X.loadO hO3 (Ext.refl _) rfl rfl Try.isAgg3) ?_
    refine WL.va rfl rfl rfl (X.fieldAddrO (off := 5) rfl Try.underlying40 rfl rfl Try.sizeOf3) ?_
    refine WL.op rfl (OW.storeO hO5 (Nat.le_of_ble_eq_true rfl) rfl rfl rfl Try.sizeOf3 ?_)
    intro w34 hO5 hx36
    have := World.grownBy.size hx36
    replace hO3 := hO3.keptO hx36 (by omega)
    replace hO4 := hO4.keptO hx36 (by omega)
    replace hO6 := hO6.keptO hx36 (by omega)
    replace hO7 := hO7.keptO hx36 (by omega)
    replace hO5 : Blk _ _ _ (Msg.bare { o with Kind := 9, Ok := false, Index := a.Promised }) := hO5
    refine WL.nil ?_
    refine thn_n ?_
    refine WF.seq ?_
    refine WF.drawn (.q 0 (.q 1 (.l 2 .nil))) (fun w' => World.grownBy w34 w' (some g6)) 3 (by kernel_rfl) (by kernel_rfl) (grown_of_ext (Ext.drew _)) ?_
    have := World.grownBy.size (Ext.drew w34)
    refine WO.q rfl rfl rfl rfl (fun w' hE38 => (X.loadOA (hO3.keptO hE38 (by omega)) (Ext.refl _) rfl rfl Try.isAgg102 Try.sizeOf102)) ?_
    refine WO.q rfl rfl rfl rfl (fun w' hE38 => (X.loadOA (hO5.keptO hE38 (by omega)) (Ext.refl _) rfl rfl Try.isAgg40 Try.sizeOf40)) ?_
    refine WO.l ?_
    refine LO.go rfl rfl (OW.storeOA (hO6.ext (Ext.drew _)) rfl rfl rfl (Acc.c_one _) Try.sizeOf102 ?_)
    intro w39 hO6 hx41
    have := World.grownBy.size hx41
    replace hO3 := (hO3.ext (Ext.drew _)).keptO hx41 (by omega)
    replace hO4 := (hO4.ext (Ext.drew _)).keptO hx41 (by omega)
    replace hO5 := (hO5.ext (Ext.drew _)).keptO hx41 (by omega)
    replace hO7 := (hO7.ext (Ext.drew _)).keptO hx41 (by omega)
    refine ⟨(grown2 (grown_of_ext (Ext.drew _)) hx41), ?_⟩
    refine WO.nil ?_
    refine WL.op rfl (OW.storeOA hO7 rfl rfl rfl (Msg.bare_one _) Try.sizeOf40 ?_)
    intro w43 hO7 hx45
    have := World.grownBy.size hx45
    replace hO3 := hO3.keptO hx45 (by omega)
    replace hO4 := hO4.keptO hx45 (by omega)
    replace hO5 := hO5.keptO hx45 (by omega)
    replace hO6 := hO6.keptO hx45 (by omega)
    refine WL.nil ?_
    refine thn_n ?_
    refine WF.ret ?_
    refine thn_r ?_
    refine finC_r (vs := [_, _]) ⟨⟨_, rfl, readO hO6 Try.isAgg102 Try.sizeOf102⟩, ⟨_, rfl, readO hO7 Try.isAgg40 Try.sizeOf40⟩, trivial⟩ ?_
    rw [hst]; exact ⟨rfl, (Ext.trans (Ext.trans hx3 hx7) (Ext.store (Ext.store (Ext.trans (Ext.store (Ext.store (Ext.store (Ext.trans (Ext.trans (Ext.trans hx11 hx15) hx19) (Ext.drew _)) hx25 (by omega)) hx29 (by omega)) hx36 (by omega)) (Ext.drew _)) hx41 (by omega)) hx45 (by omega)))⟩
  · have gh0_32 := (nf h0_32)
    have h9 : decide (a.Promised < m.Ballot) = true := gh0_32
    have hst : stepP a m o = ({ a with Promised := m.Ballot }, { o with Kind := 9, Ok := true, Index := a.Ballot, Value := a.Value }) := if_pos (of_decide_eq_true h9)
    rw [h9] at hO5
    refine WF.skip ?_
    refine thn_n ?_
    refine WF.seq ?_
    refine WF.drawn (.q 0 (.q 1 (.q 2 (.q 3 (.q 4 (.l 5 (.q 6 .nil))))))) (fun w' => World.grownBy w27 w' (some g5)) 7 (by kernel_rfl) (by kernel_rfl) (grown_of_ext (Ext.drew _)) ?_
    have := World.grownBy.size (Ext.drew w27)
    refine WO.q rfl rfl rfl rfl (fun w' hE47 => (X.fieldAddrO (off := 3) rfl Try.underlying102 rfl rfl Try.sizeOf3)) ?_
    refine WO.q rfl rfl rfl rfl (fun w' hE47 => (X.loadO (hO3.keptO hE47 (by omega)) (Ext.refl _) rfl rfl Try.isAgg3)) ?_
    refine WO.q rfl rfl rfl rfl (fun w' hE47 => (X.fieldAddrO (off := 4) rfl Try.underlying102 rfl rfl Try.sizeOf3)) ?_
    refine WO.q rfl rfl rfl rfl (fun w' hE47 => (X.loadO (hO3.keptO hE47 (by omega)) (Ext.refl _) rfl rfl Try.isAgg3)) ?_
    refine WO.q rfl rfl rfl rfl (fun w' hE47 => (X.fieldAddrO (off := 5) rfl Try.underlying40 rfl rfl Try.sizeOf3)) ?_
    refine WO.l ?_
    refine LO.go rfl rfl (OW.storeO (hO5.ext (Ext.drew _)) (Nat.le_of_ble_eq_true rfl) rfl rfl rfl Try.sizeOf3 ?_)
    intro w48 hO5 hx50
    have := World.grownBy.size hx50
    replace hO3 := (hO3.ext (Ext.drew _)).keptO hx50 (by omega)
    replace hO4 := (hO4.ext (Ext.drew _)).keptO hx50 (by omega)
    replace hO6 := (hO6.ext (Ext.drew _)).keptO hx50 (by omega)
    replace hO7 := (hO7.ext (Ext.drew _)).keptO hx50 (by omega)
    replace hO5 : Blk _ _ _ (Msg.bare { o with Kind := 9, Ok := true, Index := a.Ballot }) := hO5
    refine ⟨(grown2 (grown_of_ext (Ext.drew _)) hx50), ?_⟩
    refine WO.q rfl rfl rfl rfl (fun w' hE47 => (X.fieldAddrO (off := 12) rfl Try.underlying40 rfl rfl Try.sizeOf3)) ?_
    refine WO.nil ?_
    refine WL.op rfl (OW.storeO hO5 (Nat.le_of_ble_eq_true rfl) rfl rfl rfl Try.sizeOf3 ?_)
    intro w52 hO5 hx54
    have := World.grownBy.size hx54
    replace hO3 := hO3.keptO hx54 (by omega)
    replace hO4 := hO4.keptO hx54 (by omega)
    replace hO6 := hO6.keptO hx54 (by omega)
    replace hO7 := hO7.keptO hx54 (by omega)
    replace hO5 : Blk _ _ _ (Msg.bare { o with Kind := 9, Ok := true, Index := a.Ballot, Value := a.Value }) := hO5
    refine WL.nil ?_
    refine thn_n ?_
    refine WF.seq ?_
    refine WF.region ?_
    refine WL.va rfl rfl rfl (X.fieldAddrO (off := 11) rfl Try.underlying40 rfl rfl Try.sizeOf3) ?_
    refine WL.va rfl rfl rfl (X.loadO hO4 (Ext.refl _) rfl rfl Try.isAgg3) ?_
    refine WL.va rfl rfl rfl (X.fieldAddrO (off := 2) rfl Try.underlying102 rfl rfl Try.sizeOf3) ?_
    refine WL.op rfl (OW.storeO hO3 (Nat.le_of_ble_eq_true rfl) rfl rfl rfl Try.sizeOf3 ?_)
    intro w56 hO3 hx58
    have := World.grownBy.size hx58
    replace hO4 := hO4.keptO hx58 (by omega)
    replace hO5 := hO5.keptO hx58 (by omega)
    replace hO6 := hO6.keptO hx58 (by omega)
    replace hO7 := hO7.keptO hx58 (by omega)
    replace hO3 : Blk _ _ _ (Acc.c { a with Promised := m.Ballot }) := hO3
    refine WL.nil ?_
    refine thn_n ?_
    refine WF.seq ?_
    refine WF.drawn (.q 0 (.q 1 (.l 2 .nil))) (fun w' => World.grownBy w56 w' (some g6)) 3 (by kernel_rfl) (by kernel_rfl) (grown_of_ext (Ext.drew _)) ?_
    have := World.grownBy.size (Ext.drew w56)
    refine WO.q rfl rfl rfl rfl (fun w' hE60 => (X.loadOA (hO3.keptO hE60 (by omega)) (Ext.refl _) rfl rfl Try.isAgg102 Try.sizeOf102)) ?_
    refine WO.q rfl rfl rfl rfl (fun w' hE60 => (X.loadOA (hO5.keptO hE60 (by omega)) (Ext.refl _) rfl rfl Try.isAgg40 Try.sizeOf40)) ?_
    refine WO.l ?_
    refine LO.go rfl rfl (OW.storeOA (hO6.ext (Ext.drew _)) rfl rfl rfl (Acc.c_one _) Try.sizeOf102 ?_)
    intro w61 hO6 hx63
    have := World.grownBy.size hx63
    replace hO3 := (hO3.ext (Ext.drew _)).keptO hx63 (by omega)
    replace hO4 := (hO4.ext (Ext.drew _)).keptO hx63 (by omega)
    replace hO5 := (hO5.ext (Ext.drew _)).keptO hx63 (by omega)
    replace hO7 := (hO7.ext (Ext.drew _)).keptO hx63 (by omega)
    refine ⟨(grown2 (grown_of_ext (Ext.drew _)) hx63), ?_⟩
    refine WO.nil ?_
    refine WL.op rfl (OW.storeOA hO7 rfl rfl rfl (Msg.bare_one _) Try.sizeOf40 ?_)
    intro w66 hO7 hx68
    have := World.grownBy.size hx68
    replace hO3 := hO3.keptO hx68 (by omega)
    replace hO4 := hO4.keptO hx68 (by omega)
    replace hO5 := hO5.keptO hx68 (by omega)
    replace hO6 := hO6.keptO hx68 (by omega)
    refine WL.nil ?_
    refine thn_n ?_
    refine WF.ret ?_
    refine finC_r (vs := [_, _]) ⟨⟨_, rfl, readO hO6 Try.isAgg102 Try.sizeOf102⟩, ⟨_, rfl, readO hO7 Try.isAgg40 Try.sizeOf40⟩, trivial⟩ ?_
    rw [hst]; exact ⟨rfl, (Ext.store (Ext.store (Ext.trans (Ext.store (Ext.trans (Ext.trans hx3 hx7) (Ext.store (Ext.store (Ext.trans (Ext.store (Ext.store (Ext.trans (Ext.trans (Ext.trans hx11 hx15) hx19) (Ext.drew _)) hx25 (by omega)) hx29 (by omega)) (Ext.drew _)) hx50 (by omega)) hx54 (by omega))) hx58 (by omega)) (Ext.drew _)) hx63 (by omega)) hx68 (by omega))⟩

set_option maxHeartbeats 2000000 in
theorem proposed_ok (a : Acc) (m o : Msg) (em dm : Value) (w : World) (hm : -9223372036854775808 ≤ m.Txn ∧ m.Txn ≤ 9223372036854775807) : FnOk Try.prog 53 [agg a.c, agg (m.c em dm), agg o.bare] w (fun r w' => r = .tuple #[agg (stepO a m o).1.c, agg (stepO a m o).2.bare] ∧ Ext w w') := by
  refine FnOk.enterC (rs := [.cell 6 102, .cell 7 40]) Try.func53 rfl Try.ntmps53 Try.results53 rfl rfl ?_
  refine WF.seq ?_
  refine WF.region ?_
  refine WL.op rfl (OW.boxA (cs := _) rfl ?_ (by decide))
  intro g3 w1 heg3 hlg3 hO3 hx3
  have := World.grownBy.size hx3
  refine WL.op rfl (OW.boxA (cs := _) rfl ?_ (by decide))
  intro g4 w5 heg4 hlg4 hO4 hx7
  have := World.grownBy.size hx7
  refine WL.op rfl (OW.boxA (cs := _) rfl ?_ (by decide))
  intro g5 w9 heg5 hlg5 hO5 hx11
  have := World.grownBy.size hx11
  refine WL.op rfl (OW.allocO (cs := [i64 0, i64 0, i64 0, i64 0, i64 0]) Try.zeroValue102 rfl ?_ (by decide))
  intro g6 w13 heg6 hlg6 hO6 hx15
  have := World.grownBy.size hx15
  refine WL.op rfl (OW.allocO (cs := [i64 0, i64 0, i64 0, i64 0, i64 0, i64 0, i64 0, i64 0, i64 0, i64 0, i64 0, i64 0, i64 0, i64 0, .bool false, .slice none 0 0, .slice none 0 0]) Try.zeroValue40 rfl ?_ (by decide))
  intro g7 w17 heg7 hlg7 hO7 hx19
  have := World.grownBy.size hx19
  refine WL.nil ?_
  refine thn_n ?_
  refine WF.seq ?_
  refine WF.drawn (.q 0 (.q 1 (.q 2 (.q 3 (.q 4 (.q 5 (.l 6 (.q 7 .nil)))))))) (fun w' => World.grownBy w17 w' (some g5)) 8 (by kernel_rfl) (by kernel_rfl) (grown_of_ext (Ext.drew _)) ?_
  have := World.grownBy.size (Ext.drew w17)
  refine WO.q rfl rfl rfl rfl (fun w' hE21 => (X.fieldAddrO (off := 11) rfl Try.underlying40 rfl rfl Try.sizeOf3)) ?_
  refine WO.q rfl rfl rfl rfl (fun w' hE21 => (X.loadO ((hO4.ext (Ext.trans (Ext.trans hx11 hx15) hx19)).keptO hE21 (by omega)) (Ext.refl _) rfl rfl Try.isAgg3)) ?_
  refine WO.q rfl rfl rfl rfl (fun w' hE21 => (X.fieldAddrO (off := 2) rfl Try.underlying102 rfl rfl Try.sizeOf3)) ?_
  refine WO.q rfl rfl rfl rfl (fun w' hE21 => (X.loadO ((hO3.ext (Ext.trans (Ext.trans (Ext.trans hx7 hx11) hx15) hx19)).keptO hE21 (by omega)) (Ext.refl _) rfl rfl Try.isAgg3)) ?_
  refine WO.q rfl rfl rfl rfl (fun w' hE21 => (X.geq rfl rfl)) ?_
  refine WO.q rfl rfl rfl rfl (fun w' hE21 => (X.fieldAddrO (off := 0) rfl Try.underlying40 rfl rfl Try.sizeOf3)) ?_
  refine WO.l ?_
  refine LO.go rfl rfl (OW.storeO (hO5.ext (Ext.trans (Ext.trans hx15 hx19) (Ext.drew _))) (Nat.le_of_ble_eq_true rfl) rfl rfl rfl Try.sizeOf3 ?_)
  intro w23 hO5 hx25
  have := World.grownBy.size hx25
  replace hO3 := (hO3.ext (Ext.trans (Ext.trans (Ext.trans (Ext.trans hx7 hx11) hx15) hx19) (Ext.drew _))).keptO hx25 (by omega)
  replace hO4 := (hO4.ext (Ext.trans (Ext.trans (Ext.trans hx11 hx15) hx19) (Ext.drew _))).keptO hx25 (by omega)
  replace hO6 := (hO6.ext (Ext.trans hx19 (Ext.drew _))).keptO hx25 (by omega)
  replace hO7 := (hO7.ext (Ext.drew _)).keptO hx25 (by omega)
  replace hO5 : Blk _ _ _ (Msg.bare { o with Kind := 11 }) := hO5
  refine ⟨(grown2 (grown_of_ext (Ext.drew _)) hx25), ?_⟩
  refine WO.q rfl rfl rfl rfl (fun w' hE21 => (X.fieldAddrO (off := 14) rfl Try.underlying40 rfl rfl Try.sizeOf4)) ?_
  refine WO.nil ?_
  refine WL.op rfl (OW.storeO hO5 (Nat.le_of_ble_eq_true rfl) rfl rfl rfl Try.sizeOf4 ?_)
  intro w27 hO5 hx29
  have := World.grownBy.size hx29
  replace hO3 := hO3.keptO hx29 (by omega)
  replace hO4 := hO4.keptO hx29 (by omega)
  replace hO6 := hO6.keptO hx29 (by omega)
  replace hO7 := hO7.keptO hx29 (by omega)
  replace hO5 : Blk _ _ _ (Msg.bare { o with Kind := 11, Ok := decide (a.Promised ≤ m.Ballot) }) := hO5
  refine WL.nil ?_
  refine thn_n ?_
  refine WF.seq ?_
  refine WF.seq ?_
  refine WF.region ?_
  refine WL.va rfl rfl rfl (X.fieldAddrO (off := 11) rfl Try.underlying40 rfl rfl Try.sizeOf3) ?_
  refine WL.va rfl rfl rfl (X.loadO hO4 (Ext.refl _) rfl rfl Try.isAgg3) ?_
  refine WL.va rfl rfl rfl (X.eql rfl rfl) ?_
  refine WL.nil ?_
  refine thn_n ?_
  refine WF.cond rfl (fun h0_31 => ?_) (fun h0_31 => ?_)
  · have gh0_31 := (of_decide_eq_true h0_31)
    obtain ⟨t, ht⟩ : ∃ t, t = if m.Ballot = 0 then client m.Txn else o.To := ⟨_, rfl⟩
    have ht2 : t = client m.Txn := by rw [ht, if_pos gh0_31]
    refine WF.region ?_
    refine WL.va rfl rfl rfl (X.fieldAddrO (off := 9) rfl Try.underlying40 rfl rfl Try.sizeOf3) ?_
    refine WL.va rfl rfl rfl (X.loadO hO4 (Ext.refl _) rfl rfl Try.isAgg3) ?_
    refine WL.c rfl rfl rfl (X.call Try.call62 (evl_cons rfl evl_nil)) (clientOf_ok _ _ hm) ?_
    rintro v34 w33 ⟨rfl, rfl⟩
    refine WL.va rfl rfl rfl (X.fieldAddrO (off := 2) rfl Try.underlying40 rfl rfl Try.sizeOf3) ?_
    refine WL.op rfl (OW.storeO hO5 (Nat.le_of_ble_eq_true rfl) rfl rfl rfl Try.sizeOf3 ?_)
    intro w36 hO5 hx38
    have := World.grownBy.size hx38
    replace hO3 := hO3.keptO hx38 (by omega)
    replace hO4 := hO4.keptO hx38 (by omega)
    replace hO6 := hO6.keptO hx38 (by omega)
    replace hO7 := hO7.keptO hx38 (by omega)
    replace hO5 : Blk _ _ _ (Msg.bare { o with Kind := 11, Ok := decide (a.Promised ≤ m.Ballot), To := client m.Txn }) := hO5
    rw [← ht2] at hO5
    refine WL.nil ?_
    refine thn_n ?_
    refine WF.seq ?_
    refine WF.seq ?_
    refine WF.region ?_
    refine WL.va rfl rfl rfl (X.fieldAddrO (off := 14) rfl Try.underlying40 rfl rfl Try.sizeOf4) ?_
    refine WL.va rfl rfl rfl (X.loadO hO5 (Ext.refl _) rfl rfl Try.isAgg4) ?_
    refine WL.va rfl rfl rfl (X.not rfl) ?_
    refine WL.nil ?_
    refine thn_n ?_
    refine WF.cond rfl (fun h1_41 => ?_) (fun h1_41 => ?_)
    · have gh1_41 := (nt h1_41)
      have h9 : decide (a.Promised ≤ m.Ballot) = false := gh1_41
      have hst : stepO a m o = (a, { o with Kind := 11, Ok := false, To := t, Index := a.Promised }) := by unfold stepO; rw [if_neg (of_decide_eq_false h9), ht]; split <;> rfl
      rw [h9] at hO5
      refine WF.seq ?_
      refine WF.region ?_
      refine WL.va rfl rfl rfl (X.fieldAddrO (off := 2) rfl Try.underlying102 rfl rfl Try.sizeOf3) ?_
      refine WL.va rfl rfl rfl (X.loadO hO3 (Ext.refl _) rfl rfl Try.isAgg3) ?_
      refine WL.va rfl rfl rfl (X.fieldAddrO (off := 5) rfl Try.underlying40 rfl rfl Try.sizeOf3) ?_
      refine WL.op rfl (OW.storeO hO5 (Nat.le_of_ble_eq_true rfl) rfl rfl rfl Try.sizeOf3 ?_)
      intro w43 hO5 hx45
      have := World.grownBy.size hx45
      replace hO3 := hO3.keptO hx45 (by omega)
      replace hO4 := hO4.keptO hx45 (by omega)
      replace hO6 := hO6.keptO hx45 (by omega)
      replace hO7 := hO7.keptO hx45 (by omega)
      replace hO5 : Blk _ _ _ (Msg.bare { o with Kind := 11, Ok := false, To := t, Index := a.Promised }) := hO5
      refine WL.nil ?_
      refine thn_n ?_
      refine WF.seq ?_
      refine WF.drawn (.q 0 (.q 1 (.l 2 .nil))) (fun w' => World.grownBy w43 w' (some g6)) 3 (by kernel_rfl) (by kernel_rfl) (grown_of_ext (Ext.drew _)) ?_
      have := World.grownBy.size (Ext.drew w43)
      refine WO.q rfl rfl rfl rfl (fun w' hE47 => (X.loadOA (hO3.keptO hE47 (by omega)) (Ext.refl _) rfl rfl Try.isAgg102 Try.sizeOf102)) ?_
      refine WO.q rfl rfl rfl rfl (fun w' hE47 => (X.loadOA (hO5.keptO hE47 (by omega)) (Ext.refl _) rfl rfl Try.isAgg40 Try.sizeOf40)) ?_
      refine WO.l ?_
      refine LO.go rfl rfl (OW.storeOA (hO6.ext (Ext.drew _)) rfl rfl rfl (Acc.c_one _) Try.sizeOf102 ?_)
      intro w48 hO6 hx50
      have := World.grownBy.size hx50
      replace hO3 := (hO3.ext (Ext.drew _)).keptO hx50 (by omega)
      replace hO4 := (hO4.ext (Ext.drew _)).keptO hx50 (by omega)
      replace hO5 := (hO5.ext (Ext.drew _)).keptO hx50 (by omega)
      replace hO7 := (hO7.ext (Ext.drew _)).keptO hx50 (by omega)
      refine ⟨(grown2 (grown_of_ext (Ext.drew _)) hx50), ?_⟩
      refine WO.nil ?_
      refine WL.op rfl (OW.storeOA hO7 rfl rfl rfl (Msg.bare_one _) Try.sizeOf40 ?_)
      intro w52 hO7 hx54
      have := World.grownBy.size hx54
      replace hO3 := hO3.keptO hx54 (by omega)
      replace hO4 := hO4.keptO hx54 (by omega)
      replace hO5 := hO5.keptO hx54 (by omega)
      replace hO6 := hO6.keptO hx54 (by omega)
      refine WL.nil ?_
      refine thn_n ?_
      refine WF.ret ?_
      refine thn_r ?_
      refine finC_r (vs := [_, _]) ⟨⟨_, rfl, readO hO6 Try.isAgg102 Try.sizeOf102⟩, ⟨_, rfl, readO hO7 Try.isAgg40 Try.sizeOf40⟩, trivial⟩ ?_
      rw [hst]; exact ⟨rfl, (Ext.trans (Ext.trans hx3 hx7) (Ext.store (Ext.store (Ext.trans (Ext.store (Ext.store (Ext.store (Ext.store (Ext.trans (Ext.trans (Ext.trans hx11 hx15) hx19) (Ext.drew _)) hx25 (by omega)) hx29 (by omega)) hx38 (by omega)) hx45 (by omega)) (Ext.drew _)) hx50 (by omega)) hx54 (by omega)))⟩
    · have gh1_41 := (nf h1_41)
      have h9 : decide (a.Promised ≤ m.Ballot) = true := gh1_41
      have hst : stepO a m o = ({ a with Promised := m.Ballot, Ballot := m.Ballot, Value := m.Value }, { o with Kind := 11, Ok := true, To := t, Value := m.Value }) := by unfold stepO; rw [if_pos (of_decide_eq_true h9), ht]; split <;> rfl
      rw [h9] at hO5
      refine WF.skip ?_
      refine thn_n ?_
      refine WF.seq ?_
      refine WF.region ?_
      refine WL.va rfl rfl rfl (X.fieldAddrO (off := 12) rfl Try.underlying40 rfl rfl Try.sizeOf3) ?_
      refine WL.va rfl rfl rfl (X.loadO hO4 (Ext.refl _) rfl rfl Try.isAgg3) ?_
      refine WL.va rfl rfl rfl (X.fieldAddrO (off := 12) rfl Try.underlying40 rfl rfl Try.sizeOf3) ?_
      refine WL.op rfl (OW.storeO hO5 (Nat.le_of_ble_eq_true rfl) rfl rfl rfl Try.sizeOf3 ?_)
      intro w56 hO5 hx58
      have := World.grownBy.size hx58
      replace hO3 := hO3.keptO hx58 (by omega)
      replace hO4 := hO4.keptO hx58 (by omega)
      replace hO6 := hO6.keptO hx58 (by omega)
      replace hO7 := hO7.keptO hx58 (by omega)
      replace hO5 : Blk _ _ _ (Msg.bare { o with Kind := 11, Ok := true, To := t, Value := m.Value }) := hO5
      refine WL.nil ?_
      refine thn_n ?_
      refine WF.seq ?_
      refine WF.drawn (.q 0 (.q 1 (.q 2 (.q 3 (.q 4 (.q 5 (.q 6 (.l 7 (.q 8 (.l 9 (.q 10 .nil))))))))))) (fun w' => World.grownBy w56 w' (some g3)) 11 (by kernel_rfl) (by kernel_rfl) (grown_of_ext (Ext.drew _)) ?_
      have := World.grownBy.size (Ext.drew w56)
      refine WO.q rfl rfl rfl rfl (fun w' hE60 => (X.fieldAddrO (off := 11) rfl Try.underlying40 rfl rfl Try.sizeOf3)) ?_
      refine WO.q rfl rfl rfl rfl (fun w' hE60 => (X.loadO (hO4.keptO hE60 (by omega)) (Ext.refl _) rfl rfl Try.isAgg3)) ?_
      refine WO.q rfl rfl rfl rfl (fun w' hE60 => (X.fieldAddrO (off := 11) rfl Try.underlying40 rfl rfl Try.sizeOf3)) ?_
      refine WO.q rfl rfl rfl rfl (fun w' hE60 => (X.loadO (hO4.keptO hE60 (by omega)) (Ext.refl _) rfl rfl Try.isAgg3)) ?_
      refine WO.q rfl rfl rfl rfl (fun w' hE60 => (X.fieldAddrO (off := 12) rfl Try.underlying40 rfl rfl Try.sizeOf3)) ?_
      refine WO.q rfl rfl rfl rfl (fun w' hE60 => (X.loadO (hO4.keptO hE60 (by omega)) (Ext.refl _) rfl rfl Try.isAgg3)) ?_
      refine WO.q rfl rfl rfl rfl (fun w' hE60 => (X.fieldAddrO (off := 2) rfl Try.underlying102 rfl rfl Try.sizeOf3)) ?_
      refine WO.l ?_
      refine LO.go rfl rfl (OW.storeO (hO3.ext (Ext.drew _)) (Nat.le_of_ble_eq_true rfl) rfl rfl rfl Try.sizeOf3 ?_)
      intro w61 hO3 hx63
      have := World.grownBy.size hx63
      replace hO4 := (hO4.ext (Ext.drew _)).keptO hx63 (by omega)
      replace hO5 := (hO5.ext (Ext.drew _)).keptO hx63 (by omega)
      replace hO6 := (hO6.ext (Ext.drew _)).keptO hx63 (by omega)
      replace hO7 := (hO7.ext (Ext.drew _)).keptO hx63 (by omega)
      replace hO3 : Blk _ _ _ (Acc.c { a with Promised := m.Ballot }) := hO3
      refine ⟨(grown2 (grown_of_ext (Ext.drew _)) hx63), ?_⟩
      refine WO.q rfl rfl rfl rfl (fun w' hE60 => (X.fieldAddrO (off := 3) rfl Try.underlying102 rfl rfl Try.sizeOf3)) ?_
      refine WO.l ?_
      refine LO.go rfl rfl (OW.storeO hO3 (Nat.le_of_ble_eq_true rfl) rfl rfl rfl Try.sizeOf3 ?_)
      intro w66 hO3 hx68
      have := World.grownBy.size hx68
      replace hO4 := hO4.keptO hx68 (by omega)
      replace hO5 := hO5.keptO hx68 (by omega)
      replace hO6 := hO6.keptO hx68 (by omega)
      replace hO7 := hO7.keptO hx68 (by omega)
      replace hO3 : Blk _ _ _ (Acc.c { a with Promised := m.Ballot, Ballot := m.Ballot }) := hO3
      refine ⟨(grown2 (grown2 (grown_of_ext (Ext.drew _)) hx63) hx68), ?_⟩
      refine WO.q rfl rfl rfl rfl (fun w' hE60 => (X.fieldAddrO (off := 4) rfl Try.underlying102 rfl rfl Try.sizeOf3)) ?_
      refine WO.nil ?_
      refine WL.op rfl (OW.storeO hO3 (Nat.le_of_ble_eq_true rfl) rfl rfl rfl Try.sizeOf3 ?_)
      intro w70 hO3 hx72
      have := World.grownBy.size hx72
      replace hO4 := hO4.keptO hx72 (by omega)
      replace hO5 := hO5.keptO hx72 (by omega)
      replace hO6 := hO6.keptO hx72 (by omega)
      replace hO7 := hO7.keptO hx72 (by omega)
      replace hO3 : Blk _ _ _ (Acc.c { a with Promised := m.Ballot, Ballot := m.Ballot, Value := m.Value }) := hO3
      refine WL.nil ?_
      refine thn_n ?_
      refine WF.seq ?_
      refine WF.drawn (.q 0 (.q 1 (.l 2 .nil))) (fun w' => World.grownBy w70 w' (some g6)) 3 (by kernel_rfl) (by kernel_rfl) (grown_of_ext (Ext.drew _)) ?_
      have := World.grownBy.size (Ext.drew w70)
      refine WO.q rfl rfl rfl rfl (fun w' hE74 => (X.loadOA (hO3.keptO hE74 (by omega)) (Ext.refl _) rfl rfl Try.isAgg102 Try.sizeOf102)) ?_
      refine WO.q rfl rfl rfl rfl (fun w' hE74 => (X.loadOA (hO5.keptO hE74 (by omega)) (Ext.refl _) rfl rfl Try.isAgg40 Try.sizeOf40)) ?_
      refine WO.l ?_
      refine LO.go rfl rfl (OW.storeOA (hO6.ext (Ext.drew _)) rfl rfl rfl (Acc.c_one _) Try.sizeOf102 ?_)
      intro w75 hO6 hx77
      have := World.grownBy.size hx77
      replace hO3 := (hO3.ext (Ext.drew _)).keptO hx77 (by omega)
      replace hO4 := (hO4.ext (Ext.drew _)).keptO hx77 (by omega)
      replace hO5 := (hO5.ext (Ext.drew _)).keptO hx77 (by omega)
      replace hO7 := (hO7.ext (Ext.drew _)).keptO hx77 (by omega)
      refine ⟨(grown2 (grown_of_ext (Ext.drew _)) hx77), ?_⟩
      refine WO.nil ?_
      refine WL.op rfl (OW.storeOA hO7 rfl rfl rfl (Msg.bare_one _) Try.sizeOf40 ?_)
      intro w79 hO7 hx81
      have := World.grownBy.size hx81
      replace hO3 := hO3.keptO hx81 (by omega)
      replace hO4 := hO4.keptO hx81 (by omega)
      replace hO5 := hO5.keptO hx81 (by omega)
      replace hO6 := hO6.keptO hx81 (by omega)
      refine WL.nil ?_
      refine thn_n ?_
      refine WF.ret ?_
      refine finC_r (vs := [_, _]) ⟨⟨_, rfl, readO hO6 Try.isAgg102 Try.sizeOf102⟩, ⟨_, rfl, readO hO7 Try.isAgg40 Try.sizeOf40⟩, trivial⟩ ?_
      rw [hst]; exact ⟨rfl, (Ext.store (Ext.store (Ext.trans (Ext.store (Ext.store (Ext.store (Ext.trans (Ext.trans (Ext.trans hx3 hx7) (Ext.store (Ext.store (Ext.store (Ext.store (Ext.trans (Ext.trans (Ext.trans hx11 hx15) hx19) (Ext.drew _)) hx25 (by omega)) hx29 (by omega)) hx38 (by omega)) hx58 (by omega))) (Ext.drew _)) hx63 (by omega)) hx68 (by omega)) hx72 (by omega)) (Ext.drew _)) hx77 (by omega)) hx81 (by omega))⟩
  · have gh0_31 := (of_decide_eq_false h0_31)
    obtain ⟨t, ht⟩ : ∃ t, t = if m.Ballot = 0 then client m.Txn else o.To := ⟨_, rfl⟩
    have ht2 : t = o.To := by rw [ht, if_neg gh0_31]
    have hO5 : Blk _ g5 40 (Msg.bare { o with Kind := 11, Ok := decide (a.Promised ≤ m.Ballot), To := t }) := ht2 ▸ hO5
    refine WF.skip ?_
    refine thn_n ?_
    refine WF.seq ?_
    refine WF.seq ?_
    refine WF.region ?_
    refine WL.va rfl rfl rfl (X.fieldAddrO (off := 14) rfl Try.underlying40 rfl rfl Try.sizeOf4) ?_
    refine WL.va rfl rfl rfl (X.loadO hO5 (Ext.refl _) rfl rfl Try.isAgg4) ?_
    refine WL.va rfl rfl rfl (X.not rfl) ?_
    refine WL.nil ?_
    refine thn_n ?_
    refine WF.cond rfl (fun h1_84 => ?_) (fun h1_84 => ?_)
    · have gh1_84 := (nt h1_84)
      have h9 : decide (a.Promised ≤ m.Ballot) = false := gh1_84
      have hst : stepO a m o = (a, { o with Kind := 11, Ok := false, To := t, Index := a.Promised }) := by unfold stepO; rw [if_neg (of_decide_eq_false h9), ht]; split <;> rfl
      rw [h9] at hO5
      refine WF.seq ?_
      refine WF.region ?_
      refine WL.va rfl rfl rfl (X.fieldAddrO (off := 2) rfl Try.underlying102 rfl rfl Try.sizeOf3) ?_
      refine WL.va rfl rfl rfl (X.loadO hO3 (Ext.refl _) rfl rfl Try.isAgg3) ?_
      refine WL.va rfl rfl rfl (X.fieldAddrO (off := 5) rfl Try.underlying40 rfl rfl Try.sizeOf3) ?_
      refine WL.op rfl (OW.storeO hO5 (Nat.le_of_ble_eq_true rfl) rfl rfl rfl Try.sizeOf3 ?_)
      intro w86 hO5 hx88
      have := World.grownBy.size hx88
      replace hO3 := hO3.keptO hx88 (by omega)
      replace hO4 := hO4.keptO hx88 (by omega)
      replace hO6 := hO6.keptO hx88 (by omega)
      replace hO7 := hO7.keptO hx88 (by omega)
      replace hO5 : Blk _ _ _ (Msg.bare { o with Kind := 11, Ok := false, To := t, Index := a.Promised }) := hO5
      refine WL.nil ?_
      refine thn_n ?_
      refine WF.seq ?_
      refine WF.drawn (.q 0 (.q 1 (.l 2 .nil))) (fun w' => World.grownBy w86 w' (some g6)) 3 (by kernel_rfl) (by kernel_rfl) (grown_of_ext (Ext.drew _)) ?_
      have := World.grownBy.size (Ext.drew w86)
      refine WO.q rfl rfl rfl rfl (fun w' hE90 => (X.loadOA (hO3.keptO hE90 (by omega)) (Ext.refl _) rfl rfl Try.isAgg102 Try.sizeOf102)) ?_
      refine WO.q rfl rfl rfl rfl (fun w' hE90 => (X.loadOA (hO5.keptO hE90 (by omega)) (Ext.refl _) rfl rfl Try.isAgg40 Try.sizeOf40)) ?_
      refine WO.l ?_
      refine LO.go rfl rfl (OW.storeOA (hO6.ext (Ext.drew _)) rfl rfl rfl (Acc.c_one _) Try.sizeOf102 ?_)
      intro w91 hO6 hx93
      have := World.grownBy.size hx93
      replace hO3 := (hO3.ext (Ext.drew _)).keptO hx93 (by omega)
      replace hO4 := (hO4.ext (Ext.drew _)).keptO hx93 (by omega)
      replace hO5 := (hO5.ext (Ext.drew _)).keptO hx93 (by omega)
      replace hO7 := (hO7.ext (Ext.drew _)).keptO hx93 (by omega)
      refine ⟨(grown2 (grown_of_ext (Ext.drew _)) hx93), ?_⟩
      refine WO.nil ?_
      refine WL.op rfl (OW.storeOA hO7 rfl rfl rfl (Msg.bare_one _) Try.sizeOf40 ?_)
      intro w95 hO7 hx97
      have := World.grownBy.size hx97
      replace hO3 := hO3.keptO hx97 (by omega)
      replace hO4 := hO4.keptO hx97 (by omega)
      replace hO5 := hO5.keptO hx97 (by omega)
      replace hO6 := hO6.keptO hx97 (by omega)
      refine WL.nil ?_
      refine thn_n ?_
      refine WF.ret ?_
      refine thn_r ?_
      refine finC_r (vs := [_, _]) ⟨⟨_, rfl, readO hO6 Try.isAgg102 Try.sizeOf102⟩, ⟨_, rfl, readO hO7 Try.isAgg40 Try.sizeOf40⟩, trivial⟩ ?_
      rw [hst]; exact ⟨rfl, (Ext.trans (Ext.trans hx3 hx7) (Ext.store (Ext.store (Ext.trans (Ext.store (Ext.store (Ext.store (Ext.trans (Ext.trans (Ext.trans hx11 hx15) hx19) (Ext.drew _)) hx25 (by omega)) hx29 (by omega)) hx88 (by omega)) (Ext.drew _)) hx93 (by omega)) hx97 (by omega)))⟩
    · have gh1_84 := (nf h1_84)
      have h9 : decide (a.Promised ≤ m.Ballot) = true := gh1_84
      have hst : stepO a m o = ({ a with Promised := m.Ballot, Ballot := m.Ballot, Value := m.Value }, { o with Kind := 11, Ok := true, To := t, Value := m.Value }) := by unfold stepO; rw [if_pos (of_decide_eq_true h9), ht]; split <;> rfl
      rw [h9] at hO5
      refine WF.skip ?_
      refine thn_n ?_
      refine WF.seq ?_
      refine WF.region ?_
      refine WL.va rfl rfl rfl (X.fieldAddrO (off := 12) rfl Try.underlying40 rfl rfl Try.sizeOf3) ?_
      refine WL.va rfl rfl rfl (X.loadO hO4 (Ext.refl _) rfl rfl Try.isAgg3) ?_
      refine WL.va rfl rfl rfl (X.fieldAddrO (off := 12) rfl Try.underlying40 rfl rfl Try.sizeOf3) ?_
      refine WL.op rfl (OW.storeO hO5 (Nat.le_of_ble_eq_true rfl) rfl rfl rfl Try.sizeOf3 ?_)
      intro w99 hO5 hx101
      have := World.grownBy.size hx101
      replace hO3 := hO3.keptO hx101 (by omega)
      replace hO4 := hO4.keptO hx101 (by omega)
      replace hO6 := hO6.keptO hx101 (by omega)
      replace hO7 := hO7.keptO hx101 (by omega)
      replace hO5 : Blk _ _ _ (Msg.bare { o with Kind := 11, Ok := true, To := t, Value := m.Value }) := hO5
      refine WL.nil ?_
      refine thn_n ?_
      refine WF.seq ?_
      refine WF.drawn (.q 0 (.q 1 (.q 2 (.q 3 (.q 4 (.q 5 (.q 6 (.l 7 (.q 8 (.l 9 (.q 10 .nil))))))))))) (fun w' => World.grownBy w99 w' (some g3)) 11 (by kernel_rfl) (by kernel_rfl) (grown_of_ext (Ext.drew _)) ?_
      have := World.grownBy.size (Ext.drew w99)
      refine WO.q rfl rfl rfl rfl (fun w' hE103 => (X.fieldAddrO (off := 11) rfl Try.underlying40 rfl rfl Try.sizeOf3)) ?_
      refine WO.q rfl rfl rfl rfl (fun w' hE103 => (X.loadO (hO4.keptO hE103 (by omega)) (Ext.refl _) rfl rfl Try.isAgg3)) ?_
      refine WO.q rfl rfl rfl rfl (fun w' hE103 => (X.fieldAddrO (off := 11) rfl Try.underlying40 rfl rfl Try.sizeOf3)) ?_
      refine WO.q rfl rfl rfl rfl (fun w' hE103 => (X.loadO (hO4.keptO hE103 (by omega)) (Ext.refl _) rfl rfl Try.isAgg3)) ?_
      refine WO.q rfl rfl rfl rfl (fun w' hE103 => (X.fieldAddrO (off := 12) rfl Try.underlying40 rfl rfl Try.sizeOf3)) ?_
      refine WO.q rfl rfl rfl rfl (fun w' hE103 => (X.loadO (hO4.keptO hE103 (by omega)) (Ext.refl _) rfl rfl Try.isAgg3)) ?_
      refine WO.q rfl rfl rfl rfl (fun w' hE103 => (X.fieldAddrO (off := 2) rfl Try.underlying102 rfl rfl Try.sizeOf3)) ?_
      refine WO.l ?_
      refine LO.go rfl rfl (OW.storeO (hO3.ext (Ext.drew _)) (Nat.le_of_ble_eq_true rfl) rfl rfl rfl Try.sizeOf3 ?_)
      intro w104 hO3 hx106
      have := World.grownBy.size hx106
      replace hO4 := (hO4.ext (Ext.drew _)).keptO hx106 (by omega)
      replace hO5 := (hO5.ext (Ext.drew _)).keptO hx106 (by omega)
      replace hO6 := (hO6.ext (Ext.drew _)).keptO hx106 (by omega)
      replace hO7 := (hO7.ext (Ext.drew _)).keptO hx106 (by omega)
      replace hO3 : Blk _ _ _ (Acc.c { a with Promised := m.Ballot }) := hO3
      refine ⟨(grown2 (grown_of_ext (Ext.drew _)) hx106), ?_⟩
      refine WO.q rfl rfl rfl rfl (fun w' hE103 => (X.fieldAddrO (off := 3) rfl Try.underlying102 rfl rfl Try.sizeOf3)) ?_
      refine WO.l ?_
      refine LO.go rfl rfl (OW.storeO hO3 (Nat.le_of_ble_eq_true rfl) rfl rfl rfl Try.sizeOf3 ?_)
      intro w108 hO3 hx110
      have := World.grownBy.size hx110
      replace hO4 := hO4.keptO hx110 (by omega)
      replace hO5 := hO5.keptO hx110 (by omega)
      replace hO6 := hO6.keptO hx110 (by omega)
      replace hO7 := hO7.keptO hx110 (by omega)
      replace hO3 : Blk _ _ _ (Acc.c { a with Promised := m.Ballot, Ballot := m.Ballot }) := hO3
      refine ⟨(grown2 (grown2 (grown_of_ext (Ext.drew _)) hx106) hx110), ?_⟩
      refine WO.q rfl rfl rfl rfl (fun w' hE103 => (X.fieldAddrO (off := 4) rfl Try.underlying102 rfl rfl Try.sizeOf3)) ?_
      refine WO.nil ?_
      refine WL.op rfl (OW.storeO hO3 (Nat.le_of_ble_eq_true rfl) rfl rfl rfl Try.sizeOf3 ?_)
      intro w112 hO3 hx114
      have := World.grownBy.size hx114
      replace hO4 := hO4.keptO hx114 (by omega)
      replace hO5 := hO5.keptO hx114 (by omega)
      replace hO6 := hO6.keptO hx114 (by omega)
      replace hO7 := hO7.keptO hx114 (by omega)
      replace hO3 : Blk _ _ _ (Acc.c { a with Promised := m.Ballot, Ballot := m.Ballot, Value := m.Value }) := hO3
      refine WL.nil ?_
      refine thn_n ?_
      refine WF.seq ?_
      refine WF.drawn (.q 0 (.q 1 (.l 2 .nil))) (fun w' => World.grownBy w112 w' (some g6)) 3 (by kernel_rfl) (by kernel_rfl) (grown_of_ext (Ext.drew _)) ?_
      have := World.grownBy.size (Ext.drew w112)
      refine WO.q rfl rfl rfl rfl (fun w' hE116 => (X.loadOA (hO3.keptO hE116 (by omega)) (Ext.refl _) rfl rfl Try.isAgg102 Try.sizeOf102)) ?_
      refine WO.q rfl rfl rfl rfl (fun w' hE116 => (X.loadOA (hO5.keptO hE116 (by omega)) (Ext.refl _) rfl rfl Try.isAgg40 Try.sizeOf40)) ?_
      refine WO.l ?_
      refine LO.go rfl rfl (OW.storeOA (hO6.ext (Ext.drew _)) rfl rfl rfl (Acc.c_one _) Try.sizeOf102 ?_)
      intro w117 hO6 hx119
      have := World.grownBy.size hx119
      replace hO3 := (hO3.ext (Ext.drew _)).keptO hx119 (by omega)
      replace hO4 := (hO4.ext (Ext.drew _)).keptO hx119 (by omega)
      replace hO5 := (hO5.ext (Ext.drew _)).keptO hx119 (by omega)
      replace hO7 := (hO7.ext (Ext.drew _)).keptO hx119 (by omega)
      refine ⟨(grown2 (grown_of_ext (Ext.drew _)) hx119), ?_⟩
      refine WO.nil ?_
      refine WL.op rfl (OW.storeOA hO7 rfl rfl rfl (Msg.bare_one _) Try.sizeOf40 ?_)
      intro w121 hO7 hx123
      have := World.grownBy.size hx123
      replace hO3 := hO3.keptO hx123 (by omega)
      replace hO4 := hO4.keptO hx123 (by omega)
      replace hO5 := hO5.keptO hx123 (by omega)
      replace hO6 := hO6.keptO hx123 (by omega)
      refine WL.nil ?_
      refine thn_n ?_
      refine WF.ret ?_
      refine finC_r (vs := [_, _]) ⟨⟨_, rfl, readO hO6 Try.isAgg102 Try.sizeOf102⟩, ⟨_, rfl, readO hO7 Try.isAgg40 Try.sizeOf40⟩, trivial⟩ ?_
      rw [hst]; exact ⟨rfl, (Ext.store (Ext.store (Ext.trans (Ext.store (Ext.store (Ext.store (Ext.trans (Ext.trans (Ext.trans hx3 hx7) (Ext.store (Ext.store (Ext.store (Ext.trans (Ext.trans (Ext.trans hx11 hx15) hx19) (Ext.drew _)) hx25 (by omega)) hx29 (by omega)) hx101 (by omega))) (Ext.drew _)) hx106 (by omega)) hx110 (by omega)) hx114 (by omega)) (Ext.drew _)) hx119 (by omega)) hx123 (by omega))⟩

end Go.Proofs.Ytjmddkaokmdkbaa
