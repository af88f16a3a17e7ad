/- The walk of acceptor.Take. -/
import Derived.Test.YtjmddkaokmdkbaaAccF
namespace Go.Proofs.Ytjmddkaokmdkbaa
open Go Go.RowKit Kf
set_option maxRecDepth 20000

theorem takeLit_ok (a b : Acc) (g1 : Nat) (w : World) (h1 : Blk w g1 102 b.c) : FnOk Try.prog 55 [agg a.c, at_ g1] w (fun r w' => r = .bool (behind a b) ∧ Ext w w') := by
  refine FnOk.enter (rs := [3]) Try.func55 rfl Try.ntmps55 Try.results55 rfl rfl ?_
  refine WF.seq ?_
  refine WF.region ?_
  refine WL.op rfl (OW.boxA (cs := _) rfl ?_ (by decide))
  intro g2 w1 heg2 hlg2 hO2 hx3
  have := World.grownBy.size hx3
  refine WL.va rfl rfl rfl (X.assignB rfl) ?_
  refine WL.nil ?_
  refine thn_n ?_
  refine WF.seq ?_
  refine WF.drawn (.q 0 (.q 1 (.q 2 (.q 3 (.q 5 (.q 6 (.q 7 (.q 8 (.l 4 (.l 9 (.l 10 (.l 11 (.q 12 (.q 13 .nil)))))))))))))) (fun w' => Ext w1 w') 14 (by kernel_rfl) (by kernel_rfl) (Ext.drew _) ?_
  have := World.grownBy.size (Ext.drew w1)
  refine WO.q rfl rfl rfl rfl (fun w' hE6 => (X.fieldAddrO (off := 0) rfl Try.underlying102 rfl rfl Try.sizeOf3)) ?_
  refine WO.q rfl rfl rfl rfl (fun w' hE6 => (X.loadO hO2 hE6 rfl rfl Try.isAgg3)) ?_
  refine WO.q rfl rfl rfl rfl (fun w' hE6 => (X.fieldAddrO (off := 0) rfl Try.underlying102 rfl rfl Try.sizeOf3)) ?_
  refine WO.q rfl rfl rfl rfl (fun w' hE6 => (X.loadO h1 (Ext.trans hx3 hE6) rfl rfl Try.isAgg3)) ?_
  refine WO.q rfl rfl rfl rfl (fun w' hE6 => (X.fieldAddrO (off := 1) rfl Try.underlying102 rfl rfl Try.sizeOf3)) ?_
  refine WO.q rfl rfl rfl rfl (fun w' hE6 => (X.loadO hO2 hE6 rfl rfl Try.isAgg3)) ?_
  refine WO.q rfl rfl rfl rfl (fun w' hE6 => (X.fieldAddrO (off := 1) rfl Try.underlying102 rfl rfl Try.sizeOf3)) ?_
  refine WO.q rfl rfl rfl rfl (fun w' hE6 => (X.loadO h1 (Ext.trans hx3 hE6) rfl rfl Try.isAgg3)) ?_
  refine WO.l ?_
  refine LO.go rfl rfl (OW.enter rfl (by decide) (X.call Try.call57 (evl_cons rfl (evl_cons rfl evl_nil))) (compare_ok _ _ _) ?_)
  rintro v8 w7 ⟨rfl, rfl⟩
  refine ⟨(Ext.drew _), ?_⟩
  refine WO.l ?_
  refine LO.go rfl rfl (OW.enter rfl (by decide) (X.call Try.call57 (evl_cons rfl (evl_cons rfl evl_nil))) (compare_ok _ _ _) ?_)
  rintro v11 w10 ⟨rfl, rfl⟩
  refine ⟨(Ext.drew _), ?_⟩
  refine WO.l ?_
  refine LO.go rfl rfl (OW.lits (vs := [_, _]) (evp_cons rfl (evp_cons rfl evp_nil)) Try.underlying22 Try.sizeOf3 Try.zeroValue3 ⟨rfl, rfl, trivial⟩ rfl rfl rfl ?_ (by decide))
  intro v14 w13 ho16 hx15
  have := World.grownBy.size hx15
  refine ⟨(Ext.trans (Ext.drew _) hx15), ?_⟩
  refine WO.l ?_
  refine LO.go rfl rfl (OW.enter rfl (by decide) (X.call Try.call56 (evl_cons rfl evl_nil)) (or_ok _ _ _ (show Ints _ _ [cmpI a.Txn b.Txn, cmpI a.Part b.Part] from Row.of_own ho16)) ?_)
  rintro v18 w17 ⟨rfl, hx19⟩
  have := World.grownBy.size hx19
  refine ⟨(Ext.trans (Ext.trans (Ext.drew _) hx15) hx19), ?_⟩
  refine WO.q rfl rfl rfl rfl (fun w' hE6 => (X.gtr rfl rfl)) ?_
  refine WO.q rfl rfl rfl rfl (fun w' hE6 => (X.assignB rfl)) ?_
  refine WO.nil ?_
  refine WL.nil ?_
  refine thn_n ?_
  refine WF.ret ?_
  refine fin_r ?_
  exact ⟨by rw [← behind_cmp]; rfl, (Ext.trans (Ext.trans (Ext.trans hx3 (Ext.drew _)) hx15) hx19)⟩

set_option maxHeartbeats 800000 in
theorem take_ok (v : Value) (l : List Acc) (id : Int) (m : Msg) (em dm : Value) (w : World) (hv : Votes w v l) (hl : l.length ≤ 1100) (hm : In64 m.ints) : FnOk Try.prog 43 [v, i64 id, agg (m.c em dm)] w (fun r w' => (∃ vv vm, r = .tuple #[vv, vm, .bool (takeA l id m).2.2] ∧ OwnV w' w.heap.size 102 vv (takeA l id m).1 ∧ OwnM w' w.heap.size 40 vm (takeA l id m).2.1 ∧ Apart vv vm) ∧ Ext w w') := by
  have hmT : -9223372036854775808 ≤ m.Txn ∧ m.Txn ≤ 9223372036854775807 := hm _ (by simp)
  obtain ⟨was, has, hf⟩ : ∃ a b, findA l m.Txn m.Part = (a, b) := ⟨_, _, rfl⟩
  refine FnOk.enter (rs := [6, 7, 8]) Try.func43 rfl Try.ntmps43 Try.results43 rfl rfl ?_
  refine WF.seq ?_
  refine WF.region ?_
  refine WL.op rfl (OW.boxA (cs := (m.c em dm)) rfl ?_ (by decide))
  intro g5 wb heg5 hlg5 hO5 hx2
  have := World.grownBy.size hx2
  refine WL.va rfl rfl rfl (X.assign rfl) ?_
  refine WL.va rfl rfl rfl (X.assign rfl) ?_
  refine WL.va rfl rfl rfl (X.assignB rfl) ?_
  refine WL.nil ?_
  refine thn_n ?_
  refine WF.seq ?_
  refine WF.region ?_
  refine WL.va rfl rfl rfl (X.move rfl) ?_
  have szw := World.grownBy.size hx2
  refine WL.c rfl rfl rfl (X.call Try.call50 (evl_cons rfl evl_nil)) (cloneV_ok _ _ _ _ (Row.ext hv hx2) votes_one (by omega)) ?_
  rintro vc wc ⟨oc0, hx5⟩
  have := World.grownBy.size hx5
  have oc := OwnT.of oc0
  refine WL.va rfl rfl rfl (X.assign rfl) ?_
  refine WL.nil ?_
  refine thn_n ?_
  refine WF.seq ?_
  refine WF.region ?_
  refine WL.va rfl rfl rfl (X.move rfl) ?_
  refine WL.va rfl rfl rfl (X.fieldAddrO (off := 9) rfl Try.underlying40 rfl rfl Try.sizeOf3) ?_
  refine WL.va rfl rfl rfl (X.loadO hO5 hx5 rfl rfl Try.isAgg3) ?_
  refine WL.va rfl rfl rfl (X.fieldAddrO (off := 10) rfl Try.underlying40 rfl rfl Try.sizeOf3) ?_
  refine WL.va rfl rfl rfl (X.loadO hO5 hx5 rfl rfl Try.isAgg3) ?_
  refine WL.c rfl rfl rfl (X.call Try.call51 (evl_cons rfl (evl_cons rfl (evl_cons rfl evl_nil)))) ((findA_ok _ l _ _ _ (Row.ext hv (Ext.trans hx2 hx5))).mono (fun r w2 h => (show r = .tuple #[agg was.c, .bool has] ∧ Ext wc w2 from by rw [hf] at h; exact h))) ?_
  rintro v7 w6 ⟨rfl, hx8⟩
  have := World.grownBy.size hx8
  refine WL.va rfl rfl rfl (X.move rfl) ?_
  refine WL.va rfl rfl rfl (X.extract rfl rfl) ?_
  refine WL.va rfl rfl rfl (X.extract rfl rfl) ?_
  refine WL.op rfl (OW.allocO (cs := [i64 0, i64 0, i64 0, i64 0, i64 0]) Try.zeroValue102 rfl ?_ (by decide))
  intro g10 wd heg10 hlg10 hO10 hx11
  have := World.grownBy.size hx11
  refine WL.op rfl (OW.storeOA hO10 rfl rfl rfl (Acc.c_one _) Try.sizeOf102 ?_)
  intro w13 hO10 hx15
  have := World.grownBy.size hx15
  replace hO5 := (hO5.ext (Ext.trans (Ext.trans hx5 hx8) hx11)).keptO hx15 (by omega)
  replace oc := (oc.ext (Ext.trans hx8 hx11)).keptO hx15 (by omega)
  replace hO10 : Blk _ _ _ was.c := hO10
  refine WL.va rfl rfl rfl (X.assignB rfl) ?_
  refine WL.nil ?_
  refine thn_n ?_
  refine WF.seq ?_
  refine WF.seq ?_
  refine WF.region ?_
  refine WL.va rfl rfl rfl (X.moveB rfl) ?_
  refine WL.va rfl rfl rfl (X.not rfl) ?_
  refine WL.va rfl rfl rfl (X.moveB rfl) ?_
  refine WL.split (j := 2) rfl (fun h18 => ?_) (fun h18 => ?_)
  · have gh18 := (nt h18)
    have hhas : has = false := gh18
    refine WL.vg rfl (congrArg some h18) rfl rfl (X.move rfl) ?_
    refine WL.vg rfl (congrArg some h18) rfl rfl (X.len hv rfl Try.underlying59) ?_
    refine WL.vg rfl (congrArg some h18) rfl rfl (X.geq rfl rfl) ?_
    refine WL.va rfl rfl rfl (X.pickT rfl h18 rfl) ?_
    refine WL.nil ?_
    refine thn_n ?_
    refine WF.cond rfl (fun h0_19 => ?_) (fun h0_19 => ?_)
    · have gh0_19 := (of_decide_eq_true h0_19)
      have hbig : has = false ∧ 1024 ≤ l.length := ⟨hhas, by omega⟩
      refine WF.seq ?_
      refine WF.region ?_
      refine WL.va rfl rfl rfl (X.move rfl) ?_
      refine WL.va rfl rfl rfl (X.assign rfl) ?_
      refine WL.va rfl rfl rfl (X.assign rfl) ?_
      refine WL.va rfl rfl rfl (X.assignB rfl) ?_
      refine WL.nil ?_
      refine thn_n ?_
      refine WF.ret ?_
      refine thn_r ?_
      refine fin_r ?_
      rw [takeA_none hf (.inr hbig)]; exact ⟨⟨_, _, rfl, own_mono oc.own szw, OwnM.nil _ _ _, fun k hk hk2 => by cases hk2⟩, (Ext.trans (Ext.trans (Ext.trans hx2 hx5) hx8) (Ext.store hx11 hx15 (by omega)))⟩
    · have gh0_19 := (of_decide_eq_false h0_19)
      have hgo1 : ¬ (has = false ∧ 1024 ≤ l.length) := fun e => by have := e.2; omega
      refine WF.skip ?_
      refine thn_n ?_
      refine WF.named (fun F22 hF23 => ?_)
      refine WF.cut (fun f' w' => ∃ (g12 g13 : Nat), f' 12 = at_ g12 ∧ f' 13 = at_ g13 ∧ Agree [0, 1, 2, 5, 6, 7, 8, 9, 10, 11, 16, 17, 18, 19, 20, 21, 22, 23, 24, 25, 26, 27, 28, 29, 30, 31, 32, 33] f' F22 ∧ Ext w w' ∧ Blk w' g5 40 (m.c em dm) ∧ OwnT w' wb.heap.size wc.heap.size 102 5 vc l.length (l.flatMap Acc.c) ∧ Blk w' g10 102 was.c ∧ Blk w' g12 102 was.c ∧ Blk w' g13 40 (Msg.bare (out0 id m)) ∧ g10 < g12 ∧ g10 < g13 ∧ g12 ≠ g13 ∧ g12 < w'.heap.size ∧ g13 < w'.heap.size) ?_ ?_
      · refine WF.drawn (.q 0 (.q 1 (.q 2 (.q 3 (.q 4 (.q 5 (.q 6 (.q 7 (.q 8 (.q 9 (.q 10 (.b 11 12 (.l 12 (.l 13 .nil)) (.l 11 (.l 13 .nil)))))))))))))) (fun w' => Ext w13 w') 14 (by kernel_rfl) (by kernel_rfl) (Ext.drew _) ?_
        have := World.grownBy.size (Ext.drew w13)
        refine WO.q rfl rfl rfl rfl (fun w' hE24 => (X.loadOA hO10 hE24 (congrFun hF23 10) rfl Try.isAgg102 Try.sizeOf102)) ?_
        refine WO.q rfl rfl rfl rfl (fun w' hE24 => (X.moveI (congrFun hF23 1))) ?_
        refine WO.q rfl rfl rfl rfl (fun w' hE24 => (X.fieldAddrO (off := 1) (congrFun hF23 5) Try.underlying40 rfl rfl Try.sizeOf3)) ?_
        refine WO.q rfl rfl rfl rfl (fun w' hE24 => (X.loadO hO5 hE24 rfl rfl Try.isAgg3)) ?_
        refine WO.q rfl rfl rfl rfl (fun w' hE24 => (X.fieldAddrO (off := 9) (congrFun hF23 5) Try.underlying40 rfl rfl Try.sizeOf3)) ?_
        refine WO.q rfl rfl rfl rfl (fun w' hE24 => (X.loadO hO5 hE24 rfl rfl Try.isAgg3)) ?_
        refine WO.q rfl rfl rfl rfl (fun w' hE24 => (X.fieldAddrO (off := 10) (congrFun hF23 5) Try.underlying40 rfl rfl Try.sizeOf3)) ?_
        refine WO.q rfl rfl rfl rfl (fun w' hE24 => (X.loadO hO5 hE24 rfl rfl Try.isAgg3)) ?_
        refine WO.q rfl rfl rfl rfl (fun w' hE24 => (X.fieldAddrO (off := 11) (congrFun hF23 5) Try.underlying40 rfl rfl Try.sizeOf3)) ?_
        refine WO.q rfl rfl rfl rfl (fun w' hE24 => (X.loadO hO5 hE24 rfl rfl Try.isAgg3)) ?_
        refine WO.q rfl rfl rfl rfl (fun w' hE24 => (X.buildL (P := Try.prog) (t := 40) (cs := (Msg.bare (out0 id m))) (evp_cons rfl (evp_cons rfl (evp_cons rfl (evp_cons rfl (evp_cons rfl evp_nil))))) Try.type40 Try.underlying40 rfl rfl ⟨rfl, rfl, rfl, rfl, rfl, trivial⟩ rfl)) ?_
        refine WO.b2 ?_ ?_
        · refine LO.go rfl rfl (OW.allocO (cs := [i64 0, i64 0, i64 0, i64 0, i64 0]) Try.zeroValue102 rfl ?_ (by decide))
          intro g12 w25 heg12 hlg12 hO12 hx27
          have := World.grownBy.size hx27
          refine ⟨(Ext.trans (Ext.drew _) hx27), ?_⟩
          refine WO.l ?_
          refine LO.go rfl rfl (OW.allocO (cs := [i64 0, i64 0, i64 0, i64 0, i64 0, i64 0, i64 0, i64 0, i64 0, i64 0, i64 0, i64 0, i64 0, i64 0, .bool false, .slice none 0 0, .slice none 0 0]) Try.zeroValue40 rfl ?_ (by decide))
          intro g13 w29 heg13 hlg13 hO13 hx31
          have := World.grownBy.size hx31
          refine ⟨(Ext.trans (Ext.trans (Ext.drew _) hx27) hx31), ?_⟩
          refine WO.l ?_
          refine LO.go rfl rfl (OW.storeOA (hO12.ext hx31) rfl rfl rfl (Acc.c_one _) Try.sizeOf102 ?_)
          intro w33 hO12 hx35
          have := World.grownBy.size hx35
          replace hO5 := (hO5.ext (Ext.trans (Ext.trans (Ext.drew _) hx27) hx31)).keptO hx35 (by omega)
          replace oc := (oc.ext (Ext.trans (Ext.trans (Ext.drew _) hx27) hx31)).keptO hx35 (by omega)
          replace hO10 := (hO10.ext (Ext.trans (Ext.trans (Ext.drew _) hx27) hx31)).keptO hx35 (by omega)
          replace hO13 := hO13.keptO hx35 (by omega)
          replace hO12 : Blk _ _ _ was.c := hO12
          refine ⟨(Ext.trans (Ext.drew _) (Ext.store (Ext.trans hx27 hx31) hx35 (by omega))), ?_⟩
          refine WO.nil ?_
          refine WL.op rfl (OW.storeOA hO13 rfl rfl rfl (Msg.bare_one _) Try.sizeOf40 ?_)
          intro w37 hO13 hx39
          have := World.grownBy.size hx39
          replace hO5 := hO5.keptO hx39 (by omega)
          replace oc := oc.keptO hx39 (by omega)
          replace hO10 := hO10.keptO hx39 (by omega)
          replace hO12 := hO12.keptO hx39 (by omega)
          replace hO13 : Blk _ _ _ (Msg.bare (out0 id m)) := hO13
          refine WL.nil ?_
          refine thn_n ?_
          exact ⟨_, _, rfl, rfl, (by repeat (first | exact (Agree.refl _ F22) | refine Agree.put ?_ rfl | refine Agree.named hF23 ?_)), (Ext.trans (Ext.trans (Ext.trans (Ext.trans (Ext.trans hx2 hx5) hx8) (Ext.store hx11 hx15 (by omega))) (Ext.drew _)) (Ext.store (Ext.store (Ext.trans hx27 hx31) hx35 (by omega)) hx39 (by omega))), ⟨hO5, oc, hO10, hO12, hO13, (by omega), (by omega), (by omega), (by omega), (by omega)⟩⟩
        · refine LO.go rfl rfl (OW.allocO (cs := [i64 0, i64 0, i64 0, i64 0, i64 0, i64 0, i64 0, i64 0, i64 0, i64 0, i64 0, i64 0, i64 0, i64 0, .bool false, .slice none 0 0, .slice none 0 0]) Try.zeroValue40 rfl ?_ (by decide))
          intro g13 w41 heg13 hlg13 hO13 hx43
          have := World.grownBy.size hx43
          refine ⟨(Ext.trans (Ext.drew _) hx43), ?_⟩
          refine WO.l ?_
          refine LO.go rfl rfl (OW.allocO (cs := [i64 0, i64 0, i64 0, i64 0, i64 0]) Try.zeroValue102 rfl ?_ (by decide))
          intro g12 w45 heg12 hlg12 hO12 hx47
          have := World.grownBy.size hx47
          refine ⟨(Ext.trans (Ext.trans (Ext.drew _) hx43) hx47), ?_⟩
          refine WO.l ?_
          refine LO.go rfl rfl (OW.storeOA hO12 rfl rfl rfl (Acc.c_one _) Try.sizeOf102 ?_)
          intro w49 hO12 hx51
          have := World.grownBy.size hx51
          replace hO5 := (hO5.ext (Ext.trans (Ext.trans (Ext.drew _) hx43) hx47)).keptO hx51 (by omega)
          replace oc := (oc.ext (Ext.trans (Ext.trans (Ext.drew _) hx43) hx47)).keptO hx51 (by omega)
          replace hO10 := (hO10.ext (Ext.trans (Ext.trans (Ext.drew _) hx43) hx47)).keptO hx51 (by omega)
          replace hO13 := (hO13.ext hx47).keptO hx51 (by omega)
          replace hO12 : Blk _ _ _ was.c := hO12
          refine ⟨(Ext.trans (Ext.trans (Ext.drew _) hx43) (Ext.store hx47 hx51 (by omega))), ?_⟩
          refine WO.nil ?_
          refine WL.op rfl (OW.storeOA hO13 rfl rfl rfl (Msg.bare_one _) Try.sizeOf40 ?_)
          intro w53 hO13 hx55
          have := World.grownBy.size hx55
          replace hO5 := hO5.keptO hx55 (by omega)
          replace oc := oc.keptO hx55 (by omega)
          replace hO10 := hO10.keptO hx55 (by omega)
          replace hO12 := hO12.keptO hx55 (by omega)
          replace hO13 : Blk _ _ _ (Msg.bare (out0 id m)) := hO13
          refine WL.nil ?_
          refine thn_n ?_
          exact ⟨_, _, rfl, rfl, (by repeat (first | exact (Agree.refl _ F22) | refine Agree.put ?_ rfl | refine Agree.named hF23 ?_)), (Ext.trans (Ext.trans (Ext.trans (Ext.trans (Ext.trans hx2 hx5) hx8) (Ext.store hx11 hx15 (by omega))) (Ext.drew _)) (Ext.store (Ext.trans hx43 (Ext.store hx47 hx51 (by omega))) hx55 (by omega))), ⟨hO5, oc, hO10, hO12, hO13, (by omega), (by omega), (by omega), (by omega), (by omega)⟩⟩
      · rintro fCr5 wCr5 ⟨g12, g13, e12_Cr5, e13_Cr5, hACr5, hwCr5, ⟨hO5, oc, hO10, hO12, hO13, q1, q2, q3, q4, q5⟩⟩
        have := World.grownBy.size hwCr5
        refine WF.named (fun F57 hF58 => ?_)
        refine WF.cut (fun f' w' => Agree [0, 1, 2, 5, 9, 10, 11, 12, 13, 16, 17, 18, 19, 20, 21, 22, 23, 24, 25, 26, 27, 28, 29, 30, 31, 32, 33] f' F57 ∧ Ext w w' ∧ Blk w' g5 40 (m.c em dm) ∧ OwnT w' wb.heap.size wc.heap.size 102 5 vc l.length (l.flatMap Acc.c) ∧ Blk w' g10 102 was.c ∧ Blk w' g12 102 (stepA was id m).1.c ∧ Blk w' g13 40 (Msg.bare (stepA was id m).2) ∧ ¬ (may m = false ∨ (has = false ∧ 1024 ≤ l.length)) ∧ g12 < w'.heap.size ∧ g13 < w'.heap.size) ?_ ?_
        · refine WF.block ?_
          refine WF.seq ?_
          refine WF.region ?_
          refine WL.va rfl rfl rfl (X.fieldAddrO (off := 0) ((congrFun hF58 5).trans ((hACr5.eq 5).trans (congrFun hF23 5))) Try.underlying40 rfl rfl Try.sizeOf3) ?_
          refine WL.va rfl rfl rfl (X.loadO hO5 (Ext.refl _) rfl rfl Try.isAgg3) ?_
          refine WL.va rfl rfl rfl (X.eql rfl rfl) ?_
          refine WL.va rfl rfl rfl (X.assignB rfl) ?_
          refine WL.nil ?_
          refine thn_n ?_
          refine WF.cond rfl (fun h1_59 => ?_) (fun h1_59 => ?_)
          · have gh1_59 := (of_decide_eq_true h1_59)
            have hk8 := gh1_59
            have hsA : stepA was id m = stepP was m (out0 id m) := if_pos gh1_59
            have hmay : may m = true := by unfold may; simp [hk8]
            have hgo : ¬ (may m = false ∨ (has = false ∧ 1024 ≤ l.length)) := fun e => e.elim (by rw [hmay]; simp) hgo1
            refine WF.region ?_
            refine WL.va rfl rfl rfl (X.loadOA hO10 (Ext.refl _) ((congrFun hF58 10).trans ((hACr5.eq 10).trans (congrFun hF23 10))) rfl Try.isAgg102 Try.sizeOf102) ?_
            refine WL.va rfl rfl rfl (X.loadOA hO5 (Ext.refl _) ((congrFun hF58 5).trans ((hACr5.eq 5).trans (congrFun hF23 5))) rfl Try.isAgg40 Try.sizeOf40) ?_
            refine WL.va rfl rfl rfl (X.loadOA hO13 (Ext.refl _) ((congrFun hF58 13).trans e13_Cr5) rfl Try.isAgg40 Try.sizeOf40) ?_
            refine WL.c rfl rfl rfl (X.call Try.call52 (evl_cons rfl (evl_cons rfl (evl_cons rfl evl_nil)))) ((prepared_ok was m (out0 id m) em dm _).mono (fun r w2 h => (show r = .tuple #[agg (stepA was id m).1.c, agg (stepA was id m).2.bare] ∧ Ext wCr5 w2 from by rw [hsA]; exact h))) ?_
            rintro v62 w61 ⟨rfl, hx63⟩
            have := World.grownBy.size hx63
            refine WL.va rfl rfl rfl (X.move rfl) ?_
            refine WL.va rfl rfl rfl (X.extract rfl rfl) ?_
            refine WL.va rfl rfl rfl (X.extract rfl rfl) ?_
            refine WL.op rfl (OW.storeOA (hO12.ext hx63) ((congrFun hF58 12).trans e12_Cr5) rfl rfl (Acc.c_one _) Try.sizeOf102 ?_)
            intro w65 hO12 hx67
            have := World.grownBy.size hx67
            replace hO5 := (hO5.ext hx63).keptO hx67 (by omega)
            replace oc := (oc.ext hx63).keptO hx67 (by omega)
            replace hO10 := (hO10.ext hx63).keptO hx67 (by omega)
            replace hO13 := (hO13.ext hx63).keptO hx67 (by omega)
            replace hO12 : Blk _ _ _ (stepA was id m).1.c := hO12
            refine WL.op rfl (OW.storeOA hO13 ((congrFun hF58 13).trans e13_Cr5) rfl rfl (Msg.bare_one _) Try.sizeOf40 ?_)
            intro w69 hO13 hx71
            have := World.grownBy.size hx71
            replace hO5 := hO5.keptO hx71 (by omega)
            replace oc := oc.keptO hx71 (by omega)
            replace hO10 := hO10.keptO hx71 (by omega)
            replace hO12 := hO12.keptO hx71 (by omega)
            replace hO13 : Blk _ _ _ (Msg.bare (stepA was id m).2) := hO13
            refine WL.nil ?_
            refine blk_n ?_
            refine thn_n ?_
            exact ⟨(by repeat (first | exact (Agree.refl _ F57) | refine Agree.put ?_ rfl | refine Agree.sub hACr5 rfl ?_ | refine Agree.named hF58 ?_ | refine Agree.named hF23 ?_)), (Ext.store (Ext.store (Ext.trans hwCr5 hx63) hx67 (by omega)) hx71 (by omega)), ⟨hO5, oc, hO10, hO12, hO13, hgo, (by omega), (by omega)⟩⟩
          · have gh1_59 := (of_decide_eq_false h1_59)
            have hk8 := gh1_59
            have hsA : stepA was id m = stepO was m (out0 id m) := if_neg gh1_59
            refine WF.seq ?_
            refine WF.region ?_
            refine WL.va rfl rfl rfl (X.fieldAddrO (off := 0) ((congrFun hF58 5).trans ((hACr5.eq 5).trans (congrFun hF23 5))) Try.underlying40 rfl rfl Try.sizeOf3) ?_
            refine WL.va rfl rfl rfl (X.loadO hO5 (Ext.refl _) rfl rfl Try.isAgg3) ?_
            refine WL.va rfl rfl rfl (X.eql rfl rfl) ?_
            refine WL.va rfl rfl rfl (X.moveB rfl) ?_
            refine WL.split (j := 3) rfl (fun h74 => ?_) (fun h74 => ?_)
            · have gh74 := (of_decide_eq_true h74)
              have hk10 := gh74
              refine WL.vg rfl (congrArg some h74) rfl rfl (X.fieldAddrO (off := 12) ((congrFun hF58 5).trans ((hACr5.eq 5).trans (congrFun hF23 5))) Try.underlying40 rfl rfl Try.sizeOf3) ?_
              refine WL.vg rfl (congrArg some h74) rfl rfl (X.loadO hO5 (Ext.refl _) rfl rfl Try.isAgg3) ?_
              refine WL.vg rfl (congrArg some h74) rfl rfl (X.eql rfl rfl) ?_
              refine WL.vg rfl (congrArg some h74) rfl rfl (X.moveB rfl) ?_
              refine WL.split (j := 7) rfl (fun h76 => ?_) (fun h76 => ?_)
              · have gh76 := (of_decide_eq_true h76)
                have hmay : may m = true := by unfold may; simp [hk8, hk10, gh76]
                refine WL.p rfl rfl rfl (congrArg some h76) ?_
                refine WL.p rfl rfl rfl (congrArg some h76) ?_
                refine WL.p rfl rfl rfl (congrArg some h76) ?_
                refine WL.vg rfl (congrArg some h74) rfl rfl (X.pickT rfl h76 rfl) ?_
                refine WL.va rfl rfl rfl (X.pickT rfl h74 rfl) ?_
                refine WL.va rfl rfl rfl (X.assignB rfl) ?_
                refine WL.nil ?_
                refine thn_n ?_
                refine WF.cond_t rfl ?_
                refine WF.region ?_
                have hgo : ¬ (may m = false ∨ (has = false ∧ 1024 ≤ l.length)) := fun e => e.elim (by rw [hmay]; simp) hgo1
                refine WL.va rfl rfl rfl (X.loadOA hO10 (Ext.refl _) ((congrFun hF58 10).trans ((hACr5.eq 10).trans (congrFun hF23 10))) rfl Try.isAgg102 Try.sizeOf102) ?_
                refine WL.va rfl rfl rfl (X.loadOA hO5 (Ext.refl _) ((congrFun hF58 5).trans ((hACr5.eq 5).trans (congrFun hF23 5))) rfl Try.isAgg40 Try.sizeOf40) ?_
                refine WL.va rfl rfl rfl (X.loadOA hO13 (Ext.refl _) ((congrFun hF58 13).trans e13_Cr5) rfl Try.isAgg40 Try.sizeOf40) ?_
                refine WL.c rfl rfl rfl (X.call Try.call53 (evl_cons rfl (evl_cons rfl (evl_cons rfl evl_nil)))) ((proposed_ok was m (out0 id m) em dm _ hmT).mono (fun r w2 h => (show r = .tuple #[agg (stepA was id m).1.c, agg (stepA was id m).2.bare] ∧ Ext wCr5 w2 from by rw [hsA]; exact h))) ?_
                rintro v79 w78 ⟨rfl, hx80⟩
                have := World.grownBy.size hx80
                refine WL.va rfl rfl rfl (X.move rfl) ?_
                refine WL.va rfl rfl rfl (X.extract rfl rfl) ?_
                refine WL.va rfl rfl rfl (X.extract rfl rfl) ?_
                refine WL.op rfl (OW.storeOA (hO12.ext hx80) ((congrFun hF58 12).trans e12_Cr5) rfl rfl (Acc.c_one _) Try.sizeOf102 ?_)
                intro w81 hO12 hx83
                have := World.grownBy.size hx83
                replace hO5 := (hO5.ext hx80).keptO hx83 (by omega)
                replace oc := (oc.ext hx80).keptO hx83 (by omega)
                replace hO10 := (hO10.ext hx80).keptO hx83 (by omega)
                replace hO13 := (hO13.ext hx80).keptO hx83 (by omega)
                replace hO12 : Blk _ _ _ (stepA was id m).1.c := hO12
                refine WL.op rfl (OW.storeOA hO13 ((congrFun hF58 13).trans e13_Cr5) rfl rfl (Msg.bare_one _) Try.sizeOf40 ?_)
                intro w85 hO13 hx87
                have := World.grownBy.size hx87
                replace hO5 := hO5.keptO hx87 (by omega)
                replace oc := oc.keptO hx87 (by omega)
                replace hO10 := hO10.keptO hx87 (by omega)
                replace hO12 := hO12.keptO hx87 (by omega)
                replace hO13 : Blk _ _ _ (Msg.bare (stepA was id m).2) := hO13
                refine WL.nil ?_
                refine blk_n ?_
                refine thn_n ?_
                exact ⟨(by repeat (first | exact (Agree.refl _ F57) | refine Agree.put ?_ rfl | refine Agree.sub hACr5 rfl ?_ | refine Agree.named hF58 ?_ | refine Agree.named hF23 ?_)), (Ext.store (Ext.store (Ext.trans hwCr5 hx80) hx83 (by omega)) hx87 (by omega)), ⟨hO5, oc, hO10, hO12, hO13, hgo, (by omega), (by omega)⟩⟩
              · have gh76 := (of_decide_eq_false h76)
                have hv1 := gh76
                refine WL.vg rfl (congrArg some h76) rfl rfl (X.fieldAddrO (off := 12) ((congrFun hF58 5).trans ((hACr5.eq 5).trans (congrFun hF23 5))) Try.underlying40 rfl rfl Try.sizeOf3) ?_
                refine WL.vg rfl (congrArg some h76) rfl rfl (X.loadO hO5 (Ext.refl _) rfl rfl Try.isAgg3) ?_
                refine WL.vg rfl (congrArg some h76) rfl rfl (X.eql rfl rfl) ?_
                refine WL.vg rfl (congrArg some h74) rfl rfl (X.pickF rfl h76 rfl) ?_
                refine WL.va rfl rfl rfl (X.pickT rfl h74 rfl) ?_
                refine WL.va rfl rfl rfl (X.assignB rfl) ?_
                refine WL.nil ?_
                refine thn_n ?_
                refine WF.cond rfl (fun h2_89 => ?_) (fun h2_89 => ?_)
                · have gh2_89 := (of_decide_eq_true h2_89)
                  have hmay : may m = true := by unfold may; simp [hk8, hk10, gh2_89]
                  refine WF.region ?_
                  have hgo : ¬ (may m = false ∨ (has = false ∧ 1024 ≤ l.length)) := fun e => e.elim (by rw [hmay]; simp) hgo1
                  refine WL.va rfl rfl rfl (X.loadOA hO10 (Ext.refl _) ((congrFun hF58 10).trans ((hACr5.eq 10).trans (congrFun hF23 10))) rfl Try.isAgg102 Try.sizeOf102) ?_
                  refine WL.va rfl rfl rfl (X.loadOA hO5 (Ext.refl _) ((congrFun hF58 5).trans ((hACr5.eq 5).trans (congrFun hF23 5))) rfl Try.isAgg40 Try.sizeOf40) ?_
                  refine WL.va rfl rfl rfl (X.loadOA hO13 (Ext.refl _) ((congrFun hF58 13).trans e13_Cr5) rfl Try.isAgg40 Try.sizeOf40) ?_
                  refine WL.c rfl rfl rfl (X.call Try.call53 (evl_cons rfl (evl_cons rfl (evl_cons rfl evl_nil)))) ((proposed_ok was m (out0 id m) em dm _ hmT).mono (fun r w2 h => (show r = .tuple #[agg (stepA was id m).1.c, agg (stepA was id m).2.bare] ∧ Ext wCr5 w2 from by rw [hsA]; exact h))) ?_
                  rintro v92 w91 ⟨rfl, hx93⟩
                  have := World.grownBy.size hx93
                  refine WL.va rfl rfl rfl (X.move rfl) ?_
                  refine WL.va rfl rfl rfl (X.extract rfl rfl) ?_
                  refine WL.va rfl rfl rfl (X.extract rfl rfl) ?_
                  refine WL.op rfl (OW.storeOA (hO12.ext hx93) ((congrFun hF58 12).trans e12_Cr5) rfl rfl (Acc.c_one _) Try.sizeOf102 ?_)
                  intro w94 hO12 hx96
                  have := World.grownBy.size hx96
                  replace hO5 := (hO5.ext hx93).keptO hx96 (by omega)
                  replace oc := (oc.ext hx93).keptO hx96 (by omega)
                  replace hO10 := (hO10.ext hx93).keptO hx96 (by omega)
                  replace hO13 := (hO13.ext hx93).keptO hx96 (by omega)
                  replace hO12 : Blk _ _ _ (stepA was id m).1.c := hO12
                  refine WL.op rfl (OW.storeOA hO13 ((congrFun hF58 13).trans e13_Cr5) rfl rfl (Msg.bare_one _) Try.sizeOf40 ?_)
                  intro w98 hO13 hx100
                  have := World.grownBy.size hx100
                  replace hO5 := hO5.keptO hx100 (by omega)
                  replace oc := oc.keptO hx100 (by omega)
                  replace hO10 := hO10.keptO hx100 (by omega)
                  replace hO12 := hO12.keptO hx100 (by omega)
                  replace hO13 : Blk _ _ _ (Msg.bare (stepA was id m).2) := hO13
                  refine WL.nil ?_
                  refine blk_n ?_
                  refine thn_n ?_
                  exact ⟨(by repeat (first | exact (Agree.refl _ F57) | refine Agree.put ?_ rfl | refine Agree.sub hACr5 rfl ?_ | refine Agree.named hF58 ?_ | refine Agree.named hF23 ?_)), (Ext.store (Ext.store (Ext.trans hwCr5 hx93) hx96 (by omega)) hx100 (by omega)), ⟨hO5, oc, hO10, hO12, hO13, hgo, (by omega), (by omega)⟩⟩
                · have gh2_89 := (of_decide_eq_false h2_89)
                  have hmay : may m = false := by unfold may; simp [hk8, hk10, hv1, gh2_89]
                  refine WF.seq ?_
                  refine WF.region ?_
                  refine WL.va rfl rfl rfl (X.move ((congrFun hF58 9).trans ((hACr5.eq 9).trans (congrFun hF23 9)))) ?_
                  refine WL.va rfl rfl rfl (X.assign rfl) ?_
                  refine WL.va rfl rfl rfl (X.assign rfl) ?_
                  refine WL.va rfl rfl rfl (X.assignB rfl) ?_
                  refine WL.nil ?_
                  refine thn_n ?_
                  refine WF.ret ?_
                  refine blk_r ?_
                  refine thn_r ?_
                  refine fin_r ?_
                  rw [takeA_none hf (.inl hmay)]; exact ⟨⟨_, _, rfl, own_mono oc.own szw, OwnM.nil _ _ _, fun k hk hk2 => by cases hk2⟩, hwCr5⟩
            · have gh74 := (of_decide_eq_false h74)
              have hmay : may m = false := by unfold may; simp [hk8, gh74]
              refine WL.p rfl rfl rfl (congrArg some h74) ?_
              refine WL.p rfl rfl rfl (congrArg some h74) ?_
              refine WL.p rfl rfl rfl (congrArg some h74) ?_
              refine WL.p rfl rfl rfl (congrArg some h74) ?_
              refine WL.pn rfl rfl rfl rfl ?_
              refine WL.pn rfl rfl rfl rfl ?_
              refine WL.pn rfl rfl rfl rfl ?_
              refine WL.p rfl rfl rfl (congrArg some h74) ?_
              refine WL.va rfl rfl rfl (X.pickF rfl h74 rfl) ?_
              refine WL.va rfl rfl rfl (X.assignB rfl) ?_
              refine WL.nil ?_
              refine thn_n ?_
              refine WF.cond_f rfl ?_
              refine WF.seq ?_
              refine WF.region ?_
              refine WL.va rfl rfl rfl (X.move ((congrFun hF58 9).trans ((hACr5.eq 9).trans (congrFun hF23 9)))) ?_
              refine WL.va rfl rfl rfl (X.assign rfl) ?_
              refine WL.va rfl rfl rfl (X.assign rfl) ?_
              refine WL.va rfl rfl rfl (X.assignB rfl) ?_
              refine WL.nil ?_
              refine thn_n ?_
              refine WF.ret ?_
              refine blk_r ?_
              refine thn_r ?_
              refine fin_r ?_
              rw [takeA_none hf (.inl hmay)]; exact ⟨⟨_, _, rfl, own_mono oc.own szw, OwnM.nil _ _ _, fun k hk hk2 => by cases hk2⟩, hwCr5⟩
        · rintro fCb0 wCb0 ⟨hACb0, hwCb0, ⟨hO5, oc, hO10, hO12, hO13, hgo, q4, q5⟩⟩
          have := World.grownBy.size hwCb0
          refine WF.named (fun F105 hF106 => ?_)
          refine WF.cut (fun f' w' => ∃ (vv : Value) (L : List Acc) (b : Bool) (T : Nat), f' 9 = vv ∧ Agree [0, 1, 2, 5, 10, 11, 12, 13, 16, 17, 18, 19, 20, 21, 22, 23, 24, 25, 26, 27, 28, 29, 30, 31, 32, 33] f' F105 ∧ Ext w w' ∧ OwnT w' wb.heap.size T 102 5 vv L.length (L.flatMap Acc.c) ∧ T ≤ w'.heap.size ∧ Blk w' g10 102 was.c ∧ Blk w' g12 102 (stepA was id m).1.c ∧ Blk w' g13 40 (Msg.bare (stepA was id m).2) ∧ takeA l id m = (L, [(stepA was id m).2], b) ∧ decide ((stepA was id m).1 = was) = !b) ?_ ?_
          · refine WF.block ?_
            refine WF.seq ?_
            refine WF.region ?_
            refine WL.va rfl rfl rfl (X.loadOA hO12 (Ext.refl _) ((congrFun hF106 12).trans ((hACb0.eq 12).trans ((congrFun hF58 12).trans e12_Cr5))) rfl Try.isAgg102 Try.sizeOf102) ?_
            refine WL.va rfl rfl rfl (X.loadOA hO10 (Ext.refl _) ((congrFun hF106 10).trans ((hACb0.eq 10).trans ((congrFun hF58 10).trans ((hACr5.eq 10).trans (congrFun hF23 10))))) rfl Try.isAgg102 Try.sizeOf102) ?_
            refine WL.va rfl rfl rfl (X.eqlA (na := (stepA was id m).1.ints) (nb := was.ints) flatV fieldsV offsV rfl rfl rfl rfl (Acc.eqB _ _)) ?_
            refine WL.va rfl rfl rfl (X.assignB rfl) ?_
            refine WL.nil ?_
            refine thn_n ?_
            refine WF.cond rfl (fun h3_107 => ?_) (fun h3_107 => ?_)
            · have gh3_107 := h3_107
              have hsm : (stepA was id m).1 = was := of_decide_eq_true gh3_107
              have hT : takeA l id m = (l, [(stepA was id m).2], false) := takeA_same hf hgo hsm
              have ov := oc
              have hbb : decide ((stepA was id m).1 = was) = true := gh3_107
              refine WF.skip ?_
              refine blk_n ?_
              refine thn_n ?_
              exact ⟨_, _, _, _, ((congrFun hF106 9).trans ((hACb0.eq 9).trans ((congrFun hF58 9).trans ((hACr5.eq 9).trans (congrFun hF23 9))))), (by repeat (first | exact (Agree.refl _ F105) | refine Agree.put ?_ rfl | refine Agree.sub hACb0 rfl ?_ | refine Agree.sub hACr5 rfl ?_ | refine Agree.named hF106 ?_ | refine Agree.named hF58 ?_ | refine Agree.named hF23 ?_)), hwCb0, ⟨ov, (by omega), hO10, hO12, hO13, hT, hbb⟩⟩
            · have gh3_107 := h3_107
              have hnew : ¬ (stepA was id m).1 = was := of_decide_eq_false gh3_107
              have hbb : decide ((stepA was id m).1 = was) = false := gh3_107
              refine WF.seq ?_
              refine WF.region ?_
              refine WL.va rfl rfl rfl (X.moveB ((congrFun hF106 11).trans ((hACb0.eq 11).trans ((congrFun hF58 11).trans ((hACr5.eq 11).trans (congrFun hF23 11)))))) ?_
              refine WL.va rfl rfl rfl (X.assignB rfl) ?_
              refine WL.nil ?_
              refine thn_n ?_
              refine WF.cond rfl (fun h4_108 => ?_) (fun h4_108 => ?_)
              · have gh4_108 := h4_108
                have hhas : has = true := gh4_108
                refine WF.drawn (.q 0 (.q 1 (.q 2 (.q 3 (.q 4 (.q 5 (.q 7 (.l 6 (.q 8 .nil))))))))) (fun w' => Ext wCb0 w') 9 (by kernel_rfl) (by kernel_rfl) (Ext.drew _) ?_
                have := World.grownBy.size (Ext.drew wCb0)
                refine WO.q rfl rfl rfl rfl (fun w' hE110 => (X.move ((congrFun hF106 9).trans ((hACb0.eq 9).trans ((congrFun hF58 9).trans ((hACr5.eq 9).trans (congrFun hF23 9))))))) ?_
                refine WO.q rfl rfl rfl rfl (fun w' hE110 => (X.move ((congrFun hF106 0).trans ((hACb0.eq 0).trans ((congrFun hF58 0).trans ((hACr5.eq 0).trans (congrFun hF23 0))))))) ?_
                refine WO.q rfl rfl rfl rfl (fun w' hE110 => (X.fieldAddrO (off := 9) ((congrFun hF106 5).trans ((hACb0.eq 5).trans ((congrFun hF58 5).trans ((hACr5.eq 5).trans (congrFun hF23 5))))) Try.underlying40 rfl rfl Try.sizeOf3)) ?_
                refine WO.q rfl rfl rfl rfl (fun w' hE110 => (X.loadO hO5 hE110 rfl rfl Try.isAgg3)) ?_
                refine WO.q rfl rfl rfl rfl (fun w' hE110 => (X.fieldAddrO (off := 10) ((congrFun hF106 5).trans ((hACb0.eq 5).trans ((congrFun hF58 5).trans ((hACr5.eq 5).trans (congrFun hF23 5))))) Try.underlying40 rfl rfl Try.sizeOf3)) ?_
                refine WO.q rfl rfl rfl rfl (fun w' hE110 => (X.loadO hO5 hE110 rfl rfl Try.isAgg3)) ?_
                refine WO.q rfl rfl rfl rfl (fun w' hE110 => (X.loadOA hO12 hE110 ((congrFun hF106 12).trans ((hACb0.eq 12).trans ((congrFun hF58 12).trans e12_Cr5))) rfl Try.isAgg102 Try.sizeOf102)) ?_
                refine WO.l ?_
                refine LO.go rfl rfl (OW.enter rfl (by decide) (X.call Try.call54 (evl_cons rfl (evl_cons rfl (evl_cons rfl evl_nil)))) (findI_ok _ _ _ _ _ (Row.ext hv (Ext.trans hwCb0 (Ext.drew _)))) ?_)
                rintro v112 w111 ⟨⟨z, rfl, hz⟩, hx113⟩
                have := World.grownBy.size hx113
                refine ⟨(Ext.trans (Ext.drew _) hx113), ?_⟩
                rw [hhas] at hf
                obtain ⟨k, rfl, hk, hset⟩ := find_idx hf hz
                have hkey := findA_key l m.Txn m.Part
                rw [hf] at hkey
                have hkey2 := stepA_key was id m
                refine WO.q rfl rfl rfl rfl (fun w' hE110 => (X.idx (oc.rd) rfl rfl (by omega) Try.underlying59 Try.sizeOf102)) ?_
                refine WO.nil ?_
                refine WL.op rfl (OW.storeEl (ds := (Acc.c (stepA was id m).1)) (oc.ext (Ext.trans (Ext.drew _) hx113)).own hk rfl rfl rfl (Acc.c_one _) Try.sizeOf102 ?_)
                intro w114 ho117 hx116
                have := World.grownBy.size hx116
                replace hO5 := (hO5.ext (Ext.trans (Ext.drew _) hx113)).keptR hx116 (fun b hb => by have h1 := ((oc.ext (Ext.trans (Ext.drew _) hx113)).own.lt b hb).1; have h2 := (oc.ext (Ext.trans (Ext.drew _) hx113)).top b hb; omega)
                replace hO10 := (hO10.ext (Ext.trans (Ext.drew _) hx113)).keptR hx116 (fun b hb => by have h1 := ((oc.ext (Ext.trans (Ext.drew _) hx113)).own.lt b hb).1; have h2 := (oc.ext (Ext.trans (Ext.drew _) hx113)).top b hb; omega)
                replace hO12 := (hO12.ext (Ext.trans (Ext.drew _) hx113)).keptR hx116 (fun b hb => by have h1 := ((oc.ext (Ext.trans (Ext.drew _) hx113)).own.lt b hb).1; have h2 := (oc.ext (Ext.trans (Ext.drew _) hx113)).top b hb; omega)
                replace hO13 := (hO13.ext (Ext.trans (Ext.drew _) hx113)).keptR hx116 (fun b hb => by have h1 := ((oc.ext (Ext.trans (Ext.drew _) hx113)).own.lt b hb).1; have h2 := (oc.ext (Ext.trans (Ext.drew _) hx113)).top b hb; omega)
                have oV : OwnV _ _ _ _ _ := OwnV.set hk ho117
                have ov : OwnT w114 _ _ _ _ _ _ _ := ⟨oV, oc.top⟩
                have hT : takeA l id m = (l.set k (stepA was id m).1, [(stepA was id m).2], true) := by rw [takeA_new (by rw [hhas]; exact hf) hgo hnew, hhas, ← hset _ (by rw [hkey2.1]; exact hkey.1) (by rw [hkey2.2]; exact hkey.2)]; rfl
                refine WL.nil ?_
                refine blk_n ?_
                refine thn_n ?_
                exact ⟨_, _, _, _, ((congrFun hF106 9).trans ((hACb0.eq 9).trans ((congrFun hF58 9).trans ((hACr5.eq 9).trans (congrFun hF23 9))))), (by repeat (first | exact (Agree.refl _ F105) | refine Agree.put ?_ rfl | refine Agree.sub hACb0 rfl ?_ | refine Agree.sub hACr5 rfl ?_ | refine Agree.named hF106 ?_ | refine Agree.named hF58 ?_ | refine Agree.named hF23 ?_)), (Ext.own (Ext.trans (Ext.trans hwCb0 (Ext.drew _)) hx113) (oc.ext (Ext.trans (Ext.drew _) hx113)).own szw hx116), ⟨ov, (by omega), hO10, hO12, hO13, hT, hbb⟩⟩
              · have gh4_108 := h4_108
                have hhas : has = false := gh4_108
                refine WF.seq ?_
                refine WF.region ?_
                refine WL.va rfl rfl rfl (X.makeFunc (evl_cons ((congrFun hF106 12).trans ((hACb0.eq 12).trans ((congrFun hF58 12).trans e12_Cr5))) evl_nil)) ?_
                refine WL.va rfl rfl rfl (X.assign rfl) ?_
                refine WL.nil ?_
                refine thn_n ?_
                refine WF.seq ?_
                refine WF.region ?_
                refine WL.va rfl rfl rfl (X.move ((congrFun hF106 9).trans ((hACb0.eq 9).trans ((congrFun hF58 9).trans ((hACr5.eq 9).trans (congrFun hF23 9)))))) ?_
                refine WL.va rfl rfl rfl (X.move rfl) ?_
                have hclo : ∀ k w1, k < l.length → Ext wCb0 w1 → CloOk Try.prog (.func (.func 55) #[] [at_ g12].toArray) [agg (el (l.flatMap Acc.c) 5 k)] w1 (fun r w2 => r = .bool (behind (l.getD k default) (stepA was id m).1) ∧ Ext w1 w2) := fun k w1 hk hx => ⟨_, _, rfl, Try.call55, (by rw [show el (l.flatMap Acc.c) 5 k = (l[k]'hk).c from Votes.el hk, show l.getD k default = l[k]'hk from by simp [hk]]; exact takeLit_ok _ _ _ _ (hO12.ext hx))⟩
                refine WL.c rfl rfl rfl (X.call Try.call58 (evl_cons rfl (evl_cons rfl evl_nil))) (indexV_ok _ _ _ _ (fun k => behind (l.getD k default) (stepA was id m).1) _ oc.rd hclo) ?_
                rintro v119 w118 ⟨⟨z, rfl, hz⟩, hx120⟩
                have := World.grownBy.size hx120
                refine WL.va rfl rfl rfl (X.assignI rfl) ?_
                refine WL.nil ?_
                refine thn_n ?_
                refine WF.seq ?_
                refine WF.seq ?_
                refine WF.region ?_
                refine WL.va rfl rfl rfl (X.moveI rfl) ?_
                refine WL.va rfl rfl rfl (X.lss rfl rfl) ?_
                refine WL.nil ?_
                refine thn_n ?_
                refine WF.cond rfl (fun h5_121 => ?_) (fun h5_121 => ?_)
                · have gh5_121 := (of_decide_eq_true h5_121)
                  obtain ⟨i, rfl, hin, hins⟩ := ins_none hz (by omega)
                  refine WF.region ?_
                  refine WL.va rfl rfl rfl (X.move ((congrFun hF106 9).trans ((hACb0.eq 9).trans ((congrFun hF58 9).trans ((hACr5.eq 9).trans (congrFun hF23 9)))))) ?_
                  refine WL.va rfl rfl rfl (X.len (oc.rd) rfl Try.underlying59) ?_
                  refine WL.va rfl rfl rfl (X.assignI rfl) ?_
                  refine WL.nil ?_
                  refine thn_n ?_
                  refine WF.region ?_
                  refine WL.va rfl rfl rfl (X.move ((congrFun hF106 9).trans ((hACb0.eq 9).trans ((congrFun hF58 9).trans ((hACr5.eq 9).trans (congrFun hF23 9)))))) ?_
                  refine WL.va rfl rfl rfl (X.moveI rfl) ?_
                  refine WL.va rfl rfl rfl (X.loadOA hO12 hx120 ((congrFun hF106 12).trans ((hACb0.eq 12).trans ((congrFun hF58 12).trans e12_Cr5))) rfl Try.isAgg102 Try.sizeOf102) ?_
                  refine WL.op rfl (OW.lits (vs := [agg (stepA was id m).1.c]) (evp_cons rfl evp_nil) Try.underlying59 Try.sizeOf102 Try.zeroValue102 ⟨rfl, trivial⟩ rfl rfl rfl ?_ (by decide))
                  intro v15 w123 ho125 hx124
                  have := World.grownBy.size hx124
                  have o15 : OwnV w123 _ _ v15 [(stepA was id m).1] := ho125
                  refine WL.c rfl rfl rfl (X.call Try.call59 (evl_cons rfl (evl_cons rfl (evl_cons rfl evl_nil)))) (insertV_ok _ _ _ _ l.length _ _ _ _ (oc.ext (Ext.trans hx120 hx124)).own o15 (OwnT.apart oc o15 (by omega)).symm votes_one (Acc.c_one _) hin (by omega) (by omega)) ?_
                  rintro vi w126 ⟨oi, hx127⟩
                  have := World.grownBy.size hx127
                  replace hO5 := (hO5.ext (Ext.trans hx120 hx124)).keptR hx127 (fun b hb => by have h1 := ((oc.ext (Ext.trans hx120 hx124)).own.lt b hb).1; have h2 := (oc.ext (Ext.trans hx120 hx124)).top b hb; omega)
                  replace hO10 := (hO10.ext (Ext.trans hx120 hx124)).keptR hx127 (fun b hb => by have h1 := ((oc.ext (Ext.trans hx120 hx124)).own.lt b hb).1; have h2 := (oc.ext (Ext.trans hx120 hx124)).top b hb; omega)
                  replace hO12 := (hO12.ext (Ext.trans hx120 hx124)).keptR hx127 (fun b hb => by have h1 := ((oc.ext (Ext.trans hx120 hx124)).own.lt b hb).1; have h2 := (oc.ext (Ext.trans hx120 hx124)).top b hb; omega)
                  replace hO13 := (hO13.ext (Ext.trans hx120 hx124)).keptR hx127 (fun b hb => by have h1 := ((oc.ext (Ext.trans hx120 hx124)).own.lt b hb).1; have h2 := (oc.ext (Ext.trans hx120 hx124)).top b hb; omega)
                  have oV : OwnV w126 _ _ vi _ := OwnV.ins hin oi
                  rw [← hins] at oV
                  have ov := OwnT.of oV
                  have hT : takeA l id m = (insV l (stepA was id m).1, [(stepA was id m).2], true) := by rw [takeA_new hf hgo hnew, hhas]; rfl
                  refine WL.va rfl rfl rfl (X.assign rfl) ?_
                  refine WL.nil ?_
                  refine blk_n ?_
                  refine thn_n ?_
                  exact ⟨_, _, _, _, rfl, (by repeat (first | exact (Agree.refl _ F105) | refine Agree.put ?_ rfl | refine Agree.sub hACb0 rfl ?_ | refine Agree.sub hACr5 rfl ?_ | refine Agree.named hF106 ?_ | refine Agree.named hF58 ?_ | refine Agree.named hF23 ?_)), (Ext.own (Ext.trans (Ext.trans hwCb0 hx120) hx124) (oc.ext (Ext.trans hx120 hx124)).own szw hx127), ⟨ov, (by omega), hO10, hO12, hO13, hT, hbb⟩⟩
                · have gh5_121 := (of_decide_eq_false h5_121)
                  obtain ⟨i, rfl, hin, hins⟩ := ins_idx hz (by omega)
                  refine WF.skip ?_
                  refine thn_n ?_
                  refine WF.region ?_
                  refine WL.va rfl rfl rfl (X.move ((congrFun hF106 9).trans ((hACb0.eq 9).trans ((congrFun hF58 9).trans ((hACr5.eq 9).trans (congrFun hF23 9)))))) ?_
                  refine WL.va rfl rfl rfl (X.moveI rfl) ?_
                  refine WL.va rfl rfl rfl (X.loadOA hO12 hx120 ((congrFun hF106 12).trans ((hACb0.eq 12).trans ((congrFun hF58 12).trans e12_Cr5))) rfl Try.isAgg102 Try.sizeOf102) ?_
                  refine WL.op rfl (OW.lits (vs := [agg (stepA was id m).1.c]) (evp_cons rfl evp_nil) Try.underlying59 Try.sizeOf102 Try.zeroValue102 ⟨rfl, trivial⟩ rfl rfl rfl ?_ (by decide))
                  intro v15 w128 ho130 hx129
                  have := World.grownBy.size hx129
                  have o15 : OwnV w128 _ _ v15 [(stepA was id m).1] := ho130
                  refine WL.c rfl rfl rfl (X.call Try.call59 (evl_cons rfl (evl_cons rfl (evl_cons rfl evl_nil)))) (insertV_ok _ _ _ _ l.length _ _ _ _ (oc.ext (Ext.trans hx120 hx129)).own o15 (OwnT.apart oc o15 (by omega)).symm votes_one (Acc.c_one _) hin (by omega) (by omega)) ?_
                  rintro vi w131 ⟨oi, hx132⟩
                  have := World.grownBy.size hx132
                  replace hO5 := (hO5.ext (Ext.trans hx120 hx129)).keptR hx132 (fun b hb => by have h1 := ((oc.ext (Ext.trans hx120 hx129)).own.lt b hb).1; have h2 := (oc.ext (Ext.trans hx120 hx129)).top b hb; omega)
                  replace hO10 := (hO10.ext (Ext.trans hx120 hx129)).keptR hx132 (fun b hb => by have h1 := ((oc.ext (Ext.trans hx120 hx129)).own.lt b hb).1; have h2 := (oc.ext (Ext.trans hx120 hx129)).top b hb; omega)
                  replace hO12 := (hO12.ext (Ext.trans hx120 hx129)).keptR hx132 (fun b hb => by have h1 := ((oc.ext (Ext.trans hx120 hx129)).own.lt b hb).1; have h2 := (oc.ext (Ext.trans hx120 hx129)).top b hb; omega)
                  replace hO13 := (hO13.ext (Ext.trans hx120 hx129)).keptR hx132 (fun b hb => by have h1 := ((oc.ext (Ext.trans hx120 hx129)).own.lt b hb).1; have h2 := (oc.ext (Ext.trans hx120 hx129)).top b hb; omega)
                  have oV : OwnV w131 _ _ vi _ := OwnV.ins hin oi
                  rw [← hins] at oV
                  have ov := OwnT.of oV
                  have hT : takeA l id m = (insV l (stepA was id m).1, [(stepA was id m).2], true) := by rw [takeA_new hf hgo hnew, hhas]; rfl
                  refine WL.va rfl rfl rfl (X.assign rfl) ?_
                  refine WL.nil ?_
                  refine blk_n ?_
                  refine thn_n ?_
                  exact ⟨_, _, _, _, rfl, (by repeat (first | exact (Agree.refl _ F105) | refine Agree.put ?_ rfl | refine Agree.sub hACb0 rfl ?_ | refine Agree.sub hACr5 rfl ?_ | refine Agree.named hF106 ?_ | refine Agree.named hF58 ?_ | refine Agree.named hF23 ?_)), (Ext.own (Ext.trans (Ext.trans hwCb0 hx120) hx129) (oc.ext (Ext.trans hx120 hx129)).own szw hx132), ⟨ov, (by omega), hO10, hO12, hO13, hT, hbb⟩⟩
          · rintro fCb1 wCb1 ⟨vv, L, b, T, e9_Cb1, hACb1, hwCb1, ⟨ov, hTT, hO10, hO12, hO13, hT, hbb⟩⟩
            have := World.grownBy.size hwCb1
            refine WF.seq ?_
            refine WF.drawn (.q 0 (.q 1 (.q 3 (.q 4 (.q 5 (.q 6 (.l 2 (.q 7 (.q 8 .nil))))))))) (fun w' => Ext wCb1 w') 9 (by kernel_rfl) (by kernel_rfl) (Ext.drew _) ?_
            have := World.grownBy.size (Ext.drew wCb1)
            refine WO.q rfl rfl rfl rfl (fun w' hE133 => (X.move e9_Cb1)) ?_
            refine WO.q rfl rfl rfl rfl (fun w' hE133 => (X.loadOA hO13 hE133 ((hACb1.eq 13).trans ((congrFun hF106 13).trans ((hACb0.eq 13).trans ((congrFun hF58 13).trans e13_Cr5)))) rfl Try.isAgg40 Try.sizeOf40)) ?_
            refine WO.q rfl rfl rfl rfl (fun w' hE133 => (X.loadOA hO12 hE133 ((hACb1.eq 12).trans ((congrFun hF106 12).trans ((hACb0.eq 12).trans ((congrFun hF58 12).trans e12_Cr5)))) rfl Try.isAgg102 Try.sizeOf102)) ?_
            refine WO.q rfl rfl rfl rfl (fun w' hE133 => (X.loadOA hO10 hE133 ((hACb1.eq 10).trans ((congrFun hF106 10).trans ((hACb0.eq 10).trans ((congrFun hF58 10).trans ((hACr5.eq 10).trans (congrFun hF23 10)))))) rfl Try.isAgg102 Try.sizeOf102)) ?_
            refine WO.q rfl rfl rfl rfl (fun w' hE133 => (X.neqA (na := (stepA was id m).1.ints) (nb := was.ints) flatV fieldsV offsV rfl rfl rfl rfl (Acc.eqB _ _))) ?_
            refine WO.q rfl rfl rfl rfl (fun w' hE133 => (X.assign rfl)) ?_
            refine WO.l ?_
            have szE := World.grownBy.size (Ext.trans hwCb1 (Ext.drew _))
            refine LO.go rfl rfl (OW.lits (vs := [agg (Msg.bare (stepA was id m).2)]) (evp_cons rfl evp_nil) Try.underlying36 Try.sizeOf40 Try.zeroValue40 ⟨rfl, trivial⟩ rfl rfl rfl ?_ (by decide))
            intro v136 w135 ho138 hx137
            have := World.grownBy.size hx137
            have om : OwnM w135 _ 40 v136 [(stepA was id m).2] := ho138
            refine ⟨(Ext.trans (Ext.drew _) hx137), ?_⟩
            refine WO.q rfl rfl rfl rfl (fun w' hE133 => (X.assign rfl)) ?_
            refine WO.q rfl rfl rfl rfl (fun w' hE133 => (X.assignB rfl)) ?_
            refine WO.nil ?_
            refine WL.nil ?_
            refine thn_n ?_
            refine WF.ret ?_
            refine fin_r ?_
            rw [hT]; exact ⟨⟨_, _, congrArg (fun b => Value.tuple #[_, _, .bool b]) (show (!decide ((stepA was id m).1 = was)) = _ from by rw [hbb]; cases b <;> rfl), own_mono (ov.ext (Ext.trans (Ext.drew _) hx137)).own szw, own_mono om (by omega), OwnT.apart ov om (by omega)⟩, (Ext.trans (Ext.trans hwCb1 (Ext.drew _)) hx137)⟩
  · have gh18 := (nf h18)
    have hhas : has = true := gh18
    have hgo1 : ¬ (has = false ∧ 1024 ≤ l.length) := fun e => by rw [hhas] at e; cases e.1
    refine WL.p rfl rfl rfl (congrArg some h18) ?_
    refine WL.p rfl rfl rfl (congrArg some h18) ?_
    refine WL.p rfl rfl rfl (congrArg some h18) ?_
    refine WL.va rfl rfl rfl (X.pickF rfl h18 rfl) ?_
    refine WL.nil ?_
    refine thn_n ?_
    refine WF.cond_f rfl ?_
    refine WF.skip ?_
    refine thn_n ?_
    refine WF.named (fun F140 hF141 => ?_)
    refine WF.cut (fun f' w' => ∃ (g12 g13 : Nat), f' 12 = at_ g12 ∧ f' 13 = at_ g13 ∧ Agree [0, 1, 2, 5, 6, 7, 8, 9, 10, 11, 16, 17, 18, 19, 20, 21, 22, 23, 24, 25, 26, 27, 28, 29, 30, 31, 32, 33] f' F140 ∧ Ext w w' ∧ Blk w' g5 40 (m.c em dm) ∧ OwnT w' wb.heap.size wc.heap.size 102 5 vc l.length (l.flatMap Acc.c) ∧ Blk w' g10 102 was.c ∧ Blk w' g12 102 was.c ∧ Blk w' g13 40 (Msg.bare (out0 id m)) ∧ g10 < g12 ∧ g10 < g13 ∧ g12 ≠ g13 ∧ g12 < w'.heap.size ∧ g13 < w'.heap.size) ?_ ?_
    · refine WF.drawn (.q 0 (.q 1 (.q 2 (.q 3 (.q 4 (.q 5 (.q 6 (.q 7 (.q 8 (.q 9 (.q 10 (.b 11 12 (.l 12 (.l 13 .nil)) (.l 11 (.l 13 .nil)))))))))))))) (fun w' => Ext w13 w') 14 (by kernel_rfl) (by kernel_rfl) (Ext.drew _) ?_
      have := World.grownBy.size (Ext.drew w13)
      refine WO.q rfl rfl rfl rfl (fun w' hE142 => (X.loadOA hO10 hE142 (congrFun hF141 10) rfl Try.isAgg102 Try.sizeOf102)) ?_
      refine WO.q rfl rfl rfl rfl (fun w' hE142 => (X.moveI (congrFun hF141 1))) ?_
      refine WO.q rfl rfl rfl rfl (fun w' hE142 => (X.fieldAddrO (off := 1) (congrFun hF141 5) Try.underlying40 rfl rfl Try.sizeOf3)) ?_
      refine WO.q rfl rfl rfl rfl (fun w' hE142 => (X.loadO hO5 hE142 rfl rfl Try.isAgg3)) ?_
      refine WO.q rfl rfl rfl rfl (fun w' hE142 => (X.fieldAddrO (off := 9) (congrFun hF141 5) Try.underlying40 rfl rfl Try.sizeOf3)) ?_
      refine WO.q rfl rfl rfl rfl (fun w' hE142 => (X.loadO hO5 hE142 rfl rfl Try.isAgg3)) ?_
      refine WO.q rfl rfl rfl rfl (fun w' hE142 => (X.fieldAddrO (off := 10) (congrFun hF141 5) Try.underlying40 rfl rfl Try.sizeOf3)) ?_
      refine WO.q rfl rfl rfl rfl (fun w' hE142 => (X.loadO hO5 hE142 rfl rfl Try.isAgg3)) ?_
      refine WO.q rfl rfl rfl rfl (fun w' hE142 => (X.fieldAddrO (off := 11) (congrFun hF141 5) Try.underlying40 rfl rfl Try.sizeOf3)) ?_
      refine WO.q rfl rfl rfl rfl (fun w' hE142 => (X.loadO hO5 hE142 rfl rfl Try.isAgg3)) ?_
      refine WO.q rfl rfl rfl rfl (fun w' hE142 => (X.buildL (P := Try.prog) (t := 40) (cs := (Msg.bare (out0 id m))) (evp_cons rfl (evp_cons rfl (evp_cons rfl (evp_cons rfl (evp_cons rfl evp_nil))))) Try.type40 Try.underlying40 rfl rfl ⟨rfl, rfl, rfl, rfl, rfl, trivial⟩ rfl)) ?_
      refine WO.b2 ?_ ?_
      · refine LO.go rfl rfl (OW.allocO (cs := [i64 0, i64 0, i64 0, i64 0, i64 0]) Try.zeroValue102 rfl ?_ (by decide))
        intro g12 w143 heg12 hlg12 hO12 hx145
        have := World.grownBy.size hx145
        refine ⟨(Ext.trans (Ext.drew _) hx145), ?_⟩
        refine WO.l ?_
        refine LO.go rfl rfl (OW.allocO (cs := [i64 0, i64 0, i64 0, i64 0, i64 0, i64 0, i64 0, i64 0, i64 0, i64 0, i64 0, i64 0, i64 0, i64 0, .bool false, .slice none 0 0, .slice none 0 0]) Try.zeroValue40 rfl ?_ (by decide))
        intro g13 w147 heg13 hlg13 hO13 hx149
        have := World.grownBy.size hx149
        refine ⟨(Ext.trans (Ext.trans (Ext.drew _) hx145) hx149), ?_⟩
        refine WO.l ?_
        refine LO.go rfl rfl (OW.storeOA (hO12.ext hx149) rfl rfl rfl (Acc.c_one _) Try.sizeOf102 ?_)
        intro w151 hO12 hx153
        have := World.grownBy.size hx153
        replace hO5 := (hO5.ext (Ext.trans (Ext.trans (Ext.drew _) hx145) hx149)).keptO hx153 (by omega)
        replace oc := (oc.ext (Ext.trans (Ext.trans (Ext.drew _) hx145) hx149)).keptO hx153 (by omega)
        replace hO10 := (hO10.ext (Ext.trans (Ext.trans (Ext.drew _) hx145) hx149)).keptO hx153 (by omega)
        replace hO13 := hO13.keptO hx153 (by omega)
        replace hO12 : Blk _ _ _ was.c := hO12
        refine ⟨(Ext.trans (Ext.drew _) (Ext.store (Ext.trans hx145 hx149) hx153 (by omega))), ?_⟩
        refine WO.nil ?_
        refine WL.op rfl (OW.storeOA hO13 rfl rfl rfl (Msg.bare_one _) Try.sizeOf40 ?_)
        intro w155 hO13 hx157
        have := World.grownBy.size hx157
        replace hO5 := hO5.keptO hx157 (by omega)
        replace oc := oc.keptO hx157 (by omega)
        replace hO10 := hO10.keptO hx157 (by omega)
        replace hO12 := hO12.keptO hx157 (by omega)
        replace hO13 : Blk _ _ _ (Msg.bare (out0 id m)) := hO13
        refine WL.nil ?_
        refine thn_n ?_
        exact ⟨_, _, rfl, rfl, (by repeat (first | exact (Agree.refl _ F140) | refine Agree.put ?_ rfl | refine Agree.named hF141 ?_)), (Ext.trans (Ext.trans (Ext.trans (Ext.trans (Ext.trans hx2 hx5) hx8) (Ext.store hx11 hx15 (by omega))) (Ext.drew _)) (Ext.store (Ext.store (Ext.trans hx145 hx149) hx153 (by omega)) hx157 (by omega))), ⟨hO5, oc, hO10, hO12, hO13, (by omega), (by omega), (by omega), (by omega), (by omega)⟩⟩
      · refine LO.go rfl rfl (OW.allocO (cs := [i64 0, i64 0, i64 0, i64 0, i64 0, i64 0, i64 0, i64 0, i64 0, i64 0, i64 0, i64 0, i64 0, i64 0, .bool false, .slice none 0 0, .slice none 0 0]) Try.zeroValue40 rfl ?_ (by decide))
        intro g13 w159 heg13 hlg13 hO13 hx161
        have := World.grownBy.size hx161
        refine ⟨(Ext.trans (Ext.drew _) hx161), ?_⟩
        refine WO.l ?_
        refine LO.go rfl rfl (OW.allocO (cs := [i64 0, i64 0, i64 0, i64 0, i64 0]) Try.zeroValue102 rfl ?_ (by decide))
        intro g12 w163 heg12 hlg12 hO12 hx165
        have := World.grownBy.size hx165
        refine ⟨(Ext.trans (Ext.trans (Ext.drew _) hx161) hx165), ?_⟩
        refine WO.l ?_
        refine LO.go rfl rfl (OW.storeOA hO12 rfl rfl rfl (Acc.c_one _) Try.sizeOf102 ?_)
        intro w167 hO12 hx169
        have := World.grownBy.size hx169
        replace hO5 := (hO5.ext (Ext.trans (Ext.trans (Ext.drew _) hx161) hx165)).keptO hx169 (by omega)
        replace oc := (oc.ext (Ext.trans (Ext.trans (Ext.drew _) hx161) hx165)).keptO hx169 (by omega)
        replace hO10 := (hO10.ext (Ext.trans (Ext.trans (Ext.drew _) hx161) hx165)).keptO hx169 (by omega)
        replace hO13 := (hO13.ext hx165).keptO hx169 (by omega)
        replace hO12 : Blk _ _ _ was.c := hO12
        refine ⟨(Ext.trans (Ext.trans (Ext.drew _) hx161) (Ext.store hx165 hx169 (by omega))), ?_⟩
        refine WO.nil ?_
        refine WL.op rfl (OW.storeOA hO13 rfl rfl rfl (Msg.bare_one _) Try.sizeOf40 ?_)
        intro w171 hO13 hx173
        have := World.grownBy.size hx173
        replace hO5 := hO5.keptO hx173 (by omega)
        replace oc := oc.keptO hx173 (by omega)
        replace hO10 := hO10.keptO hx173 (by omega)
        replace hO12 := hO12.keptO hx173 (by omega)
        replace hO13 : Blk _ _ _ (Msg.bare (out0 id m)) := hO13
        refine WL.nil ?_
        refine thn_n ?_
        exact ⟨_, _, rfl, rfl, (by repeat (first | exact (Agree.refl _ F140) | refine Agree.put ?_ rfl | refine Agree.named hF141 ?_)), (Ext.trans (Ext.trans (Ext.trans (Ext.trans (Ext.trans hx2 hx5) hx8) (Ext.store hx11 hx15 (by omega))) (Ext.drew _)) (Ext.store (Ext.trans hx161 (Ext.store hx165 hx169 (by omega))) hx173 (by omega))), ⟨hO5, oc, hO10, hO12, hO13, (by omega), (by omega), (by omega), (by omega), (by omega)⟩⟩
    · rintro fCr5 wCr5 ⟨g12, g13, e12_Cr5, e13_Cr5, hACr5, hwCr5, ⟨hO5, oc, hO10, hO12, hO13, q1, q2, q3, q4, q5⟩⟩
      have := World.grownBy.size hwCr5
      refine WF.named (fun F175 hF176 => ?_)
      refine WF.cut (fun f' w' => Agree [0, 1, 2, 5, 9, 10, 11, 12, 13, 16, 17, 18, 19, 20, 21, 22, 23, 24, 25, 26, 27, 28, 29, 30, 31, 32, 33] f' F175 ∧ Ext w w' ∧ Blk w' g5 40 (m.c em dm) ∧ OwnT w' wb.heap.size wc.heap.size 102 5 vc l.length (l.flatMap Acc.c) ∧ Blk w' g10 102 was.c ∧ Blk w' g12 102 (stepA was id m).1.c ∧ Blk w' g13 40 (Msg.bare (stepA was id m).2) ∧ ¬ (may m = false ∨ (has = false ∧ 1024 ≤ l.length)) ∧ g12 < w'.heap.size ∧ g13 < w'.heap.size) ?_ ?_
      · refine WF.block ?_
        refine WF.seq ?_
        refine WF.region ?_
        refine WL.va rfl rfl rfl (X.fieldAddrO (off := 0) ((congrFun hF176 5).trans ((hACr5.eq 5).trans (congrFun hF141 5))) Try.underlying40 rfl rfl Try.sizeOf3) ?_
        refine WL.va rfl rfl rfl (X.loadO hO5 (Ext.refl _) rfl rfl Try.isAgg3) ?_
        refine WL.va rfl rfl rfl (X.eql rfl rfl) ?_
        refine WL.va rfl rfl rfl (X.assignB rfl) ?_
        refine WL.nil ?_
        refine thn_n ?_
        refine WF.cond rfl (fun h1_177 => ?_) (fun h1_177 => ?_)
        · have gh1_177 := (of_decide_eq_true h1_177)
          have hk8 := gh1_177
          have hsA : stepA was id m = stepP was m (out0 id m) := if_pos gh1_177
          have hmay : may m = true := by unfold may; simp [hk8]
          have hgo : ¬ (may m = false ∨ (has = false ∧ 1024 ≤ l.length)) := fun e => e.elim (by rw [hmay]; simp) hgo1
          refine WF.region ?_
          refine WL.va rfl rfl rfl (X.loadOA hO10 (Ext.refl _) ((congrFun hF176 10).trans ((hACr5.eq 10).trans (congrFun hF141 10))) rfl Try.isAgg102 Try.sizeOf102) ?_
          refine WL.va rfl rfl rfl (X.loadOA hO5 (Ext.refl _) ((congrFun hF176 5).trans ((hACr5.eq 5).trans (congrFun hF141 5))) rfl Try.isAgg40 Try.sizeOf40) ?_
          refine WL.va rfl rfl rfl (X.loadOA hO13 (Ext.refl _) ((congrFun hF176 13).trans e13_Cr5) rfl Try.isAgg40 Try.sizeOf40) ?_
          refine WL.c rfl rfl rfl (X.call Try.call52 (evl_cons rfl (evl_cons rfl (evl_cons rfl evl_nil)))) ((prepared_ok was m (out0 id m) em dm _).mono (fun r w2 h => (show r = .tuple #[agg (stepA was id m).1.c, agg (stepA was id m).2.bare] ∧ Ext wCr5 w2 from by rw [hsA]; exact h))) ?_
          rintro v180 w179 ⟨rfl, hx181⟩
          have := World.grownBy.size hx181
          refine WL.va rfl rfl rfl (X.move rfl) ?_
          refine WL.va rfl rfl rfl (X.extract rfl rfl) ?_
          refine WL.va rfl rfl rfl (X.extract rfl rfl) ?_
          refine WL.op rfl (OW.storeOA (hO12.ext hx181) ((congrFun hF176 12).trans e12_Cr5) rfl rfl (Acc.c_one _) Try.sizeOf102 ?_)
          intro w182 hO12 hx184
          have := World.grownBy.size hx184
          replace hO5 := (hO5.ext hx181).keptO hx184 (by omega)
          replace oc := (oc.ext hx181).keptO hx184 (by omega)
          replace hO10 := (hO10.ext hx181).keptO hx184 (by omega)
          replace hO13 := (hO13.ext hx181).keptO hx184 (by omega)
          replace hO12 : Blk _ _ _ (stepA was id m).1.c := hO12
          refine WL.op rfl (OW.storeOA hO13 ((congrFun hF176 13).trans e13_Cr5) rfl rfl (Msg.bare_one _) Try.sizeOf40 ?_)
          intro w186 hO13 hx188
          have := World.grownBy.size hx188
          replace hO5 := hO5.keptO hx188 (by omega)
          replace oc := oc.keptO hx188 (by omega)
          replace hO10 := hO10.keptO hx188 (by omega)
          replace hO12 := hO12.keptO hx188 (by omega)
          replace hO13 : Blk _ _ _ (Msg.bare (stepA was id m).2) := hO13
          refine WL.nil ?_
          refine blk_n ?_
          refine thn_n ?_
          exact ⟨(by repeat (first | exact (Agree.refl _ F175) | refine Agree.put ?_ rfl | refine Agree.sub hACr5 rfl ?_ | refine Agree.named hF176 ?_ | refine Agree.named hF141 ?_)), (Ext.store (Ext.store (Ext.trans hwCr5 hx181) hx184 (by omega)) hx188 (by omega)), ⟨hO5, oc, hO10, hO12, hO13, hgo, (by omega), (by omega)⟩⟩
        · have gh1_177 := (of_decide_eq_false h1_177)
          have hk8 := gh1_177
          have hsA : stepA was id m = stepO was m (out0 id m) := if_neg gh1_177
          refine WF.seq ?_
          refine WF.region ?_
          refine WL.va rfl rfl rfl (X.fieldAddrO (off := 0) ((congrFun hF176 5).trans ((hACr5.eq 5).trans (congrFun hF141 5))) Try.underlying40 rfl rfl Try.sizeOf3) ?_
          refine WL.va rfl rfl rfl (X.loadO hO5 (Ext.refl _) rfl rfl Try.isAgg3) ?_
          refine WL.va rfl rfl rfl (X.eql rfl rfl) ?_
          refine WL.va rfl rfl rfl (X.moveB rfl) ?_
          refine WL.split (j := 3) rfl (fun h191 => ?_) (fun h191 => ?_)
          · have gh191 := (of_decide_eq_true h191)
            have hk10 := gh191
            refine WL.vg rfl (congrArg some h191) rfl rfl (X.fieldAddrO (off := 12) ((congrFun hF176 5).trans ((hACr5.eq 5).trans (congrFun hF141 5))) Try.underlying40 rfl rfl Try.sizeOf3) ?_
            refine WL.vg rfl (congrArg some h191) rfl rfl (X.loadO hO5 (Ext.refl _) rfl rfl Try.isAgg3) ?_
            refine WL.vg rfl (congrArg some h191) rfl rfl (X.eql rfl rfl) ?_
            refine WL.vg rfl (congrArg some h191) rfl rfl (X.moveB rfl) ?_
            refine WL.split (j := 7) rfl (fun h193 => ?_) (fun h193 => ?_)
            · have gh193 := (of_decide_eq_true h193)
              have hmay : may m = true := by unfold may; simp [hk8, hk10, gh193]
              refine WL.p rfl rfl rfl (congrArg some h193) ?_
              refine WL.p rfl rfl rfl (congrArg some h193) ?_
              refine WL.p rfl rfl rfl (congrArg some h193) ?_
              refine WL.vg rfl (congrArg some h191) rfl rfl (X.pickT rfl h193 rfl) ?_
              refine WL.va rfl rfl rfl (X.pickT rfl h191 rfl) ?_
              refine WL.va rfl rfl rfl (X.assignB rfl) ?_
              refine WL.nil ?_
              refine thn_n ?_
              refine WF.cond_t rfl ?_
              refine WF.region ?_
              have hgo : ¬ (may m = false ∨ (has = false ∧ 1024 ≤ l.length)) := fun e => e.elim (by rw [hmay]; simp) hgo1
              refine WL.va rfl rfl rfl (X.loadOA hO10 (Ext.refl _) ((congrFun hF176 10).trans ((hACr5.eq 10).trans (congrFun hF141 10))) rfl Try.isAgg102 Try.sizeOf102) ?_
              refine WL.va rfl rfl rfl (X.loadOA hO5 (Ext.refl _) ((congrFun hF176 5).trans ((hACr5.eq 5).trans (congrFun hF141 5))) rfl Try.isAgg40 Try.sizeOf40) ?_
              refine WL.va rfl rfl rfl (X.loadOA hO13 (Ext.refl _) ((congrFun hF176 13).trans e13_Cr5) rfl Try.isAgg40 Try.sizeOf40) ?_
              refine WL.c rfl rfl rfl (X.call Try.call53 (evl_cons rfl (evl_cons rfl (evl_cons rfl evl_nil)))) ((proposed_ok was m (out0 id m) em dm _ hmT).mono (fun r w2 h => (show r = .tuple #[agg (stepA was id m).1.c, agg (stepA was id m).2.bare] ∧ Ext wCr5 w2 from by rw [hsA]; exact h))) ?_
              rintro v196 w195 ⟨rfl, hx197⟩
              have := World.grownBy.size hx197
              refine WL.va rfl rfl rfl (X.move rfl) ?_
              refine WL.va rfl rfl rfl (X.extract rfl rfl) ?_
              refine WL.va rfl rfl rfl (X.extract rfl rfl) ?_
              refine WL.op rfl (OW.storeOA (hO12.ext hx197) ((congrFun hF176 12).trans e12_Cr5) rfl rfl (Acc.c_one _) Try.sizeOf102 ?_)
              intro w198 hO12 hx200
              have := World.grownBy.size hx200
              replace hO5 := (hO5.ext hx197).keptO hx200 (by omega)
              replace oc := (oc.ext hx197).keptO hx200 (by omega)
              replace hO10 := (hO10.ext hx197).keptO hx200 (by omega)
              replace hO13 := (hO13.ext hx197).keptO hx200 (by omega)
              replace hO12 : Blk _ _ _ (stepA was id m).1.c := hO12
              refine WL.op rfl (OW.storeOA hO13 ((congrFun hF176 13).trans e13_Cr5) rfl rfl (Msg.bare_one _) Try.sizeOf40 ?_)
              intro w202 hO13 hx204
              have := World.grownBy.size hx204
              replace hO5 := hO5.keptO hx204 (by omega)
              replace oc := oc.keptO hx204 (by omega)
              replace hO10 := hO10.keptO hx204 (by omega)
              replace hO12 := hO12.keptO hx204 (by omega)
              replace hO13 : Blk _ _ _ (Msg.bare (stepA was id m).2) := hO13
              refine WL.nil ?_
              refine blk_n ?_
              refine thn_n ?_
              exact ⟨(by repeat (first | exact (Agree.refl _ F175) | refine Agree.put ?_ rfl | refine Agree.sub hACr5 rfl ?_ | refine Agree.named hF176 ?_ | refine Agree.named hF141 ?_)), (Ext.store (Ext.store (Ext.trans hwCr5 hx197) hx200 (by omega)) hx204 (by omega)), ⟨hO5, oc, hO10, hO12, hO13, hgo, (by omega), (by omega)⟩⟩
            · have gh193 := (of_decide_eq_false h193)
              have hv1 := gh193
              refine WL.vg rfl (congrArg some h193) rfl rfl (X.fieldAddrO (off := 12) ((congrFun hF176 5).trans ((hACr5.eq 5).trans (congrFun hF141 5))) Try.underlying40 rfl rfl Try.sizeOf3) ?_
              refine WL.vg rfl (congrArg some h193) rfl rfl (X.loadO hO5 (Ext.refl _) rfl rfl Try.isAgg3) ?_
              refine WL.vg rfl (congrArg some h193) rfl rfl (X.eql rfl rfl) ?_
              refine WL.vg rfl (congrArg some h191) rfl rfl (X.pickF rfl h193 rfl) ?_
              refine WL.va rfl rfl rfl (X.pickT rfl h191 rfl) ?_
              refine WL.va rfl rfl rfl (X.assignB rfl) ?_
              refine WL.nil ?_
              refine thn_n ?_
              refine WF.cond rfl (fun h2_206 => ?_) (fun h2_206 => ?_)
              · have gh2_206 := (of_decide_eq_true h2_206)
                have hmay : may m = true := by unfold may; simp [hk8, hk10, gh2_206]
                refine WF.region ?_
                have hgo : ¬ (may m = false ∨ (has = false ∧ 1024 ≤ l.length)) := fun e => e.elim (by rw [hmay]; simp) hgo1
                refine WL.va rfl rfl rfl (X.loadOA hO10 (Ext.refl _) ((congrFun hF176 10).trans ((hACr5.eq 10).trans (congrFun hF141 10))) rfl Try.isAgg102 Try.sizeOf102) ?_
                refine WL.va rfl rfl rfl (X.loadOA hO5 (Ext.refl _) ((congrFun hF176 5).trans ((hACr5.eq 5).trans (congrFun hF141 5))) rfl Try.isAgg40 Try.sizeOf40) ?_
                refine WL.va rfl rfl rfl (X.loadOA hO13 (Ext.refl _) ((congrFun hF176 13).trans e13_Cr5) rfl Try.isAgg40 Try.sizeOf40) ?_
                refine WL.c rfl rfl rfl (X.call Try.call53 (evl_cons rfl (evl_cons rfl (evl_cons rfl evl_nil)))) ((proposed_ok was m (out0 id m) em dm _ hmT).mono (fun r w2 h => (show r = .tuple #[agg (stepA was id m).1.c, agg (stepA was id m).2.bare] ∧ Ext wCr5 w2 from by rw [hsA]; exact h))) ?_
                rintro v209 w208 ⟨rfl, hx210⟩
                have := World.grownBy.size hx210
                refine WL.va rfl rfl rfl (X.move rfl) ?_
                refine WL.va rfl rfl rfl (X.extract rfl rfl) ?_
                refine WL.va rfl rfl rfl (X.extract rfl rfl) ?_
                refine WL.op rfl (OW.storeOA (hO12.ext hx210) ((congrFun hF176 12).trans e12_Cr5) rfl rfl (Acc.c_one _) Try.sizeOf102 ?_)
                intro w211 hO12 hx213
                have := World.grownBy.size hx213
                replace hO5 := (hO5.ext hx210).keptO hx213 (by omega)
                replace oc := (oc.ext hx210).keptO hx213 (by omega)
                replace hO10 := (hO10.ext hx210).keptO hx213 (by omega)
                replace hO13 := (hO13.ext hx210).keptO hx213 (by omega)
                replace hO12 : Blk _ _ _ (stepA was id m).1.c := hO12
                refine WL.op rfl (OW.storeOA hO13 ((congrFun hF176 13).trans e13_Cr5) rfl rfl (Msg.bare_one _) Try.sizeOf40 ?_)
                intro w215 hO13 hx217
                have := World.grownBy.size hx217
                replace hO5 := hO5.keptO hx217 (by omega)
                replace oc := oc.keptO hx217 (by omega)
                replace hO10 := hO10.keptO hx217 (by omega)
                replace hO12 := hO12.keptO hx217 (by omega)
                replace hO13 : Blk _ _ _ (Msg.bare (stepA was id m).2) := hO13
                refine WL.nil ?_
                refine blk_n ?_
                refine thn_n ?_
                exact ⟨(by repeat (first | exact (Agree.refl _ F175) | refine Agree.put ?_ rfl | refine Agree.sub hACr5 rfl ?_ | refine Agree.named hF176 ?_ | refine Agree.named hF141 ?_)), (Ext.store (Ext.store (Ext.trans hwCr5 hx210) hx213 (by omega)) hx217 (by omega)), ⟨hO5, oc, hO10, hO12, hO13, hgo, (by omega), (by omega)⟩⟩
              · have gh2_206 := (of_decide_eq_false h2_206)
                have hmay : may m = false := by unfold may; simp [hk8, hk10, hv1, gh2_206]
                refine WF.seq ?_
                refine WF.region ?_
                refine WL.va rfl rfl rfl (X.move ((congrFun hF176 9).trans ((hACr5.eq 9).trans (congrFun hF141 9)))) ?_
                refine WL.va rfl rfl rfl (X.assign rfl) ?_
                refine WL.va rfl rfl rfl (X.assign rfl) ?_
                refine WL.va rfl rfl rfl (X.assignB rfl) ?_
                refine WL.nil ?_
                refine thn_n ?_
                refine WF.ret ?_
                refine blk_r ?_
                refine thn_r ?_
                refine fin_r ?_
                rw [takeA_none hf (.inl hmay)]; exact ⟨⟨_, _, rfl, own_mono oc.own szw, OwnM.nil _ _ _, fun k hk hk2 => by cases hk2⟩, hwCr5⟩
          · have gh191 := (of_decide_eq_false h191)
            have hmay : may m = false := by unfold may; simp [hk8, gh191]
            refine WL.p rfl rfl rfl (congrArg some h191) ?_
            refine WL.p rfl rfl rfl (congrArg some h191) ?_
            refine WL.p rfl rfl rfl (congrArg some h191) ?_
            refine WL.p rfl rfl rfl (congrArg some h191) ?_
            refine WL.pn rfl rfl rfl rfl ?_
            refine WL.pn rfl rfl rfl rfl ?_
            refine WL.pn rfl rfl rfl rfl ?_
            refine WL.p rfl rfl rfl (congrArg some h191) ?_
            refine WL.va rfl rfl rfl (X.pickF rfl h191 rfl) ?_
            refine WL.va rfl rfl rfl (X.assignB rfl) ?_
            refine WL.nil ?_
            refine thn_n ?_
            refine WF.cond_f rfl ?_
            refine WF.seq ?_
            refine WF.region ?_
            refine WL.va rfl rfl rfl (X.move ((congrFun hF176 9).trans ((hACr5.eq 9).trans (congrFun hF141 9)))) ?_
            refine WL.va rfl rfl rfl (X.assign rfl) ?_
            refine WL.va rfl rfl rfl (X.assign rfl) ?_
            refine WL.va rfl rfl rfl (X.assignB rfl) ?_
            refine WL.nil ?_
            refine thn_n ?_
            refine WF.ret ?_
            refine blk_r ?_
            refine thn_r ?_
            refine fin_r ?_
            rw [takeA_none hf (.inl hmay)]; exact ⟨⟨_, _, rfl, own_mono oc.own szw, OwnM.nil _ _ _, fun k hk hk2 => by cases hk2⟩, hwCr5⟩
      · rintro fCb0 wCb0 ⟨hACb0, hwCb0, ⟨hO5, oc, hO10, hO12, hO13, hgo, q4, q5⟩⟩
        have := World.grownBy.size hwCb0
        refine WF.named (fun F222 hF223 => ?_)
        refine WF.cut (fun f' w' => ∃ (vv : Value) (L : List Acc) (b : Bool) (T : Nat), f' 9 = vv ∧ Agree [0, 1, 2, 5, 10, 11, 12, 13, 16, 17, 18, 19, 20, 21, 22, 23, 24, 25, 26, 27, 28, 29, 30, 31, 32, 33] f' F222 ∧ Ext w w' ∧ OwnT w' wb.heap.size T 102 5 vv L.length (L.flatMap Acc.c) ∧ T ≤ w'.heap.size ∧ Blk w' g10 102 was.c ∧ Blk w' g12 102 (stepA was id m).1.c ∧ Blk w' g13 40 (Msg.bare (stepA was id m).2) ∧ takeA l id m = (L, [(stepA was id m).2], b) ∧ decide ((stepA was id m).1 = was) = !b) ?_ ?_
        · refine WF.block ?_
          refine WF.seq ?_
          refine WF.region ?_
          refine WL.va rfl rfl rfl (X.loadOA hO12 (Ext.refl _) ((congrFun hF223 12).trans ((hACb0.eq 12).trans ((congrFun hF176 12).trans e12_Cr5))) rfl Try.isAgg102 Try.sizeOf102) ?_
          refine WL.va rfl rfl rfl (X.loadOA hO10 (Ext.refl _) ((congrFun hF223 10).trans ((hACb0.eq 10).trans ((congrFun hF176 10).trans ((hACr5.eq 10).trans (congrFun hF141 10))))) rfl Try.isAgg102 Try.sizeOf102) ?_
          refine WL.va rfl rfl rfl (X.eqlA (na := (stepA was id m).1.ints) (nb := was.ints) flatV fieldsV offsV rfl rfl rfl rfl (Acc.eqB _ _)) ?_
          refine WL.va rfl rfl rfl (X.assignB rfl) ?_
          refine WL.nil ?_
          refine thn_n ?_
          refine WF.cond rfl (fun h3_224 => ?_) (fun h3_224 => ?_)
          · have gh3_224 := h3_224
            have hsm : (stepA was id m).1 = was := of_decide_eq_true gh3_224
            have hT : takeA l id m = (l, [(stepA was id m).2], false) := takeA_same hf hgo hsm
            have ov := oc
            have hbb : decide ((stepA was id m).1 = was) = true := gh3_224
            refine WF.skip ?_
            refine blk_n ?_
            refine thn_n ?_
            exact ⟨_, _, _, _, ((congrFun hF223 9).trans ((hACb0.eq 9).trans ((congrFun hF176 9).trans ((hACr5.eq 9).trans (congrFun hF141 9))))), (by repeat (first | exact (Agree.refl _ F222) | refine Agree.put ?_ rfl | refine Agree.sub hACb0 rfl ?_ | refine Agree.sub hACr5 rfl ?_ | refine Agree.named hF223 ?_ | refine Agree.named hF176 ?_ | refine Agree.named hF141 ?_)), hwCb0, ⟨ov, (by omega), hO10, hO12, hO13, hT, hbb⟩⟩
          · have gh3_224 := h3_224
            have hnew : ¬ (stepA was id m).1 = was := of_decide_eq_false gh3_224
            have hbb : decide ((stepA was id m).1 = was) = false := gh3_224
            refine WF.seq ?_
            refine WF.region ?_
            refine WL.va rfl rfl rfl (X.moveB ((congrFun hF223 11).trans ((hACb0.eq 11).trans ((congrFun hF176 11).trans ((hACr5.eq 11).trans (congrFun hF141 11)))))) ?_
            refine WL.va rfl rfl rfl (X.assignB rfl) ?_
            refine WL.nil ?_
            refine thn_n ?_
            refine WF.cond rfl (fun h4_225 => ?_) (fun h4_225 => ?_)
            · have gh4_225 := h4_225
              have hhas : has = true := gh4_225
              refine WF.drawn (.q 0 (.q 1 (.q 2 (.q 3 (.q 4 (.q 5 (.q 7 (.l 6 (.q 8 .nil))))))))) (fun w' => Ext wCb0 w') 9 (by kernel_rfl) (by kernel_rfl) (Ext.drew _) ?_
              have := World.grownBy.size (Ext.drew wCb0)
              refine WO.q rfl rfl rfl rfl (fun w' hE227 => (X.move ((congrFun hF223 9).trans ((hACb0.eq 9).trans ((congrFun hF176 9).trans ((hACr5.eq 9).trans (congrFun hF141 9))))))) ?_
              refine WO.q rfl rfl rfl rfl (fun w' hE227 => (X.move ((congrFun hF223 0).trans ((hACb0.eq 0).trans ((congrFun hF176 0).trans ((hACr5.eq 0).trans (congrFun hF141 0))))))) ?_
              refine WO.q rfl rfl rfl rfl (fun w' hE227 => (X.fieldAddrO (off := 9) ((congrFun hF223 5).trans ((hACb0.eq 5).trans ((congrFun hF176 5).trans ((hACr5.eq 5).trans (congrFun hF141 5))))) Try.underlying40 rfl rfl Try.sizeOf3)) ?_
              refine WO.q rfl rfl rfl rfl (fun w' hE227 => (X.loadO hO5 hE227 rfl rfl Try.isAgg3)) ?_
              refine WO.q rfl rfl rfl rfl (fun w' hE227 => (X.fieldAddrO (off := 10) ((congrFun hF223 5).trans ((hACb0.eq 5).trans ((congrFun hF176 5).trans ((hACr5.eq 5).trans (congrFun hF141 5))))) Try.underlying40 rfl rfl Try.sizeOf3)) ?_
              refine WO.q rfl rfl rfl rfl (fun w' hE227 => (X.loadO hO5 hE227 rfl rfl Try.isAgg3)) ?_
              refine WO.q rfl rfl rfl rfl (fun w' hE227 => (X.loadOA hO12 hE227 ((congrFun hF223 12).trans ((hACb0.eq 12).trans ((congrFun hF176 12).trans e12_Cr5))) rfl Try.isAgg102 Try.sizeOf102)) ?_
              refine WO.l ?_
              refine LO.go rfl rfl (OW.enter rfl (by decide) (X.call Try.call54 (evl_cons rfl (evl_cons rfl (evl_cons rfl evl_nil)))) (findI_ok _ _ _ _ _ (Row.ext hv (Ext.trans hwCb0 (Ext.drew _)))) ?_)
              rintro v229 w228 ⟨⟨z, rfl, hz⟩, hx230⟩
              have := World.grownBy.size hx230
              refine ⟨(Ext.trans (Ext.drew _) hx230), ?_⟩
              rw [hhas] at hf
              obtain ⟨k, rfl, hk, hset⟩ := find_idx hf hz
              have hkey := findA_key l m.Txn m.Part
              rw [hf] at hkey
              have hkey2 := stepA_key was id m
              refine WO.q rfl rfl rfl rfl (fun w' hE227 => (X.idx (oc.rd) rfl rfl (by omega) Try.underlying59 Try.sizeOf102)) ?_
              refine WO.nil ?_
              refine WL.op rfl (OW.storeEl (ds := (Acc.c (stepA was id m).1)) (oc.ext (Ext.trans (Ext.drew _) hx230)).own hk rfl rfl rfl (Acc.c_one _) Try.sizeOf102 ?_)
              intro w231 ho234 hx233
              have := World.grownBy.size hx233
              replace hO5 := (hO5.ext (Ext.trans (Ext.drew _) hx230)).keptR hx233 (fun b hb => by have h1 := ((oc.ext (Ext.trans (Ext.drew _) hx230)).own.lt b hb).1; have h2 := (oc.ext (Ext.trans (Ext.drew _) hx230)).top b hb; omega)
              replace hO10 := (hO10.ext (Ext.trans (Ext.drew _) hx230)).keptR hx233 (fun b hb => by have h1 := ((oc.ext (Ext.trans (Ext.drew _) hx230)).own.lt b hb).1; have h2 := (oc.ext (Ext.trans (Ext.drew _) hx230)).top b hb; omega)
              replace hO12 := (hO12.ext (Ext.trans (Ext.drew _) hx230)).keptR hx233 (fun b hb => by have h1 := ((oc.ext (Ext.trans (Ext.drew _) hx230)).own.lt b hb).1; have h2 := (oc.ext (Ext.trans (Ext.drew _) hx230)).top b hb; omega)
              replace hO13 := (hO13.ext (Ext.trans (Ext.drew _) hx230)).keptR hx233 (fun b hb => by have h1 := ((oc.ext (Ext.trans (Ext.drew _) hx230)).own.lt b hb).1; have h2 := (oc.ext (Ext.trans (Ext.drew _) hx230)).top b hb; omega)
              have oV : OwnV _ _ _ _ _ := OwnV.set hk ho234
              have ov : OwnT w231 _ _ _ _ _ _ _ := ⟨oV, oc.top⟩
              have hT : takeA l id m = (l.set k (stepA was id m).1, [(stepA was id m).2], true) := by rw [takeA_new (by rw [hhas]; exact hf) hgo hnew, hhas, ← hset _ (by rw [hkey2.1]; exact hkey.1) (by rw [hkey2.2]; exact hkey.2)]; rfl
              refine WL.nil ?_
              refine blk_n ?_
              refine thn_n ?_
              exact ⟨_, _, _, _, ((congrFun hF223 9).trans ((hACb0.eq 9).trans ((congrFun hF176 9).trans ((hACr5.eq 9).trans (congrFun hF141 9))))), (by repeat (first | exact (Agree.refl _ F222) | refine Agree.put ?_ rfl | refine Agree.sub hACb0 rfl ?_ | refine Agree.sub hACr5 rfl ?_ | refine Agree.named hF223 ?_ | refine Agree.named hF176 ?_ | refine Agree.named hF141 ?_)), (Ext.own (Ext.trans (Ext.trans hwCb0 (Ext.drew _)) hx230) (oc.ext (Ext.trans (Ext.drew _) hx230)).own szw hx233), ⟨ov, (by omega), hO10, hO12, hO13, hT, hbb⟩⟩
            · have gh4_225 := h4_225
              have hhas : has = false := gh4_225
              refine WF.seq ?_
              refine WF.region ?_
              refine WL.va rfl rfl rfl (X.makeFunc (evl_cons ((congrFun hF223 12).trans ((hACb0.eq 12).trans ((congrFun hF176 12).trans e12_Cr5))) evl_nil)) ?_
              refine WL.va rfl rfl rfl (X.assign rfl) ?_
              refine WL.nil ?_
              refine thn_n ?_
              refine WF.seq ?_
              refine WF.region ?_
              refine WL.va rfl rfl rfl (X.move ((congrFun hF223 9).trans ((hACb0.eq 9).trans ((congrFun hF176 9).trans ((hACr5.eq 9).trans (congrFun hF141 9)))))) ?_
              refine WL.va rfl rfl rfl (X.move rfl) ?_
              have hclo : ∀ k w1, k < l.length → Ext wCb0 w1 → CloOk Try.prog (.func (.func 55) #[] [at_ g12].toArray) [agg (el (l.flatMap Acc.c) 5 k)] w1 (fun r w2 => r = .bool (behind (l.getD k default) (stepA was id m).1) ∧ Ext w1 w2) := fun k w1 hk hx => ⟨_, _, rfl, Try.call55, (by rw [show el (l.flatMap Acc.c) 5 k = (l[k]'hk).c from Votes.el hk, show l.getD k default = l[k]'hk from by simp [hk]]; exact takeLit_ok _ _ _ _ (hO12.ext hx))⟩
              refine WL.c rfl rfl rfl (X.call Try.call58 (evl_cons rfl (evl_cons rfl evl_nil))) (indexV_ok _ _ _ _ (fun k => behind (l.getD k default) (stepA was id m).1) _ oc.rd hclo) ?_
              rintro v236 w235 ⟨⟨z, rfl, hz⟩, hx237⟩
              have := World.grownBy.size hx237
              refine WL.va rfl rfl rfl (X.assignI rfl) ?_
              refine WL.nil ?_
              refine thn_n ?_
              refine WF.seq ?_
              refine WF.seq ?_
              refine WF.region ?_
              refine WL.va rfl rfl rfl (X.moveI rfl) ?_
              refine WL.va rfl rfl rfl (X.lss rfl rfl) ?_
              refine WL.nil ?_
              refine thn_n ?_
              refine WF.cond rfl (fun h5_238 => ?_) (fun h5_238 => ?_)
              · have gh5_238 := (of_decide_eq_true h5_238)
                obtain ⟨i, rfl, hin, hins⟩ := ins_none hz (by omega)
                refine WF.region ?_
                refine WL.va rfl rfl rfl (X.move ((congrFun hF223 9).trans ((hACb0.eq 9).trans ((congrFun hF176 9).trans ((hACr5.eq 9).trans (congrFun hF141 9)))))) ?_
                refine WL.va rfl rfl rfl (X.len (oc.rd) rfl Try.underlying59) ?_
                refine WL.va rfl rfl rfl (X.assignI rfl) ?_
                refine WL.nil ?_
                refine thn_n ?_
                refine WF.region ?_
                refine WL.va rfl rfl rfl (X.move ((congrFun hF223 9).trans ((hACb0.eq 9).trans ((congrFun hF176 9).trans ((hACr5.eq 9).trans (congrFun hF141 9)))))) ?_
                refine WL.va rfl rfl rfl (X.moveI rfl) ?_
                refine WL.va rfl rfl rfl (X.loadOA hO12 hx237 ((congrFun hF223 12).trans ((hACb0.eq 12).trans ((congrFun hF176 12).trans e12_Cr5))) rfl Try.isAgg102 Try.sizeOf102) ?_
                refine WL.op rfl (OW.lits (vs := [agg (stepA was id m).1.c]) (evp_cons rfl evp_nil) Try.underlying59 Try.sizeOf102 Try.zeroValue102 ⟨rfl, trivial⟩ rfl rfl rfl ?_ (by decide))
                intro v15 w240 ho242 hx241
                have := World.grownBy.size hx241
                have o15 : OwnV w240 _ _ v15 [(stepA was id m).1] := ho242
                refine WL.c rfl rfl rfl (X.call Try.call59 (evl_cons rfl (evl_cons rfl (evl_cons rfl evl_nil)))) (insertV_ok _ _ _ _ l.length _ _ _ _ (oc.ext (Ext.trans hx237 hx241)).own o15 (OwnT.apart oc o15 (by omega)).symm votes_one (Acc.c_one _) hin (by omega) (by omega)) ?_
                rintro vi w243 ⟨oi, hx244⟩
                have := World.grownBy.size hx244
                replace hO5 := (hO5.ext (Ext.trans hx237 hx241)).keptR hx244 (fun b hb => by have h1 := ((oc.ext (Ext.trans hx237 hx241)).own.lt b hb).1; have h2 := (oc.ext (Ext.trans hx237 hx241)).top b hb; omega)
                replace hO10 := (hO10.ext (Ext.trans hx237 hx241)).keptR hx244 (fun b hb => by have h1 := ((oc.ext (Ext.trans hx237 hx241)).own.lt b hb).1; have h2 := (oc.ext (Ext.trans hx237 hx241)).top b hb; omega)
                replace hO12 := (hO12.ext (Ext.trans hx237 hx241)).keptR hx244 (fun b hb => by have h1 := ((oc.ext (Ext.trans hx237 hx241)).own.lt b hb).1; have h2 := (oc.ext (Ext.trans hx237 hx241)).top b hb; omega)
                replace hO13 := (hO13.ext (Ext.trans hx237 hx241)).keptR hx244 (fun b hb => by have h1 := ((oc.ext (Ext.trans hx237 hx241)).own.lt b hb).1; have h2 := (oc.ext (Ext.trans hx237 hx241)).top b hb; omega)
                have oV : OwnV w243 _ _ vi _ := OwnV.ins hin oi
                rw [← hins] at oV
                have ov := OwnT.of oV
                have hT : takeA l id m = (insV l (stepA was id m).1, [(stepA was id m).2], true) := by rw [takeA_new hf hgo hnew, hhas]; rfl
                refine WL.va rfl rfl rfl (X.assign rfl) ?_
                refine WL.nil ?_
                refine blk_n ?_
                refine thn_n ?_
                exact ⟨_, _, _, _, rfl, (by repeat (first | exact (Agree.refl _ F222) | refine Agree.put ?_ rfl | refine Agree.sub hACb0 rfl ?_ | refine Agree.sub hACr5 rfl ?_ | refine Agree.named hF223 ?_ | refine Agree.named hF176 ?_ | refine Agree.named hF141 ?_)), (Ext.own (Ext.trans (Ext.trans hwCb0 hx237) hx241) (oc.ext (Ext.trans hx237 hx241)).own szw hx244), ⟨ov, (by omega), hO10, hO12, hO13, hT, hbb⟩⟩
              · have gh5_238 := (of_decide_eq_false h5_238)
                obtain ⟨i, rfl, hin, hins⟩ := ins_idx hz (by omega)
                refine WF.skip ?_
                refine thn_n ?_
                refine WF.region ?_
                refine WL.va rfl rfl rfl (X.move ((congrFun hF223 9).trans ((hACb0.eq 9).trans ((congrFun hF176 9).trans ((hACr5.eq 9).trans (congrFun hF141 9)))))) ?_
                refine WL.va rfl rfl rfl (X.moveI rfl) ?_
                refine WL.va rfl rfl rfl (X.loadOA hO12 hx237 ((congrFun hF223 12).trans ((hACb0.eq 12).trans ((congrFun hF176 12).trans e12_Cr5))) rfl Try.isAgg102 Try.sizeOf102) ?_
                refine WL.op rfl (OW.lits (vs := [agg (stepA was id m).1.c]) (evp_cons rfl evp_nil) Try.underlying59 Try.sizeOf102 Try.zeroValue102 ⟨rfl, trivial⟩ rfl rfl rfl ?_ (by decide))
                intro v15 w245 ho247 hx246
                have := World.grownBy.size hx246
                have o15 : OwnV w245 _ _ v15 [(stepA was id m).1] := ho247
                refine WL.c rfl rfl rfl (X.call Try.call59 (evl_cons rfl (evl_cons rfl (evl_cons rfl evl_nil)))) (insertV_ok _ _ _ _ l.length _ _ _ _ (oc.ext (Ext.trans hx237 hx246)).own o15 (OwnT.apart oc o15 (by omega)).symm votes_one (Acc.c_one _) hin (by omega) (by omega)) ?_
                rintro vi w248 ⟨oi, hx249⟩
                have := World.grownBy.size hx249
                replace hO5 := (hO5.ext (Ext.trans hx237 hx246)).keptR hx249 (fun b hb => by have h1 := ((oc.ext (Ext.trans hx237 hx246)).own.lt b hb).1; have h2 := (oc.ext (Ext.trans hx237 hx246)).top b hb; omega)
                replace hO10 := (hO10.ext (Ext.trans hx237 hx246)).keptR hx249 (fun b hb => by have h1 := ((oc.ext (Ext.trans hx237 hx246)).own.lt b hb).1; have h2 := (oc.ext (Ext.trans hx237 hx246)).top b hb; omega)
                replace hO12 := (hO12.ext (Ext.trans hx237 hx246)).keptR hx249 (fun b hb => by have h1 := ((oc.ext (Ext.trans hx237 hx246)).own.lt b hb).1; have h2 := (oc.ext (Ext.trans hx237 hx246)).top b hb; omega)
                replace hO13 := (hO13.ext (Ext.trans hx237 hx246)).keptR hx249 (fun b hb => by have h1 := ((oc.ext (Ext.trans hx237 hx246)).own.lt b hb).1; have h2 := (oc.ext (Ext.trans hx237 hx246)).top b hb; omega)
                have oV : OwnV w248 _ _ vi _ := OwnV.ins hin oi
                rw [← hins] at oV
                have ov := OwnT.of oV
                have hT : takeA l id m = (insV l (stepA was id m).1, [(stepA was id m).2], true) := by rw [takeA_new hf hgo hnew, hhas]; rfl
                refine WL.va rfl rfl rfl (X.assign rfl) ?_
                refine WL.nil ?_
                refine blk_n ?_
                refine thn_n ?_
                exact ⟨_, _, _, _, rfl, (by repeat (first | exact (Agree.refl _ F222) | refine Agree.put ?_ rfl | refine Agree.sub hACb0 rfl ?_ | refine Agree.sub hACr5 rfl ?_ | refine Agree.named hF223 ?_ | refine Agree.named hF176 ?_ | refine Agree.named hF141 ?_)), (Ext.own (Ext.trans (Ext.trans hwCb0 hx237) hx246) (oc.ext (Ext.trans hx237 hx246)).own szw hx249), ⟨ov, (by omega), hO10, hO12, hO13, hT, hbb⟩⟩
        · rintro fCb1 wCb1 ⟨vv, L, b, T, e9_Cb1, hACb1, hwCb1, ⟨ov, hTT, hO10, hO12, hO13, hT, hbb⟩⟩
          have := World.grownBy.size hwCb1
          refine WF.seq ?_
          refine WF.drawn (.q 0 (.q 1 (.q 3 (.q 4 (.q 5 (.q 6 (.l 2 (.q 7 (.q 8 .nil))))))))) (fun w' => Ext wCb1 w') 9 (by kernel_rfl) (by kernel_rfl) (Ext.drew _) ?_
          have := World.grownBy.size (Ext.drew wCb1)
          refine WO.q rfl rfl rfl rfl (fun w' hE250 => (X.move e9_Cb1)) ?_
          refine WO.q rfl rfl rfl rfl (fun w' hE250 => (X.loadOA hO13 hE250 ((hACb1.eq 13).trans ((congrFun hF223 13).trans ((hACb0.eq 13).trans ((congrFun hF176 13).trans e13_Cr5)))) rfl Try.isAgg40 Try.sizeOf40)) ?_
          refine WO.q rfl rfl rfl rfl (fun w' hE250 => (X.loadOA hO12 hE250 ((hACb1.eq 12).trans ((congrFun hF223 12).trans ((hACb0.eq 12).trans ((congrFun hF176 12).trans e12_Cr5)))) rfl Try.isAgg102 Try.sizeOf102)) ?_
          refine WO.q rfl rfl rfl rfl (fun w' hE250 => (X.loadOA hO10 hE250 ((hACb1.eq 10).trans ((congrFun hF223 10).trans ((hACb0.eq 10).trans ((congrFun hF176 10).trans ((hACr5.eq 10).trans (congrFun hF141 10)))))) rfl Try.isAgg102 Try.sizeOf102)) ?_
          refine WO.q rfl rfl rfl rfl (fun w' hE250 => (X.neqA (na := (stepA was id m).1.ints) (nb := was.ints) flatV fieldsV offsV rfl rfl rfl rfl (Acc.eqB _ _))) ?_
          refine WO.q rfl rfl rfl rfl (fun w' hE250 => (X.assign rfl)) ?_
          refine WO.l ?_
          have szE := World.grownBy.size (Ext.trans hwCb1 (Ext.drew _))
          refine LO.go rfl rfl (OW.lits (vs := [agg (Msg.bare (stepA was id m).2)]) (evp_cons rfl evp_nil) Try.underlying36 Try.sizeOf40 Try.zeroValue40 ⟨rfl, trivial⟩ rfl rfl rfl ?_ (by decide))
          intro v253 w252 ho255 hx254
          have := World.grownBy.size hx254
          have om : OwnM w252 _ 40 v253 [(stepA was id m).2] := ho255
          refine ⟨(Ext.trans (Ext.drew _) hx254), ?_⟩
          refine WO.q rfl rfl rfl rfl (fun w' hE250 => (X.assign rfl)) ?_
          refine WO.q rfl rfl rfl rfl (fun w' hE250 => (X.assignB rfl)) ?_
          refine WO.nil ?_
          refine WL.nil ?_
          refine thn_n ?_
          refine WF.ret ?_
          refine fin_r ?_
          rw [hT]; exact ⟨⟨_, _, congrArg (fun b => Value.tuple #[_, _, .bool b]) (show (!decide ((stepA was id m).1 = was)) = _ from by rw [hbb]; cases b <;> rfl), own_mono (ov.ext (Ext.trans (Ext.drew _) hx254)).own szw, own_mono om (by omega), OwnT.apart ov om (by omega)⟩, (Ext.trans (Ext.trans hwCb1 (Ext.drew _)) hx254)⟩

end Go.Proofs.Ytjmddkaokmdkbaa
