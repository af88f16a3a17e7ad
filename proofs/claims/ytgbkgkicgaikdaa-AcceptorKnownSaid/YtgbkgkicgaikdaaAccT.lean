/- The walk of acceptor.Take. -/
import Derived.Test.YtgbkgkicgaikdaaAccF
namespace Go.Proofs.Ytgbkgkicgaikdaa
open Go Go.RowKit Kf

theorem takeLit_ok (a b : Acc) (g1 : Nat) (w : World) (h1 : Blk w g1 37 b.c) : FnOk Try.prog 28 [agg a.c, at_ g1] w (fun r w' => r = .bool (behind a b) ∧ Ext w w') := by
  refine FnOk.enter (rs := [3]) Try.func28 rfl Try.ntmps28 Try.results28 rfl rfl ?_
  refine WF.seq ?_
  refine WF.region ?_
  refine WL.op rfl (OW.boxA (cs := _) rfl ?_ (by decide))
  intro g2 w1 heg2 hlg2 hO2 hx3
  have := World.grownBy.size hx3
  refine WL.va rfl rfl rfl (X.assignB rfl) ?_
  refine WL.nil ?_
  refine thn_n ?_
  refine WF.seq ?_
  refine WF.drawn (.q 0 (.q 1 (.q 2 (.q 3 (.q 5 (.q 6 (.q 7 (.q 8 (.l 4 (.l 9 (.l 10 (.l 11 (.q 12 (.q 13 .nil)))))))))))))) (fun w' => Ext w1 w') 14 (by kernel_rfl) (by kernel_rfl) (Ext.drew _) ?_
  have := World.grownBy.size (Ext.drew w1)
  refine WO.q rfl rfl rfl rfl (fun w' hE6 => (X.fieldAddrO (off := 0) rfl Try.underlying37 rfl rfl Try.sizeOf3)) ?_
  refine WO.q rfl rfl rfl rfl (fun w' hE6 => (X.loadO hO2 hE6 rfl rfl Try.isAgg3)) ?_
  refine WO.q rfl rfl rfl rfl (fun w' hE6 => (X.fieldAddrO (off := 0) rfl Try.underlying37 rfl rfl Try.sizeOf3)) ?_
  refine WO.q rfl rfl rfl rfl (fun w' hE6 => (X.loadO h1 (Ext.trans hx3 hE6) rfl rfl Try.isAgg3)) ?_
  refine WO.q rfl rfl rfl rfl (fun w' hE6 => (X.fieldAddrO (off := 1) rfl Try.underlying37 rfl rfl Try.sizeOf3)) ?_
  refine WO.q rfl rfl rfl rfl (fun w' hE6 => (X.loadO hO2 hE6 rfl rfl Try.isAgg3)) ?_
  refine WO.q rfl rfl rfl rfl (fun w' hE6 => (X.fieldAddrO (off := 1) rfl Try.underlying37 rfl rfl Try.sizeOf3)) ?_
  refine WO.q rfl rfl rfl rfl (fun w' hE6 => (X.loadO h1 (Ext.trans hx3 hE6) rfl rfl Try.isAgg3)) ?_
  refine WO.l ?_
  refine LO.go rfl rfl (OW.enter rfl (by decide) (X.call Try.call30 (evl_cons rfl (evl_cons rfl evl_nil))) (compare_ok _ _ _) ?_)
  rintro v8 w7 ⟨rfl, rfl⟩
  refine ⟨(Ext.drew _), ?_⟩
  refine WO.l ?_
  refine LO.go rfl rfl (OW.enter rfl (by decide) (X.call Try.call30 (evl_cons rfl (evl_cons rfl evl_nil))) (compare_ok _ _ _) ?_)
  rintro v11 w10 ⟨rfl, rfl⟩
  refine ⟨(Ext.drew _), ?_⟩
  refine WO.l ?_
  refine LO.go rfl rfl (OW.lits (vs := [_, _]) (evp_cons rfl (evp_cons rfl evp_nil)) Try.underlying46 Try.sizeOf3 Try.zeroValue3 ⟨rfl, rfl, trivial⟩ rfl rfl rfl ?_ (by decide))
  intro v14 w13 ho16 hx15
  have := World.grownBy.size hx15
  refine ⟨(Ext.trans (Ext.drew _) hx15), ?_⟩
  refine WO.l ?_
  refine LO.go rfl rfl (OW.enter rfl (by decide) (X.call Try.call29 (evl_cons rfl evl_nil)) (or_ok _ _ _ (show Ints _ _ [cmpI a.Txn b.Txn, cmpI a.Part b.Part] from Row.of_own ho16)) ?_)
  rintro v18 w17 ⟨rfl, hx19⟩
  have := World.grownBy.size hx19
  refine ⟨(Ext.trans (Ext.trans (Ext.drew _) hx15) hx19), ?_⟩
  refine WO.q rfl rfl rfl rfl (fun w' hE6 => (X.gtr rfl rfl)) ?_
  refine WO.q rfl rfl rfl rfl (fun w' hE6 => (X.assignB rfl)) ?_
  refine WO.nil ?_
  refine WL.nil ?_
  refine thn_n ?_
  refine WF.ret ?_
  refine fin_r ?_
  exact ⟨by rw [← behind_cmp]; rfl, (Ext.trans (Ext.trans (Ext.trans hx3 (Ext.drew _)) hx15) hx19)⟩

set_option maxHeartbeats 800000 in
theorem take_ok (v : Value) (l : List Acc) (id : Int) (m : Msg) (em dm : Value) (w : World) (hv : Votes w v l) (hl : l.length ≤ 1100) (hm : In64 m.ints) : FnOk Try.prog 11 [v, i64 id, agg (m.c em dm)] w (fun r w' => (∃ vv vm, r = .tuple #[vv, vm, .bool (takeA l id m).2.2] ∧ OwnV w' w.heap.size 37 vv (takeA l id m).1 ∧ OwnM w' w.heap.size 26 vm (takeA l id m).2.1 ∧ Apart vv vm) ∧ Ext w w') := by
  have hmT : -9223372036854775808 ≤ m.Txn ∧ m.Txn ≤ 9223372036854775807 := hm _ (by simp)
  obtain ⟨was, has, hf⟩ : ∃ a b, findA l m.Txn m.Part = (a, b) := ⟨_, _, rfl⟩
  refine FnOk.enter (rs := [6, 7, 8]) Try.func11 rfl Try.ntmps11 Try.results11 rfl rfl ?_
  refine WF.seq ?_
  refine WF.region ?_
  refine WL.op rfl (OW.boxA (cs := (m.c em dm)) rfl ?_ (by decide))
  intro g5 wb heg5 hlg5 hO5 hx2
  have := World.grownBy.size hx2
  refine WL.va rfl rfl rfl (X.assign rfl) ?_
  refine WL.va rfl rfl rfl (X.assign rfl) ?_
  refine WL.va rfl rfl rfl (X.assignB rfl) ?_
  refine WL.nil ?_
  refine thn_n ?_
  refine WF.seq ?_
  refine WF.region ?_
  refine WL.va rfl rfl rfl (X.move rfl) ?_
  have szw := World.grownBy.size hx2
  refine WL.c rfl rfl rfl (X.call Try.call24 (evl_cons rfl evl_nil)) (cloneV_ok _ _ _ _ (Row.ext hv hx2) votes_one (by omega)) ?_
  rintro vc wc ⟨oc0, hx5⟩
  have := World.grownBy.size hx5
  have oc := OwnT.of oc0
  refine WL.va rfl rfl rfl (X.assign rfl) ?_
  refine WL.nil ?_
  refine thn_n ?_
  refine WF.seq ?_
  refine WF.region ?_
  refine WL.va rfl rfl rfl (X.move rfl) ?_
  refine WL.va rfl rfl rfl (X.fieldAddrO (off := 9) rfl Try.underlying26 rfl rfl Try.sizeOf3) ?_
  refine WL.va rfl rfl rfl (X.loadO hO5 hx5 rfl rfl Try.isAgg3) ?_
  refine WL.va rfl rfl rfl (X.fieldAddrO (off := 10) rfl Try.underlying26 rfl rfl Try.sizeOf3) ?_
  refine WL.va rfl rfl rfl (X.loadO hO5 hx5 rfl rfl Try.isAgg3) ?_
  refine WL.c rfl rfl rfl (X.call Try.call16 (evl_cons rfl (evl_cons rfl (evl_cons rfl evl_nil)))) ((findA_ok _ l _ _ _ (Row.ext hv (Ext.trans hx2 hx5))).mono (fun r w2 h => (show r = .tuple #[agg was.c, .bool has] ∧ Ext wc w2 from by rw [hf] at h; exact h))) ?_
  rintro v7 w6 ⟨rfl, hx8⟩
  have := World.grownBy.size hx8
  refine WL.va rfl rfl rfl (X.move rfl) ?_
  refine WL.va rfl rfl rfl (X.extract rfl rfl) ?_
  refine WL.va rfl rfl rfl (X.extract rfl rfl) ?_
  refine WL.op rfl (OW.allocO (cs := [i64 0, i64 0, i64 0, i64 0, i64 0]) Try.zeroValue37 rfl ?_ (by decide))
  intro g10 wd heg10 hlg10 hO10 hx11
  have := World.grownBy.size hx11
  refine WL.op rfl (OW.storeOA hO10 rfl rfl rfl (Acc.c_one _) Try.sizeOf37 ?_)
  intro w13 hO10 hx15
  have := World.grownBy.size hx15
  replace hO5 := (hO5.ext (Ext.trans (Ext.trans hx5 hx8) hx11)).keptO hx15 (by omega)
  replace oc := (oc.ext (Ext.trans hx8 hx11)).keptO hx15 (by omega)
  replace hO10 : Blk _ _ _ was.c := hO10
  refine WL.va rfl rfl rfl (X.assignB rfl) ?_
  refine WL.nil ?_
  refine thn_n ?_
  refine WF.seq ?_
  refine WF.seq ?_
  refine WF.region ?_
  refine WL.va rfl rfl rfl (X.moveB rfl) ?_
  refine WL.va rfl rfl rfl (X.not rfl) ?_
  refine WL.va rfl rfl rfl (X.moveB rfl) ?_
  refine WL.split (j := 2) rfl (fun h18 => ?_) (fun h18 => ?_)
  · have gh18 := (nt h18)
    have hhas : has = false := gh18
    refine WL.vg rfl (congrArg some h18) rfl rfl (X.move rfl) ?_
    refine WL.vg rfl (congrArg some h18) rfl rfl (X.len hv rfl Try.underlying22) ?_
    refine WL.vg rfl (congrArg some h18) rfl rfl (X.geq rfl rfl) ?_
    refine WL.va rfl rfl rfl (X.pickT rfl h18 rfl) ?_
    refine WL.nil ?_
    refine thn_n ?_
    refine WF.cond rfl (fun h0_19 => ?_) (fun h0_19 => ?_)
    · have gh0_19 := (of_decide_eq_true h0_19)
      have hbig : has = false ∧ 1024 ≤ l.length := ⟨hhas, by omega⟩
      refine WF.seq ?_
      refine WF.region ?_
      refine WL.va rfl rfl rfl (X.move rfl) ?_
      refine WL.va rfl rfl rfl (X.assign rfl) ?_
      refine WL.va rfl rfl rfl (X.assign rfl) ?_
      refine WL.va rfl rfl rfl (X.assignB rfl) ?_
      refine WL.nil ?_
      refine thn_n ?_
      refine WF.ret ?_
      refine thn_r ?_
      refine fin_r ?_
      rw [takeA_none hf (.inr hbig)]; exact ⟨⟨_, _, rfl, own_mono oc.own szw, OwnM.nil _ _ _, fun k hk hk2 => by cases hk2⟩, (Ext.trans (Ext.trans (Ext.trans hx2 hx5) hx8) (Ext.store hx11 hx15 (by omega)))⟩
    · have gh0_19 := (of_decide_eq_false h0_19)
      have hgo1 : ¬ (has = false ∧ 1024 ≤ l.length) := fun e => by have := e.2; omega
      refine WF.skip ?_
      refine thn_n ?_
      refine WF.named (fun F22 hF23 => ?_)
      refine WF.cut (fun f' w' => ∃ (g12 g13 : Nat), f' 12 = at_ g12 ∧ f' 13 = at_ g13 ∧ Agree [0, 1, 2, 5, 6, 7, 8, 9, 10, 11, 16, 17, 18, 19, 20, 21, 22, 23, 24, 25, 26, 27, 28, 29, 30, 31, 32, 33] f' F22 ∧ Ext w w' ∧ Blk w' g5 26 (m.c em dm) ∧ OwnT w' wb.heap.size wc.heap.size 37 5 vc l.length (l.flatMap Acc.c) ∧ Blk w' g10 37 was.c ∧ Blk w' g12 37 was.c ∧ Blk w' g13 26 (Msg.bare (out0 id m)) ∧ g10 < g12 ∧ g10 < g13 ∧ g12 ≠ g13 ∧ g12 < w'.heap.size ∧ g13 < w'.heap.size) ?_ ?_
      · refine WF.drawn (.q 0 (.q 1 (.q 2 (.q 3 (.q 4 (.q 5 (.q 6 (.q 7 (.q 8 (.q 9 (.q 10 (.b 11 12 (.l 12 (.l 13 .nil)) (.l 11 (.l 13 .nil)))))))))))))) (fun w' => Ext w13 w') 14 (by kernel_rfl) (by kernel_rfl) (Ext.drew _) ?_
        have := World.grownBy.size (Ext.drew w13)
        refine WO.q rfl rfl rfl rfl (fun w' hE24 => (X.loadOA hO10 hE24 (congrFun hF23 10) rfl Try.isAgg37 Try.sizeOf37)) ?_
        refine WO.q rfl rfl rfl rfl (fun w' hE24 => (X.moveI (congrFun hF23 1))) ?_
        refine WO.q rfl rfl rfl rfl (fun w' hE24 => (X.fieldAddrO (off := 1) (congrFun hF23 5) Try.underlying26 rfl rfl Try.sizeOf3)) ?_
        refine WO.q rfl rfl rfl rfl (fun w' hE24 => (X.loadO hO5 hE24 rfl rfl Try.isAgg3)) ?_
        refine WO.q rfl rfl rfl rfl (fun w' hE24 => (X.fieldAddrO (off := 9) (congrFun hF23 5) Try.underlying26 rfl rfl Try.sizeOf3)) ?_
        refine WO.q rfl rfl rfl rfl (fun w' hE24 => (X.loadO hO5 hE24 rfl rfl Try.isAgg3)) ?_
        refine WO.q rfl rfl rfl rfl (fun w' hE24 => (X.fieldAddrO (off := 10) (congrFun hF23 5) Try.underlying26 rfl rfl Try.sizeOf3)) ?_
        refine WO.q rfl rfl rfl rfl (fun w' hE24 => (X.loadO hO5 hE24 rfl rfl Try.isAgg3)) ?_
        refine WO.q rfl rfl rfl rfl (fun w' hE24 => (X.fieldAddrO (off := 11) (congrFun hF23 5) Try.underlying26 rfl rfl Try.sizeOf3)) ?_
        refine WO.q rfl rfl rfl rfl (fun w' hE24 => (X.loadO hO5 hE24 rfl rfl Try.isAgg3)) ?_
        refine WO.q rfl rfl rfl rfl (fun w' hE24 => (X.buildL (cs := (Msg.bare (out0 id m))) (evp_cons rfl (evp_cons rfl (evp_cons rfl (evp_cons rfl (evp_cons rfl evp_nil))))) Try.type26 Try.underlying26 rfl rfl ⟨rfl, rfl, rfl, rfl, rfl, trivial⟩ rfl)) ?_
        refine WO.b2 ?_ ?_
        · refine LO.go rfl rfl (OW.allocO (cs := [i64 0, i64 0, i64 0, i64 0, i64 0]) Try.zeroValue37 rfl ?_ (by decide))
          intro g12 w25 heg12 hlg12 hO12 hx27
          have := World.grownBy.size hx27
          refine ⟨(Ext.trans (Ext.drew _) hx27), ?_⟩
          refine WO.l ?_
          refine LO.go rfl rfl (OW.allocO (cs := [i64 0, i64 0, i64 0, i64 0, i64 0, i64 0, i64 0, i64 0, i64 0, i64 0, i64 0, i64 0, i64 0, i64 0, .bool false, .slice none 0 0, .slice none 0 0]) Try.zeroValue26 rfl ?_ (by decide))
          intro g13 w29 heg13 hlg13 hO13 hx31
          have := World.grownBy.size hx31
          refine ⟨(Ext.trans (Ext.trans (Ext.drew _) hx27) hx31), ?_⟩
          refine WO.l ?_
          refine LO.go rfl rfl (OW.storeOA (hO12.ext hx31) rfl rfl rfl (Acc.c_one _) Try.sizeOf37 ?_)
          intro w33 hO12 hx35
          have := World.grownBy.size hx35
          replace hO5 := (hO5.ext (Ext.trans (Ext.trans (Ext.drew _) hx27) hx31)).keptO hx35 (by omega)
          replace oc := (oc.ext (Ext.trans (Ext.trans (Ext.drew _) hx27) hx31)).keptO hx35 (by omega)
          replace hO10 := (hO10.ext (Ext.trans (Ext.trans (Ext.drew _) hx27) hx31)).keptO hx35 (by omega)
          replace hO13 := hO13.keptO hx35 (by omega)
          replace hO12 : Blk _ _ _ was.c := hO12
          refine ⟨(Ext.trans (Ext.drew _) (Ext.store (Ext.trans hx27 hx31) hx35 (by omega))), ?_⟩
          refine WO.nil ?_
          refine WL.op rfl (OW.storeOA hO13 rfl rfl rfl (Msg.bare_one _) Try.sizeOf26 ?_)
          intro w37 hO13 hx39
          have := World.grownBy.size hx39
          replace hO5 := hO5.keptO hx39 (by omega)
          replace oc := oc.keptO hx39 (by omega)
          replace hO10 := hO10.keptO hx39 (by omega)
          replace hO12 := hO12.keptO hx39 (by omega)
          replace hO13 : Blk _ _ _ (Msg.bare (out0 id m)) := hO13
          refine WL.nil ?_
          refine thn_n ?_
          exact ⟨_, _, rfl, rfl, (by repeat (first | exact (Agree.refl _ F22) | refine Agree.put ?_ rfl | refine Agree.named hF23 ?_)), (Ext.store (Ext.trans (Ext.trans (Ext.trans (Ext.trans (Ext.trans hx2 hx5) hx8) (Ext.store hx11 hx15 (by omega))) (Ext.drew _)) (Ext.store (Ext.trans hx27 hx31) hx35 (by omega))) hx39 (by omega)), ⟨hO5, oc, hO10, hO12, hO13, (by omega), (by omega), (by omega), (by omega), (by omega)⟩⟩
        · refine LO.go rfl rfl (OW.allocO (cs := [i64 0, i64 0, i64 0, i64 0, i64 0, i64 0, i64 0, i64 0, i64 0, i64 0, i64 0, i64 0, i64 0, i64 0, .bool false, .slice none 0 0, .slice none 0 0]) Try.zeroValue26 rfl ?_ (by decide))
          intro g13 w41 heg13 hlg13 hO13 hx43
          have := World.grownBy.size hx43
          refine ⟨(Ext.trans (Ext.drew _) hx43), ?_⟩
          refine WO.l ?_
          refine LO.go rfl rfl (OW.allocO (cs := [i64 0, i64 0, i64 0, i64 0, i64 0]) Try.zeroValue37 rfl ?_ (by decide))
          intro g12 w45 heg12 hlg12 hO12 hx47
          have := World.grownBy.size hx47
          refine ⟨(Ext.trans (Ext.trans (Ext.drew _) hx43) hx47), ?_⟩
          refine WO.l ?_
          refine LO.go rfl rfl (OW.storeOA hO12 rfl rfl rfl (Acc.c_one _) Try.sizeOf37 ?_)
          intro w49 hO12 hx51
          have := World.grownBy.size hx51
          replace hO5 := (hO5.ext (Ext.trans (Ext.trans (Ext.drew _) hx43) hx47)).keptO hx51 (by omega)
          replace oc := (oc.ext (Ext.trans (Ext.trans (Ext.drew _) hx43) hx47)).keptO hx51 (by omega)
          replace hO10 := (hO10.ext (Ext.trans (Ext.trans (Ext.drew _) hx43) hx47)).keptO hx51 (by omega)
          replace hO13 := (hO13.ext hx47).keptO hx51 (by omega)
          replace hO12 : Blk _ _ _ was.c := hO12
          refine ⟨(Ext.trans (Ext.trans (Ext.drew _) hx43) (Ext.store hx47 hx51 (by omega))), ?_⟩
          refine WO.nil ?_
          refine WL.op rfl (OW.storeOA hO13 rfl rfl rfl (Msg.bare_one _) Try.sizeOf26 ?_)
          intro w53 hO13 hx55
          have := World.grownBy.size hx55
          replace hO5 := hO5.keptO hx55 (by omega)
          replace oc := oc.keptO hx55 (by omega)
          replace hO10 := hO10.keptO hx55 (by omega)
          replace hO12 := hO12.keptO hx55 (by omega)
          replace hO13 : Blk _ _ _ (Msg.bare (out0 id m)) := hO13
          refine WL.nil ?_
          refine thn_n ?_
          exact ⟨_, _, rfl, rfl, (by repeat (first | exact (Agree.refl _ F22) | refine Agree.put ?_ rfl | refine Agree.named hF23 ?_)), (Ext.trans (Ext.trans (Ext.trans (Ext.trans (Ext.trans hx2 hx5) hx8) (Ext.store hx11 hx15 (by omega))) (Ext.drew _)) (Ext.store (Ext.trans hx43 (Ext.store hx47 hx51 (by omega))) hx55 (by omega))), ⟨hO5, oc, hO10, hO12, hO13, (by omega), (by omega), (by omega), (by omega), (by omega)⟩⟩
      · rintro fCr5 wCr5 ⟨g12, g13, e12_Cr5, e13_Cr5, hACr5, hwCr5, ⟨hO5, oc, hO10, hO12, hO13, q1, q2, q3, q4, q5⟩⟩
        refine WF.named (fun F57 hF58 => ?_)
        refine WF.cut (fun f' w' => Agree [0, 1, 2, 5, 9, 10, 11, 12, 13, 16, 17, 18, 19, 20, 21, 22, 23, 24, 25, 26, 27, 28, 29, 30, 31, 32, 33] f' F57 ∧ Ext w w' ∧ Blk w' g5 26 (m.c em dm) ∧ OwnT w' wb.heap.size wc.heap.size 37 5 vc l.length (l.flatMap Acc.c) ∧ Blk w' g10 37 was.c ∧ Blk w' g12 37 (stepA was id m).1.c ∧ Blk w' g13 26 (Msg.bare (stepA was id m).2) ∧ ¬ (may m = false ∨ (has = false ∧ 1024 ≤ l.length)) ∧ g12 < w'.heap.size ∧ g13 < w'.heap.size) ?_ ?_
        · refine WF.block ?_
          refine WF.seq ?_
          refine WF.region ?_
          refine WL.va rfl rfl rfl (X.fieldAddrO (off := 0) ((congrFun hF58 5).trans ((hACr5.eq 5).trans (congrFun hF23 5))) Try.underlying26 rfl rfl Try.sizeOf3) ?_
          refine WL.va rfl rfl rfl (X.loadO hO5 (Ext.refl _) rfl rfl Try.isAgg3) ?_
          refine WL.va rfl rfl rfl (X.eql rfl rfl) ?_
          refine WL.va rfl rfl rfl (X.assignB rfl) ?_
          refine WL.nil ?_
          refine thn_n ?_
          refine WF.cond rfl (fun h1_59 => ?_) (fun h1_59 => ?_)
          · have gh1_59 := (of_decide_eq_true h1_59)
            have hk8 := gh1_59
            have hsA : stepA was id m = stepP was m (out0 id m) := if_pos gh1_59
            have hmay : may m = true := by unfold may; simp [hk8]
            have hgo : ¬ (may m = false ∨ (has = false ∧ 1024 ≤ l.length)) := fun e => e.elim (by rw [hmay]; simp) hgo1
            refine WF.region ?_
            refine WL.va rfl rfl rfl (X.loadOA hO10 (Ext.refl _) ((congrFun hF58 10).trans ((hACr5.eq 10).trans (congrFun hF23 10))) rfl Try.isAgg37 Try.sizeOf37) ?_
            refine WL.va rfl rfl rfl (X.loadOA hO5 (Ext.refl _) ((congrFun hF58 5).trans ((hACr5.eq 5).trans (congrFun hF23 5))) rfl Try.isAgg26 Try.sizeOf26) ?_
            refine WL.va rfl rfl rfl (X.loadOA hO13 (Ext.refl _) ((congrFun hF58 13).trans e13_Cr5) rfl Try.isAgg26 Try.sizeOf26) ?_
            refine WL.c rfl rfl rfl (X.call Try.call25 (evl_cons rfl (evl_cons rfl (evl_cons rfl evl_nil)))) ((prepared_ok was m (out0 id m) em dm _).mono (fun r w2 h => (show r = .tuple #[agg (stepA was id m).1.c, agg (stepA was id m).2.bare] ∧ Ext wCr5 w2 from by rw [hsA]; exact h))) ?_
            rintro v62 w61 ⟨rfl, hx63⟩
            have := World.grownBy.size hx63
            refine WL.va rfl rfl rfl (X.move rfl) ?_
            refine WL.va rfl rfl rfl (X.extract rfl rfl) ?_
            refine WL.va rfl rfl rfl (X.extract rfl rfl) ?_
            refine WL.op rfl (OW.storeOA (hO12.ext hx63) ((congrFun hF58 12).trans e12_Cr5) rfl rfl (Acc.c_one _) Try.sizeOf37 ?_)
            intro w64 hO12 hx66
            have := World.grownBy.size hx66
            replace hO5 := (hO5.ext hx63).keptO hx66 (by omega)
            replace oc := (oc.ext hx63).keptO hx66 (by omega)
            replace hO10 := (hO10.ext hx63).keptO hx66 (by omega)
            replace hO13 := (hO13.ext hx63).keptO hx66 (by omega)
            replace hO12 : Blk _ _ _ (stepA was id m).1.c := hO12
            refine WL.op rfl (OW.storeOA hO13 ((congrFun hF58 13).trans e13_Cr5) rfl rfl (Msg.bare_one _) Try.sizeOf26 ?_)
            intro w68 hO13 hx70
            have := World.grownBy.size hx70
            replace hO5 := hO5.keptO hx70 (by omega)
            replace oc := oc.keptO hx70 (by omega)
            replace hO10 := hO10.keptO hx70 (by omega)
            replace hO12 := hO12.keptO hx70 (by omega)
            replace hO13 : Blk _ _ _ (Msg.bare (stepA was id m).2) := hO13
            refine WL.nil ?_
            refine blk_n ?_
            refine thn_n ?_
            exact ⟨(by repeat (first | exact (Agree.refl _ F57) | refine Agree.put ?_ rfl | refine Agree.sub hACr5 rfl ?_ | refine Agree.named hF58 ?_ | refine Agree.named hF23 ?_)), (Ext.store (Ext.store (Ext.trans hwCr5 hx63) hx66 (by omega)) hx70 (by omega)), ⟨hO5, oc, hO10, hO12, hO13, hgo, (by omega), (by omega)⟩⟩
          · have gh1_59 := (of_decide_eq_false h1_59)
            have hk8 := gh1_59
            have hsA : stepA was id m = stepO was m (out0 id m) := if_neg gh1_59
            refine WF.seq ?_
            refine WF.region ?_
            refine WL.va rfl rfl rfl (X.fieldAddrO (off := 0) ((congrFun hF58 5).trans ((hACr5.eq 5).trans (congrFun hF23 5))) Try.underlying26 rfl rfl Try.sizeOf3) ?_
            refine WL.va rfl rfl rfl (X.loadO hO5 (Ext.refl _) rfl rfl Try.isAgg3) ?_
            refine WL.va rfl rfl rfl (X.eql rfl rfl) ?_
            refine WL.va rfl rfl rfl (X.moveB rfl) ?_
            refine WL.split (j := 3) rfl (fun h73 => ?_) (fun h73 => ?_)
            · have gh73 := (of_decide_eq_true h73)
              have hk10 := gh73
              refine WL.vg rfl (congrArg some h73) rfl rfl (X.fieldAddrO (off := 12) ((congrFun hF58 5).trans ((hACr5.eq 5).trans (congrFun hF23 5))) Try.underlying26 rfl rfl Try.sizeOf3) ?_
              refine WL.vg rfl (congrArg some h73) rfl rfl (X.loadO hO5 (Ext.refl _) rfl rfl Try.isAgg3) ?_
              refine WL.vg rfl (congrArg some h73) rfl rfl (X.eql rfl rfl) ?_
              refine WL.vg rfl (congrArg some h73) rfl rfl (X.moveB rfl) ?_
              refine WL.split (j := 7) rfl (fun h75 => ?_) (fun h75 => ?_)
              · have gh75 := (of_decide_eq_true h75)
                have hmay : may m = true := by unfold may; simp [hk8, hk10, gh75]
                refine WL.p rfl rfl rfl (congrArg some h75) ?_
                refine WL.p rfl rfl rfl (congrArg some h75) ?_
                refine WL.p rfl rfl rfl (congrArg some h75) ?_
                refine WL.vg rfl (congrArg some h73) rfl rfl (X.pickT rfl h75 rfl) ?_
                refine WL.va rfl rfl rfl (X.pickT rfl h73 rfl) ?_
                refine WL.va rfl rfl rfl (X.assignB rfl) ?_
                refine WL.nil ?_
                refine thn_n ?_
                refine WF.cond_t rfl ?_
                refine WF.region ?_
                have hgo : ¬ (may m = false ∨ (has = false ∧ 1024 ≤ l.length)) := fun e => e.elim (by rw [hmay]; simp) hgo1
                refine WL.va rfl rfl rfl (X.loadOA hO10 (Ext.refl _) ((congrFun hF58 10).trans ((hACr5.eq 10).trans (congrFun hF23 10))) rfl Try.isAgg37 Try.sizeOf37) ?_
                refine WL.va rfl rfl rfl (X.loadOA hO5 (Ext.refl _) ((congrFun hF58 5).trans ((hACr5.eq 5).trans (congrFun hF23 5))) rfl Try.isAgg26 Try.sizeOf26) ?_
                refine WL.va rfl rfl rfl (X.loadOA hO13 (Ext.refl _) ((congrFun hF58 13).trans e13_Cr5) rfl Try.isAgg26 Try.sizeOf26) ?_
                refine WL.c rfl rfl rfl (X.call Try.call26 (evl_cons rfl (evl_cons rfl (evl_cons rfl evl_nil)))) ((proposed_ok was m (out0 id m) em dm _ hmT).mono (fun r w2 h => (show r = .tuple #[agg (stepA was id m).1.c, agg (stepA was id m).2.bare] ∧ Ext wCr5 w2 from by rw [hsA]; exact h))) ?_
                rintro v78 w77 ⟨rfl, hx79⟩
                have := World.grownBy.size hx79
                refine WL.va rfl rfl rfl (X.move rfl) ?_
                refine WL.va rfl rfl rfl (X.extract rfl rfl) ?_
                refine WL.va rfl rfl rfl (X.extract rfl rfl) ?_
                refine WL.op rfl (OW.storeOA (hO12.ext hx79) ((congrFun hF58 12).trans e12_Cr5) rfl rfl (Acc.c_one _) Try.sizeOf37 ?_)
                intro w80 hO12 hx82
                have := World.grownBy.size hx82
                replace hO5 := (hO5.ext hx79).keptO hx82 (by omega)
                replace oc := (oc.ext hx79).keptO hx82 (by omega)
                replace hO10 := (hO10.ext hx79).keptO hx82 (by omega)
                replace hO13 := (hO13.ext hx79).keptO hx82 (by omega)
                replace hO12 : Blk _ _ _ (stepA was id m).1.c := hO12
                refine WL.op rfl (OW.storeOA hO13 ((congrFun hF58 13).trans e13_Cr5) rfl rfl (Msg.bare_one _) Try.sizeOf26 ?_)
                intro w84 hO13 hx86
                have := World.grownBy.size hx86
                replace hO5 := hO5.keptO hx86 (by omega)
                replace oc := oc.keptO hx86 (by omega)
                replace hO10 := hO10.keptO hx86 (by omega)
                replace hO12 := hO12.keptO hx86 (by omega)
                replace hO13 : Blk _ _ _ (Msg.bare (stepA was id m).2) := hO13
                refine WL.nil ?_
                refine blk_n ?_
                refine thn_n ?_
                exact ⟨(by repeat (first | exact (Agree.refl _ F57) | refine Agree.put ?_ rfl | refine Agree.sub hACr5 rfl ?_ | refine Agree.named hF58 ?_ | refine Agree.named hF23 ?_)), (Ext.store (Ext.store (Ext.trans hwCr5 hx79) hx82 (by omega)) hx86 (by omega)), ⟨hO5, oc, hO10, hO12, hO13, hgo, (by omega), (by omega)⟩⟩
              · have gh75 := (of_decide_eq_false h75)
                have hv1 := gh75
                refine WL.vg rfl (congrArg some h75) rfl rfl (X.fieldAddrO (off := 12) ((congrFun hF58 5).trans ((hACr5.eq 5).trans (congrFun hF23 5))) Try.underlying26 rfl rfl Try.sizeOf3) ?_
                refine WL.vg rfl (congrArg some h75) rfl rfl (X.loadO hO5 (Ext.refl _) rfl rfl Try.isAgg3) ?_
                refine WL.vg rfl (congrArg some h75) rfl rfl (X.eql rfl rfl) ?_
                refine WL.vg rfl (congrArg some h73) rfl rfl (X.pickF rfl h75 rfl) ?_
                refine WL.va rfl rfl rfl (X.pickT rfl h73 rfl) ?_
                refine WL.va rfl rfl rfl (X.assignB rfl) ?_
                refine WL.nil ?_
                refine thn_n ?_
                refine WF.cond rfl (fun h2_88 => ?_) (fun h2_88 => ?_)
                · have gh2_88 := (of_decide_eq_true h2_88)
                  have hmay : may m = true := by unfold may; simp [hk8, hk10, gh2_88]
                  refine WF.region ?_
                  have hgo : ¬ (may m = false ∨ (has = false ∧ 1024 ≤ l.length)) := fun e => e.elim (by rw [hmay]; simp) hgo1
                  refine WL.va rfl rfl rfl (X.loadOA hO10 (Ext.refl _) ((congrFun hF58 10).trans ((hACr5.eq 10).trans (congrFun hF23 10))) rfl Try.isAgg37 Try.sizeOf37) ?_
                  refine WL.va rfl rfl rfl (X.loadOA hO5 (Ext.refl _) ((congrFun hF58 5).trans ((hACr5.eq 5).trans (congrFun hF23 5))) rfl Try.isAgg26 Try.sizeOf26) ?_
                  refine WL.va rfl rfl rfl (X.loadOA hO13 (Ext.refl _) ((congrFun hF58 13).trans e13_Cr5) rfl Try.isAgg26 Try.sizeOf26) ?_
                  refine WL.c rfl rfl rfl (X.call Try.call26 (evl_cons rfl (evl_cons rfl (evl_cons rfl evl_nil)))) ((proposed_ok was m (out0 id m) em dm _ hmT).mono (fun r w2 h => (show r = .tuple #[agg (stepA was id m).1.c, agg (stepA was id m).2.bare] ∧ Ext wCr5 w2 from by rw [hsA]; exact h))) ?_
                  rintro v91 w90 ⟨rfl, hx92⟩
                  have := World.grownBy.size hx92
                  refine WL.va rfl rfl rfl (X.move rfl) ?_
                  refine WL.va rfl rfl rfl (X.extract rfl rfl) ?_
                  refine WL.va rfl rfl rfl (X.extract rfl rfl) ?_
                  refine WL.op rfl (OW.storeOA (hO12.ext hx92) ((congrFun hF58 12).trans e12_Cr5) rfl rfl (Acc.c_one _) Try.sizeOf37 ?_)
                  intro w93 hO12 hx95
                  have := World.grownBy.size hx95
                  replace hO5 := (hO5.ext hx92).keptO hx95 (by omega)
                  replace oc := (oc.ext hx92).keptO hx95 (by omega)
                  replace hO10 := (hO10.ext hx92).keptO hx95 (by omega)
                  replace hO13 := (hO13.ext hx92).keptO hx95 (by omega)
                  replace hO12 : Blk _ _ _ (stepA was id m).1.c := hO12
                  refine WL.op rfl (OW.storeOA hO13 ((congrFun hF58 13).trans e13_Cr5) rfl rfl (Msg.bare_one _) Try.sizeOf26 ?_)
                  intro w97 hO13 hx99
                  have := World.grownBy.size hx99
                  replace hO5 := hO5.keptO hx99 (by omega)
                  replace oc := oc.keptO hx99 (by omega)
                  replace hO10 := hO10.keptO hx99 (by omega)
                  replace hO12 := hO12.keptO hx99 (by omega)
                  replace hO13 : Blk _ _ _ (Msg.bare (stepA was id m).2) := hO13
                  refine WL.nil ?_
                  refine blk_n ?_
                  refine thn_n ?_
                  exact ⟨(by repeat (first | exact (Agree.refl _ F57) | refine Agree.put ?_ rfl | refine Agree.sub hACr5 rfl ?_ | refine Agree.named hF58 ?_ | refine Agree.named hF23 ?_)), (Ext.store (Ext.store (Ext.trans hwCr5 hx92) hx95 (by omega)) hx99 (by omega)), ⟨hO5, oc, hO10, hO12, hO13, hgo, (by omega), (by omega)⟩⟩
                · have gh2_88 := (of_decide_eq_false h2_88)
                  have hmay : may m = false := by unfold may; simp [hk8, hk10, hv1, gh2_88]
                  refine WF.seq ?_
                  refine WF.region ?_
                  refine WL.va rfl rfl rfl (X.move ((congrFun hF58 9).trans ((hACr5.eq 9).trans (congrFun hF23 9)))) ?_
                  refine WL.va rfl rfl rfl (X.assign rfl) ?_
                  refine WL.va rfl rfl rfl (X.assign rfl) ?_
                  refine WL.va rfl rfl rfl (X.assignB rfl) ?_
                  refine WL.nil ?_
                  refine thn_n ?_
                  refine WF.ret ?_
                  refine blk_r ?_
                  refine thn_r ?_
                  refine fin_r ?_
                  rw [takeA_none hf (.inl hmay)]; exact ⟨⟨_, _, rfl, own_mono oc.own szw, OwnM.nil _ _ _, fun k hk hk2 => by cases hk2⟩, hwCr5⟩
            · have gh73 := (of_decide_eq_false h73)
              have hmay : may m = false := by unfold may; simp [hk8, gh73]
              refine WL.p rfl rfl rfl (congrArg some h73) ?_
              refine WL.p rfl rfl rfl (congrArg some h73) ?_
              refine WL.p rfl rfl rfl (congrArg some h73) ?_
              refine WL.p rfl rfl rfl (congrArg some h73) ?_
              refine WL.pn rfl rfl rfl rfl ?_
              refine WL.pn rfl rfl rfl rfl ?_
              refine WL.pn rfl rfl rfl rfl ?_
              refine WL.p rfl rfl rfl (congrArg some h73) ?_
              refine WL.va rfl rfl rfl (X.pickF rfl h73 rfl) ?_
              refine WL.va rfl rfl rfl (X.assignB rfl) ?_
              refine WL.nil ?_
              refine thn_n ?_
              refine WF.cond_f rfl ?_
              refine WF.seq ?_
              refine WF.region ?_
              refine WL.va rfl rfl rfl (X.move ((congrFun hF58 9).trans ((hACr5.eq 9).trans (congrFun hF23 9)))) ?_
              refine WL.va rfl rfl rfl (X.assign rfl) ?_
              refine WL.va rfl rfl rfl (X.assign rfl) ?_
              refine WL.va rfl rfl rfl (X.assignB rfl) ?_
              refine WL.nil ?_
              refine thn_n ?_
              refine WF.ret ?_
              refine blk_r ?_
              refine thn_r ?_
              refine fin_r ?_
              rw [takeA_none hf (.inl hmay)]; exact ⟨⟨_, _, rfl, own_mono oc.own szw, OwnM.nil _ _ _, fun k hk hk2 => by cases hk2⟩, hwCr5⟩
        · rintro fCb0 wCb0 ⟨hACb0, hwCb0, ⟨hO5, oc, hO10, hO12, hO13, hgo, q4, q5⟩⟩
          refine WF.named (fun F104 hF105 => ?_)
          refine WF.cut (fun f' w' => ∃ (vv : Value) (L : List Acc) (b : Bool) (T : Nat), f' 9 = vv ∧ Agree [0, 1, 2, 5, 10, 11, 12, 13, 16, 17, 18, 19, 20, 21, 22, 23, 24, 25, 26, 27, 28, 29, 30, 31, 32, 33] f' F104 ∧ Ext w w' ∧ OwnT w' wb.heap.size T 37 5 vv L.length (L.flatMap Acc.c) ∧ T ≤ w'.heap.size ∧ Blk w' g10 37 was.c ∧ Blk w' g12 37 (stepA was id m).1.c ∧ Blk w' g13 26 (Msg.bare (stepA was id m).2) ∧ takeA l id m = (L, [(stepA was id m).2], b) ∧ decide ((stepA was id m).1 = was) = !b) ?_ ?_
          · refine WF.block ?_
            refine WF.seq ?_
            refine WF.region ?_
            refine WL.va rfl rfl rfl (X.loadOA hO12 (Ext.refl _) ((congrFun hF105 12).trans ((hACb0.eq 12).trans ((congrFun hF58 12).trans e12_Cr5))) rfl Try.isAgg37 Try.sizeOf37) ?_
            refine WL.va rfl rfl rfl (X.loadOA hO10 (Ext.refl _) ((congrFun hF105 10).trans ((hACb0.eq 10).trans ((congrFun hF58 10).trans ((hACr5.eq 10).trans (congrFun hF23 10))))) rfl Try.isAgg37 Try.sizeOf37) ?_
            refine WL.va rfl rfl rfl (X.eqlA (na := (stepA was id m).1.ints) (nb := was.ints) flatV fieldsV offsV rfl rfl rfl rfl (Acc.eqB _ _)) ?_
            refine WL.va rfl rfl rfl (X.assignB rfl) ?_
            refine WL.nil ?_
            refine thn_n ?_
            refine WF.cond rfl (fun h3_106 => ?_) (fun h3_106 => ?_)
            · have gh3_106 := h3_106
              have hsm : (stepA was id m).1 = was := of_decide_eq_true gh3_106
              have hT : takeA l id m = (l, [(stepA was id m).2], false) := takeA_same hf hgo hsm
              have ov := oc
              have hbb : decide ((stepA was id m).1 = was) = true := gh3_106
              refine WF.skip ?_
              refine blk_n ?_
              refine thn_n ?_
              exact ⟨_, _, _, _, ((congrFun hF105 9).trans ((hACb0.eq 9).trans ((congrFun hF58 9).trans ((hACr5.eq 9).trans (congrFun hF23 9))))), (by repeat (first | exact (Agree.refl _ F104) | refine Agree.put ?_ rfl | refine Agree.sub hACb0 rfl ?_ | refine Agree.sub hACr5 rfl ?_ | refine Agree.named hF105 ?_ | refine Agree.named hF58 ?_ | refine Agree.named hF23 ?_)), hwCb0, ⟨ov, (by omega), hO10, hO12, hO13, hT, hbb⟩⟩
            · have gh3_106 := h3_106
              have hnew : ¬ (stepA was id m).1 = was := of_decide_eq_false gh3_106
              have hbb : decide ((stepA was id m).1 = was) = false := gh3_106
              refine WF.seq ?_
              refine WF.region ?_
              refine WL.va rfl rfl rfl (X.moveB ((congrFun hF105 11).trans ((hACb0.eq 11).trans ((congrFun hF58 11).trans ((hACr5.eq 11).trans (congrFun hF23 11)))))) ?_
              refine WL.va rfl rfl rfl (X.assignB rfl) ?_
              refine WL.nil ?_
              refine thn_n ?_
              refine WF.cond rfl (fun h4_107 => ?_) (fun h4_107 => ?_)
              · have gh4_107 := h4_107
                have hhas : has = true := gh4_107
                refine WF.drawn (.q 0 (.q 1 (.q 2 (.q 3 (.q 4 (.q 5 (.q 7 (.l 6 (.q 8 .nil))))))))) (fun w' => Ext wCb0 w') 9 (by kernel_rfl) (by kernel_rfl) (Ext.drew _) ?_
                have := World.grownBy.size (Ext.drew wCb0)
                refine WO.q rfl rfl rfl rfl (fun w' hE109 => (X.move ((congrFun hF105 9).trans ((hACb0.eq 9).trans ((congrFun hF58 9).trans ((hACr5.eq 9).trans (congrFun hF23 9))))))) ?_
                refine WO.q rfl rfl rfl rfl (fun w' hE109 => (X.move ((congrFun hF105 0).trans ((hACb0.eq 0).trans ((congrFun hF58 0).trans ((hACr5.eq 0).trans (congrFun hF23 0))))))) ?_
                refine WO.q rfl rfl rfl rfl (fun w' hE109 => (X.fieldAddrO (off := 9) ((congrFun hF105 5).trans ((hACb0.eq 5).trans ((congrFun hF58 5).trans ((hACr5.eq 5).trans (congrFun hF23 5))))) Try.underlying26 rfl rfl Try.sizeOf3)) ?_
                refine WO.q rfl rfl rfl rfl (fun w' hE109 => (X.loadO hO5 hE109 rfl rfl Try.isAgg3)) ?_
                refine WO.q rfl rfl rfl rfl (fun w' hE109 => (X.fieldAddrO (off := 10) ((congrFun hF105 5).trans ((hACb0.eq 5).trans ((congrFun hF58 5).trans ((hACr5.eq 5).trans (congrFun hF23 5))))) Try.underlying26 rfl rfl Try.sizeOf3)) ?_
                refine WO.q rfl rfl rfl rfl (fun w' hE109 => (X.loadO hO5 hE109 rfl rfl Try.isAgg3)) ?_
                refine WO.q rfl rfl rfl rfl (fun w' hE109 => (X.loadOA hO12 hE109 ((congrFun hF105 12).trans ((hACb0.eq 12).trans ((congrFun hF58 12).trans e12_Cr5))) rfl Try.isAgg37 Try.sizeOf37)) ?_
                refine WO.l ?_
                refine LO.go rfl rfl (OW.enter rfl (by decide) (X.call Try.call27 (evl_cons rfl (evl_cons rfl (evl_cons rfl evl_nil)))) (findI_ok _ _ _ _ _ (Row.ext hv (Ext.trans hwCb0 (Ext.drew _)))) ?_)
                rintro v111 w110 ⟨⟨z, rfl, hz⟩, hx112⟩
                have := World.grownBy.size hx112
                refine ⟨(Ext.trans (Ext.drew _) hx112), ?_⟩
                rw [hhas] at hf
                obtain ⟨k, rfl, hk, hset⟩ := find_idx hf hz
                have hkey := findA_key l m.Txn m.Part
                rw [hf] at hkey
                have hkey2 := stepA_key was id m
                refine WO.q rfl rfl rfl rfl (fun w' hE109 => (X.idx (oc.rd) rfl rfl (by omega) Try.underlying22 Try.sizeOf37)) ?_
                refine WO.nil ?_
                refine WL.op rfl (OW.storeEl (ds := (Acc.c (stepA was id m).1)) (oc.ext (Ext.trans (Ext.drew _) hx112)).own hk rfl rfl rfl (Acc.c_one _) Try.sizeOf37 ?_)
                intro w113 ho116 hx115
                have := World.grownBy.size hx115
                replace hO5 := (hO5.ext (Ext.trans (Ext.drew _) hx112)).keptR hx115 (fun b hb => by have h1 := ((oc.ext (Ext.trans (Ext.drew _) hx112)).own.lt b hb).1; have h2 := (oc.ext (Ext.trans (Ext.drew _) hx112)).top b hb; omega)
                replace hO10 := (hO10.ext (Ext.trans (Ext.drew _) hx112)).keptR hx115 (fun b hb => by have h1 := ((oc.ext (Ext.trans (Ext.drew _) hx112)).own.lt b hb).1; have h2 := (oc.ext (Ext.trans (Ext.drew _) hx112)).top b hb; omega)
                replace hO12 := (hO12.ext (Ext.trans (Ext.drew _) hx112)).keptR hx115 (fun b hb => by have h1 := ((oc.ext (Ext.trans (Ext.drew _) hx112)).own.lt b hb).1; have h2 := (oc.ext (Ext.trans (Ext.drew _) hx112)).top b hb; omega)
                replace hO13 := (hO13.ext (Ext.trans (Ext.drew _) hx112)).keptR hx115 (fun b hb => by have h1 := ((oc.ext (Ext.trans (Ext.drew _) hx112)).own.lt b hb).1; have h2 := (oc.ext (Ext.trans (Ext.drew _) hx112)).top b hb; omega)
                have oV : OwnV _ _ _ _ _ := OwnV.set hk ho116
                have ov : OwnT w113 _ _ _ _ _ _ _ := ⟨oV, oc.top⟩
                have hT : takeA l id m = (l.set k (stepA was id m).1, [(stepA was id m).2], true) := by rw [takeA_new (by rw [hhas]; exact hf) hgo hnew, hhas, ← hset _ (by rw [hkey2.1]; exact hkey.1) (by rw [hkey2.2]; exact hkey.2)]; rfl
                refine WL.nil ?_
                refine blk_n ?_
                refine thn_n ?_
                exact ⟨_, _, _, _, ((congrFun hF105 9).trans ((hACb0.eq 9).trans ((congrFun hF58 9).trans ((hACr5.eq 9).trans (congrFun hF23 9))))), (by repeat (first | exact (Agree.refl _ F104) | refine Agree.put ?_ rfl | refine Agree.sub hACb0 rfl ?_ | refine Agree.sub hACr5 rfl ?_ | refine Agree.named hF105 ?_ | refine Agree.named hF58 ?_ | refine Agree.named hF23 ?_)), (Ext.own (Ext.trans (Ext.trans hwCb0 (Ext.drew _)) hx112) (oc.ext (Ext.trans (Ext.drew _) hx112)).own szw hx115), ⟨ov, (by omega), hO10, hO12, hO13, hT, hbb⟩⟩
              · have gh4_107 := h4_107
                have hhas : has = false := gh4_107
                refine WF.seq ?_
                refine WF.region ?_
                refine WL.va rfl rfl rfl (X.makeFunc (evl_cons ((congrFun hF105 12).trans ((hACb0.eq 12).trans ((congrFun hF58 12).trans e12_Cr5))) evl_nil)) ?_
                refine WL.va rfl rfl rfl (X.assign rfl) ?_
                refine WL.nil ?_
                refine thn_n ?_
                refine WF.seq ?_
                refine WF.region ?_
                refine WL.va rfl rfl rfl (X.move ((congrFun hF105 9).trans ((hACb0.eq 9).trans ((congrFun hF58 9).trans ((hACr5.eq 9).trans (congrFun hF23 9)))))) ?_
                refine WL.va rfl rfl rfl (X.move rfl) ?_
                have hclo : ∀ k w1, k < l.length → Ext wCb0 w1 → CloOk Try.prog (.func (.func 28) #[] [at_ g12].toArray) [agg (el (l.flatMap Acc.c) 5 k)] w1 (fun r w2 => r = .bool (behind (l.getD k default) (stepA was id m).1) ∧ Ext w1 w2) := fun k w1 hk hx => ⟨_, _, rfl, Try.call28, (by rw [show el (l.flatMap Acc.c) 5 k = (l[k]'hk).c from Votes.el hk, show l.getD k default = l[k]'hk from by simp [hk]]; exact takeLit_ok _ _ _ _ (hO12.ext hx))⟩
                refine WL.c rfl rfl rfl (X.call Try.call31 (evl_cons rfl (evl_cons rfl evl_nil))) (indexV_ok _ _ _ _ (fun k => behind (l.getD k default) (stepA was id m).1) _ oc.rd hclo) ?_
                rintro v118 w117 ⟨⟨z, rfl, hz⟩, hx119⟩
                have := World.grownBy.size hx119
                refine WL.va rfl rfl rfl (X.assignI rfl) ?_
                refine WL.nil ?_
                refine thn_n ?_
                refine WF.seq ?_
                refine WF.seq ?_
                refine WF.region ?_
                refine WL.va rfl rfl rfl (X.moveI rfl) ?_
                refine WL.va rfl rfl rfl (X.lss rfl rfl) ?_
                refine WL.nil ?_
                refine thn_n ?_
                refine WF.cond rfl (fun h5_120 => ?_) (fun h5_120 => ?_)
                · have gh5_120 := (of_decide_eq_true h5_120)
                  obtain ⟨i, rfl, hin, hins⟩ := ins_none hz (by omega)
                  refine WF.region ?_
                  refine WL.va rfl rfl rfl (X.move ((congrFun hF105 9).trans ((hACb0.eq 9).trans ((congrFun hF58 9).trans ((hACr5.eq 9).trans (congrFun hF23 9)))))) ?_
                  refine WL.va rfl rfl rfl (X.len (oc.rd) rfl Try.underlying22) ?_
                  refine WL.va rfl rfl rfl (X.assignI rfl) ?_
                  refine WL.nil ?_
                  refine thn_n ?_
                  refine WF.region ?_
                  refine WL.va rfl rfl rfl (X.move ((congrFun hF105 9).trans ((hACb0.eq 9).trans ((congrFun hF58 9).trans ((hACr5.eq 9).trans (congrFun hF23 9)))))) ?_
                  refine WL.va rfl rfl rfl (X.moveI rfl) ?_
                  refine WL.va rfl rfl rfl (X.loadOA hO12 hx119 ((congrFun hF105 12).trans ((hACb0.eq 12).trans ((congrFun hF58 12).trans e12_Cr5))) rfl Try.isAgg37 Try.sizeOf37) ?_
                  refine WL.op rfl (OW.lits (vs := [agg (stepA was id m).1.c]) (evp_cons rfl evp_nil) Try.underlying22 Try.sizeOf37 Try.zeroValue37 ⟨rfl, trivial⟩ rfl rfl rfl ?_ (by decide))
                  intro v15 w122 ho124 hx123
                  have := World.grownBy.size hx123
                  have o15 : OwnV w122 _ _ v15 [(stepA was id m).1] := ho124
                  refine WL.c rfl rfl rfl (X.call Try.call32 (evl_cons rfl (evl_cons rfl (evl_cons rfl evl_nil)))) (insertV_ok _ _ _ _ l.length _ _ _ _ (oc.ext (Ext.trans hx119 hx123)).own o15 (OwnT.apart oc o15 (by omega)).symm votes_one (Acc.c_one _) hin (by omega) (by omega)) ?_
                  rintro vi w125 ⟨oi, hx126⟩
                  have := World.grownBy.size hx126
                  replace hO5 := (hO5.ext (Ext.trans hx119 hx123)).keptR hx126 (fun b hb => by have h1 := ((oc.ext (Ext.trans hx119 hx123)).own.lt b hb).1; have h2 := (oc.ext (Ext.trans hx119 hx123)).top b hb; omega)
                  replace hO10 := (hO10.ext (Ext.trans hx119 hx123)).keptR hx126 (fun b hb => by have h1 := ((oc.ext (Ext.trans hx119 hx123)).own.lt b hb).1; have h2 := (oc.ext (Ext.trans hx119 hx123)).top b hb; omega)
                  replace hO12 := (hO12.ext (Ext.trans hx119 hx123)).keptR hx126 (fun b hb => by have h1 := ((oc.ext (Ext.trans hx119 hx123)).own.lt b hb).1; have h2 := (oc.ext (Ext.trans hx119 hx123)).top b hb; omega)
                  replace hO13 := (hO13.ext (Ext.trans hx119 hx123)).keptR hx126 (fun b hb => by have h1 := ((oc.ext (Ext.trans hx119 hx123)).own.lt b hb).1; have h2 := (oc.ext (Ext.trans hx119 hx123)).top b hb; omega)
                  have oV : OwnV w125 _ _ vi _ := OwnV.ins hin oi
                  rw [← hins] at oV
                  have ov := OwnT.of oV
                  have hT : takeA l id m = (insV l (stepA was id m).1, [(stepA was id m).2], true) := by rw [takeA_new hf hgo hnew, hhas]; rfl
                  refine WL.va rfl rfl rfl (X.assign rfl) ?_
                  refine WL.nil ?_
                  refine blk_n ?_
                  refine thn_n ?_
                  exact ⟨_, _, _, _, rfl, (by repeat (first | exact (Agree.refl _ F104) | refine Agree.put ?_ rfl | refine Agree.sub hACb0 rfl ?_ | refine Agree.sub hACr5 rfl ?_ | refine Agree.named hF105 ?_ | refine Agree.named hF58 ?_ | refine Agree.named hF23 ?_)), (Ext.own (Ext.trans (Ext.trans hwCb0 hx119) hx123) (oc.ext (Ext.trans hx119 hx123)).own szw hx126), ⟨ov, (by omega), hO10, hO12, hO13, hT, hbb⟩⟩
                · have gh5_120 := (of_decide_eq_false h5_120)
                  obtain ⟨i, rfl, hin, hins⟩ := ins_idx hz (by omega)
                  refine WF.skip ?_
                  refine thn_n ?_
                  refine WF.region ?_
                  refine WL.va rfl rfl rfl (X.move ((congrFun hF105 9).trans ((hACb0.eq 9).trans ((congrFun hF58 9).trans ((hACr5.eq 9).trans (congrFun hF23 9)))))) ?_
                  refine WL.va rfl rfl rfl (X.moveI rfl) ?_
                  refine WL.va rfl rfl rfl (X.loadOA hO12 hx119 ((congrFun hF105 12).trans ((hACb0.eq 12).trans ((congrFun hF58 12).trans e12_Cr5))) rfl Try.isAgg37 Try.sizeOf37) ?_
                  refine WL.op rfl (OW.lits (vs := [agg (stepA was id m).1.c]) (evp_cons rfl evp_nil) Try.underlying22 Try.sizeOf37 Try.zeroValue37 ⟨rfl, trivial⟩ rfl rfl rfl ?_ (by decide))
                  intro v15 w127 ho129 hx128
                  have := World.grownBy.size hx128
                  have o15 : OwnV w127 _ _ v15 [(stepA was id m).1] := ho129
                  refine WL.c rfl rfl rfl (X.call Try.call32 (evl_cons rfl (evl_cons rfl (evl_cons rfl evl_nil)))) (insertV_ok _ _ _ _ l.length _ _ _ _ (oc.ext (Ext.trans hx119 hx128)).own o15 (OwnT.apart oc o15 (by omega)).symm votes_one (Acc.c_one _) hin (by omega) (by omega)) ?_
                  rintro vi w130 ⟨oi, hx131⟩
                  have := World.grownBy.size hx131
                  replace hO5 := (hO5.ext (Ext.trans hx119 hx128)).keptR hx131 (fun b hb => by have h1 := ((oc.ext (Ext.trans hx119 hx128)).own.lt b hb).1; have h2 := (oc.ext (Ext.trans hx119 hx128)).top b hb; omega)
                  replace hO10 := (hO10.ext (Ext.trans hx119 hx128)).keptR hx131 (fun b hb => by have h1 := ((oc.ext (Ext.trans hx119 hx128)).own.lt b hb).1; have h2 := (oc.ext (Ext.trans hx119 hx128)).top b hb; omega)
                  replace hO12 := (hO12.ext (Ext.trans hx119 hx128)).keptR hx131 (fun b hb => by have h1 := ((oc.ext (Ext.trans hx119 hx128)).own.lt b hb).1; have h2 := (oc.ext (Ext.trans hx119 hx128)).top b hb; omega)
                  replace hO13 := (hO13.ext (Ext.trans hx119 hx128)).keptR hx131 (fun b hb => by have h1 := ((oc.ext (Ext.trans hx119 hx128)).own.lt b hb).1; have h2 := (oc.ext (Ext.trans hx119 hx128)).top b hb; omega)
                  have oV : OwnV w130 _ _ vi _ := OwnV.ins hin oi
                  rw [← hins] at oV
                  have ov := OwnT.of oV
                  have hT : takeA l id m = (insV l (stepA was id m).1, [(stepA was id m).2], true) := by rw [takeA_new hf hgo hnew, hhas]; rfl
                  refine WL.va rfl rfl rfl (X.assign rfl) ?_
                  refine WL.nil ?_
                  refine blk_n ?_
                  refine thn_n ?_
                  exact ⟨_, _, _, _, rfl, (by repeat (first | exact (Agree.refl _ F104) | refine Agree.put ?_ rfl | refine Agree.sub hACb0 rfl ?_ | refine Agree.sub hACr5 rfl ?_ | refine Agree.named hF105 ?_ | refine Agree.named hF58 ?_ | refine Agree.named hF23 ?_)), (Ext.own (Ext.trans (Ext.trans hwCb0 hx119) hx128) (oc.ext (Ext.trans hx119 hx128)).own szw hx131), ⟨ov, (by omega), hO10, hO12, hO13, hT, hbb⟩⟩
          · rintro fCb1 wCb1 ⟨vv, L, b, T, e9_Cb1, hACb1, hwCb1, ⟨ov, hTT, hO10, hO12, hO13, hT, hbb⟩⟩
            refine WF.seq ?_
            refine WF.drawn (.q 0 (.q 1 (.q 3 (.q 4 (.q 5 (.q 6 (.l 2 (.q 7 (.q 8 .nil))))))))) (fun w' => Ext wCb1 w') 9 (by kernel_rfl) (by kernel_rfl) (Ext.drew _) ?_
            have := World.grownBy.size (Ext.drew wCb1)
            refine WO.q rfl rfl rfl rfl (fun w' hE132 => (X.move e9_Cb1)) ?_
            refine WO.q rfl rfl rfl rfl (fun w' hE132 => (X.loadOA hO13 hE132 ((hACb1.eq 13).trans ((congrFun hF105 13).trans ((hACb0.eq 13).trans ((congrFun hF58 13).trans e13_Cr5)))) rfl Try.isAgg26 Try.sizeOf26)) ?_
            refine WO.q rfl rfl rfl rfl (fun w' hE132 => (X.loadOA hO12 hE132 ((hACb1.eq 12).trans ((congrFun hF105 12).trans ((hACb0.eq 12).trans ((congrFun hF58 12).trans e12_Cr5)))) rfl Try.isAgg37 Try.sizeOf37)) ?_
            refine WO.q rfl rfl rfl rfl (fun w' hE132 => (X.loadOA hO10 hE132 ((hACb1.eq 10).trans ((congrFun hF105 10).trans ((hACb0.eq 10).trans ((congrFun hF58 10).trans ((hACr5.eq 10).trans (congrFun hF23 10)))))) rfl Try.isAgg37 Try.sizeOf37)) ?_
            refine WO.q rfl rfl rfl rfl (fun w' hE132 => (X.neqA (na := (stepA was id m).1.ints) (nb := was.ints) flatV fieldsV offsV rfl rfl rfl rfl (Acc.eqB _ _))) ?_
            refine WO.q rfl rfl rfl rfl (fun w' hE132 => (X.assign rfl)) ?_
            refine WO.l ?_
            have szE := World.grownBy.size (Ext.trans hwCb1 (Ext.drew _))
            refine LO.go rfl rfl (OW.lits (vs := [agg (Msg.bare (stepA was id m).2)]) (evp_cons rfl evp_nil) Try.underlying30 Try.sizeOf26 Try.zeroValue26 ⟨rfl, trivial⟩ rfl rfl rfl ?_ (by decide))
            intro v135 w134 ho137 hx136
            have := World.grownBy.size hx136
            have om : OwnM w134 _ 26 v135 [(stepA was id m).2] := ho137
            refine ⟨(Ext.trans (Ext.drew _) hx136), ?_⟩
            refine WO.q rfl rfl rfl rfl (fun w' hE132 => (X.assign rfl)) ?_
            refine WO.q rfl rfl rfl rfl (fun w' hE132 => (X.assignB rfl)) ?_
            refine WO.nil ?_
            refine WL.nil ?_
            refine thn_n ?_
            refine WF.ret ?_
            refine fin_r ?_
            rw [hT]; exact ⟨⟨_, _, congrArg (fun b => Value.tuple #[_, _, .bool b]) (show (!decide ((stepA was id m).1 = was)) = _ from by rw [hbb]; cases b <;> rfl), own_mono (ov.ext (Ext.trans (Ext.drew _) hx136)).own szw, own_mono om (by omega), OwnT.apart ov om (by omega)⟩, (Ext.trans (Ext.trans hwCb1 (Ext.drew _)) hx136)⟩
  · have gh18 := (nf h18)
    have hhas : has = true := gh18
    have hgo1 : ¬ (has = false ∧ 1024 ≤ l.length) := fun e => by rw [hhas] at e; cases e.1
    refine WL.p rfl rfl rfl (congrArg some h18) ?_
    refine WL.p rfl rfl rfl (congrArg some h18) ?_
    refine WL.p rfl rfl rfl (congrArg some h18) ?_
    refine WL.va rfl rfl rfl (X.pickF rfl h18 rfl) ?_
    refine WL.nil ?_
    refine thn_n ?_
    refine WF.cond_f rfl ?_
    refine WF.skip ?_
    refine thn_n ?_
    refine WF.named (fun F139 hF140 => ?_)
    refine WF.cut (fun f' w' => ∃ (g12 g13 : Nat), f' 12 = at_ g12 ∧ f' 13 = at_ g13 ∧ Agree [0, 1, 2, 5, 6, 7, 8, 9, 10, 11, 16, 17, 18, 19, 20, 21, 22, 23, 24, 25, 26, 27, 28, 29, 30, 31, 32, 33] f' F139 ∧ Ext w w' ∧ Blk w' g5 26 (m.c em dm) ∧ OwnT w' wb.heap.size wc.heap.size 37 5 vc l.length (l.flatMap Acc.c) ∧ Blk w' g10 37 was.c ∧ Blk w' g12 37 was.c ∧ Blk w' g13 26 (Msg.bare (out0 id m)) ∧ g10 < g12 ∧ g10 < g13 ∧ g12 ≠ g13 ∧ g12 < w'.heap.size ∧ g13 < w'.heap.size) ?_ ?_
    · refine WF.drawn (.q 0 (.q 1 (.q 2 (.q 3 (.q 4 (.q 5 (.q 6 (.q 7 (.q 8 (.q 9 (.q 10 (.b 11 12 (.l 12 (.l 13 .nil)) (.l 11 (.l 13 .nil)))))))))))))) (fun w' => Ext w13 w') 14 (by kernel_rfl) (by kernel_rfl) (Ext.drew _) ?_
      have := World.grownBy.size (Ext.drew w13)
      refine WO.q rfl rfl rfl rfl (fun w' hE141 => (X.loadOA hO10 hE141 (congrFun hF140 10) rfl Try.isAgg37 Try.sizeOf37)) ?_
      refine WO.q rfl rfl rfl rfl (fun w' hE141 => (X.moveI (congrFun hF140 1))) ?_
      refine WO.q rfl rfl rfl rfl (fun w' hE141 => (X.fieldAddrO (off := 1) (congrFun hF140 5) Try.underlying26 rfl rfl Try.sizeOf3)) ?_
      refine WO.q rfl rfl rfl rfl (fun w' hE141 => (X.loadO hO5 hE141 rfl rfl Try.isAgg3)) ?_
      refine WO.q rfl rfl rfl rfl (fun w' hE141 => (X.fieldAddrO (off := 9) (congrFun hF140 5) Try.underlying26 rfl rfl Try.sizeOf3)) ?_
      refine WO.q rfl rfl rfl rfl (fun w' hE141 => (X.loadO hO5 hE141 rfl rfl Try.isAgg3)) ?_
      refine WO.q rfl rfl rfl rfl (fun w' hE141 => (X.fieldAddrO (off := 10) (congrFun hF140 5) Try.underlying26 rfl rfl Try.sizeOf3)) ?_
      refine WO.q rfl rfl rfl rfl (fun w' hE141 => (X.loadO hO5 hE141 rfl rfl Try.isAgg3)) ?_
      refine WO.q rfl rfl rfl rfl (fun w' hE141 => (X.fieldAddrO (off := 11) (congrFun hF140 5) Try.underlying26 rfl rfl Try.sizeOf3)) ?_
      refine WO.q rfl rfl rfl rfl (fun w' hE141 => (X.loadO hO5 hE141 rfl rfl Try.isAgg3)) ?_
      refine WO.q rfl rfl rfl rfl (fun w' hE141 => (X.buildL (cs := (Msg.bare (out0 id m))) (evp_cons rfl (evp_cons rfl (evp_cons rfl (evp_cons rfl (evp_cons rfl evp_nil))))) Try.type26 Try.underlying26 rfl rfl ⟨rfl, rfl, rfl, rfl, rfl, trivial⟩ rfl)) ?_
      refine WO.b2 ?_ ?_
      · refine LO.go rfl rfl (OW.allocO (cs := [i64 0, i64 0, i64 0, i64 0, i64 0]) Try.zeroValue37 rfl ?_ (by decide))
        intro g12 w142 heg12 hlg12 hO12 hx144
        have := World.grownBy.size hx144
        refine ⟨(Ext.trans (Ext.drew _) hx144), ?_⟩
        refine WO.l ?_
        refine LO.go rfl rfl (OW.allocO (cs := [i64 0, i64 0, i64 0, i64 0, i64 0, i64 0, i64 0, i64 0, i64 0, i64 0, i64 0, i64 0, i64 0, i64 0, .bool false, .slice none 0 0, .slice none 0 0]) Try.zeroValue26 rfl ?_ (by decide))
        intro g13 w146 heg13 hlg13 hO13 hx148
        have := World.grownBy.size hx148
        refine ⟨(Ext.trans (Ext.trans (Ext.drew _) hx144) hx148), ?_⟩
        refine WO.l ?_
        refine LO.go rfl rfl (OW.storeOA (hO12.ext hx148) rfl rfl rfl (Acc.c_one _) Try.sizeOf37 ?_)
        intro w150 hO12 hx152
        have := World.grownBy.size hx152
        replace hO5 := (hO5.ext (Ext.trans (Ext.trans (Ext.drew _) hx144) hx148)).keptO hx152 (by omega)
        replace oc := (oc.ext (Ext.trans (Ext.trans (Ext.drew _) hx144) hx148)).keptO hx152 (by omega)
        replace hO10 := (hO10.ext (Ext.trans (Ext.trans (Ext.drew _) hx144) hx148)).keptO hx152 (by omega)
        replace hO13 := hO13.keptO hx152 (by omega)
        replace hO12 : Blk _ _ _ was.c := hO12
        refine ⟨(Ext.trans (Ext.drew _) (Ext.store (Ext.trans hx144 hx148) hx152 (by omega))), ?_⟩
        refine WO.nil ?_
        refine WL.op rfl (OW.storeOA hO13 rfl rfl rfl (Msg.bare_one _) Try.sizeOf26 ?_)
        intro w154 hO13 hx156
        have := World.grownBy.size hx156
        replace hO5 := hO5.keptO hx156 (by omega)
        replace oc := oc.keptO hx156 (by omega)
        replace hO10 := hO10.keptO hx156 (by omega)
        replace hO12 := hO12.keptO hx156 (by omega)
        replace hO13 : Blk _ _ _ (Msg.bare (out0 id m)) := hO13
        refine WL.nil ?_
        refine thn_n ?_
        exact ⟨_, _, rfl, rfl, (by repeat (first | exact (Agree.refl _ F139) | refine Agree.put ?_ rfl | refine Agree.named hF140 ?_)), (Ext.store (Ext.trans (Ext.trans (Ext.trans (Ext.trans (Ext.trans hx2 hx5) hx8) (Ext.store hx11 hx15 (by omega))) (Ext.drew _)) (Ext.store (Ext.trans hx144 hx148) hx152 (by omega))) hx156 (by omega)), ⟨hO5, oc, hO10, hO12, hO13, (by omega), (by omega), (by omega), (by omega), (by omega)⟩⟩
      · refine LO.go rfl rfl (OW.allocO (cs := [i64 0, i64 0, i64 0, i64 0, i64 0, i64 0, i64 0, i64 0, i64 0, i64 0, i64 0, i64 0, i64 0, i64 0, .bool false, .slice none 0 0, .slice none 0 0]) Try.zeroValue26 rfl ?_ (by decide))
        intro g13 w158 heg13 hlg13 hO13 hx160
        have := World.grownBy.size hx160
        refine ⟨(Ext.trans (Ext.drew _) hx160), ?_⟩
        refine WO.l ?_
        refine LO.go rfl rfl (OW.allocO (cs := [i64 0, i64 0, i64 0, i64 0, i64 0]) Try.zeroValue37 rfl ?_ (by decide))
        intro g12 w162 heg12 hlg12 hO12 hx164
        have := World.grownBy.size hx164
        refine ⟨(Ext.trans (Ext.trans (Ext.drew _) hx160) hx164), ?_⟩
        refine WO.l ?_
        refine LO.go rfl rfl (OW.storeOA hO12 rfl rfl rfl (Acc.c_one _) Try.sizeOf37 ?_)
        intro w166 hO12 hx168
        have := World.grownBy.size hx168
        replace hO5 := (hO5.ext (Ext.trans (Ext.trans (Ext.drew _) hx160) hx164)).keptO hx168 (by omega)
        replace oc := (oc.ext (Ext.trans (Ext.trans (Ext.drew _) hx160) hx164)).keptO hx168 (by omega)
        replace hO10 := (hO10.ext (Ext.trans (Ext.trans (Ext.drew _) hx160) hx164)).keptO hx168 (by omega)
        replace hO13 := (hO13.ext hx164).keptO hx168 (by omega)
        replace hO12 : Blk _ _ _ was.c := hO12
        refine ⟨(Ext.trans (Ext.trans (Ext.drew _) hx160) (Ext.store hx164 hx168 (by omega))), ?_⟩
        refine WO.nil ?_
        refine WL.op rfl (OW.storeOA hO13 rfl rfl rfl (Msg.bare_one _) Try.sizeOf26 ?_)
        intro w170 hO13 hx172
        have := World.grownBy.size hx172
        replace hO5 := hO5.keptO hx172 (by omega)
        replace oc := oc.keptO hx172 (by omega)
        replace hO10 := hO10.keptO hx172 (by omega)
        replace hO12 := hO12.keptO hx172 (by omega)
        replace hO13 : Blk _ _ _ (Msg.bare (out0 id m)) := hO13
        refine WL.nil ?_
        refine thn_n ?_
        exact ⟨_, _, rfl, rfl, (by repeat (first | exact (Agree.refl _ F139) | refine Agree.put ?_ rfl | refine Agree.named hF140 ?_)), (Ext.trans (Ext.trans (Ext.trans (Ext.trans (Ext.trans hx2 hx5) hx8) (Ext.store hx11 hx15 (by omega))) (Ext.drew _)) (Ext.store (Ext.trans hx160 (Ext.store hx164 hx168 (by omega))) hx172 (by omega))), ⟨hO5, oc, hO10, hO12, hO13, (by omega), (by omega), (by omega), (by omega), (by omega)⟩⟩
    · rintro fCr5 wCr5 ⟨g12, g13, e12_Cr5, e13_Cr5, hACr5, hwCr5, ⟨hO5, oc, hO10, hO12, hO13, q1, q2, q3, q4, q5⟩⟩
      refine WF.named (fun F174 hF175 => ?_)
      refine WF.cut (fun f' w' => Agree [0, 1, 2, 5, 9, 10, 11, 12, 13, 16, 17, 18, 19, 20, 21, 22, 23, 24, 25, 26, 27, 28, 29, 30, 31, 32, 33] f' F174 ∧ Ext w w' ∧ Blk w' g5 26 (m.c em dm) ∧ OwnT w' wb.heap.size wc.heap.size 37 5 vc l.length (l.flatMap Acc.c) ∧ Blk w' g10 37 was.c ∧ Blk w' g12 37 (stepA was id m).1.c ∧ Blk w' g13 26 (Msg.bare (stepA was id m).2) ∧ ¬ (may m = false ∨ (has = false ∧ 1024 ≤ l.length)) ∧ g12 < w'.heap.size ∧ g13 < w'.heap.size) ?_ ?_
      · refine WF.block ?_
        refine WF.seq ?_
        refine WF.region ?_
        refine WL.va rfl rfl rfl (X.fieldAddrO (off := 0) ((congrFun hF175 5).trans ((hACr5.eq 5).trans (congrFun hF140 5))) Try.underlying26 rfl rfl Try.sizeOf3) ?_
        refine WL.va rfl rfl rfl (X.loadO hO5 (Ext.refl _) rfl rfl Try.isAgg3) ?_
        refine WL.va rfl rfl rfl (X.eql rfl rfl) ?_
        refine WL.va rfl rfl rfl (X.assignB rfl) ?_
        refine WL.nil ?_
        refine thn_n ?_
        refine WF.cond rfl (fun h1_176 => ?_) (fun h1_176 => ?_)
        · have gh1_176 := (of_decide_eq_true h1_176)
          have hk8 := gh1_176
          have hsA : stepA was id m = stepP was m (out0 id m) := if_pos gh1_176
          have hmay : may m = true := by unfold may; simp [hk8]
          have hgo : ¬ (may m = false ∨ (has = false ∧ 1024 ≤ l.length)) := fun e => e.elim (by rw [hmay]; simp) hgo1
          refine WF.region ?_
          refine WL.va rfl rfl rfl (X.loadOA hO10 (Ext.refl _) ((congrFun hF175 10).trans ((hACr5.eq 10).trans (congrFun hF140 10))) rfl Try.isAgg37 Try.sizeOf37) ?_
          refine WL.va rfl rfl rfl (X.loadOA hO5 (Ext.refl _) ((congrFun hF175 5).trans ((hACr5.eq 5).trans (congrFun hF140 5))) rfl Try.isAgg26 Try.sizeOf26) ?_
          refine WL.va rfl rfl rfl (X.loadOA hO13 (Ext.refl _) ((congrFun hF175 13).trans e13_Cr5) rfl Try.isAgg26 Try.sizeOf26) ?_
          refine WL.c rfl rfl rfl (X.call Try.call25 (evl_cons rfl (evl_cons rfl (evl_cons rfl evl_nil)))) ((prepared_ok was m (out0 id m) em dm _).mono (fun r w2 h => (show r = .tuple #[agg (stepA was id m).1.c, agg (stepA was id m).2.bare] ∧ Ext wCr5 w2 from by rw [hsA]; exact h))) ?_
          rintro v179 w178 ⟨rfl, hx180⟩
          have := World.grownBy.size hx180
          refine WL.va rfl rfl rfl (X.move rfl) ?_
          refine WL.va rfl rfl rfl (X.extract rfl rfl) ?_
          refine WL.va rfl rfl rfl (X.extract rfl rfl) ?_
          refine WL.op rfl (OW.storeOA (hO12.ext hx180) ((congrFun hF175 12).trans e12_Cr5) rfl rfl (Acc.c_one _) Try.sizeOf37 ?_)
          intro w181 hO12 hx183
          have := World.grownBy.size hx183
          replace hO5 := (hO5.ext hx180).keptO hx183 (by omega)
          replace oc := (oc.ext hx180).keptO hx183 (by omega)
          replace hO10 := (hO10.ext hx180).keptO hx183 (by omega)
          replace hO13 := (hO13.ext hx180).keptO hx183 (by omega)
          replace hO12 : Blk _ _ _ (stepA was id m).1.c := hO12
          refine WL.op rfl (OW.storeOA hO13 ((congrFun hF175 13).trans e13_Cr5) rfl rfl (Msg.bare_one _) Try.sizeOf26 ?_)
          intro w185 hO13 hx187
          have := World.grownBy.size hx187
          replace hO5 := hO5.keptO hx187 (by omega)
          replace oc := oc.keptO hx187 (by omega)
          replace hO10 := hO10.keptO hx187 (by omega)
          replace hO12 := hO12.keptO hx187 (by omega)
          replace hO13 : Blk _ _ _ (Msg.bare (stepA was id m).2) := hO13
          refine WL.nil ?_
          refine blk_n ?_
          refine thn_n ?_
          exact ⟨(by repeat (first | exact (Agree.refl _ F174) | refine Agree.put ?_ rfl | refine Agree.sub hACr5 rfl ?_ | refine Agree.named hF175 ?_ | refine Agree.named hF140 ?_)), (Ext.store (Ext.store (Ext.trans hwCr5 hx180) hx183 (by omega)) hx187 (by omega)), ⟨hO5, oc, hO10, hO12, hO13, hgo, (by omega), (by omega)⟩⟩
        · have gh1_176 := (of_decide_eq_false h1_176)
          have hk8 := gh1_176
          have hsA : stepA was id m = stepO was m (out0 id m) := if_neg gh1_176
          refine WF.seq ?_
          refine WF.region ?_
          refine WL.va rfl rfl rfl (X.fieldAddrO (off := 0) ((congrFun hF175 5).trans ((hACr5.eq 5).trans (congrFun hF140 5))) Try.underlying26 rfl rfl Try.sizeOf3) ?_
          refine WL.va rfl rfl rfl (X.loadO hO5 (Ext.refl _) rfl rfl Try.isAgg3) ?_
          refine WL.va rfl rfl rfl (X.eql rfl rfl) ?_
          refine WL.va rfl rfl rfl (X.moveB rfl) ?_
          refine WL.split (j := 3) rfl (fun h190 => ?_) (fun h190 => ?_)
          · have gh190 := (of_decide_eq_true h190)
            have hk10 := gh190
            refine WL.vg rfl (congrArg some h190) rfl rfl (X.fieldAddrO (off := 12) ((congrFun hF175 5).trans ((hACr5.eq 5).trans (congrFun hF140 5))) Try.underlying26 rfl rfl Try.sizeOf3) ?_
            refine WL.vg rfl (congrArg some h190) rfl rfl (X.loadO hO5 (Ext.refl _) rfl rfl Try.isAgg3) ?_
            refine WL.vg rfl (congrArg some h190) rfl rfl (X.eql rfl rfl) ?_
            refine WL.vg rfl (congrArg some h190) rfl rfl (X.moveB rfl) ?_
            refine WL.split (j := 7) rfl (fun h192 => ?_) (fun h192 => ?_)
            · have gh192 := (of_decide_eq_true h192)
              have hmay : may m = true := by unfold may; simp [hk8, hk10, gh192]
              refine WL.p rfl rfl rfl (congrArg some h192) ?_
              refine WL.p rfl rfl rfl (congrArg some h192) ?_
              refine WL.p rfl rfl rfl (congrArg some h192) ?_
              refine WL.vg rfl (congrArg some h190) rfl rfl (X.pickT rfl h192 rfl) ?_
              refine WL.va rfl rfl rfl (X.pickT rfl h190 rfl) ?_
              refine WL.va rfl rfl rfl (X.assignB rfl) ?_
              refine WL.nil ?_
              refine thn_n ?_
              refine WF.cond_t rfl ?_
              refine WF.region ?_
              have hgo : ¬ (may m = false ∨ (has = false ∧ 1024 ≤ l.length)) := fun e => e.elim (by rw [hmay]; simp) hgo1
              refine WL.va rfl rfl rfl (X.loadOA hO10 (Ext.refl _) ((congrFun hF175 10).trans ((hACr5.eq 10).trans (congrFun hF140 10))) rfl Try.isAgg37 Try.sizeOf37) ?_
              refine WL.va rfl rfl rfl (X.loadOA hO5 (Ext.refl _) ((congrFun hF175 5).trans ((hACr5.eq 5).trans (congrFun hF140 5))) rfl Try.isAgg26 Try.sizeOf26) ?_
              refine WL.va rfl rfl rfl (X.loadOA hO13 (Ext.refl _) ((congrFun hF175 13).trans e13_Cr5) rfl Try.isAgg26 Try.sizeOf26) ?_
              refine WL.c rfl rfl rfl (X.call Try.call26 (evl_cons rfl (evl_cons rfl (evl_cons rfl evl_nil)))) ((proposed_ok was m (out0 id m) em dm _ hmT).mono (fun r w2 h => (show r = .tuple #[agg (stepA was id m).1.c, agg (stepA was id m).2.bare] ∧ Ext wCr5 w2 from by rw [hsA]; exact h))) ?_
              rintro v195 w194 ⟨rfl, hx196⟩
              have := World.grownBy.size hx196
              refine WL.va rfl rfl rfl (X.move rfl) ?_
              refine WL.va rfl rfl rfl (X.extract rfl rfl) ?_
              refine WL.va rfl rfl rfl (X.extract rfl rfl) ?_
              refine WL.op rfl (OW.storeOA (hO12.ext hx196) ((congrFun hF175 12).trans e12_Cr5) rfl rfl (Acc.c_one _) Try.sizeOf37 ?_)
              intro w197 hO12 hx199
              have := World.grownBy.size hx199
              replace hO5 := (hO5.ext hx196).keptO hx199 (by omega)
              replace oc := (oc.ext hx196).keptO hx199 (by omega)
              replace hO10 := (hO10.ext hx196).keptO hx199 (by omega)
              replace hO13 := (hO13.ext hx196).keptO hx199 (by omega)
              replace hO12 : Blk _ _ _ (stepA was id m).1.c := hO12
              refine WL.op rfl (OW.storeOA hO13 ((congrFun hF175 13).trans e13_Cr5) rfl rfl (Msg.bare_one _) Try.sizeOf26 ?_)
              intro w201 hO13 hx203
              have := World.grownBy.size hx203
              replace hO5 := hO5.keptO hx203 (by omega)
              replace oc := oc.keptO hx203 (by omega)
              replace hO10 := hO10.keptO hx203 (by omega)
              replace hO12 := hO12.keptO hx203 (by omega)
              replace hO13 : Blk _ _ _ (Msg.bare (stepA was id m).2) := hO13
              refine WL.nil ?_
              refine blk_n ?_
              refine thn_n ?_
              exact ⟨(by repeat (first | exact (Agree.refl _ F174) | refine Agree.put ?_ rfl | refine Agree.sub hACr5 rfl ?_ | refine Agree.named hF175 ?_ | refine Agree.named hF140 ?_)), (Ext.store (Ext.store (Ext.trans hwCr5 hx196) hx199 (by omega)) hx203 (by omega)), ⟨hO5, oc, hO10, hO12, hO13, hgo, (by omega), (by omega)⟩⟩
            · have gh192 := (of_decide_eq_false h192)
              have hv1 := gh192
              refine WL.vg rfl (congrArg some h192) rfl rfl (X.fieldAddrO (off := 12) ((congrFun hF175 5).trans ((hACr5.eq 5).trans (congrFun hF140 5))) Try.underlying26 rfl rfl Try.sizeOf3) ?_
              refine WL.vg rfl (congrArg some h192) rfl rfl (X.loadO hO5 (Ext.refl _) rfl rfl Try.isAgg3) ?_
              refine WL.vg rfl (congrArg some h192) rfl rfl (X.eql rfl rfl) ?_
              refine WL.vg rfl (congrArg some h190) rfl rfl (X.pickF rfl h192 rfl) ?_
              refine WL.va rfl rfl rfl (X.pickT rfl h190 rfl) ?_
              refine WL.va rfl rfl rfl (X.assignB rfl) ?_
              refine WL.nil ?_
              refine thn_n ?_
              refine WF.cond rfl (fun h2_205 => ?_) (fun h2_205 => ?_)
              · have gh2_205 := (of_decide_eq_true h2_205)
                have hmay : may m = true := by unfold may; simp [hk8, hk10, gh2_205]
                refine WF.region ?_
                have hgo : ¬ (may m = false ∨ (has = false ∧ 1024 ≤ l.length)) := fun e => e.elim (by rw [hmay]; simp) hgo1
                refine WL.va rfl rfl rfl (X.loadOA hO10 (Ext.refl _) ((congrFun hF175 10).trans ((hACr5.eq 10).trans (congrFun hF140 10))) rfl Try.isAgg37 Try.sizeOf37) ?_
                refine WL.va rfl rfl rfl (X.loadOA hO5 (Ext.refl _) ((congrFun hF175 5).trans ((hACr5.eq 5).trans (congrFun hF140 5))) rfl Try.isAgg26 Try.sizeOf26) ?_
                refine WL.va rfl rfl rfl (X.loadOA hO13 (Ext.refl _) ((congrFun hF175 13).trans e13_Cr5) rfl Try.isAgg26 Try.sizeOf26) ?_
                refine WL.c rfl rfl rfl (X.call Try.call26 (evl_cons rfl (evl_cons rfl (evl_cons rfl evl_nil)))) ((proposed_ok was m (out0 id m) em dm _ hmT).mono (fun r w2 h => (show r = .tuple #[agg (stepA was id m).1.c, agg (stepA was id m).2.bare] ∧ Ext wCr5 w2 from by rw [hsA]; exact h))) ?_
                rintro v208 w207 ⟨rfl, hx209⟩
                have := World.grownBy.size hx209
                refine WL.va rfl rfl rfl (X.move rfl) ?_
                refine WL.va rfl rfl rfl (X.extract rfl rfl) ?_
                refine WL.va rfl rfl rfl (X.extract rfl rfl) ?_
                refine WL.op rfl (OW.storeOA (hO12.ext hx209) ((congrFun hF175 12).trans e12_Cr5) rfl rfl (Acc.c_one _) Try.sizeOf37 ?_)
                intro w210 hO12 hx212
                have := World.grownBy.size hx212
                replace hO5 := (hO5.ext hx209).keptO hx212 (by omega)
                replace oc := (oc.ext hx209).keptO hx212 (by omega)
                replace hO10 := (hO10.ext hx209).keptO hx212 (by omega)
                replace hO13 := (hO13.ext hx209).keptO hx212 (by omega)
                replace hO12 : Blk _ _ _ (stepA was id m).1.c := hO12
                refine WL.op rfl (OW.storeOA hO13 ((congrFun hF175 13).trans e13_Cr5) rfl rfl (Msg.bare_one _) Try.sizeOf26 ?_)
                intro w214 hO13 hx216
                have := World.grownBy.size hx216
                replace hO5 := hO5.keptO hx216 (by omega)
                replace oc := oc.keptO hx216 (by omega)
                replace hO10 := hO10.keptO hx216 (by omega)
                replace hO12 := hO12.keptO hx216 (by omega)
                replace hO13 : Blk _ _ _ (Msg.bare (stepA was id m).2) := hO13
                refine WL.nil ?_
                refine blk_n ?_
                refine thn_n ?_
                exact ⟨(by repeat (first | exact (Agree.refl _ F174) | refine Agree.put ?_ rfl | refine Agree.sub hACr5 rfl ?_ | refine Agree.named hF175 ?_ | refine Agree.named hF140 ?_)), (Ext.store (Ext.store (Ext.trans hwCr5 hx209) hx212 (by omega)) hx216 (by omega)), ⟨hO5, oc, hO10, hO12, hO13, hgo, (by omega), (by omega)⟩⟩
              · have gh2_205 := (of_decide_eq_false h2_205)
                have hmay : may m = false := by unfold may; simp [hk8, hk10, hv1, gh2_205]
                refine WF.seq ?_
                refine WF.region ?_
                refine WL.va rfl rfl rfl (X.move ((congrFun hF175 9).trans ((hACr5.eq 9).trans (congrFun hF140 9)))) ?_
                refine WL.va rfl rfl rfl (X.assign rfl) ?_
                refine WL.va rfl rfl rfl (X.assign rfl) ?_
                refine WL.va rfl rfl rfl (X.assignB rfl) ?_
                refine WL.nil ?_
                refine thn_n ?_
                refine WF.ret ?_
                refine blk_r ?_
                refine thn_r ?_
                refine fin_r ?_
                rw [takeA_none hf (.inl hmay)]; exact ⟨⟨_, _, rfl, own_mono oc.own szw, OwnM.nil _ _ _, fun k hk hk2 => by cases hk2⟩, hwCr5⟩
          · have gh190 := (of_decide_eq_false h190)
            have hmay : may m = false := by unfold may; simp [hk8, gh190]
            refine WL.p rfl rfl rfl (congrArg some h190) ?_
            refine WL.p rfl rfl rfl (congrArg some h190) ?_
            refine WL.p rfl rfl rfl (congrArg some h190) ?_
            refine WL.p rfl rfl rfl (congrArg some h190) ?_
            refine WL.pn rfl rfl rfl rfl ?_
            refine WL.pn rfl rfl rfl rfl ?_
            refine WL.pn rfl rfl rfl rfl ?_
            refine WL.p rfl rfl rfl (congrArg some h190) ?_
            refine WL.va rfl rfl rfl (X.pickF rfl h190 rfl) ?_
            refine WL.va rfl rfl rfl (X.assignB rfl) ?_
            refine WL.nil ?_
            refine thn_n ?_
            refine WF.cond_f rfl ?_
            refine WF.seq ?_
            refine WF.region ?_
            refine WL.va rfl rfl rfl (X.move ((congrFun hF175 9).trans ((hACr5.eq 9).trans (congrFun hF140 9)))) ?_
            refine WL.va rfl rfl rfl (X.assign rfl) ?_
            refine WL.va rfl rfl rfl (X.assign rfl) ?_
            refine WL.va rfl rfl rfl (X.assignB rfl) ?_
            refine WL.nil ?_
            refine thn_n ?_
            refine WF.ret ?_
            refine blk_r ?_
            refine thn_r ?_
            refine fin_r ?_
            rw [takeA_none hf (.inl hmay)]; exact ⟨⟨_, _, rfl, own_mono oc.own szw, OwnM.nil _ _ _, fun k hk hk2 => by cases hk2⟩, hwCr5⟩
      · rintro fCb0 wCb0 ⟨hACb0, hwCb0, ⟨hO5, oc, hO10, hO12, hO13, hgo, q4, q5⟩⟩
        refine WF.named (fun F221 hF222 => ?_)
        refine WF.cut (fun f' w' => ∃ (vv : Value) (L : List Acc) (b : Bool) (T : Nat), f' 9 = vv ∧ Agree [0, 1, 2, 5, 10, 11, 12, 13, 16, 17, 18, 19, 20, 21, 22, 23, 24, 25, 26, 27, 28, 29, 30, 31, 32, 33] f' F221 ∧ Ext w w' ∧ OwnT w' wb.heap.size T 37 5 vv L.length (L.flatMap Acc.c) ∧ T ≤ w'.heap.size ∧ Blk w' g10 37 was.c ∧ Blk w' g12 37 (stepA was id m).1.c ∧ Blk w' g13 26 (Msg.bare (stepA was id m).2) ∧ takeA l id m = (L, [(stepA was id m).2], b) ∧ decide ((stepA was id m).1 = was) = !b) ?_ ?_
        · refine WF.block ?_
          refine WF.seq ?_
          refine WF.region ?_
          refine WL.va rfl rfl rfl (X.loadOA hO12 (Ext.refl _) ((congrFun hF222 12).trans ((hACb0.eq 12).trans ((congrFun hF175 12).trans e12_Cr5))) rfl Try.isAgg37 Try.sizeOf37) ?_
          refine WL.va rfl rfl rfl (X.loadOA hO10 (Ext.refl _) ((congrFun hF222 10).trans ((hACb0.eq 10).trans ((congrFun hF175 10).trans ((hACr5.eq 10).trans (congrFun hF140 10))))) rfl Try.isAgg37 Try.sizeOf37) ?_
          refine WL.va rfl rfl rfl (X.eqlA (na := (stepA was id m).1.ints) (nb := was.ints) flatV fieldsV offsV rfl rfl rfl rfl (Acc.eqB _ _)) ?_
          refine WL.va rfl rfl rfl (X.assignB rfl) ?_
          refine WL.nil ?_
          refine thn_n ?_
          refine WF.cond rfl (fun h3_223 => ?_) (fun h3_223 => ?_)
          · have gh3_223 := h3_223
            have hsm : (stepA was id m).1 = was := of_decide_eq_true gh3_223
            have hT : takeA l id m = (l, [(stepA was id m).2], false) := takeA_same hf hgo hsm
            have ov := oc
            have hbb : decide ((stepA was id m).1 = was) = true := gh3_223
            refine WF.skip ?_
            refine blk_n ?_
            refine thn_n ?_
            exact ⟨_, _, _, _, ((congrFun hF222 9).trans ((hACb0.eq 9).trans ((congrFun hF175 9).trans ((hACr5.eq 9).trans (congrFun hF140 9))))), (by repeat (first | exact (Agree.refl _ F221) | refine Agree.put ?_ rfl | refine Agree.sub hACb0 rfl ?_ | refine Agree.sub hACr5 rfl ?_ | refine Agree.named hF222 ?_ | refine Agree.named hF175 ?_ | refine Agree.named hF140 ?_)), hwCb0, ⟨ov, (by omega), hO10, hO12, hO13, hT, hbb⟩⟩
          · have gh3_223 := h3_223
            have hnew : ¬ (stepA was id m).1 = was := of_decide_eq_false gh3_223
            have hbb : decide ((stepA was id m).1 = was) = false := gh3_223
            refine WF.seq ?_
            refine WF.region ?_
            refine WL.va rfl rfl rfl (X.moveB ((congrFun hF222 11).trans ((hACb0.eq 11).trans ((congrFun hF175 11).trans ((hACr5.eq 11).trans (congrFun hF140 11)))))) ?_
            refine WL.va rfl rfl rfl (X.assignB rfl) ?_
            refine WL.nil ?_
            refine thn_n ?_
            refine WF.cond rfl (fun h4_224 => ?_) (fun h4_224 => ?_)
            · have gh4_224 := h4_224
              have hhas : has = true := gh4_224
              refine WF.drawn (.q 0 (.q 1 (.q 2 (.q 3 (.q 4 (.q 5 (.q 7 (.l 6 (.q 8 .nil))))))))) (fun w' => Ext wCb0 w') 9 (by kernel_rfl) (by kernel_rfl) (Ext.drew _) ?_
              have := World.grownBy.size (Ext.drew wCb0)
              refine WO.q rfl rfl rfl rfl (fun w' hE226 => (X.move ((congrFun hF222 9).trans ((hACb0.eq 9).trans ((congrFun hF175 9).trans ((hACr5.eq 9).trans (congrFun hF140 9))))))) ?_
              refine WO.q rfl rfl rfl rfl (fun w' hE226 => (X.move ((congrFun hF222 0).trans ((hACb0.eq 0).trans ((congrFun hF175 0).trans ((hACr5.eq 0).trans (congrFun hF140 0))))))) ?_
              refine WO.q rfl rfl rfl rfl (fun w' hE226 => (X.fieldAddrO (off := 9) ((congrFun hF222 5).trans ((hACb0.eq 5).trans ((congrFun hF175 5).trans ((hACr5.eq 5).trans (congrFun hF140 5))))) Try.underlying26 rfl rfl Try.sizeOf3)) ?_
              refine WO.q rfl rfl rfl rfl (fun w' hE226 => (X.loadO hO5 hE226 rfl rfl Try.isAgg3)) ?_
              refine WO.q rfl rfl rfl rfl (fun w' hE226 => (X.fieldAddrO (off := 10) ((congrFun hF222 5).trans ((hACb0.eq 5).trans ((congrFun hF175 5).trans ((hACr5.eq 5).trans (congrFun hF140 5))))) Try.underlying26 rfl rfl Try.sizeOf3)) ?_
              refine WO.q rfl rfl rfl rfl (fun w' hE226 => (X.loadO hO5 hE226 rfl rfl Try.isAgg3)) ?_
              refine WO.q rfl rfl rfl rfl (fun w' hE226 => (X.loadOA hO12 hE226 ((congrFun hF222 12).trans ((hACb0.eq 12).trans ((congrFun hF175 12).trans e12_Cr5))) rfl Try.isAgg37 Try.sizeOf37)) ?_
              refine WO.l ?_
              refine LO.go rfl rfl (OW.enter rfl (by decide) (X.call Try.call27 (evl_cons rfl (evl_cons rfl (evl_cons rfl evl_nil)))) (findI_ok _ _ _ _ _ (Row.ext hv (Ext.trans hwCb0 (Ext.drew _)))) ?_)
              rintro v228 w227 ⟨⟨z, rfl, hz⟩, hx229⟩
              have := World.grownBy.size hx229
              refine ⟨(Ext.trans (Ext.drew _) hx229), ?_⟩
              rw [hhas] at hf
              obtain ⟨k, rfl, hk, hset⟩ := find_idx hf hz
              have hkey := findA_key l m.Txn m.Part
              rw [hf] at hkey
              have hkey2 := stepA_key was id m
              refine WO.q rfl rfl rfl rfl (fun w' hE226 => (X.idx (oc.rd) rfl rfl (by omega) Try.underlying22 Try.sizeOf37)) ?_
              refine WO.nil ?_
              refine WL.op rfl (OW.storeEl (ds := (Acc.c (stepA was id m).1)) (oc.ext (Ext.trans (Ext.drew _) hx229)).own hk rfl rfl rfl (Acc.c_one _) Try.sizeOf37 ?_)
              intro w230 ho233 hx232
              have := World.grownBy.size hx232
              replace hO5 := (hO5.ext (Ext.trans (Ext.drew _) hx229)).keptR hx232 (fun b hb => by have h1 := ((oc.ext (Ext.trans (Ext.drew _) hx229)).own.lt b hb).1; have h2 := (oc.ext (Ext.trans (Ext.drew _) hx229)).top b hb; omega)
              replace hO10 := (hO10.ext (Ext.trans (Ext.drew _) hx229)).keptR hx232 (fun b hb => by have h1 := ((oc.ext (Ext.trans (Ext.drew _) hx229)).own.lt b hb).1; have h2 := (oc.ext (Ext.trans (Ext.drew _) hx229)).top b hb; omega)
              replace hO12 := (hO12.ext (Ext.trans (Ext.drew _) hx229)).keptR hx232 (fun b hb => by have h1 := ((oc.ext (Ext.trans (Ext.drew _) hx229)).own.lt b hb).1; have h2 := (oc.ext (Ext.trans (Ext.drew _) hx229)).top b hb; omega)
              replace hO13 := (hO13.ext (Ext.trans (Ext.drew _) hx229)).keptR hx232 (fun b hb => by have h1 := ((oc.ext (Ext.trans (Ext.drew _) hx229)).own.lt b hb).1; have h2 := (oc.ext (Ext.trans (Ext.drew _) hx229)).top b hb; omega)
              have oV : OwnV _ _ _ _ _ := OwnV.set hk ho233
              have ov : OwnT w230 _ _ _ _ _ _ _ := ⟨oV, oc.top⟩
              have hT : takeA l id m = (l.set k (stepA was id m).1, [(stepA was id m).2], true) := by rw [takeA_new (by rw [hhas]; exact hf) hgo hnew, hhas, ← hset _ (by rw [hkey2.1]; exact hkey.1) (by rw [hkey2.2]; exact hkey.2)]; rfl
              refine WL.nil ?_
              refine blk_n ?_
              refine thn_n ?_
              exact ⟨_, _, _, _, ((congrFun hF222 9).trans ((hACb0.eq 9).trans ((congrFun hF175 9).trans ((hACr5.eq 9).trans (congrFun hF140 9))))), (by repeat (first | exact (Agree.refl _ F221) | refine Agree.put ?_ rfl | refine Agree.sub hACb0 rfl ?_ | refine Agree.sub hACr5 rfl ?_ | refine Agree.named hF222 ?_ | refine Agree.named hF175 ?_ | refine Agree.named hF140 ?_)), (Ext.own (Ext.trans (Ext.trans hwCb0 (Ext.drew _)) hx229) (oc.ext (Ext.trans (Ext.drew _) hx229)).own szw hx232), ⟨ov, (by omega), hO10, hO12, hO13, hT, hbb⟩⟩
            · have gh4_224 := h4_224
              have hhas : has = false := gh4_224
              refine WF.seq ?_
              refine WF.region ?_
              refine WL.va rfl rfl rfl (X.makeFunc (evl_cons ((congrFun hF222 12).trans ((hACb0.eq 12).trans ((congrFun hF175 12).trans e12_Cr5))) evl_nil)) ?_
              refine WL.va rfl rfl rfl (X.assign rfl) ?_
              refine WL.nil ?_
              refine thn_n ?_
              refine WF.seq ?_
              refine WF.region ?_
              refine WL.va rfl rfl rfl (X.move ((congrFun hF222 9).trans ((hACb0.eq 9).trans ((congrFun hF175 9).trans ((hACr5.eq 9).trans (congrFun hF140 9)))))) ?_
              refine WL.va rfl rfl rfl (X.move rfl) ?_
              have hclo : ∀ k w1, k < l.length → Ext wCb0 w1 → CloOk Try.prog (.func (.func 28) #[] [at_ g12].toArray) [agg (el (l.flatMap Acc.c) 5 k)] w1 (fun r w2 => r = .bool (behind (l.getD k default) (stepA was id m).1) ∧ Ext w1 w2) := fun k w1 hk hx => ⟨_, _, rfl, Try.call28, (by rw [show el (l.flatMap Acc.c) 5 k = (l[k]'hk).c from Votes.el hk, show l.getD k default = l[k]'hk from by simp [hk]]; exact takeLit_ok _ _ _ _ (hO12.ext hx))⟩
              refine WL.c rfl rfl rfl (X.call Try.call31 (evl_cons rfl (evl_cons rfl evl_nil))) (indexV_ok _ _ _ _ (fun k => behind (l.getD k default) (stepA was id m).1) _ oc.rd hclo) ?_
              rintro v235 w234 ⟨⟨z, rfl, hz⟩, hx236⟩
              have := World.grownBy.size hx236
              refine WL.va rfl rfl rfl (X.assignI rfl) ?_
              refine WL.nil ?_
              refine thn_n ?_
              refine WF.seq ?_
              refine WF.seq ?_
              refine WF.region ?_
              refine WL.va rfl rfl rfl (X.moveI rfl) ?_
              refine WL.va rfl rfl rfl (X.lss rfl rfl) ?_
              refine WL.nil ?_
              refine thn_n ?_
              refine WF.cond rfl (fun h5_237 => ?_) (fun h5_237 => ?_)
              · have gh5_237 := (of_decide_eq_true h5_237)
                obtain ⟨i, rfl, hin, hins⟩ := ins_none hz (by omega)
                refine WF.region ?_
                refine WL.va rfl rfl rfl (X.move ((congrFun hF222 9).trans ((hACb0.eq 9).trans ((congrFun hF175 9).trans ((hACr5.eq 9).trans (congrFun hF140 9)))))) ?_
                refine WL.va rfl rfl rfl (X.len (oc.rd) rfl Try.underlying22) ?_
                refine WL.va rfl rfl rfl (X.assignI rfl) ?_
                refine WL.nil ?_
                refine thn_n ?_
                refine WF.region ?_
                refine WL.va rfl rfl rfl (X.move ((congrFun hF222 9).trans ((hACb0.eq 9).trans ((congrFun hF175 9).trans ((hACr5.eq 9).trans (congrFun hF140 9)))))) ?_
                refine WL.va rfl rfl rfl (X.moveI rfl) ?_
                refine WL.va rfl rfl rfl (X.loadOA hO12 hx236 ((congrFun hF222 12).trans ((hACb0.eq 12).trans ((congrFun hF175 12).trans e12_Cr5))) rfl Try.isAgg37 Try.sizeOf37) ?_
                refine WL.op rfl (OW.lits (vs := [agg (stepA was id m).1.c]) (evp_cons rfl evp_nil) Try.underlying22 Try.sizeOf37 Try.zeroValue37 ⟨rfl, trivial⟩ rfl rfl rfl ?_ (by decide))
                intro v15 w239 ho241 hx240
                have := World.grownBy.size hx240
                have o15 : OwnV w239 _ _ v15 [(stepA was id m).1] := ho241
                refine WL.c rfl rfl rfl (X.call Try.call32 (evl_cons rfl (evl_cons rfl (evl_cons rfl evl_nil)))) (insertV_ok _ _ _ _ l.length _ _ _ _ (oc.ext (Ext.trans hx236 hx240)).own o15 (OwnT.apart oc o15 (by omega)).symm votes_one (Acc.c_one _) hin (by omega) (by omega)) ?_
                rintro vi w242 ⟨oi, hx243⟩
                have := World.grownBy.size hx243
                replace hO5 := (hO5.ext (Ext.trans hx236 hx240)).keptR hx243 (fun b hb => by have h1 := ((oc.ext (Ext.trans hx236 hx240)).own.lt b hb).1; have h2 := (oc.ext (Ext.trans hx236 hx240)).top b hb; omega)
                replace hO10 := (hO10.ext (Ext.trans hx236 hx240)).keptR hx243 (fun b hb => by have h1 := ((oc.ext (Ext.trans hx236 hx240)).own.lt b hb).1; have h2 := (oc.ext (Ext.trans hx236 hx240)).top b hb; omega)
                replace hO12 := (hO12.ext (Ext.trans hx236 hx240)).keptR hx243 (fun b hb => by have h1 := ((oc.ext (Ext.trans hx236 hx240)).own.lt b hb).1; have h2 := (oc.ext (Ext.trans hx236 hx240)).top b hb; omega)
                replace hO13 := (hO13.ext (Ext.trans hx236 hx240)).keptR hx243 (fun b hb => by have h1 := ((oc.ext (Ext.trans hx236 hx240)).own.lt b hb).1; have h2 := (oc.ext (Ext.trans hx236 hx240)).top b hb; omega)
                have oV : OwnV w242 _ _ vi _ := OwnV.ins hin oi
                rw [← hins] at oV
                have ov := OwnT.of oV
                have hT : takeA l id m = (insV l (stepA was id m).1, [(stepA was id m).2], true) := by rw [takeA_new hf hgo hnew, hhas]; rfl
                refine WL.va rfl rfl rfl (X.assign rfl) ?_
                refine WL.nil ?_
                refine blk_n ?_
                refine thn_n ?_
                exact ⟨_, _, _, _, rfl, (by repeat (first | exact (Agree.refl _ F221) | refine Agree.put ?_ rfl | refine Agree.sub hACb0 rfl ?_ | refine Agree.sub hACr5 rfl ?_ | refine Agree.named hF222 ?_ | refine Agree.named hF175 ?_ | refine Agree.named hF140 ?_)), (Ext.own (Ext.trans (Ext.trans hwCb0 hx236) hx240) (oc.ext (Ext.trans hx236 hx240)).own szw hx243), ⟨ov, (by omega), hO10, hO12, hO13, hT, hbb⟩⟩
              · have gh5_237 := (of_decide_eq_false h5_237)
                obtain ⟨i, rfl, hin, hins⟩ := ins_idx hz (by omega)
                refine WF.skip ?_
                refine thn_n ?_
                refine WF.region ?_
                refine WL.va rfl rfl rfl (X.move ((congrFun hF222 9).trans ((hACb0.eq 9).trans ((congrFun hF175 9).trans ((hACr5.eq 9).trans (congrFun hF140 9)))))) ?_
                refine WL.va rfl rfl rfl (X.moveI rfl) ?_
                refine WL.va rfl rfl rfl (X.loadOA hO12 hx236 ((congrFun hF222 12).trans ((hACb0.eq 12).trans ((congrFun hF175 12).trans e12_Cr5))) rfl Try.isAgg37 Try.sizeOf37) ?_
                refine WL.op rfl (OW.lits (vs := [agg (stepA was id m).1.c]) (evp_cons rfl evp_nil) Try.underlying22 Try.sizeOf37 Try.zeroValue37 ⟨rfl, trivial⟩ rfl rfl rfl ?_ (by decide))
                intro v15 w244 ho246 hx245
                have := World.grownBy.size hx245
                have o15 : OwnV w244 _ _ v15 [(stepA was id m).1] := ho246
                refine WL.c rfl rfl rfl (X.call Try.call32 (evl_cons rfl (evl_cons rfl (evl_cons rfl evl_nil)))) (insertV_ok _ _ _ _ l.length _ _ _ _ (oc.ext (Ext.trans hx236 hx245)).own o15 (OwnT.apart oc o15 (by omega)).symm votes_one (Acc.c_one _) hin (by omega) (by omega)) ?_
                rintro vi w247 ⟨oi, hx248⟩
                have := World.grownBy.size hx248
                replace hO5 := (hO5.ext (Ext.trans hx236 hx245)).keptR hx248 (fun b hb => by have h1 := ((oc.ext (Ext.trans hx236 hx245)).own.lt b hb).1; have h2 := (oc.ext (Ext.trans hx236 hx245)).top b hb; omega)
                replace hO10 := (hO10.ext (Ext.trans hx236 hx245)).keptR hx248 (fun b hb => by have h1 := ((oc.ext (Ext.trans hx236 hx245)).own.lt b hb).1; have h2 := (oc.ext (Ext.trans hx236 hx245)).top b hb; omega)
                replace hO12 := (hO12.ext (Ext.trans hx236 hx245)).keptR hx248 (fun b hb => by have h1 := ((oc.ext (Ext.trans hx236 hx245)).own.lt b hb).1; have h2 := (oc.ext (Ext.trans hx236 hx245)).top b hb; omega)
                replace hO13 := (hO13.ext (Ext.trans hx236 hx245)).keptR hx248 (fun b hb => by have h1 := ((oc.ext (Ext.trans hx236 hx245)).own.lt b hb).1; have h2 := (oc.ext (Ext.trans hx236 hx245)).top b hb; omega)
                have oV : OwnV w247 _ _ vi _ := OwnV.ins hin oi
                rw [← hins] at oV
                have ov := OwnT.of oV
                have hT : takeA l id m = (insV l (stepA was id m).1, [(stepA was id m).2], true) := by rw [takeA_new hf hgo hnew, hhas]; rfl
                refine WL.va rfl rfl rfl (X.assign rfl) ?_
                refine WL.nil ?_
                refine blk_n ?_
                refine thn_n ?_
                exact ⟨_, _, _, _, rfl, (by repeat (first | exact (Agree.refl _ F221) | refine Agree.put ?_ rfl | refine Agree.sub hACb0 rfl ?_ | refine Agree.sub hACr5 rfl ?_ | refine Agree.named hF222 ?_ | refine Agree.named hF175 ?_ | refine Agree.named hF140 ?_)), (Ext.own (Ext.trans (Ext.trans hwCb0 hx236) hx245) (oc.ext (Ext.trans hx236 hx245)).own szw hx248), ⟨ov, (by omega), hO10, hO12, hO13, hT, hbb⟩⟩
        · rintro fCb1 wCb1 ⟨vv, L, b, T, e9_Cb1, hACb1, hwCb1, ⟨ov, hTT, hO10, hO12, hO13, hT, hbb⟩⟩
          refine WF.seq ?_
          refine WF.drawn (.q 0 (.q 1 (.q 3 (.q 4 (.q 5 (.q 6 (.l 2 (.q 7 (.q 8 .nil))))))))) (fun w' => Ext wCb1 w') 9 (by kernel_rfl) (by kernel_rfl) (Ext.drew _) ?_
          have := World.grownBy.size (Ext.drew wCb1)
          refine WO.q rfl rfl rfl rfl (fun w' hE249 => (X.move e9_Cb1)) ?_
          refine WO.q rfl rfl rfl rfl (fun w' hE249 => (X.loadOA hO13 hE249 ((hACb1.eq 13).trans ((congrFun hF222 13).trans ((hACb0.eq 13).trans ((congrFun hF175 13).trans e13_Cr5)))) rfl Try.isAgg26 Try.sizeOf26)) ?_
          refine WO.q rfl rfl rfl rfl (fun w' hE249 => (X.loadOA hO12 hE249 ((hACb1.eq 12).trans ((congrFun hF222 12).trans ((hACb0.eq 12).trans ((congrFun hF175 12).trans e12_Cr5)))) rfl Try.isAgg37 Try.sizeOf37)) ?_
          refine WO.q rfl rfl rfl rfl (fun w' hE249 => (X.loadOA hO10 hE249 ((hACb1.eq 10).trans ((congrFun hF222 10).trans ((hACb0.eq 10).trans ((congrFun hF175 10).trans ((hACr5.eq 10).trans (congrFun hF140 10)))))) rfl Try.isAgg37 Try.sizeOf37)) ?_
          refine WO.q rfl rfl rfl rfl (fun w' hE249 => (X.neqA (na := (stepA was id m).1.ints) (nb := was.ints) flatV fieldsV offsV rfl rfl rfl rfl (Acc.eqB _ _))) ?_
          refine WO.q rfl rfl rfl rfl (fun w' hE249 => (X.assign rfl)) ?_
          refine WO.l ?_
          have szE := World.grownBy.size (Ext.trans hwCb1 (Ext.drew _))
          refine LO.go rfl rfl (OW.lits (vs := [agg (Msg.bare (stepA was id m).2)]) (evp_cons rfl evp_nil) Try.underlying30 Try.sizeOf26 Try.zeroValue26 ⟨rfl, trivial⟩ rfl rfl rfl ?_ (by decide))
          intro v252 w251 ho254 hx253
          have := World.grownBy.size hx253
          have om : OwnM w251 _ 26 v252 [(stepA was id m).2] := ho254
          refine ⟨(Ext.trans (Ext.drew _) hx253), ?_⟩
          refine WO.q rfl rfl rfl rfl (fun w' hE249 => (X.assign rfl)) ?_
          refine WO.q rfl rfl rfl rfl (fun w' hE249 => (X.assignB rfl)) ?_
          refine WO.nil ?_
          refine WL.nil ?_
          refine thn_n ?_
          refine WF.ret ?_
          refine fin_r ?_
          rw [hT]; exact ⟨⟨_, _, congrArg (fun b => Value.tuple #[_, _, .bool b]) (show (!decide ((stepA was id m).1 = was)) = _ from by rw [hbb]; cases b <;> rfl), own_mono (ov.ext (Ext.trans (Ext.drew _) hx253)).own szw, own_mono om (by omega), OwnT.apart ov om (by omega)⟩, (Ext.trans (Ext.trans hwCb1 (Ext.drew _)) hx253)⟩

end Go.Proofs.Ytgbkgkicgaikdaa
