/- The walks of the kit's functions over directories. -/
import Derived.Test.YtpimnlgfhpnjnaaDir
namespace Go.Proofs.Ytpimnlgfhpnjnaa
open Go Go.RowKit Kf
set_option maxRecDepth 20000

theorem rgs_ones (l : List Rg) : ∀ u ∈ l.flatMap Rg.c, u.oneCell' = true := by
  intro u hu
  obtain ⟨r, _, hr⟩ := List.mem_flatMap.1 hu
  exact Rg.c_one r u hr
theorem fill51 (a0 a1 a2 a3 a4 a5 a6 u : Value) (h : u.oneCell' = true) : Instr.fill (([(0, 7), (7, 1)] : List (Nat × Nat)).toArray[·]?) ([nilS, i64 0, i64 0, i64 0, i64 0, i64 0, i64 0, nilS] : List Value).toArray [(0, agg [a0, a1, a2, a3, a4, a5, a6]), (1, u)] = some ([a0, a1, a2, a3, a4, a5, a6, u] : List Value).toArray := by
  have hu := cells_one h
  have hA : (agg [a0, a1, a2, a3, a4, a5, a6]).cells = ([a0, a1, a2, a3, a4, a5, a6] : List Value).toArray := rfl
  simp [Instr.fill, hA, hu, List.zipIdx, Array.setIfInBounds]
  rw [hu]; rfl
set_option maxHeartbeats 1000000 in
theorem copyDir_ok (d : Dr) (v u : Value) (w : World) (h : DAt w v u d) (hR : d.m.R.length ≤ 1000000) (hS : d.S.length ≤ 1000000) (hD : ∀ s ∈ d.S, s.Data.length ≤ 1000000) : FnOk Try.prog 40 [agg (d.c v u)] w (fun r w' => (∃ v2 u2 F, r = agg (d.c v2 u2) ∧ F.map Prod.fst = d.S ∧ DOwn w' w.heap.size w'.heap.size v2 u2 d.m F) ∧ Ext w w') := by
  refine FnOk.enterC (rs := [.cell 2 51]) Try.func40 rfl Try.ntmps40 Try.results40 rfl rfl ?_
  refine WF.seq ?_
  refine WF.region ?_
  refine WL.op rfl (OW.boxA (cs := (d.c v u)) rfl ?_ (by decide))
  intro g1 w1 heg1 hlg1 hO1 hx3
  have := World.grownBy.size hx3
  refine WL.op rfl (OW.allocO (cs := [.slice none 0 0, i64 0, i64 0, i64 0, i64 0, i64 0, i64 0, .slice none 0 0]) Try.zeroValue51 rfl ?_ (by decide))
  intro g2 w5 heg2 hlg2 hO2 hx7
  have := World.grownBy.size hx7
  refine WL.nil ?_
  refine thn_n ?_
  refine WF.seq ?_
  refine WF.drawn (.q 0 (.q 1 (.q 3 (.q 4 (.l 2 (.l 5 (.q 6 .nil))))))) (fun w' => Ext w5 w') 7 (by kernel_rfl) (by kernel_rfl) (Ext.drew _) ?_
  have := World.grownBy.size (Ext.drew w5)
  refine WO.q rfl rfl rfl rfl (fun w' hE9 => (X.fieldAddrO (off := 0) rfl Try.underlying51 rfl rfl Try.sizeOf26)) ?_
  refine WO.q rfl rfl rfl rfl (fun w' hE9 => (X.loadOP hO1 (Ext.trans hx7 hE9) rfl rfl rfl Try.isAgg26 Try.sizeOf26)) ?_
  refine WO.q rfl rfl rfl rfl (fun w' hE9 => (X.fieldAddrO (off := 7) rfl Try.underlying51 rfl rfl Try.sizeOf49)) ?_
  refine WO.q rfl rfl rfl rfl (fun w' hE9 => (X.loadO hO1 (Ext.trans hx7 hE9) rfl rfl Try.isAgg49)) ?_
  refine WO.l ?_
  have hz0 := World.grownBy.size (show Ext w w5.drew from (Ext.trans (Ext.trans hx3 hx7) (Ext.drew _)))
  refine LO.go rfl rfl (OW.enter rfl (by decide) (X.call Try.call14 (evl_cons rfl evl_nil)) (copyMap_ok d.m v _ (Row.ext h.R (Ext.trans (Ext.trans hx3 hx7) (Ext.drew _))) hR) ?_)
  rintro v11 w10 ⟨⟨v2, rfl, ov⟩, hx12⟩
  have := World.grownBy.size hx12
  refine ⟨(Ext.trans (Ext.drew _) hx12), ?_⟩
  have ovT : RgT w10 _ _ v2 d.m.R := OwnT.of ov
  refine WO.l ?_
  have hz1 := World.grownBy.size (show Ext w w10 from (Ext.trans (Ext.trans (Ext.trans hx3 hx7) (Ext.drew _)) hx12))
  refine LO.go rfl rfl (OW.enter rfl (by decide) (X.call Try.call81 (evl_cons rfl evl_nil)) (Se.copyS_ok u d.S _ (h.S.ext (Ext.trans (Ext.trans (Ext.trans hx3 hx7) (Ext.drew _)) hx12)) hS hD) ?_)
  rintro u2 w13 ⟨⟨F, hF, oF⟩, hx14⟩
  have := World.grownBy.size hx14
  refine ⟨(Ext.trans (Ext.trans (Ext.drew _) hx12) hx14), ?_⟩
  have oFT := SOwnT.of oF
  refine WO.q rfl rfl rfl rfl (fun w' hE9 => (X.buildF (P := Try.prog) (t := 51) (cs := (d.c v2 u2)) (evp_cons rfl (evp_cons rfl evp_nil)) Try.type51 Try.underlying51 rfl rfl (fill51 _ _ _ _ _ _ _ _ (own_one oF.row)))) ?_
  refine WO.nil ?_
  refine WL.op rfl (OW.storeOA (hO2.ext (Ext.trans (Ext.trans (Ext.drew _) hx12) hx14)) rfl rfl rfl (d.c_one (Row.of_own ov) (own_one oF.row)) Try.sizeOf51 ?_)
  intro w15 hO2 hx17
  have := World.grownBy.size hx17
  replace hO1 := (hO1.ext (Ext.trans (Ext.trans (Ext.trans hx7 (Ext.drew _)) hx12) hx14)).keptO hx17 (by omega)
  replace ovT := (ovT.ext hx14).keptO hx17 (by omega)
  replace oFT := oFT.keptO hx17 (by omega)
  replace hO2 : Blk _ _ _ (d.c v2 u2) := hO2
  refine WL.nil ?_
  refine thn_n ?_
  refine WF.ret ?_
  refine finC_r (vs := [_]) ⟨⟨_, rfl, readO hO2 Try.isAgg51 Try.sizeOf51⟩, trivial⟩ ?_
  have hz9 := World.grownBy.size (show Ext w w15 from (Ext.trans hx3 (Ext.store (Ext.trans (Ext.trans (Ext.trans hx7 (Ext.drew _)) hx12) hx14) hx17 (by omega))))
  exact ⟨⟨v2, u2, F, rfl, hF, ⟨ownT_up ovT hz0 (by omega), oFT.mono hz1 (by omega), apart_S ovT oFT (.inl (by omega))⟩⟩, (Ext.trans hx3 (Ext.store (Ext.trans (Ext.trans (Ext.trans hx7 (Ext.drew _)) hx12) hx14) hx17 (by omega)))⟩

set_option maxHeartbeats 1000000 in
theorem sameDir_ok (a b : Dr) (va ua vb ub : Value) (w : World) (ha : DAt w va ua a) (hb : DAt w vb ub b) : FnOk Try.prog 36 [agg (a.c va ua), agg (b.c vb ub)] w (fun r w' => r = .bool (decide (a = b)) ∧ Ext w w') := by
  refine FnOk.enter (rs := [4]) Try.func36 rfl Try.ntmps36 Try.results36 rfl rfl ?_
  refine WF.seq ?_
  refine WF.region ?_
  refine WL.op rfl (OW.boxA (cs := (a.c va ua)) rfl ?_ (by decide))
  intro g2 w1 heg2 hlg2 hO2 hx3
  have := World.grownBy.size hx3
  refine WL.op rfl (OW.boxA (cs := (b.c vb ub)) rfl ?_ (by decide))
  intro g3 w5 heg3 hlg3 hO3 hx7
  have := World.grownBy.size hx7
  refine WL.va rfl rfl rfl (X.assignB rfl) ?_
  refine WL.nil ?_
  refine thn_n ?_
  refine WF.seq ?_
  refine WF.region ?_
  refine WL.va rfl rfl rfl (X.fieldAddrO (off := 0) rfl Try.underlying51 rfl rfl Try.sizeOf26) ?_
  refine WL.va rfl rfl rfl (X.loadOP hO2 hx7 rfl rfl rfl Try.isAgg26 Try.sizeOf26) ?_
  refine WL.va rfl rfl rfl (X.fieldAddrO (off := 0) rfl Try.underlying51 rfl rfl Try.sizeOf26) ?_
  refine WL.va rfl rfl rfl (X.loadOP hO3 (Ext.refl _) rfl rfl rfl Try.isAgg26 Try.sizeOf26) ?_
  refine WL.c rfl rfl rfl (X.call Try.call19 (evl_cons rfl (evl_cons rfl evl_nil))) (sameMap_ok a.m b.m va vb _ (Row.ext ha.R (Ext.trans hx3 hx7)) (Row.ext hb.R (Ext.trans hx3 hx7))) ?_
  rintro v11 w10 ⟨rfl, hx12⟩
  have := World.grownBy.size hx12
  refine WL.va rfl rfl rfl (X.moveB rfl) ?_
  refine WL.split (j := 5) rfl (fun h14 => ?_) (fun h14 => ?_)
  · have gh14 := (of_decide_eq_true h14)
    have q1 : a.m = b.m := gh14
    refine WL.vg rfl (congrArg some h14) rfl rfl (X.fieldAddrO (off := 7) rfl Try.underlying51 rfl rfl Try.sizeOf49) ?_
    refine WL.vg rfl (congrArg some h14) rfl rfl (X.loadO hO2 (Ext.trans hx7 hx12) rfl rfl Try.isAgg49) ?_
    refine WL.vg rfl (congrArg some h14) rfl rfl (X.fieldAddrO (off := 7) rfl Try.underlying51 rfl rfl Try.sizeOf49) ?_
    refine WL.vg rfl (congrArg some h14) rfl rfl (X.loadO hO3 hx12 rfl rfl Try.isAgg49) ?_
    refine WL.cg rfl (congrArg some h14) rfl rfl (X.call Try.call78 (evl_cons rfl (evl_cons rfl evl_nil))) (Se.sameS_ok ua ub a.S b.S _ (ha.S.ext (Ext.trans (Ext.trans hx3 hx7) hx12)) (hb.S.ext (Ext.trans (Ext.trans hx3 hx7) hx12))) ?_
    rintro v16 w15 ⟨rfl, hx17⟩
    have := World.grownBy.size hx17
    refine WL.va rfl rfl rfl (X.pickT rfl h14 rfl) ?_
    refine WL.va rfl rfl rfl (X.assignB rfl) ?_
    refine WL.nil ?_
    refine thn_n ?_
    refine WF.ret ?_
    refine fin_r ?_
    refine ⟨congrArg Value.bool ?_, (Ext.trans (Ext.trans (Ext.trans hx3 hx7) hx12) hx17)⟩
    first | exact (decide_eq_false (fun e => q1 (by rw [e]))).symm | exact decide_eq_decide.2 (by rw [Dr.eq_iff]; exact ⟨fun e => ⟨q1, e⟩, fun e => e.2⟩)
  · have gh14 := (of_decide_eq_false h14)
    have q1 : ¬ a.m = b.m := gh14
    refine WL.p rfl rfl rfl (congrArg some h14) ?_
    refine WL.p rfl rfl rfl (congrArg some h14) ?_
    refine WL.p rfl rfl rfl (congrArg some h14) ?_
    refine WL.p rfl rfl rfl (congrArg some h14) ?_
    refine WL.p rfl rfl rfl (congrArg some h14) ?_
    refine WL.va rfl rfl rfl (X.pickF rfl h14 rfl) ?_
    refine WL.va rfl rfl rfl (X.assignB rfl) ?_
    refine WL.nil ?_
    refine thn_n ?_
    refine WF.ret ?_
    refine fin_r ?_
    refine ⟨congrArg Value.bool ?_, (Ext.trans (Ext.trans hx3 hx7) hx12)⟩
    first | exact (decide_eq_false (fun e => q1 (by rw [e]))).symm | exact decide_eq_decide.2 (by rw [Dr.eq_iff]; exact ⟨fun e => ⟨q1, e⟩, fun e => e.2⟩)

set_option maxHeartbeats 1000000 in
theorem spoilDir_ok (d : Dr) (v u : Value) (F : List Se.SV) (w : World) (B T : Nat) (h : DOwn w B T v u d.m F) : FnOk Try.prog 37 [agg (d.c v u)] w (fun _ w' => Chg B T w w') := by
  have hz0 : ∀ b, v.ownBlock = some b → b < w.heap.size := fun b hb => (h.rng.own.lt b hb).2
  refine FnOk.enter (rs := []) Try.func37 rfl Try.ntmps37 Try.results37 rfl rfl ?_
  refine WF.seq ?_
  refine WF.region ?_
  refine WL.op rfl (OW.boxA (cs := (d.c v u)) rfl ?_ (by decide))
  intro g1 w1 heg1 hlg1 hO1 hx3
  have := World.grownBy.size hx3
  have hb0 := h.ext hx3
  have hc0 := Chg.of hx3 (B := B) (T := T) (fun g hg => by cases hg)
  refine WL.nil ?_
  refine thn_n ?_
  refine WF.seq ?_
  refine WF.region ?_
  refine WL.va rfl rfl rfl (X.fieldAddrO (off := 0) rfl Try.underlying51 rfl rfl Try.sizeOf26) ?_
  refine WL.va rfl rfl rfl (X.fieldAddrP (off := 0) rfl Try.underlying26 rfl rfl Try.sizeOf22) ?_
  refine WL.va rfl rfl rfl (X.loadO hO1 (Ext.refl _) rfl rfl Try.isAgg22) ?_
  refine WL.c rfl rfl rfl (X.call Try.call20 (evl_cons rfl evl_nil)) (spoilRanges_ok v d.m.R _ B hb0.rng.own) ?_
  rintro v6 w5 ⟨_, hx7⟩
  have := World.grownBy.size hx7
  replace hO1 := hO1.keptR hx7 (fun b hb => by have := hz0 b hb; omega)
  have hc1 := Chg.of hx7 (B := B) (T := T) (fun g hg => ⟨(h.rng.own.lt g hg).1, h.rng.top g hg⟩)
  have hs1 := hb0.ses.apart_row h.off hx7
  refine WL.nil ?_
  refine thn_n ?_
  refine WF.region ?_
  refine WL.va rfl rfl rfl (X.fieldAddrO (off := 7) rfl Try.underlying51 rfl rfl Try.sizeOf49) ?_
  refine WL.va rfl rfl rfl (X.loadO hO1 (Ext.refl _) rfl rfl Try.isAgg49) ?_
  refine WL.c rfl rfl rfl (X.call Try.call79 (evl_cons rfl evl_nil)) (Se.spoilS_ok u F _ B T hs1.own hs1.top) ?_
  rintro v9 w8 hcS
  refine WL.nil ?_
  refine fin_n ?_
  exact (hc0.trans hc1).trans (chg_se hcS)

theorem sameDir_self {a b : Dr} {va ua vb ub : Value} {w : World} (ha : DAt w va ua a) (hb : DAt w vb ub b) (e : a = b) : FnOk Try.prog 36 [agg (a.c va ua), agg (b.c vb ub)] w (fun r w' => r = .bool true ∧ Ext w w') :=
  (sameDir_ok a b va ua vb ub w ha hb).mono fun r w' ⟨q, g⟩ => ⟨by rw [q, decide_eq_true e], g⟩
end Go.Proofs.Ytpimnlgfhpnjnaa
