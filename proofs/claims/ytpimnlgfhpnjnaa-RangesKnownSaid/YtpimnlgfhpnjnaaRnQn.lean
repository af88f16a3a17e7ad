/- The walks of the kit's functions over directories, and of Apply's parts. -/
import Derived.Test.YtpimnlgfhpnjnaaDirn
namespace Go.Proofs.Ytpimnlgfhpnjnaa
open Go Go.RowKit Kf
set_option maxRecDepth 20000

theorem rgs_ones (l : List Rg) : ∀ u ∈ l.flatMap Rg.c, u.oneCell' = true := by
  intro u hu
  obtain ⟨r, _, hr⟩ := List.mem_flatMap.1 hu
  exact Rg.c_one r u hr
theorem fill51 (a0 a1 a2 a3 a4 a5 a6 u : Value) (h : u.oneCell' = true) : Instr.fill (([(0, 7), (7, 1)] : List (Nat × Nat)).toArray[·]?) ([nilS, i64 0, i64 0, i64 0, i64 0, i64 0, i64 0, nilS] : List Value).toArray [(0, agg [a0, a1, a2, a3, a4, a5, a6]), (1, u)] = some ([a0, a1, a2, a3, a4, a5, a6, u] : List Value).toArray := by
  have hu := cells_one h
  have hA : (agg [a0, a1, a2, a3, a4, a5, a6]).cells = ([a0, a1, a2, a3, a4, a5, a6] : List Value).toArray := rfl
  simp [Instr.fill, hA, hu, List.zipIdx, Array.setIfInBounds]
  rw [hu]; rfl
set_option maxHeartbeats 1000000 in
theorem copyDir_ok (d : Dr) (v u : Value) (w : World) (h : DAt w v u d) (hR : d.m.R.length ≤ 1000000) (hS : d.S.length ≤ 1000000) (hD : ∀ s ∈ d.S, s.Data.length ≤ 1000000) : FnOk Try.prog 40 [agg (d.c v u)] w (fun r w' => (∃ v2 u2 F, r = agg (d.c v2 u2) ∧ F.map Prod.fst = d.S ∧ DOwn w' w.heap.size w'.heap.size v2 u2 d.m F) ∧ Ext w w') := by
  refine FnOk.enterC (rs := [.cell 2 51]) Try.func40 rfl Try.ntmps40 Try.results40 rfl rfl ?_
  refine WF.seq ?_
  refine WF.region ?_
  refine WL.op rfl (OW.boxA (cs := (d.c v u)) rfl ?_ (by decide))
  intro g1 w1 heg1 hlg1 hO1 hx3
  have := World.grownBy.size hx3
  refine WL.op rfl (OW.allocO (cs := [.slice none 0 0, i64 0, i64 0, i64 0, i64 0, i64 0, i64 0, .slice none 0 0]) Try.zeroValue51 rfl ?_ (by decide))
  intro g2 w5 heg2 hlg2 hO2 hx7
  have := World.grownBy.size hx7
  refine WL.nil ?_
  refine thn_n ?_
  refine WF.seq ?_
  refine WF.drawn (.q 0 (.q 1 (.q 3 (.q 4 (.l 2 (.l 5 (.q 6 .nil))))))) (fun w' => Ext w5 w') 7 (by kernel_rfl) (by kernel_rfl) (Ext.drew _) ?_
  have := World.grownBy.size (Ext.drew w5)
  refine WO.q rfl rfl rfl rfl (fun w' hE9 => (X.fieldAddrO (off := 0) rfl Try.underlying51 rfl rfl Try.sizeOf26)) ?_
  refine WO.q rfl rfl rfl rfl (fun w' hE9 => (X.loadOP hO1 (Ext.trans hx7 hE9) rfl rfl rfl Try.isAgg26 Try.sizeOf26)) ?_
  refine WO.q rfl rfl rfl rfl (fun w' hE9 => (X.fieldAddrO (off := 7) rfl Try.underlying51 rfl rfl Try.sizeOf49)) ?_
  refine WO.q rfl rfl rfl rfl (fun w' hE9 => (X.loadO hO1 (Ext.trans hx7 hE9) rfl rfl Try.isAgg49)) ?_
  refine WO.l ?_
  have hz0 := World.grownBy.size (show Ext w w5.drew from (Ext.trans (Ext.trans hx3 hx7) (Ext.drew _)))
  refine LO.go rfl rfl (OW.enter rfl (by decide) (X.call Try.call14 (evl_cons rfl evl_nil)) (copyMap_ok d.m v _ (Row.ext h.R (Ext.trans (Ext.trans hx3 hx7) (Ext.drew _))) hR) ?_)
  rintro v11 w10 ⟨⟨v2, rfl, ov⟩, hx12⟩
  have := World.grownBy.size hx12
  refine ⟨(Ext.trans (Ext.drew _) hx12), ?_⟩
  have ovT : RgT w10 _ _ v2 d.m.R := OwnT.of ov
  refine WO.l ?_
  have hz1 := World.grownBy.size (show Ext w w10 from (Ext.trans (Ext.trans (Ext.trans hx3 hx7) (Ext.drew _)) hx12))
  refine LO.go rfl rfl (OW.enter rfl (by decide) (X.call Try.call81 (evl_cons rfl evl_nil)) (Se.copyS_ok u d.S _ (h.S.ext (Ext.trans (Ext.trans (Ext.trans hx3 hx7) (Ext.drew _)) hx12)) hS hD) ?_)
  rintro u2 w13 ⟨⟨F, hF, oF⟩, hx14⟩
  have := World.grownBy.size hx14
  refine ⟨(Ext.trans (Ext.trans (Ext.drew _) hx12) hx14), ?_⟩
  have oFT := SOwnT.of oF
  refine WO.q rfl rfl rfl rfl (fun w' hE9 => (X.buildF (P := Try.prog) (t := 51) (cs := (d.c v2 u2)) (evp_cons rfl (evp_cons rfl evp_nil)) Try.type51 Try.underlying51 rfl rfl (fill51 _ _ _ _ _ _ _ _ (own_one oF.row)))) ?_
  refine WO.nil ?_
  refine WL.op rfl (OW.storeOA (hO2.ext (Ext.trans (Ext.trans (Ext.drew _) hx12) hx14)) rfl rfl rfl (d.c_one (Row.of_own ov) (own_one oF.row)) Try.sizeOf51 ?_)
  intro w15 hO2 hx17
  have := World.grownBy.size hx17
  replace hO1 := (hO1.ext (Ext.trans (Ext.trans (Ext.trans hx7 (Ext.drew _)) hx12) hx14)).keptO hx17 (by omega)
  replace ovT := (ovT.ext hx14).keptO hx17 (by omega)
  replace oFT := oFT.keptO hx17 (by omega)
  replace hO2 : Blk _ _ _ (d.c v2 u2) := hO2
  refine WL.nil ?_
  refine thn_n ?_
  refine WF.ret ?_
  refine finC_r (vs := [_]) ⟨⟨_, rfl, readO hO2 Try.isAgg51 Try.sizeOf51⟩, trivial⟩ ?_
  have hz9 := World.grownBy.size (show Ext w w15 from (Ext.trans hx3 (Ext.store (Ext.trans (Ext.trans (Ext.trans hx7 (Ext.drew _)) hx12) hx14) hx17 (by omega))))
  exact ⟨⟨v2, u2, F, rfl, hF, ⟨ownT_up ovT hz0 (by omega), oFT.mono hz1 (by omega), apart_S ovT oFT (.inl (by omega))⟩⟩, (Ext.trans hx3 (Ext.store (Ext.trans (Ext.trans (Ext.trans hx7 (Ext.drew _)) hx12) hx14) hx17 (by omega)))⟩

set_option maxHeartbeats 1000000 in
theorem sameDir_ok (a b : Dr) (va ua vb ub : Value) (w : World) (ha : DAt w va ua a) (hb : DAt w vb ub b) : FnOk Try.prog 36 [agg (a.c va ua), agg (b.c vb ub)] w (fun r w' => r = .bool (decide (a = b)) ∧ Ext w w') := by
  refine FnOk.enter (rs := [4]) Try.func36 rfl Try.ntmps36 Try.results36 rfl rfl ?_
  refine WF.seq ?_
  refine WF.region ?_
  refine WL.op rfl (OW.boxA (cs := (a.c va ua)) rfl ?_ (by decide))
  intro g2 w1 heg2 hlg2 hO2 hx3
  have := World.grownBy.size hx3
  refine WL.op rfl (OW.boxA (cs := (b.c vb ub)) rfl ?_ (by decide))
  intro g3 w5 heg3 hlg3 hO3 hx7
  have := World.grownBy.size hx7
  refine WL.va rfl rfl rfl (X.assignB rfl) ?_
  refine WL.nil ?_
  refine thn_n ?_
  refine WF.seq ?_
  refine WF.region ?_
  refine WL.va rfl rfl rfl (X.fieldAddrO (off := 0) rfl Try.underlying51 rfl rfl Try.sizeOf26) ?_
  refine WL.va rfl rfl rfl (X.loadOP hO2 hx7 rfl rfl rfl Try.isAgg26 Try.sizeOf26) ?_
  refine WL.va rfl rfl rfl (X.fieldAddrO (off := 0) rfl Try.underlying51 rfl rfl Try.sizeOf26) ?_
  refine WL.va rfl rfl rfl (X.loadOP hO3 (Ext.refl _) rfl rfl rfl Try.isAgg26 Try.sizeOf26) ?_
  refine WL.c rfl rfl rfl (X.call Try.call19 (evl_cons rfl (evl_cons rfl evl_nil))) (sameMap_ok a.m b.m va vb _ (Row.ext ha.R (Ext.trans hx3 hx7)) (Row.ext hb.R (Ext.trans hx3 hx7))) ?_
  rintro v11 w10 ⟨rfl, hx12⟩
  have := World.grownBy.size hx12
  refine WL.va rfl rfl rfl (X.moveB rfl) ?_
  refine WL.split (j := 5) rfl (fun h14 => ?_) (fun h14 => ?_)
  · have gh14 := (of_decide_eq_true h14)
    have q1 : a.m = b.m := gh14
    refine WL.vg rfl (congrArg some h14) rfl rfl (X.fieldAddrO (off := 7) rfl Try.underlying51 rfl rfl Try.sizeOf49) ?_
    refine WL.vg rfl (congrArg some h14) rfl rfl (X.loadO hO2 (Ext.trans hx7 hx12) rfl rfl Try.isAgg49) ?_
    refine WL.vg rfl (congrArg some h14) rfl rfl (X.fieldAddrO (off := 7) rfl Try.underlying51 rfl rfl Try.sizeOf49) ?_
    refine WL.vg rfl (congrArg some h14) rfl rfl (X.loadO hO3 hx12 rfl rfl Try.isAgg49) ?_
    refine WL.cg rfl (congrArg some h14) rfl rfl (X.call Try.call78 (evl_cons rfl (evl_cons rfl evl_nil))) (Se.sameS_ok ua ub a.S b.S _ (ha.S.ext (Ext.trans (Ext.trans hx3 hx7) hx12)) (hb.S.ext (Ext.trans (Ext.trans hx3 hx7) hx12))) ?_
    rintro v16 w15 ⟨rfl, hx17⟩
    have := World.grownBy.size hx17
    refine WL.va rfl rfl rfl (X.pickT rfl h14 rfl) ?_
    refine WL.va rfl rfl rfl (X.assignB rfl) ?_
    refine WL.nil ?_
    refine thn_n ?_
    refine WF.ret ?_
    refine fin_r ?_
    refine ⟨congrArg Value.bool ?_, (Ext.trans (Ext.trans (Ext.trans hx3 hx7) hx12) hx17)⟩
    first | exact (decide_eq_false (fun e => q1 (by rw [e]))).symm | exact decide_eq_decide.2 (by rw [Dr.eq_iff]; exact ⟨fun e => ⟨q1, e⟩, fun e => e.2⟩)
  · have gh14 := (of_decide_eq_false h14)
    have q1 : ¬ a.m = b.m := gh14
    refine WL.p rfl rfl rfl (congrArg some h14) ?_
    refine WL.p rfl rfl rfl (congrArg some h14) ?_
    refine WL.p rfl rfl rfl (congrArg some h14) ?_
    refine WL.p rfl rfl rfl (congrArg some h14) ?_
    refine WL.p rfl rfl rfl (congrArg some h14) ?_
    refine WL.va rfl rfl rfl (X.pickF rfl h14 rfl) ?_
    refine WL.va rfl rfl rfl (X.assignB rfl) ?_
    refine WL.nil ?_
    refine thn_n ?_
    refine WF.ret ?_
    refine fin_r ?_
    refine ⟨congrArg Value.bool ?_, (Ext.trans (Ext.trans hx3 hx7) hx12)⟩
    first | exact (decide_eq_false (fun e => q1 (by rw [e]))).symm | exact decide_eq_decide.2 (by rw [Dr.eq_iff]; exact ⟨fun e => ⟨q1, e⟩, fun e => e.2⟩)

set_option maxHeartbeats 1000000 in
theorem spoilDir_ok (d : Dr) (v u : Value) (F : List Se.SV) (w : World) (B T : Nat) (h : DOwn w B T v u d.m F) : FnOk Try.prog 37 [agg (d.c v u)] w (fun _ w' => Chg B T w w') := by
  have hz0 : ∀ b, v.ownBlock = some b → b < w.heap.size := fun b hb => (h.rng.own.lt b hb).2
  refine FnOk.enter (rs := []) Try.func37 rfl Try.ntmps37 Try.results37 rfl rfl ?_
  refine WF.seq ?_
  refine WF.region ?_
  refine WL.op rfl (OW.boxA (cs := (d.c v u)) rfl ?_ (by decide))
  intro g1 w1 heg1 hlg1 hO1 hx3
  have := World.grownBy.size hx3
  have hb0 := h.ext hx3
  have hc0 := Chg.of hx3 (B := B) (T := T) (fun g hg => by cases hg)
  refine WL.nil ?_
  refine thn_n ?_
  refine WF.seq ?_
  refine WF.region ?_
  refine WL.va rfl rfl rfl (X.fieldAddrO (off := 0) rfl Try.underlying51 rfl rfl Try.sizeOf26) ?_
  refine WL.va rfl rfl rfl (X.fieldAddrP (off := 0) rfl Try.underlying26 rfl rfl Try.sizeOf22) ?_
  refine WL.va rfl rfl rfl (X.loadO hO1 (Ext.refl _) rfl rfl Try.isAgg22) ?_
  refine WL.c rfl rfl rfl (X.call Try.call20 (evl_cons rfl evl_nil)) (spoilRanges_ok v d.m.R _ B hb0.rng.own) ?_
  rintro v6 w5 ⟨_, hx7⟩
  have := World.grownBy.size hx7
  replace hO1 := hO1.keptR hx7 (fun b hb => by have := hz0 b hb; omega)
  have hc1 := Chg.of hx7 (B := B) (T := T) (fun g hg => ⟨(h.rng.own.lt g hg).1, h.rng.top g hg⟩)
  have hs1 := hb0.ses.apart_row h.off hx7
  refine WL.nil ?_
  refine thn_n ?_
  refine WF.region ?_
  refine WL.va rfl rfl rfl (X.fieldAddrO (off := 7) rfl Try.underlying51 rfl rfl Try.sizeOf49) ?_
  refine WL.va rfl rfl rfl (X.loadO hO1 (Ext.refl _) rfl rfl Try.isAgg49) ?_
  refine WL.c rfl rfl rfl (X.call Try.call79 (evl_cons rfl evl_nil)) (Se.spoilS_ok u F _ B T hs1.own hs1.top) ?_
  rintro v9 w8 hcS
  refine WL.nil ?_
  refine fin_n ?_
  exact (hc0.trans hc1).trans (chg_se hcS)

set_option maxHeartbeats 1000000 in
theorem fresh_ok (d : Dr) (v u : Value) (w : World) (h : DAt w v u d) (hR : d.m.R.length ≤ 1000000) (hS : d.S.length ≤ 1000) (hD : ∀ s ∈ d.S, s.Data.length ≤ 1000000) : FnOk Try.prog 86 [agg (d.c v u)] w (fun r w' => (∃ v2 u2 F, r = agg (d.c v2 u2) ∧ F.map Prod.fst = d.S ∧ DOwn w' w.heap.size w'.heap.size v2 u2 d.m F) ∧ Ext w w') := by
  refine FnOk.enterC (rs := [.cell 2 51]) Try.func86 rfl Try.ntmps86 Try.results86 rfl rfl ?_
  refine WF.seq ?_
  refine WF.region ?_
  refine WL.op rfl (OW.boxA (cs := (d.c v u)) rfl ?_ (by decide))
  intro g1 w1 heg1 hlg1 hO1 hx3
  have := World.grownBy.size hx3
  refine WL.op rfl (OW.allocO (cs := [.slice none 0 0, i64 0, i64 0, i64 0, i64 0, i64 0, i64 0, .slice none 0 0]) Try.zeroValue51 rfl ?_ (by decide))
  intro g2 w5 heg2 hlg2 hO2 hx7
  have := World.grownBy.size hx7
  refine WL.nil ?_
  refine thn_n ?_
  refine WF.seq ?_
  refine WF.region ?_
  refine WL.va rfl rfl rfl (X.fieldAddrO (off := 0) rfl Try.underlying51 rfl rfl Try.sizeOf26) ?_
  refine WL.va rfl rfl rfl (X.fieldAddrP (off := 0) rfl Try.underlying26 rfl rfl Try.sizeOf22) ?_
  refine WL.va rfl rfl rfl (X.loadO hO1 hx7 rfl rfl Try.isAgg22) ?_
  have hz0 := World.grownBy.size (show Ext w w5 from (Ext.trans hx3 hx7))
  refine WL.c rfl rfl rfl (X.call Try.call55 (evl_cons rfl evl_nil)) (cloneR_ok v (d.m.R.flatMap Rg.c) d.m.R.length _ (Row.ext h.R (Ext.trans hx3 hx7)) (rgs_ones d.m.R) hR) ?_
  rintro v2 w9 ⟨ov, hx10⟩
  have := World.grownBy.size hx10
  have ovT : RgT w9 _ _ v2 d.m.R := OwnT.of ov
  refine WL.va rfl rfl rfl (X.fieldAddrO (off := 0) rfl Try.underlying51 rfl rfl Try.sizeOf26) ?_
  refine WL.va rfl rfl rfl (X.fieldAddrP (off := 0) rfl Try.underlying26 rfl rfl Try.sizeOf22) ?_
  refine WL.op rfl (OW.storeO (hO1.ext (Ext.trans hx7 hx10)) (Nat.le_of_ble_eq_true rfl) rfl rfl (own_one ov) Try.sizeOf22 ?_)
  intro w11 hO1 hx13
  have := World.grownBy.size hx13
  replace hO2 := (hO2.ext hx10).keptO hx13 (by omega)
  replace ovT := ovT.keptO hx13 (by omega)
  replace hO1 : Blk _ _ _ (d.c v2 u) := hO1
  refine WL.nil ?_
  refine thn_n ?_
  refine WF.seq ?_
  refine WF.region ?_
  refine WL.va rfl rfl rfl (X.fieldAddrO (off := 7) rfl Try.underlying51 rfl rfl Try.sizeOf49) ?_
  refine WL.va rfl rfl rfl (X.loadO hO1 (Ext.refl _) rfl rfl Try.isAgg49) ?_
  refine WL.va rfl rfl rfl (X.buildL (P := Try.prog) (t := 53) (cs := [i64 0, nilS]) evp_nil Try.type53 Try.underlying53 rfl rfl trivial rfl) ?_
  have hz1 := World.grownBy.size (show Ext w w11 from (Ext.store (Ext.trans (Ext.trans hx3 hx7) hx10) hx13 (by omega)))
  refine WL.c rfl rfl rfl (X.call Try.call89 (evl_cons rfl (evl_cons rfl (evl_cons rfl (evl_cons rfl evl_nil))))) (Se.note_ok u d.S 0 0 0 nilS [] _ (h.S.ext (Ext.store (Ext.trans (Ext.trans hx3 hx7) hx10) hx13 (by omega))) hS hD (Bytes.nil _) (by decide)) ?_
  rintro u2 w15 ⟨⟨F, hF, oF⟩, hx16⟩
  have := World.grownBy.size hx16
  have oFT := SOwnT.of oF
  have hF2 : F.map Prod.fst = d.S := hF.trans (if_pos rfl)
  refine WL.va rfl rfl rfl (X.fieldAddrO (off := 7) rfl Try.underlying51 rfl rfl Try.sizeOf49) ?_
  refine WL.op rfl (OW.storeO (hO1.ext hx16) (Nat.le_of_ble_eq_true rfl) rfl rfl (own_one oF.row) Try.sizeOf49 ?_)
  intro w17 hO1 hx19
  have := World.grownBy.size hx19
  replace hO2 := (hO2.ext hx16).keptO hx19 (by omega)
  replace ovT := (ovT.ext hx16).keptO hx19 (by omega)
  replace oFT := oFT.keptO hx19 (by omega)
  replace hO1 : Blk _ _ _ (d.c v2 u2) := hO1
  refine WL.nil ?_
  refine thn_n ?_
  refine WF.seq ?_
  refine WF.region ?_
  refine WL.va rfl rfl rfl (X.loadOA hO1 (Ext.refl _) rfl rfl Try.isAgg51 Try.sizeOf51) ?_
  refine WL.op rfl (OW.storeOA hO2 rfl rfl rfl (d.c_one (Row.of_own ov) (own_one oF.row)) Try.sizeOf51 ?_)
  intro w21 hO2 hx23
  have := World.grownBy.size hx23
  replace hO1 := hO1.keptO hx23 (by omega)
  replace ovT := ovT.keptO hx23 (by omega)
  replace oFT := oFT.keptO hx23 (by omega)
  replace hO2 : Blk _ _ _ (d.c v2 u2) := hO2
  refine WL.nil ?_
  refine thn_n ?_
  refine WF.ret ?_
  refine finC_r (vs := [_]) ⟨⟨_, rfl, readO hO2 Try.isAgg51 Try.sizeOf51⟩, trivial⟩ ?_
  have hz9 := World.grownBy.size (show Ext w w21 from (Ext.store (Ext.store (Ext.trans (Ext.store (Ext.trans (Ext.trans hx3 hx7) hx10) hx13 (by omega)) hx16) hx19 (by omega)) hx23 (by omega)))
  exact ⟨⟨v2, u2, F, rfl, hF2, ⟨ownT_up ovT hz0 (by omega), oFT.mono hz1 (by omega), apart_S ovT oFT (.inl (by omega))⟩⟩, (Ext.store (Ext.store (Ext.trans (Ext.store (Ext.trans (Ext.trans hx3 hx7) hx10) hx13 (by omega)) hx16) hx19 (by omega)) hx23 (by omega))⟩

set_option maxHeartbeats 4000000 in
theorem turn_ok (m : Mp) (v vP vR vW vD : Value) (o : Op.Od) (w : World) (hv : Rgs w v m.R) (hg : Good m) (ho : Op.OpAt w vP vR vW vD o) : FnOk Try.prog 88 [agg (m.c v), agg (Op.oc o.n vP vR vW vD)] w (fun r w' => (∃ u, r = .tuple #[agg ((turnF m o.n).1.c u), i64 (turnF m o.n).2] ∧ Rgs w' u (turnF m o.n).1.R ∧ (u = v ∨ ∀ b, u.ownBlock = some b → w.heap.size ≤ b)) ∧ Ext w w') := by
  refine FnOk.enterC (rs := [.cell 4 26, .tmp 5]) Try.func88 rfl Try.ntmps88 Try.results88 rfl rfl ?_
  refine WF.seq ?_
  refine WF.region ?_
  refine WL.op rfl (OW.boxA (cs := (m.c v)) rfl ?_ (by decide))
  intro g2 w1 heg2 hlg2 hO2 hx3
  have := World.grownBy.size hx3
  refine WL.op rfl (OW.boxA (cs := (Op.oc o.n vP vR vW vD)) rfl ?_ (by decide))
  intro g3 w5 heg3 hlg3 hO3 hx7
  have := World.grownBy.size hx7
  refine WL.op rfl (OW.allocO (cs := [.slice none 0 0, i64 0, i64 0, i64 0, i64 0, i64 0, i64 0]) Try.zeroValue26 rfl ?_ (by decide))
  intro g4 w9 heg4 hlg4 hO4 hx11
  have := World.grownBy.size hx11
  refine WL.va rfl rfl rfl (X.assignI rfl) ?_
  refine WL.nil ?_
  refine thn_n ?_
  refine WF.seq ?_
  refine WF.region ?_
  refine WL.va rfl rfl rfl (X.fieldAddrO (off := 11) rfl Try.underlying72 rfl rfl Try.sizeOf3) ?_
  refine WL.va rfl rfl rfl (X.loadO hO3 hx11 rfl rfl Try.isAgg3) ?_
  refine WL.va rfl rfl rfl (X.fieldAddrO (off := 12) rfl Try.underlying72 rfl rfl Try.sizeOf3) ?_
  refine WL.va rfl rfl rfl (X.loadO hO3 hx11 rfl rfl Try.isAgg3) ?_
  refine WL.va rfl rfl rfl (X.fieldAddrO (off := 6) rfl Try.underlying72 rfl rfl Try.sizeOf3) ?_
  refine WL.va rfl rfl rfl (X.loadO hO3 hx11 rfl rfl Try.isAgg3) ?_
  refine WL.va rfl rfl rfl (X.fieldAddrO (off := 7) rfl Try.underlying72 rfl rfl Try.sizeOf3) ?_
  refine WL.va rfl rfl rfl (X.loadO hO3 hx11 rfl rfl Try.isAgg3) ?_
  refine WL.va rfl rfl rfl (X.buildL (P := Try.prog) (t := 24) (cs := (Mv.c { opMv m o.n with Epoch := 0 })) (evp_cons rfl (evp_cons rfl (evp_cons rfl (evp_cons rfl evp_nil)))) Try.type24 Try.underlying24 rfl rfl ⟨rfl, rfl, rfl, rfl, trivial⟩ rfl) ?_
  refine WL.op rfl (OW.allocO (cs := [i64 0, i64 0, i64 0, i64 0, i64 0]) Try.zeroValue24 rfl ?_ (by decide))
  intro g6 w13 heg6 hlg6 hO6 hx15
  have := World.grownBy.size hx15
  refine WL.op rfl (OW.storeOA hO6 rfl rfl rfl (by simp [Value.oneCell']) Try.sizeOf24 ?_)
  intro w17 hO6 hx19
  have := World.grownBy.size hx19
  replace hO2 := (hO2.ext (Ext.trans (Ext.trans hx7 hx11) hx15)).keptO hx19 (by omega)
  replace hO3 := (hO3.ext (Ext.trans hx11 hx15)).keptO hx19 (by omega)
  replace hO4 := (hO4.ext hx15).keptO hx19 (by omega)
  replace hO6 : Blk _ _ _ (Mv.c { opMv m o.n with Epoch := 0 }) := hO6
  refine WL.nil ?_
  refine thn_n ?_
  refine WF.seq ?_
  refine WF.region ?_
  refine WL.va rfl rfl rfl (X.fieldAddrO (off := 2) rfl Try.underlying26 rfl rfl Try.sizeOf24) ?_
  refine WL.va rfl rfl rfl (X.fieldAddrP (off := 0) rfl Try.underlying24 rfl rfl Try.sizeOf3) ?_
  refine WL.va rfl rfl rfl (X.loadO hO2 (Ext.refl _) rfl rfl Try.isAgg3) ?_
  refine WL.va rfl rfl rfl (X.gtr rfl rfl) ?_
  refine WL.va rfl rfl rfl (X.assignB rfl) ?_
  refine WL.nil ?_
  refine thn_n ?_
  refine WF.seq ?_
  refine WF.seq ?_
  refine WF.region ?_
  refine WL.va rfl rfl rfl (X.fieldAddrO (off := 0) rfl Try.underlying72 rfl rfl Try.sizeOf3) ?_
  refine WL.va rfl rfl rfl (X.loadO hO3 (Ext.refl _) rfl rfl Try.isAgg3) ?_
  refine WL.va rfl rfl rfl (X.eql rfl rfl) ?_
  refine WL.nil ?_
  refine thn_n ?_
  refine WF.cond rfl (fun h0_22 => ?_) (fun h0_22 => ?_)
  · have gh0_22 := (of_decide_eq_true h0_22)
    have hk9 : o.n.getD 0 0 = 9 := gh0_22
    refine WF.seq ?_
    refine WF.region ?_
    refine WL.va rfl rfl rfl (X.fieldAddrO (off := 2) rfl Try.underlying26 rfl rfl Try.sizeOf24) ?_
    refine WL.va rfl rfl rfl (X.fieldAddrP (off := 0) rfl Try.underlying24 rfl rfl Try.sizeOf3) ?_
    refine WL.va rfl rfl rfl (X.loadO hO2 (Ext.refl _) rfl rfl Try.isAgg3) ?_
    refine WL.va rfl rfl rfl (X.fieldAddrO (off := 0) rfl Try.underlying24 rfl rfl Try.sizeOf3) ?_
    refine WL.op rfl (OW.storeO hO6 (Nat.le_of_ble_eq_true rfl) rfl rfl rfl Try.sizeOf3 ?_)
    intro w24 hO6 hx26
    have := World.grownBy.size hx26
    replace hO2 := hO2.keptO hx26 (by omega)
    replace hO3 := hO3.keptO hx26 (by omega)
    replace hO4 := hO4.keptO hx26 (by omega)
    replace hO6 : Blk _ _ _ (opMv m o.n).c := hO6
    refine WL.nil ?_
    refine thn_n ?_
    refine WF.seq ?_
    refine WF.seq ?_
    refine WF.region ?_
    refine WL.va rfl rfl rfl (X.moveB rfl) ?_
    refine WL.va rfl rfl rfl (X.moveB rfl) ?_
    refine WL.split (j := 1) rfl (fun h28 => ?_) (fun h28 => ?_)
    · have gh28 := (of_decide_eq_true h28)
      have q1 : 0 < m.M.Epoch := gh28
      refine WL.vg rfl (congrArg some h28) rfl rfl (X.loadOA hO6 (Ext.refl _) rfl rfl Try.isAgg24 Try.sizeOf24) ?_
      refine WL.vg rfl (congrArg some h28) rfl rfl (X.fieldAddrO (off := 2) rfl Try.underlying26 rfl rfl Try.sizeOf24) ?_
      refine WL.vg rfl (congrArg some h28) rfl rfl (X.loadOP hO2 (Ext.refl _) rfl rfl rfl Try.isAgg24 Try.sizeOf24) ?_
      refine WL.vg rfl (congrArg some h28) rfl rfl (X.eqlA (na := (opMv m o.n).ints) (nb := m.M.ints) flatM fieldsM offsM rfl rfl rfl rfl (Mv.eqB _ _)) ?_
      refine WL.va rfl rfl rfl (X.pickT rfl h28 rfl) ?_
      refine WL.nil ?_
      refine thn_n ?_
      refine WF.cond rfl (fun h1_29 => ?_) (fun h1_29 => ?_)
      · have gh1_29 := h1_29
        have heq : opMv m o.n = m.M := of_decide_eq_true gh1_29
        refine WF.seq ?_
        refine WF.region ?_
        refine WL.va rfl rfl rfl (X.loadOA hO2 (Ext.refl _) rfl rfl Try.isAgg26 Try.sizeOf26) ?_
        refine WL.op rfl (OW.storeOA hO4 rfl rfl rfl (Mp.c_one hv m) Try.sizeOf26 ?_)
        intro w31 hO4 hx33
        have := World.grownBy.size hx33
        replace hO2 := hO2.keptO hx33 (by omega)
        replace hO3 := hO3.keptO hx33 (by omega)
        replace hO6 := hO6.keptO hx33 (by omega)
        replace hO4 : Blk _ _ _ (m.c v) := hO4
        refine WL.va rfl rfl rfl (X.assignI rfl) ?_
        refine WL.nil ?_
        refine thn_n ?_
        refine WF.ret ?_
        refine thn_r ?_
        refine thn_r ?_
        refine finC_r (vs := [_, _]) ⟨⟨_, rfl, readO hO4 Try.isAgg26 Try.sizeOf26⟩, rfl, trivial⟩ ?_
        have hr : turnF m o.n = (m, 0) := by unfold turnF; rw [if_pos hk9, if_pos ⟨q1, heq⟩]
        rw [hr]; exact ⟨⟨_, rfl, Row.ext hv (Ext.trans (Ext.trans hx3 hx7) (Ext.store (Ext.trans hx11 (Ext.store (Ext.store hx15 hx19 (by omega)) hx26 (by omega))) hx33 (by omega))), .inl rfl⟩, (Ext.trans (Ext.trans hx3 hx7) (Ext.store (Ext.trans hx11 (Ext.store (Ext.store hx15 hx19 (by omega)) hx26 (by omega))) hx33 (by omega)))⟩
      · have gh1_29 := h1_29
        have hne : ¬ opMv m o.n = m.M := of_decide_eq_false gh1_29
        refine WF.skip ?_
        refine thn_n ?_
        refine WF.seq ?_
        refine WF.region ?_
        refine WL.va rfl rfl rfl (X.loadOA hO2 (Ext.refl _) rfl rfl Try.isAgg26 Try.sizeOf26) ?_
        refine WL.va rfl rfl rfl (X.loadOA hO6 (Ext.refl _) rfl rfl Try.isAgg24 Try.sizeOf24) ?_
        refine WL.c rfl rfl rfl (X.call Try.call15 (evl_cons rfl (evl_cons rfl evl_nil))) (plan_ok m v (opMv m o.n) _ (Row.ext hv (Ext.trans (Ext.trans (Ext.trans hx3 hx7) hx11) (Ext.store (Ext.store hx15 hx19 (by omega)) hx26 (by omega)))) (Nat.le_trans hg.len (by decide)) hg.E.1) ?_
        rintro v36 w35 ⟨⟨vx, rfl, ox⟩, hx37⟩
        have := World.grownBy.size hx37
        have oxT := OwnT.of ox
        refine WL.va rfl rfl rfl (X.extract rfl rfl) ?_
        refine WL.va rfl rfl rfl (X.extract rfl rfl) ?_
        refine WL.op rfl (OW.storeOA (hO4.ext hx37) rfl rfl rfl (Mp.c_one (Row.of_own ox) _) Try.sizeOf26 ?_)
        intro w38 hO4 hx40
        have := World.grownBy.size hx40
        replace hO2 := (hO2.ext hx37).keptO hx40 (by omega)
        replace hO3 := (hO3.ext hx37).keptO hx40 (by omega)
        replace hO6 := (hO6.ext hx37).keptO hx40 (by omega)
        replace oxT := oxT.keptO hx40 (by omega)
        refine WL.va rfl rfl rfl (X.assignI rfl) ?_
        refine WL.nil ?_
        refine thn_n ?_
        refine WF.ret ?_
        refine thn_r ?_
        refine finC_r (vs := [_, _]) ⟨⟨_, rfl, readO hO4 Try.isAgg26 Try.sizeOf26⟩, rfl, trivial⟩ ?_
        have hr : turnF m o.n = planM m (opMv m o.n) := by unfold turnF; rw [if_pos hk9, if_neg (by rintro ⟨a, b⟩; first | exact q1 a | exact hne b)]
        rw [hr]; exact ⟨⟨_, rfl, oxT.rd, .inr (fun b hb => by have := (oxT.own.lt b hb).1; omega)⟩, (Ext.trans (Ext.trans hx3 hx7) (Ext.store (Ext.trans (Ext.trans hx11 (Ext.store (Ext.store hx15 hx19 (by omega)) hx26 (by omega))) hx37) hx40 (by omega)))⟩
    · have gh28 := (of_decide_eq_false h28)
      have q1 : ¬ 0 < m.M.Epoch := gh28
      refine WL.p rfl rfl rfl (congrArg some h28) ?_
      refine WL.p rfl rfl rfl (congrArg some h28) ?_
      refine WL.p rfl rfl rfl (congrArg some h28) ?_
      refine WL.p rfl rfl rfl (congrArg some h28) ?_
      refine WL.va rfl rfl rfl (X.pickF rfl h28 rfl) ?_
      refine WL.nil ?_
      refine thn_n ?_
      refine WF.cond_f rfl ?_
      refine WF.skip ?_
      refine thn_n ?_
      refine WF.seq ?_
      refine WF.region ?_
      refine WL.va rfl rfl rfl (X.loadOA hO2 (Ext.refl _) rfl rfl Try.isAgg26 Try.sizeOf26) ?_
      refine WL.va rfl rfl rfl (X.loadOA hO6 (Ext.refl _) rfl rfl Try.isAgg24 Try.sizeOf24) ?_
      refine WL.c rfl rfl rfl (X.call Try.call15 (evl_cons rfl (evl_cons rfl evl_nil))) (plan_ok m v (opMv m o.n) _ (Row.ext hv (Ext.trans (Ext.trans (Ext.trans hx3 hx7) hx11) (Ext.store (Ext.store hx15 hx19 (by omega)) hx26 (by omega)))) (Nat.le_trans hg.len (by decide)) hg.E.1) ?_
      rintro v44 w43 ⟨⟨vx, rfl, ox⟩, hx45⟩
      have := World.grownBy.size hx45
      have oxT := OwnT.of ox
      refine WL.va rfl rfl rfl (X.extract rfl rfl) ?_
      refine WL.va rfl rfl rfl (X.extract rfl rfl) ?_
      refine WL.op rfl (OW.storeOA (hO4.ext hx45) rfl rfl rfl (Mp.c_one (Row.of_own ox) _) Try.sizeOf26 ?_)
      intro w46 hO4 hx48
      have := World.grownBy.size hx48
      replace hO2 := (hO2.ext hx45).keptO hx48 (by omega)
      replace hO3 := (hO3.ext hx45).keptO hx48 (by omega)
      replace hO6 := (hO6.ext hx45).keptO hx48 (by omega)
      replace oxT := oxT.keptO hx48 (by omega)
      refine WL.va rfl rfl rfl (X.assignI rfl) ?_
      refine WL.nil ?_
      refine thn_n ?_
      refine WF.ret ?_
      refine thn_r ?_
      refine finC_r (vs := [_, _]) ⟨⟨_, rfl, readO hO4 Try.isAgg26 Try.sizeOf26⟩, rfl, trivial⟩ ?_
      have hr : turnF m o.n = planM m (opMv m o.n) := by unfold turnF; rw [if_pos hk9, if_neg (by rintro ⟨a, b⟩; first | exact q1 a | exact hne b)]
      rw [hr]; exact ⟨⟨_, rfl, oxT.rd, .inr (fun b hb => by have := (oxT.own.lt b hb).1; omega)⟩, (Ext.trans (Ext.trans hx3 hx7) (Ext.store (Ext.trans (Ext.trans hx11 (Ext.store (Ext.store hx15 hx19 (by omega)) hx26 (by omega))) hx45) hx48 (by omega)))⟩
  · have gh0_22 := (of_decide_eq_false h0_22)
    have hk9 : ¬ o.n.getD 0 0 = 9 := gh0_22
    refine WF.skip ?_
    refine thn_n ?_
    refine WF.seq ?_
    refine WF.seq ?_
    refine WF.region ?_
    refine WL.va rfl rfl rfl (X.fieldAddrO (off := 5) rfl Try.underlying72 rfl rfl Try.sizeOf3) ?_
    refine WL.va rfl rfl rfl (X.loadO hO3 (Ext.refl _) rfl rfl Try.isAgg3) ?_
    refine WL.va rfl rfl rfl (X.fieldAddrO (off := 1) rfl Try.underlying26 rfl rfl Try.sizeOf3) ?_
    refine WL.va rfl rfl rfl (X.loadO hO2 (Ext.refl _) rfl rfl Try.isAgg3) ?_
    refine WL.va rfl rfl rfl (X.leq rfl rfl) ?_
    refine WL.va rfl rfl rfl (X.moveB rfl) ?_
    refine WL.split (j := 5) rfl (fun h51 => ?_) (fun h51 => ?_)
    · have gh51 := (of_decide_eq_true h51)
      have q2 : o.n.getD 5 0 ≤ m.E := gh51
      refine WL.vg rfl (congrArg some h51) rfl rfl (X.moveB rfl) ?_
      refine WL.vg rfl (congrArg some h51) rfl rfl (X.moveB rfl) ?_
      refine WL.split (j := 7) rfl (fun h52 => ?_) (fun h52 => ?_)
      · have gh52 := (of_decide_eq_true h52)
        have q3 : 0 < m.M.Epoch := gh52
        refine WL.vg rfl (congrArg some h52) rfl rfl (X.fieldAddrO (off := 5) rfl Try.underlying72 rfl rfl Try.sizeOf3) ?_
        refine WL.vg rfl (congrArg some h52) rfl rfl (X.loadO hO3 (Ext.refl _) rfl rfl Try.isAgg3) ?_
        refine WL.vg rfl (congrArg some h52) rfl rfl (X.fieldAddrO (off := 2) rfl Try.underlying26 rfl rfl Try.sizeOf24) ?_
        refine WL.vg rfl (congrArg some h52) rfl rfl (X.fieldAddrP (off := 0) rfl Try.underlying24 rfl rfl Try.sizeOf3) ?_
        refine WL.vg rfl (congrArg some h52) rfl rfl (X.loadO hO2 (Ext.refl _) rfl rfl Try.isAgg3) ?_
        refine WL.vg rfl (congrArg some h52) rfl rfl (X.eql rfl rfl) ?_
        refine WL.vg rfl (congrArg some h51) rfl rfl (X.pickT rfl h52 rfl) ?_
        refine WL.vg rfl (congrArg some h51) rfl rfl (X.not rfl) ?_
        refine WL.va rfl rfl rfl (X.pickT rfl h51 rfl) ?_
        refine WL.nil ?_
        refine thn_n ?_
        refine WF.cond rfl (fun h2_54 => ?_) (fun h2_54 => ?_)
        · have gh2_54 := (of_decide_eq_false (nt h2_54))
          have hne2 : ¬ o.n.getD 5 0 = m.M.Epoch := by simpa using gh2_54
          refine WF.seq ?_
          refine WF.region ?_
          refine WL.va rfl rfl rfl (X.loadOA hO2 (Ext.refl _) rfl rfl Try.isAgg26 Try.sizeOf26) ?_
          refine WL.op rfl (OW.storeOA hO4 rfl rfl rfl (Mp.c_one hv m) Try.sizeOf26 ?_)
          intro w56 hO4 hx58
          have := World.grownBy.size hx58
          replace hO2 := hO2.keptO hx58 (by omega)
          replace hO3 := hO3.keptO hx58 (by omega)
          replace hO6 := hO6.keptO hx58 (by omega)
          replace hO4 : Blk _ _ _ (m.c v) := hO4
          refine WL.va rfl rfl rfl (X.assignI rfl) ?_
          refine WL.nil ?_
          refine thn_n ?_
          refine WF.ret ?_
          refine thn_r ?_
          refine finC_r (vs := [_, _]) ⟨⟨_, rfl, readO hO4 Try.isAgg26 Try.sizeOf26⟩, rfl, trivial⟩ ?_
          have hr : turnF m o.n = (m, 0) := by unfold turnF; rw [if_neg hk9, if_pos ⟨q2, by rintro ⟨a, b⟩; first | exact q3 a | exact hne2 b⟩]
          rw [hr]; exact ⟨⟨_, rfl, Row.ext hv (Ext.trans (Ext.trans hx3 hx7) (Ext.store (Ext.trans hx11 (Ext.store hx15 hx19 (by omega))) hx58 (by omega))), .inl rfl⟩, (Ext.trans (Ext.trans hx3 hx7) (Ext.store (Ext.trans hx11 (Ext.store hx15 hx19 (by omega))) hx58 (by omega)))⟩
        · have gh2_54 := (of_decide_eq_true (nf h2_54))
          have heq2 : o.n.getD 5 0 = m.M.Epoch := by simpa using gh2_54
          refine WF.skip ?_
          refine thn_n ?_
          refine WF.seq ?_
          refine WF.region ?_
          refine WL.va rfl rfl rfl (X.loadOA hO2 (Ext.refl _) rfl rfl Try.isAgg26 Try.sizeOf26) ?_
          refine WL.va rfl rfl rfl (X.fieldAddrO (off := 5) rfl Try.underlying72 rfl rfl Try.sizeOf3) ?_
          refine WL.va rfl rfl rfl (X.loadO hO3 (Ext.refl _) rfl rfl Try.isAgg3) ?_
          refine WL.c rfl rfl rfl (X.call Try.call17 (evl_cons rfl (evl_cons rfl evl_nil))) (doneC_ok m v (o.n.getD 5 0) _ (Row.ext hv (Ext.trans (Ext.trans (Ext.trans hx3 hx7) hx11) (Ext.store hx15 hx19 (by omega)))) (Nat.le_trans hg.len (by decide))) ?_
          rintro v61 w60 ⟨⟨vx, md, cd, rfl, ox, hdp⟩, hx62⟩
          have := World.grownBy.size hx62
          obtain ⟨rfl, rfl⟩ := post_doneF hg.E hg.ok hdp
          have oxT := OwnT.of ox
          refine WL.va rfl rfl rfl (X.extract rfl rfl) ?_
          refine WL.va rfl rfl rfl (X.extract rfl rfl) ?_
          refine WL.op rfl (OW.storeOA (hO4.ext hx62) rfl rfl rfl (Mp.c_one (Row.of_own ox) _) Try.sizeOf26 ?_)
          intro w63 hO4 hx66
          have := World.grownBy.size hx66
          replace hO2 := (hO2.ext hx62).keptO hx66 (by omega)
          replace hO3 := (hO3.ext hx62).keptO hx66 (by omega)
          replace hO6 := (hO6.ext hx62).keptO hx66 (by omega)
          replace oxT := oxT.keptO hx66 (by omega)
          refine WL.va rfl rfl rfl (X.assignI rfl) ?_
          refine WL.nil ?_
          refine thn_n ?_
          refine WF.ret ?_
          refine finC_r (vs := [_, _]) ⟨⟨_, rfl, readO hO4 Try.isAgg26 Try.sizeOf26⟩, rfl, trivial⟩ ?_
          have hr : turnF m o.n = doneF m (o.n.getD 5 0) := by unfold turnF; rw [if_neg hk9, if_neg (by rintro ⟨a, b⟩; first | exact q2 a | exact b ⟨q3, heq2⟩)]
          rw [hr]; exact ⟨⟨_, rfl, oxT.rd, .inr (fun b hb => by have := (oxT.own.lt b hb).1; omega)⟩, (Ext.trans (Ext.trans hx3 hx7) (Ext.store (Ext.trans (Ext.trans hx11 (Ext.store hx15 hx19 (by omega))) hx62) hx66 (by omega)))⟩
      · have gh52 := (of_decide_eq_false h52)
        have q3 : ¬ 0 < m.M.Epoch := gh52
        refine WL.p rfl rfl rfl (congrArg some h52) ?_
        refine WL.p rfl rfl rfl (congrArg some h52) ?_
        refine WL.p rfl rfl rfl (congrArg some h52) ?_
        refine WL.p rfl rfl rfl (congrArg some h52) ?_
        refine WL.p rfl rfl rfl (congrArg some h52) ?_
        refine WL.p rfl rfl rfl (congrArg some h52) ?_
        refine WL.vg rfl (congrArg some h51) rfl rfl (X.pickF rfl h52 rfl) ?_
        refine WL.vg rfl (congrArg some h51) rfl rfl (X.not rfl) ?_
        refine WL.va rfl rfl rfl (X.pickT rfl h51 rfl) ?_
        refine WL.nil ?_
        refine thn_n ?_
        refine WF.cond_t rfl ?_
        refine WF.seq ?_
        refine WF.region ?_
        refine WL.va rfl rfl rfl (X.loadOA hO2 (Ext.refl _) rfl rfl Try.isAgg26 Try.sizeOf26) ?_
        refine WL.op rfl (OW.storeOA hO4 rfl rfl rfl (Mp.c_one hv m) Try.sizeOf26 ?_)
        intro w70 hO4 hx72
        have := World.grownBy.size hx72
        replace hO2 := hO2.keptO hx72 (by omega)
        replace hO3 := hO3.keptO hx72 (by omega)
        replace hO6 := hO6.keptO hx72 (by omega)
        replace hO4 : Blk _ _ _ (m.c v) := hO4
        refine WL.va rfl rfl rfl (X.assignI rfl) ?_
        refine WL.nil ?_
        refine thn_n ?_
        refine WF.ret ?_
        refine thn_r ?_
        refine finC_r (vs := [_, _]) ⟨⟨_, rfl, readO hO4 Try.isAgg26 Try.sizeOf26⟩, rfl, trivial⟩ ?_
        have hr : turnF m o.n = (m, 0) := by unfold turnF; rw [if_neg hk9, if_pos ⟨q2, by rintro ⟨a, b⟩; first | exact q3 a | exact hne2 b⟩]
        rw [hr]; exact ⟨⟨_, rfl, Row.ext hv (Ext.trans (Ext.trans hx3 hx7) (Ext.store (Ext.trans hx11 (Ext.store hx15 hx19 (by omega))) hx72 (by omega))), .inl rfl⟩, (Ext.trans (Ext.trans hx3 hx7) (Ext.store (Ext.trans hx11 (Ext.store hx15 hx19 (by omega))) hx72 (by omega)))⟩
    · have gh51 := (of_decide_eq_false h51)
      have q2 : ¬ o.n.getD 5 0 ≤ m.E := gh51
      refine WL.p rfl rfl rfl (congrArg some h51) ?_
      refine WL.p rfl rfl rfl (congrArg some h51) ?_
      refine WL.pn rfl rfl rfl rfl ?_
      refine WL.pn rfl rfl rfl rfl ?_
      refine WL.pn rfl rfl rfl rfl ?_
      refine WL.pn rfl rfl rfl rfl ?_
      refine WL.pn rfl rfl rfl rfl ?_
      refine WL.pn rfl rfl rfl rfl ?_
      refine WL.p rfl rfl rfl (congrArg some h51) ?_
      refine WL.p rfl rfl rfl (congrArg some h51) ?_
      refine WL.va rfl rfl rfl (X.pickF rfl h51 rfl) ?_
      refine WL.nil ?_
      refine thn_n ?_
      refine WF.cond_f rfl ?_
      refine WF.skip ?_
      refine thn_n ?_
      refine WF.seq ?_
      refine WF.region ?_
      refine WL.va rfl rfl rfl (X.loadOA hO2 (Ext.refl _) rfl rfl Try.isAgg26 Try.sizeOf26) ?_
      refine WL.va rfl rfl rfl (X.fieldAddrO (off := 5) rfl Try.underlying72 rfl rfl Try.sizeOf3) ?_
      refine WL.va rfl rfl rfl (X.loadO hO3 (Ext.refl _) rfl rfl Try.isAgg3) ?_
      refine WL.c rfl rfl rfl (X.call Try.call17 (evl_cons rfl (evl_cons rfl evl_nil))) (doneC_ok m v (o.n.getD 5 0) _ (Row.ext hv (Ext.trans (Ext.trans (Ext.trans hx3 hx7) hx11) (Ext.store hx15 hx19 (by omega)))) (Nat.le_trans hg.len (by decide))) ?_
      rintro v76 w75 ⟨⟨vx, md, cd, rfl, ox, hdp⟩, hx77⟩
      have := World.grownBy.size hx77
      obtain ⟨rfl, rfl⟩ := post_doneF hg.E hg.ok hdp
      have oxT := OwnT.of ox
      refine WL.va rfl rfl rfl (X.extract rfl rfl) ?_
      refine WL.va rfl rfl rfl (X.extract rfl rfl) ?_
      refine WL.op rfl (OW.storeOA (hO4.ext hx77) rfl rfl rfl (Mp.c_one (Row.of_own ox) _) Try.sizeOf26 ?_)
      intro w78 hO4 hx80
      have := World.grownBy.size hx80
      replace hO2 := (hO2.ext hx77).keptO hx80 (by omega)
      replace hO3 := (hO3.ext hx77).keptO hx80 (by omega)
      replace hO6 := (hO6.ext hx77).keptO hx80 (by omega)
      replace oxT := oxT.keptO hx80 (by omega)
      refine WL.va rfl rfl rfl (X.assignI rfl) ?_
      refine WL.nil ?_
      refine thn_n ?_
      refine WF.ret ?_
      refine finC_r (vs := [_, _]) ⟨⟨_, rfl, readO hO4 Try.isAgg26 Try.sizeOf26⟩, rfl, trivial⟩ ?_
      have hr : turnF m o.n = doneF m (o.n.getD 5 0) := by unfold turnF; rw [if_neg hk9, if_neg (by rintro ⟨a, b⟩; first | exact q2 a | exact b ⟨q3, heq2⟩)]
      rw [hr]; exact ⟨⟨_, rfl, oxT.rd, .inr (fun b hb => by have := (oxT.own.lt b hb).1; omega)⟩, (Ext.trans (Ext.trans hx3 hx7) (Ext.store (Ext.trans (Ext.trans hx11 (Ext.store hx15 hx19 (by omega))) hx77) hx80 (by omega)))⟩

theorem sameRes_self {a b : Int} {va vb : Value} {la lb : List UInt8} {w : World} (ha : Bytes w va la) (hb : Bytes w vb lb) (e : a = b ∧ la = lb) : FnOk Try.prog 47 [agg [i64 a, va], agg [i64 b, vb]] w (fun r w' => r = .bool true ∧ Ext w w') := by
  have := Se.sameResult_ok a b va vb la lb w ha hb
  rwa [decide_eq_true e] at this
end Go.Proofs.Ytpimnlgfhpnjnaa
