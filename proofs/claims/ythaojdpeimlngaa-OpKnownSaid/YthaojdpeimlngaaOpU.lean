/- The walk of OpKnown itself. -/
import Derived.Test.YthaojdpeimlngaaOpV
import Derived.Test.YthaojdpeimlngaaDel
namespace Go.Proofs.Ythaojdpeimlngaa
open Go Go.RowKit Kf
set_option maxRecDepth 20000

set_option maxHeartbeats 8000000 in
theorem opKnown_walk (w : World) : FnOk Try.prog 7 [] w (fun r w' => r = .bool true ∧ Ext w w') := by
  refine FnOk.enter (rs := [0]) Try.func7 rfl Try.ntmps7 Try.results7 rfl rfl ?_
  refine WF.seq ?_
  refine WF.region ?_
  refine WL.va rfl rfl rfl (X.assignB rfl) ?_
  refine WL.nil ?_
  refine thn_n ?_
  refine WF.seq ?_
  refine WF.region ?_
  refine WL.c rfl rfl rfl (X.call Try.call29 evl_nil) (oneO_ok _) ?_
  rintro v2 wa ⟨⟨a1, a2, a3, rfl, hxa, hapa, haqa⟩, hx3⟩
  have := World.grownBy.size hx3
  obtain ⟨Fa, hFa, hWa⟩ := hxa.W
  refine WL.op rfl (OW.allocO (cs := [i64 0, i64 0, i64 0, i64 0, i64 0, i64 0, i64 0, i64 0, i64 0, i64 0, i64 0, i64 0, i64 0, .slice none 0 0, .slice none 0 0, .slice none 0 0, .slice none 0 0]) Try.zeroValue26 rfl ?_ (by decide))
  intro g1 w4 heg1 hlg1 hO1 hx6
  have := World.grownBy.size hx6
  refine WL.op rfl (OW.storeOA hO1 rfl rfl rfl (hxa.at.ones _) Try.sizeOf26 ?_)
  intro wa0 hO1 hx9
  have := World.grownBy.size hx9
  refine WL.nil ?_
  refine thn_n ?_
  refine WF.seq ?_
  refine WF.region ?_
  refine WL.va rfl rfl rfl (X.fieldAddrO (off := 13) rfl Try.underlying26 rfl rfl Try.sizeOf22) ?_
  refine WL.op rfl (OW.storeO hO1 (Nat.le_of_ble_eq_true rfl) rfl rfl rfl Try.sizeOf22 ?_)
  intro waS hO1 hx12
  have := World.grownBy.size hx12
  replace hO1 : Blk _ _ _ (oc ([2, 1, 3, 5, 2, 1, 0, 0, 0, 0, 0, 0, 0] : List Int) (.slice none 0 0) a2 a3 (.slice none 0 0)) := hO1
  have ata : OpAt waS (.slice none 0 0) a2 a3 (.slice none 0 0) ⟨[2, 1, 3, 5, 2, 1, 0, 0, 0, 0, 0, 0, 0], [], [7], [⟨4, [1, 2, 3, 4]⟩, ⟨9, [0, 0, 0, 0]⟩], []⟩ := op_at rfl (by decide) (Row.nil _ 1) (Row.of_own (hxa.ext (Ext.store (Ext.store hx6 hx9 (by omega)) hx12 (by omega))).R) ((hxa.ext (Ext.store (Ext.store hx6 hx9 (by omega)) hx12 (by omega))).at.W) (Bytes.nil _)
  refine WL.nil ?_
  refine thn_n ?_
  refine WF.seq ?_
  refine WF.region ?_
  refine WL.c rfl rfl rfl (X.call Try.call29 evl_nil) (oneO_ok _) ?_
  rintro v14 wb ⟨⟨b1, b2, b3, rfl, hxb, hapb, haqb⟩, hx15⟩
  have := World.grownBy.size hx15
  have := World.grownBy.size hx15
  obtain ⟨Fb, hFb, hWb⟩ := hxb.W
  refine WL.op rfl (OW.allocO (cs := [i64 0, i64 0, i64 0, i64 0, i64 0, i64 0, i64 0, i64 0, i64 0, i64 0, i64 0, i64 0, i64 0, .slice none 0 0, .slice none 0 0, .slice none 0 0, .slice none 0 0]) Try.zeroValue26 rfl ?_ (by decide))
  intro g2 w16 heg2 hlg2 hO2 hx18
  have := World.grownBy.size hx18
  refine WL.op rfl (OW.storeOA hO2 rfl rfl rfl (hxb.at.ones _) Try.sizeOf26 ?_)
  intro wb0 hO2 hx21
  have := World.grownBy.size hx21
  replace hO1 := (hO1.ext (Ext.trans hx15 hx18)).keptO hx21 (by omega)
  refine WL.nil ?_
  refine thn_n ?_
  refine WF.seq ?_
  refine WF.region ?_
  refine WL.op rfl (OW.lits (vs := [_, _]) (evp_cons rfl (evp_cons rfl evp_nil)) Try.underlying22 Try.sizeOf3 Try.zeroValue3 ⟨rfl, rfl, trivial⟩ rfl rfl rfl ?_ (by decide))
  intro lb w23 ho25 hx24
  have := World.grownBy.size hx24
  have olb : OwnI w23 _ 3 lb [1, 1] := ho25
  refine WL.va rfl rfl rfl (X.fieldAddrO (off := 13) rfl Try.underlying26 rfl rfl Try.sizeOf22) ?_
  refine WL.op rfl (OW.storeO (hO2.ext hx24) (Nat.le_of_ble_eq_true rfl) rfl rfl (own_one olb) Try.sizeOf22 ?_)
  intro wbS hO2 hx27
  have := World.grownBy.size hx27
  replace hO1 := (hO1.ext hx24).keptO hx27 (by omega)
  replace hO2 : Blk _ _ _ (oc ([2, 1, 3, 5, 2, 1, 0, 0, 0, 0, 0, 0, 0] : List Int) lb b2 b3 (.slice none 0 0)) := hO2
  have plb := own_keptO olb hx27 (.inl (by omega))
  have atb : OpAt wbS lb b2 b3 (.slice none 0 0) ⟨[2, 1, 3, 5, 2, 1, 0, 0, 0, 0, 0, 0, 0], [1, 1], [7], [⟨4, [1, 2, 3, 4]⟩, ⟨9, [0, 0, 0, 0]⟩], []⟩ := op_at rfl (by decide) (Row.of_own plb) (Row.of_own (hxb.ext (Ext.store (Ext.trans (Ext.store hx18 hx21 (by omega)) hx24) hx27 (by omega))).R) ((hxb.ext (Ext.store (Ext.trans (Ext.store hx18 hx21 (by omega)) hx24) hx27 (by omega))).at.W) (Bytes.nil _)
  refine WL.nil ?_
  refine thn_n ?_
  refine WF.seq ?_
  refine WF.region ?_
  refine WL.c rfl rfl rfl (X.call Try.call29 evl_nil) (oneO_ok _) ?_
  rintro v29 wc ⟨⟨c1, c2, c3, rfl, hxc, hapc, haqc⟩, hx30⟩
  have := World.grownBy.size hx30
  have := World.grownBy.size hx30
  obtain ⟨Fc, hFc, hWc⟩ := hxc.W
  refine WL.op rfl (OW.allocO (cs := [i64 0, i64 0, i64 0, i64 0, i64 0, i64 0, i64 0, i64 0, i64 0, i64 0, i64 0, i64 0, i64 0, .slice none 0 0, .slice none 0 0, .slice none 0 0, .slice none 0 0]) Try.zeroValue26 rfl ?_ (by decide))
  intro g3 w31 heg3 hlg3 hO3 hx33
  have := World.grownBy.size hx33
  refine WL.op rfl (OW.storeOA hO3 rfl rfl rfl (hxc.at.ones _) Try.sizeOf26 ?_)
  intro wc0 hO3 hx36
  have := World.grownBy.size hx36
  replace hO1 := (hO1.ext (Ext.trans hx30 hx33)).keptO hx36 (by omega)
  replace hO2 := (hO2.ext (Ext.trans hx30 hx33)).keptO hx36 (by omega)
  refine WL.nil ?_
  refine thn_n ?_
  refine WF.seq ?_
  refine WF.region ?_
  refine WL.va rfl rfl rfl (X.fieldAddrO (off := 15) rfl Try.underlying26 rfl rfl Try.sizeOf23) ?_
  refine WL.va rfl rfl rfl (X.loadO hO3 (Ext.refl _) rfl rfl Try.isAgg23) ?_
  refine WL.op rfl (OW.lits (vs := [u8 1, u8 2, u8 3]) (evp_cons rfl (evp_cons rfl (evp_cons rfl evp_nil))) Try.underlying24 Try.sizeOf5 Try.zeroValue5 ⟨rfl, rfl, rfl, trivial⟩ rfl rfl rfl ?_ (by decide))
  intro lc w38 ho40 hx39
  have := World.grownBy.size hx39
  have oc0 : OwnB w38 _ 5 lc [1, 2, 3] := ho40
  obtain ⟨u1, u2, rfl⟩ := two_el hFc
  have oc1 := own_ext hWc.row (Ext.trans (Ext.store hx33 hx36 (by omega)) hx39)
  have xP := own_ext hxc.P (Ext.trans (Ext.store hx33 hx36 (by omega)) hx39)
  have xR := own_ext hxc.R (Ext.trans (Ext.store hx33 hx36 (by omega)) hx39)
  have x2 := own_ext (hWc.data (⟨9, [0, 0, 0, 0]⟩, u2) (by simp)) (Ext.trans (Ext.store hx33 hx36 (by omega)) hx39)
  have hapl : Apart lc c3 := fun k h1 h2 => by have := (oc0.lt k h1).1; have := (hWc.row.lt k h2).2; omega
  refine WL.va rfl rfl rfl (X.idx (k := 0) (Row.of_own (own_ext hWc.row (Ext.trans (Ext.store hx33 hx36 (by omega)) hx39))) rfl rfl (by simp) Try.underlying23 Try.sizeOf52) ?_
  refine WL.va rfl rfl rfl (X.fieldAddrA rfl Try.underlying52 rfl rfl Try.sizeOf24) ?_
  refine WL.op rfl (OW.storeIF (i := 0) (off := 1) oc1 (by simp) (by decide) rfl rfl (own_one oc0) Try.sizeOf24 ?_)
  intro wcS ho43 hx42
  have := World.grownBy.size hx42
  replace hO1 := (hO1.ext hx39).keptR hx42 (fun b hb => by have h1 := (hWc.row.lt b hb).1; have h2 := (hWc.row.lt b hb).2; omega)
  replace hO2 := (hO2.ext hx39).keptR hx42 (fun b hb => by have h1 := (hWc.row.lt b hb).1; have h2 := (hWc.row.lt b hb).2; omega)
  replace hO3 := (hO3.ext hx39).keptR hx42 (fun b hb => by have h1 := (hWc.row.lt b hb).1; have h2 := (hWc.row.lt b hb).2; omega)
  have oc2 := ho43
  have atc : OpAt wcS c1 c2 c3 (.slice none 0 0) ⟨[2, 1, 3, 5, 2, 1, 0, 0, 0, 0, 0, 0, 0], [1, 3], [7], [⟨4, [1, 2, 3]⟩, ⟨9, [0, 0, 0, 0]⟩], []⟩ := op_at rfl (by decide) (Row.of_own (xP.kept hx42 hapc.ne)) (Row.of_own (xR.kept hx42 haqc.ne)) ⟨[(⟨4, [1, 2, 3]⟩, lc), (⟨9, [0, 0, 0, 0]⟩, u2)], rfl, Row.of_own oc2, fun e he => by
    simp only [List.mem_cons, List.not_mem_nil, or_false] at he
    rcases he with rfl | rfl
    · exact Row.of_own (oc0.kept hx42 hapl.ne)
    · exact Row.of_own (x2.kept hx42 (hWc.off _ (by simp)).ne)⟩ (Bytes.nil _)
  refine WL.nil ?_
  refine thn_n ?_
  refine WF.seq ?_
  refine WF.region ?_
  refine WL.c rfl rfl rfl (X.call Try.call29 evl_nil) (oneO_ok _) ?_
  rintro v44 wd ⟨⟨d1, d2, d3, rfl, hxd, hapd, haqd⟩, hx45⟩
  have := World.grownBy.size hx45
  have := World.grownBy.size hx45
  obtain ⟨Fd, hFd, hWd⟩ := hxd.W
  refine WL.op rfl (OW.allocO (cs := [i64 0, i64 0, i64 0, i64 0, i64 0, i64 0, i64 0, i64 0, i64 0, i64 0, i64 0, i64 0, i64 0, .slice none 0 0, .slice none 0 0, .slice none 0 0, .slice none 0 0]) Try.zeroValue26 rfl ?_ (by decide))
  intro g4 w46 heg4 hlg4 hO4 hx48
  have := World.grownBy.size hx48
  refine WL.op rfl (OW.storeOA hO4 rfl rfl rfl (hxd.at.ones _) Try.sizeOf26 ?_)
  intro wd0 hO4 hx51
  have := World.grownBy.size hx51
  replace hO1 := (hO1.ext (Ext.trans hx45 hx48)).keptO hx51 (by omega)
  replace hO2 := (hO2.ext (Ext.trans hx45 hx48)).keptO hx51 (by omega)
  replace hO3 := (hO3.ext (Ext.trans hx45 hx48)).keptO hx51 (by omega)
  refine WL.nil ?_
  refine thn_n ?_
  refine WF.seq ?_
  refine WF.region ?_
  refine WL.op rfl (OW.lits (vs := [_, _]) (evp_cons rfl (evp_cons rfl evp_nil)) Try.underlying22 Try.sizeOf3 Try.zeroValue3 ⟨rfl, rfl, trivial⟩ rfl rfl rfl ?_ (by decide))
  intro ld w53 ho55 hx54
  have := World.grownBy.size hx54
  have old : OwnI w53 _ 3 ld [5, 4] := ho55
  refine WL.va rfl rfl rfl (X.fieldAddrO (off := 14) rfl Try.underlying26 rfl rfl Try.sizeOf22) ?_
  refine WL.op rfl (OW.storeO (hO4.ext hx54) (Nat.le_of_ble_eq_true rfl) rfl rfl (own_one old) Try.sizeOf22 ?_)
  intro wdS hO4 hx57
  have := World.grownBy.size hx57
  replace hO1 := (hO1.ext hx54).keptO hx57 (by omega)
  replace hO2 := (hO2.ext hx54).keptO hx57 (by omega)
  replace hO3 := (hO3.ext hx54).keptO hx57 (by omega)
  replace hO4 : Blk _ _ _ (oc ([2, 1, 3, 5, 2, 1, 0, 0, 0, 0, 0, 0, 0] : List Int) d1 ld d3 (.slice none 0 0)) := hO4
  have pld := own_keptO old hx57 (.inl (by omega))
  have atd : OpAt wdS d1 ld d3 (.slice none 0 0) ⟨[2, 1, 3, 5, 2, 1, 0, 0, 0, 0, 0, 0, 0], [1, 3], [5, 4], [⟨4, [1, 2, 3, 4]⟩, ⟨9, [0, 0, 0, 0]⟩], []⟩ := op_at rfl (by decide) (Row.of_own (hxd.ext (Ext.store (Ext.trans (Ext.store hx48 hx51 (by omega)) hx54) hx57 (by omega))).P) (Row.of_own pld) ((hxd.ext (Ext.store (Ext.trans (Ext.store hx48 hx51 (by omega)) hx54) hx57 (by omega))).at.W) (Bytes.nil _)
  refine WL.nil ?_
  refine thn_n ?_
  refine WF.seq ?_
  refine WF.region ?_
  refine WL.c rfl rfl rfl (X.call Try.call29 evl_nil) (oneO_ok _) ?_
  rintro v59 we ⟨⟨e1, e2, e3, rfl, hxe, hape, haqe⟩, hx60⟩
  have := World.grownBy.size hx60
  have := World.grownBy.size hx60
  obtain ⟨Fe, hFe, hWe⟩ := hxe.W
  refine WL.op rfl (OW.allocO (cs := [i64 0, i64 0, i64 0, i64 0, i64 0, i64 0, i64 0, i64 0, i64 0, i64 0, i64 0, i64 0, i64 0, .slice none 0 0, .slice none 0 0, .slice none 0 0, .slice none 0 0]) Try.zeroValue26 rfl ?_ (by decide))
  intro g5 w61 heg5 hlg5 hO5 hx63
  have := World.grownBy.size hx63
  refine WL.op rfl (OW.storeOA hO5 rfl rfl rfl (hxe.at.ones _) Try.sizeOf26 ?_)
  intro we0 hO5 hx67
  have := World.grownBy.size hx67
  replace hO1 := (hO1.ext (Ext.trans hx60 hx63)).keptO hx67 (by omega)
  replace hO2 := (hO2.ext (Ext.trans hx60 hx63)).keptO hx67 (by omega)
  replace hO3 := (hO3.ext (Ext.trans hx60 hx63)).keptO hx67 (by omega)
  replace hO4 := (hO4.ext (Ext.trans hx60 hx63)).keptO hx67 (by omega)
  refine WL.nil ?_
  refine thn_n ?_
  refine WF.seq ?_
  refine WF.region ?_
  refine WL.va rfl rfl rfl (X.fieldAddrO (off := 9) rfl Try.underlying26 rfl rfl Try.sizeOf3) ?_
  refine WL.op rfl (OW.storeO hO5 (Nat.le_of_ble_eq_true rfl) rfl rfl rfl Try.sizeOf3 ?_)
  intro weS hO5 hx70
  have := World.grownBy.size hx70
  replace hO1 := hO1.keptO hx70 (by omega)
  replace hO2 := hO2.keptO hx70 (by omega)
  replace hO3 := hO3.keptO hx70 (by omega)
  replace hO4 := hO4.keptO hx70 (by omega)
  replace hO5 : Blk _ _ _ (oc ([2, 1, 3, 5, 2, 1, 0, 0, 0, 7, 0, 0, 0] : List Int) e1 e2 e3 (.slice none 0 0)) := hO5
  have ate : OpAt weS e1 e2 e3 (.slice none 0 0) ⟨[2, 1, 3, 5, 2, 1, 0, 0, 0, 7, 0, 0, 0], [1, 3], [7], [⟨4, [1, 2, 3, 4]⟩, ⟨9, [0, 0, 0, 0]⟩], []⟩ := op_at rfl (by decide) (Row.of_own (hxe.ext (Ext.store (Ext.store hx63 hx67 (by omega)) hx70 (by omega))).P) (Row.of_own (hxe.ext (Ext.store (Ext.store hx63 hx67 (by omega)) hx70 (by omega))).R) ((hxe.ext (Ext.store (Ext.store hx63 hx67 (by omega)) hx70 (by omega))).at.W) (Bytes.nil _)
  refine WL.nil ?_
  refine thn_n ?_
  refine WF.seq ?_
  refine WF.region ?_
  refine WL.va rfl rfl rfl (X.loadOA hO5 (Ext.refl _) rfl rfl Try.isAgg26 Try.sizeOf26) ?_
  refine WL.op rfl (OW.allocO (cs := [i64 0, i64 0, i64 0, i64 0, i64 0, i64 0, i64 0, i64 0, i64 0, i64 0, i64 0, i64 0, i64 0, .slice none 0 0, .slice none 0 0, .slice none 0 0, .slice none 0 0]) Try.zeroValue26 rfl ?_ (by decide))
  intro g6 w72 heg6 hlg6 hO6 hx74
  have := World.grownBy.size hx74
  refine WL.op rfl (OW.storeOA hO6 rfl rfl rfl (oc_ones _ (own_one hxe.P) (own_one hxe.R) (own_one hWe.row) rfl) Try.sizeOf26 ?_)
  intro wf0 hO6 hx77
  have := World.grownBy.size hx77
  replace hO1 := (hO1.ext hx74).keptO hx77 (by omega)
  replace hO2 := (hO2.ext hx74).keptO hx77 (by omega)
  replace hO3 := (hO3.ext hx74).keptO hx77 (by omega)
  replace hO4 := (hO4.ext hx74).keptO hx77 (by omega)
  replace hO5 := (hO5.ext hx74).keptO hx77 (by omega)
  refine WL.nil ?_
  refine thn_n ?_
  refine WF.seq ?_
  refine WF.region ?_
  refine WL.va rfl rfl rfl (X.fieldAddrO (off := 7) rfl Try.underlying26 rfl rfl Try.sizeOf3) ?_
  refine WL.op rfl (OW.storeO hO6 (Nat.le_of_ble_eq_true rfl) rfl rfl rfl Try.sizeOf3 ?_)
  intro wfS hO6 hx80
  have := World.grownBy.size hx80
  replace hO1 := hO1.keptO hx80 (by omega)
  replace hO2 := hO2.keptO hx80 (by omega)
  replace hO3 := hO3.keptO hx80 (by omega)
  replace hO4 := hO4.keptO hx80 (by omega)
  replace hO5 := hO5.keptO hx80 (by omega)
  replace hO6 : Blk _ _ _ (oc ([2, 1, 3, 5, 2, 1, 0, 64, 0, 7, 0, 0, 0] : List Int) e1 e2 e3 (.slice none 0 0)) := hO6
  have atf : OpAt wfS e1 e2 e3 (.slice none 0 0) ⟨[2, 1, 3, 5, 2, 1, 0, 64, 0, 7, 0, 0, 0], [1, 3], [7], [⟨4, [1, 2, 3, 4]⟩, ⟨9, [0, 0, 0, 0]⟩], []⟩ := op_at rfl (by decide) (Row.of_own (hxe.ext (Ext.trans (Ext.store (Ext.store hx63 hx67 (by omega)) hx70 (by omega)) (Ext.store (Ext.store hx74 hx77 (by omega)) hx80 (by omega)))).P) (Row.of_own (hxe.ext (Ext.trans (Ext.store (Ext.store hx63 hx67 (by omega)) hx70 (by omega)) (Ext.store (Ext.store hx74 hx77 (by omega)) hx80 (by omega)))).R) ((hxe.ext (Ext.trans (Ext.store (Ext.store hx63 hx67 (by omega)) hx70 (by omega)) (Ext.store (Ext.store hx74 hx77 (by omega)) hx80 (by omega)))).at.W) (Bytes.nil _)
  refine WL.nil ?_
  refine thn_n ?_
  refine WF.seq ?_
  refine WF.region ?_
  refine WL.c rfl rfl rfl (X.call Try.call29 evl_nil) (oneO_ok _) ?_
  rintro v82 wg ⟨⟨q1, q2, q3, rfl, hxg, hapg, haqg⟩, hx83⟩
  have := World.grownBy.size hx83
  have := World.grownBy.size hx83
  obtain ⟨Fg, hFg, hWg⟩ := hxg.W
  refine WL.op rfl (OW.allocO (cs := [i64 0, i64 0, i64 0, i64 0, i64 0, i64 0, i64 0, i64 0, i64 0, i64 0, i64 0, i64 0, i64 0, .slice none 0 0, .slice none 0 0, .slice none 0 0, .slice none 0 0]) Try.zeroValue26 rfl ?_ (by decide))
  intro g7 w84 heg7 hlg7 hO7 hx86
  have := World.grownBy.size hx86
  refine WL.op rfl (OW.storeOA hO7 rfl rfl rfl (hxg.at.ones _) Try.sizeOf26 ?_)
  intro wg0 hO7 hx89
  have := World.grownBy.size hx89
  replace hO1 := (hO1.ext (Ext.trans hx83 hx86)).keptO hx89 (by omega)
  replace hO2 := (hO2.ext (Ext.trans hx83 hx86)).keptO hx89 (by omega)
  replace hO3 := (hO3.ext (Ext.trans hx83 hx86)).keptO hx89 (by omega)
  replace hO4 := (hO4.ext (Ext.trans hx83 hx86)).keptO hx89 (by omega)
  replace hO5 := (hO5.ext (Ext.trans hx83 hx86)).keptO hx89 (by omega)
  replace hO6 := (hO6.ext (Ext.trans hx83 hx86)).keptO hx89 (by omega)
  refine WL.nil ?_
  refine thn_n ?_
  refine WF.seq ?_
  refine WF.region ?_
  refine WL.op rfl (OW.makeI (n := 17) rfl rfl Try.underlying22 Try.type3 rfl rfl rfl (by omega) ?_ (by decide))
  intro lg w91 ho93 hx92
  have olg : OwnI w91 _ 3 lg (List.replicate 17 0) := ho93
  have := World.grownBy.size hx92
  refine WL.va rfl rfl rfl (X.fieldAddrO (off := 14) rfl Try.underlying26 rfl rfl Try.sizeOf22) ?_
  refine WL.op rfl (OW.storeO (hO7.ext hx92) (Nat.le_of_ble_eq_true rfl) rfl rfl (own_one olg) Try.sizeOf22 ?_)
  intro wgS hO7 hx95
  have := World.grownBy.size hx95
  replace hO1 := (hO1.ext hx92).keptO hx95 (by omega)
  replace hO2 := (hO2.ext hx92).keptO hx95 (by omega)
  replace hO3 := (hO3.ext hx92).keptO hx95 (by omega)
  replace hO4 := (hO4.ext hx92).keptO hx95 (by omega)
  replace hO5 := (hO5.ext hx92).keptO hx95 (by omega)
  replace hO6 := (hO6.ext hx92).keptO hx95 (by omega)
  replace hO7 : Blk _ _ _ (oc ([2, 1, 3, 5, 2, 1, 0, 0, 0, 0, 0, 0, 0] : List Int) q1 lg q3 (.slice none 0 0)) := hO7
  have plg := own_keptO olg hx95 (.inl (by omega))
  have atg : OpAt wgS q1 lg q3 (.slice none 0 0) ⟨[2, 1, 3, 5, 2, 1, 0, 0, 0, 0, 0, 0, 0], [1, 3], List.replicate 17 0, [⟨4, [1, 2, 3, 4]⟩, ⟨9, [0, 0, 0, 0]⟩], []⟩ := op_at rfl (by decide) (Row.of_own (hxg.ext (Ext.store (Ext.trans (Ext.store hx86 hx89 (by omega)) hx92) hx95 (by omega))).P) (Row.of_own plg) ((hxg.ext (Ext.store (Ext.trans (Ext.store hx86 hx89 (by omega)) hx92) hx95 (by omega))).at.W) (Bytes.nil _)
  refine WL.nil ?_
  refine thn_n ?_
  refine WF.seq ?_
  refine WF.region ?_
  refine WL.c rfl rfl rfl (X.call Try.call29 evl_nil) (oneO_ok _) ?_
  rintro v97 wh ⟨⟨h1, h2, h3, rfl, hxh, haph, haqh⟩, hx98⟩
  have := World.grownBy.size hx98
  have := World.grownBy.size hx98
  obtain ⟨Fh, hFh, hWh⟩ := hxh.W
  refine WL.op rfl (OW.allocO (cs := [i64 0, i64 0, i64 0, i64 0, i64 0, i64 0, i64 0, i64 0, i64 0, i64 0, i64 0, i64 0, i64 0, .slice none 0 0, .slice none 0 0, .slice none 0 0, .slice none 0 0]) Try.zeroValue26 rfl ?_ (by decide))
  intro g8 w99 heg8 hlg8 hO8 hx101
  have := World.grownBy.size hx101
  refine WL.op rfl (OW.storeOA hO8 rfl rfl rfl (hxh.at.ones _) Try.sizeOf26 ?_)
  intro wh0 hO8 hx104
  have := World.grownBy.size hx104
  replace hO1 := (hO1.ext (Ext.trans hx98 hx101)).keptO hx104 (by omega)
  replace hO2 := (hO2.ext (Ext.trans hx98 hx101)).keptO hx104 (by omega)
  replace hO3 := (hO3.ext (Ext.trans hx98 hx101)).keptO hx104 (by omega)
  replace hO4 := (hO4.ext (Ext.trans hx98 hx101)).keptO hx104 (by omega)
  replace hO5 := (hO5.ext (Ext.trans hx98 hx101)).keptO hx104 (by omega)
  replace hO6 := (hO6.ext (Ext.trans hx98 hx101)).keptO hx104 (by omega)
  replace hO7 := (hO7.ext (Ext.trans hx98 hx101)).keptO hx104 (by omega)
  refine WL.nil ?_
  refine thn_n ?_
  refine WF.seq ?_
  refine WF.region ?_
  refine WL.op rfl (OW.lits (vs := [u8 1]) (evp_cons rfl evp_nil) Try.underlying24 Try.sizeOf5 Try.zeroValue5 ⟨rfl, trivial⟩ rfl rfl rfl ?_ (by decide))
  intro lh w106 ho108 hx107
  have := World.grownBy.size hx107
  have olh : OwnB w106 _ 5 lh [1] := ho108
  refine WL.va rfl rfl rfl (X.fieldAddrO (off := 16) rfl Try.underlying26 rfl rfl Try.sizeOf24) ?_
  refine WL.op rfl (OW.storeO (hO8.ext hx107) (Nat.le_of_ble_eq_true rfl) rfl rfl (own_one olh) Try.sizeOf24 ?_)
  intro whS hO8 hx110
  have := World.grownBy.size hx110
  replace hO1 := (hO1.ext hx107).keptO hx110 (by omega)
  replace hO2 := (hO2.ext hx107).keptO hx110 (by omega)
  replace hO3 := (hO3.ext hx107).keptO hx110 (by omega)
  replace hO4 := (hO4.ext hx107).keptO hx110 (by omega)
  replace hO5 := (hO5.ext hx107).keptO hx110 (by omega)
  replace hO6 := (hO6.ext hx107).keptO hx110 (by omega)
  replace hO7 := (hO7.ext hx107).keptO hx110 (by omega)
  replace hO8 : Blk _ _ _ (oc ([2, 1, 3, 5, 2, 1, 0, 0, 0, 0, 0, 0, 0] : List Int) h1 h2 h3 lh) := hO8
  have plh := own_keptO olh hx110 (.inl (by omega))
  have ath : OpAt whS h1 h2 h3 lh ⟨[2, 1, 3, 5, 2, 1, 0, 0, 0, 0, 0, 0, 0], [1, 3], [7], [⟨4, [1, 2, 3, 4]⟩, ⟨9, [0, 0, 0, 0]⟩], [1]⟩ := op_at rfl (by decide) (Row.of_own (hxh.ext (Ext.store (Ext.trans (Ext.store hx101 hx104 (by omega)) hx107) hx110 (by omega))).P) (Row.of_own (hxh.ext (Ext.store (Ext.trans (Ext.store hx101 hx104 (by omega)) hx107) hx110 (by omega))).R) ((hxh.ext (Ext.store (Ext.trans (Ext.store hx101 hx104 (by omega)) hx107) hx110 (by omega))).at.W) (Row.of_own plh)
  refine WL.nil ?_
  refine thn_n ?_
  refine WF.seq ?_
  refine WF.region ?_
  refine WL.c rfl rfl rfl (X.call Try.call29 evl_nil) (oneO_ok _) ?_
  rintro v112 wi ⟨⟨i1, i2, i3, rfl, hxi, hapi, haqi⟩, hx113⟩
  have := World.grownBy.size hx113
  have := World.grownBy.size hx113
  obtain ⟨Fi, hFi, hWi⟩ := hxi.W
  refine WL.op rfl (OW.allocO (cs := [i64 0, i64 0, i64 0, i64 0, i64 0, i64 0, i64 0, i64 0, i64 0, i64 0, i64 0, i64 0, i64 0, .slice none 0 0, .slice none 0 0, .slice none 0 0, .slice none 0 0]) Try.zeroValue26 rfl ?_ (by decide))
  intro g9 w114 heg9 hlg9 hO9 hx116
  have := World.grownBy.size hx116
  refine WL.op rfl (OW.storeOA hO9 rfl rfl rfl (hxi.at.ones _) Try.sizeOf26 ?_)
  intro wi0 hO9 hx119
  have := World.grownBy.size hx119
  replace hO1 := (hO1.ext (Ext.trans hx113 hx116)).keptO hx119 (by omega)
  replace hO2 := (hO2.ext (Ext.trans hx113 hx116)).keptO hx119 (by omega)
  replace hO3 := (hO3.ext (Ext.trans hx113 hx116)).keptO hx119 (by omega)
  replace hO4 := (hO4.ext (Ext.trans hx113 hx116)).keptO hx119 (by omega)
  replace hO5 := (hO5.ext (Ext.trans hx113 hx116)).keptO hx119 (by omega)
  replace hO6 := (hO6.ext (Ext.trans hx113 hx116)).keptO hx119 (by omega)
  replace hO7 := (hO7.ext (Ext.trans hx113 hx116)).keptO hx119 (by omega)
  replace hO8 := (hO8.ext (Ext.trans hx113 hx116)).keptO hx119 (by omega)
  refine WL.nil ?_
  refine thn_n ?_
  refine WF.seq ?_
  refine WF.region ?_
  refine WL.op rfl (OW.lits (vs := [_]) (evp_cons rfl evp_nil) Try.underlying22 Try.sizeOf3 Try.zeroValue3 ⟨rfl, trivial⟩ rfl rfl rfl ?_ (by decide))
  intro li w121 ho123 hx122
  have := World.grownBy.size hx122
  have oli : OwnI w121 _ 3 li [5] := ho123
  refine WL.va rfl rfl rfl (X.fieldAddrO (off := 13) rfl Try.underlying26 rfl rfl Try.sizeOf22) ?_
  refine WL.op rfl (OW.storeO (hO9.ext hx122) (Nat.le_of_ble_eq_true rfl) rfl rfl (own_one oli) Try.sizeOf22 ?_)
  intro wiS hO9 hx125
  have := World.grownBy.size hx125
  replace hO1 := (hO1.ext hx122).keptO hx125 (by omega)
  replace hO2 := (hO2.ext hx122).keptO hx125 (by omega)
  replace hO3 := (hO3.ext hx122).keptO hx125 (by omega)
  replace hO4 := (hO4.ext hx122).keptO hx125 (by omega)
  replace hO5 := (hO5.ext hx122).keptO hx125 (by omega)
  replace hO6 := (hO6.ext hx122).keptO hx125 (by omega)
  replace hO7 := (hO7.ext hx122).keptO hx125 (by omega)
  replace hO8 := (hO8.ext hx122).keptO hx125 (by omega)
  replace hO9 : Blk _ _ _ (oc ([2, 1, 3, 5, 2, 1, 0, 0, 0, 0, 0, 0, 0] : List Int) li i2 i3 (.slice none 0 0)) := hO9
  have pli := own_keptO oli hx125 (.inl (by omega))
  have ati : OpAt wiS li i2 i3 (.slice none 0 0) ⟨[2, 1, 3, 5, 2, 1, 0, 0, 0, 0, 0, 0, 0], [5], [7], [⟨4, [1, 2, 3, 4]⟩, ⟨9, [0, 0, 0, 0]⟩], []⟩ := op_at rfl (by decide) (Row.of_own pli) (Row.of_own (hxi.ext (Ext.store (Ext.trans (Ext.store hx116 hx119 (by omega)) hx122) hx125 (by omega))).R) ((hxi.ext (Ext.store (Ext.trans (Ext.store hx116 hx119 (by omega)) hx122) hx125 (by omega))).at.W) (Bytes.nil _)
  refine WL.nil ?_
  refine thn_n ?_
  refine WF.seq ?_
  refine WF.named (fun F128 hF129 => ?_)
  refine WF.drawn (.q 0 (.q 1 (.q 2 (.q 3 (.q 4 (.q 5 (.q 6 (.q 7 (.q 8 (.q 9 (.q 10 (.q 11 (.q 12 (.q 13 (.q 14 (.q 15 (.q 16 (.q 17 (.q 18 (.q 19 (.q 20 (.q 21 (.q 22 (.q 23 (.q 24 (.q 25 (.q 26 (.q 27 (.q 28 (.q 29 (.q 36 (.b4 30 32 34 37 (.q 31 (.b3 32 34 37 (.q 33 (.b 34 37 (.q 35 (.l 37 (.q 38 .nil))) (.q 38 (.l 34 (.q 35 .nil))))) (.q 35 (.b 32 37 (.q 33 (.l 37 (.q 38 .nil))) (.q 38 (.l 32 (.q 33 .nil))))) (.q 38 (.b 32 34 (.q 33 (.l 34 (.q 35 .nil))) (.q 35 (.l 32 (.q 33 .nil))))))) (.q 33 (.b3 30 34 37 (.q 31 (.b 34 37 (.q 35 (.l 37 (.q 38 .nil))) (.q 38 (.l 34 (.q 35 .nil))))) (.q 35 (.b 30 37 (.q 31 (.l 37 (.q 38 .nil))) (.q 38 (.l 30 (.q 31 .nil))))) (.q 38 (.b 30 34 (.q 31 (.l 34 (.q 35 .nil))) (.q 35 (.l 30 (.q 31 .nil))))))) (.q 35 (.b3 30 32 37 (.q 31 (.b 32 37 (.q 33 (.l 37 (.q 38 .nil))) (.q 38 (.l 32 (.q 33 .nil))))) (.q 33 (.b 30 37 (.q 31 (.l 37 (.q 38 .nil))) (.q 38 (.l 30 (.q 31 .nil))))) (.q 38 (.b 30 32 (.q 31 (.l 32 (.q 33 .nil))) (.q 33 (.l 30 (.q 31 .nil))))))) (.q 38 (.b3 30 32 34 (.q 31 (.b 32 34 (.q 33 (.l 34 (.q 35 .nil))) (.q 35 (.l 32 (.q 33 .nil))))) (.q 33 (.b 30 34 (.q 31 (.l 34 (.q 35 .nil))) (.q 35 (.l 30 (.q 31 .nil))))) (.q 35 (.b 30 32 (.q 31 (.l 32 (.q 33 .nil))) (.q 33 (.l 30 (.q 31 .nil))))))))))))))))))))))))))))))))))))))) (fun w' => Ext wiS w') 39 (by kernel_rfl) (by kernel_rfl) (Ext.drew _) ?_
  have := World.grownBy.size (Ext.drew wiS)
  refine WO.cut (fun f' w' => ∃ (v78 v80 v82 v85 : Value), f' 48 = agg (oc ([2, 1, 3, 5, 2, 1, 0, 0, 0, 0, 0, 0, 0] : List Int) (.slice none 0 0) a2 a3 (.slice none 0 0)) ∧ f' 49 = agg (oc ([2, 1, 3, 5, 2, 1, 0, 0, 0, 0, 0, 0, 0] : List Int) lb b2 b3 (.slice none 0 0)) ∧ f' 50 = agg (oc ([2, 1, 3, 5, 2, 1, 0, 0, 0, 0, 0, 0, 0] : List Int) c1 c2 c3 (.slice none 0 0)) ∧ f' 51 = agg (oc ([2, 1, 3, 5, 2, 1, 0, 0, 0, 0, 0, 0, 0] : List Int) d1 ld d3 (.slice none 0 0)) ∧ f' 52 = agg (oc ([2, 1, 3, 5, 2, 1, 0, 0, 0, 7, 0, 0, 0] : List Int) e1 e2 e3 (.slice none 0 0)) ∧ f' 53 = agg (oc ([2, 1, 3, 5, 2, 1, 0, 64, 0, 7, 0, 0, 0] : List Int) e1 e2 e3 (.slice none 0 0)) ∧ f' 54 = agg (oc ([2, 1, 3, 5, 2, 1, 0, 0, 0, 0, 0, 0, 0] : List Int) q1 lg q3 (.slice none 0 0)) ∧ f' 55 = agg (oc ([2, 1, 3, 5, 2, 1, 0, 0, 0, 0, 0, 0, 0] : List Int) h1 h2 h3 lh) ∧ f' 56 = agg (oc ([2, 1, 3, 5, 2, 1, 0, 0, 0, 0, 0, 0, 0] : List Int) li i2 i3 (.slice none 0 0)) ∧ f' 57 = agg (oc ([3, 0, 0, 5, 0, 0, 0, 0, 0, 0, 3, 0, 0] : List Int) (.slice none 0 0) (.slice none 0 0) (.slice none 0 0) (.slice none 0 0)) ∧ f' 58 = agg (oc ([3, 0, 0, 0, 0, 0, 0, 0, 0, 0, 1, 0, 0] : List Int) (.slice none 0 0) (.slice none 0 0) (.slice none 0 0) (.slice none 0 0)) ∧ f' 59 = agg (oc ([3, 0, 0, 5, 0, 2, 0, 0, 0, 0, 1, 0, 0] : List Int) (.slice none 0 0) (.slice none 0 0) (.slice none 0 0) (.slice none 0 0)) ∧ f' 60 = agg (oc ([12, 0, 0, 0, 0, 0, 0, 0, 0, 0, 0, 0, 0] : List Int) (.slice none 0 0) (.slice none 0 0) (.slice none 0 0) (.slice none 0 0)) ∧ f' 61 = agg (oc ([0, 0, 0, 0, 0, 0, 0, 0, 0, 0, 0, 0, 0] : List Int) (.slice none 0 0) (.slice none 0 0) (.slice none 0 0) (.slice none 0 0)) ∧ f' 62 = agg (oc ([8, 0, 0, 0, 0, 0, 0, 0, 0, 0, 0, 0, 0] : List Int) (.slice none 0 0) (.slice none 0 0) (.slice none 0 0) (.slice none 0 0)) ∧ f' 63 = agg (oc ([8, 5, 0, 0, 0, 0, 0, 0, 0, 0, 0, 0, 0] : List Int) (.slice none 0 0) (.slice none 0 0) (.slice none 0 0) (.slice none 0 0)) ∧ f' 64 = agg (oc ([8, 0, -1, 0, 0, 0, 0, 0, 0, 0, 0, 0, 0] : List Int) (.slice none 0 0) (.slice none 0 0) (.slice none 0 0) (.slice none 0 0)) ∧ f' 65 = agg (oc ([9, 0, 0, 0, 0, 0, 0, 1, 0, 0, 0, 1, 5] : List Int) (.slice none 0 0) (.slice none 0 0) (.slice none 0 0) (.slice none 0 0)) ∧ f' 66 = agg (oc ([9, 0, 0, 0, 0, 0, 0, 1, 0, 0, 0, 1, 1] : List Int) (.slice none 0 0) (.slice none 0 0) (.slice none 0 0) (.slice none 0 0)) ∧ f' 67 = agg (oc ([11, 0, 0, 0, 0, 0, 0, 0, 0, 0, 2, 0, 7] : List Int) (.slice none 0 0) (.slice none 0 0) (.slice none 0 0) (.slice none 0 0)) ∧ f' 68 = agg (oc ([11, 0, 0, 0, 0, 0, 0, 0, 0, 0, 2, 0, 8] : List Int) (.slice none 0 0) (.slice none 0 0) (.slice none 0 0) (.slice none 0 0)) ∧ f' 69 = agg (oc ([5, 0, 0, 0, 0, 0, 3, 3, 0, 0, 0, 0, 0] : List Int) (.slice none 0 0) (.slice none 0 0) (.slice none 0 0) (.slice none 0 0)) ∧ f' 70 = agg (oc ([5, 0, 0, 0, 0, 0, -1, 3, 0, 0, 0, 0, 0] : List Int) (.slice none 0 0) (.slice none 0 0) (.slice none 0 0) (.slice none 0 0)) ∧ f' 71 = agg (oc ([5, 0, 0, 0, 0, 0, 63, 64, 0, 0, 0, 0, 0] : List Int) (.slice none 0 0) (.slice none 0 0) (.slice none 0 0) (.slice none 0 0)) ∧ f' 72 = agg (oc ([5, 0, 0, 0, 0, 0, 63, 65, 0, 0, 0, 0, 0] : List Int) (.slice none 0 0) (.slice none 0 0) (.slice none 0 0) (.slice none 0 0)) ∧ f' 73 = agg (oc ([1, 0, 0, 1, 0, 0, 0, 0, 63, 0, 0, 0, 0] : List Int) (.slice none 0 0) (.slice none 0 0) (.slice none 0 0) (.slice none 0 0)) ∧ f' 74 = agg (oc ([1, 0, 0, 1, 0, 0, 0, 0, 64, 0, 0, 0, 0] : List Int) (.slice none 0 0) (.slice none 0 0) (.slice none 0 0) (.slice none 0 0)) ∧ f' 75 = agg (oc ([4, 0, 0, 0, 0, 0, 0, 0, 1, 0, 0, 0, 0] : List Int) (.slice none 0 0) (.slice none 0 0) (.slice none 0 0) (.slice none 0 0)) ∧ f' 76 = agg (oc ([4, 0, 0, 0, 0, 0, 0, 0, 0, 1099511627776, 0, 0, 0] : List Int) (.slice none 0 0) (.slice none 0 0) (.slice none 0 0) (.slice none 0 0)) ∧ f' 77 = agg (oc ([4, 0, 0, 0, 0, 0, 0, 0, 0, 1099511627777, 0, 0, 0] : List Int) (.slice none 0 0) (.slice none 0 0) (.slice none 0 0) (.slice none 0 0)) ∧ f' 79 = agg (oc ([6, 0, 0, 0, 0, 0, 0, 1, 0, 0, 0, 0, 0] : List Int) (.slice none 0 0) (.slice none 0 0) (.slice none 0 0) v78) ∧ f' 81 = agg (oc ([6, 0, 0, 0, 0, 0, 0, 1, 0, 0, 0, 0, 0] : List Int) (.slice none 0 0) (.slice none 0 0) (.slice none 0 0) v80) ∧ f' 83 = agg (oc ([7, 0, 0, 0, 0, 0, 0, 0, 0, 0, 0, 0, 0] : List Int) (.slice none 0 0) (.slice none 0 0) (.slice none 0 0) v82) ∧ f' 84 = agg (oc ([10, 0, 0, 0, 0, -1, 0, 0, 0, 0, 0, 0, 0] : List Int) (.slice none 0 0) (.slice none 0 0) (.slice none 0 0) (.slice none 0 0)) ∧ f' 86 = agg (oc ([7, 0, 0, 0, 0, 0, 0, 0, 0, 0, 0, 0, 0] : List Int) v85 (.slice none 0 0) (.slice none 0 0) (.slice none 0 0)) ∧ Agree [0, 1, 2, 3, 4, 5, 6, 7, 8, 9, 21, 22, 23, 24, 25, 26, 27, 28, 29, 30, 31, 32, 33, 34, 35, 36, 37, 38, 39, 40, 41, 42, 43, 44, 45, 46, 47] f' F128 ∧ Ext wiS w' ∧ OwnB w' wiS.heap.size 5 v78 (List.replicate 32768 0) ∧ OwnB w' wiS.heap.size 5 v80 (List.replicate 32769 0) ∧ OwnB w' wiS.heap.size 5 v82 [1] ∧ OwnI w' wiS.heap.size 3 v85 [1]) ?_ ?_
  · refine WO.q rfl rfl rfl rfl (fun w' hE127 => (X.loadOA hO1 hE127 (congrFun hF129 1) rfl Try.isAgg26 Try.sizeOf26)) ?_
    refine WO.q rfl rfl rfl rfl (fun w' hE127 => (X.loadOA hO2 hE127 (congrFun hF129 2) rfl Try.isAgg26 Try.sizeOf26)) ?_
    refine WO.q rfl rfl rfl rfl (fun w' hE127 => (X.loadOA hO3 hE127 (congrFun hF129 3) rfl Try.isAgg26 Try.sizeOf26)) ?_
    refine WO.q rfl rfl rfl rfl (fun w' hE127 => (X.loadOA hO4 hE127 (congrFun hF129 4) rfl Try.isAgg26 Try.sizeOf26)) ?_
    refine WO.q rfl rfl rfl rfl (fun w' hE127 => (X.loadOA hO5 hE127 (congrFun hF129 5) rfl Try.isAgg26 Try.sizeOf26)) ?_
    refine WO.q rfl rfl rfl rfl (fun w' hE127 => (X.loadOA hO6 hE127 (congrFun hF129 6) rfl Try.isAgg26 Try.sizeOf26)) ?_
    refine WO.q rfl rfl rfl rfl (fun w' hE127 => (X.loadOA hO7 hE127 (congrFun hF129 7) rfl Try.isAgg26 Try.sizeOf26)) ?_
    refine WO.q rfl rfl rfl rfl (fun w' hE127 => (X.loadOA hO8 hE127 (congrFun hF129 8) rfl Try.isAgg26 Try.sizeOf26)) ?_
    refine WO.q rfl rfl rfl rfl (fun w' hE127 => (X.loadOA hO9 hE127 (congrFun hF129 9) rfl Try.isAgg26 Try.sizeOf26)) ?_
    refine WO.q rfl rfl rfl rfl (fun w' hE127 => (X.buildT (P := Try.prog) (t := 26) (cs := (oc ([3, 0, 0, 5, 0, 0, 0, 0, 0, 0, 3, 0, 0] : List Int) (.slice none 0 0) (.slice none 0 0) (.slice none 0 0) (.slice none 0 0))) (zs := [i64 0, i64 0, i64 0, i64 0, i64 0, i64 0, i64 0, i64 0, i64 0, i64 0, i64 0, i64 0, i64 0, .slice none 0 0, .slice none 0 0, .slice none 0 0, .slice none 0 0]) (places := [(0, 1), (1, 1), (2, 1), (3, 1), (4, 1), (5, 1), (6, 1), (7, 1), (8, 1), (9, 1), (10, 1), (11, 1), (12, 1), (13, 1), (14, 1), (15, 1), (16, 1)]) (n := 17) (evp_cons rfl (evp_cons rfl (evp_cons rfl evp_nil))) Try.type26 Try.underlying26 rfl rfl ⟨rfl, rfl, rfl, trivial⟩ rfl rfl rfl)) ?_
    refine WO.q rfl rfl rfl rfl (fun w' hE127 => (X.buildT (P := Try.prog) (t := 26) (cs := (oc ([3, 0, 0, 0, 0, 0, 0, 0, 0, 0, 1, 0, 0] : List Int) (.slice none 0 0) (.slice none 0 0) (.slice none 0 0) (.slice none 0 0))) (zs := [i64 0, i64 0, i64 0, i64 0, i64 0, i64 0, i64 0, i64 0, i64 0, i64 0, i64 0, i64 0, i64 0, .slice none 0 0, .slice none 0 0, .slice none 0 0, .slice none 0 0]) (places := [(0, 1), (1, 1), (2, 1), (3, 1), (4, 1), (5, 1), (6, 1), (7, 1), (8, 1), (9, 1), (10, 1), (11, 1), (12, 1), (13, 1), (14, 1), (15, 1), (16, 1)]) (n := 17) (evp_cons rfl (evp_cons rfl evp_nil)) Try.type26 Try.underlying26 rfl rfl ⟨rfl, rfl, trivial⟩ rfl rfl rfl)) ?_
    refine WO.q rfl rfl rfl rfl (fun w' hE127 => (X.buildT (P := Try.prog) (t := 26) (cs := (oc ([3, 0, 0, 5, 0, 2, 0, 0, 0, 0, 1, 0, 0] : List Int) (.slice none 0 0) (.slice none 0 0) (.slice none 0 0) (.slice none 0 0))) (zs := [i64 0, i64 0, i64 0, i64 0, i64 0, i64 0, i64 0, i64 0, i64 0, i64 0, i64 0, i64 0, i64 0, .slice none 0 0, .slice none 0 0, .slice none 0 0, .slice none 0 0]) (places := [(0, 1), (1, 1), (2, 1), (3, 1), (4, 1), (5, 1), (6, 1), (7, 1), (8, 1), (9, 1), (10, 1), (11, 1), (12, 1), (13, 1), (14, 1), (15, 1), (16, 1)]) (n := 17) (evp_cons rfl (evp_cons rfl (evp_cons rfl (evp_cons rfl evp_nil)))) Try.type26 Try.underlying26 rfl rfl ⟨rfl, rfl, rfl, rfl, trivial⟩ rfl rfl rfl)) ?_
    refine WO.q rfl rfl rfl rfl (fun w' hE127 => (X.buildT (P := Try.prog) (t := 26) (cs := (oc ([12, 0, 0, 0, 0, 0, 0, 0, 0, 0, 0, 0, 0] : List Int) (.slice none 0 0) (.slice none 0 0) (.slice none 0 0) (.slice none 0 0))) (zs := [i64 0, i64 0, i64 0, i64 0, i64 0, i64 0, i64 0, i64 0, i64 0, i64 0, i64 0, i64 0, i64 0, .slice none 0 0, .slice none 0 0, .slice none 0 0, .slice none 0 0]) (places := [(0, 1), (1, 1), (2, 1), (3, 1), (4, 1), (5, 1), (6, 1), (7, 1), (8, 1), (9, 1), (10, 1), (11, 1), (12, 1), (13, 1), (14, 1), (15, 1), (16, 1)]) (n := 17) (evp_cons rfl evp_nil) Try.type26 Try.underlying26 rfl rfl ⟨rfl, trivial⟩ rfl rfl rfl)) ?_
    refine WO.q rfl rfl rfl rfl (fun w' hE127 => (X.buildT (P := Try.prog) (t := 26) (cs := (oc ([0, 0, 0, 0, 0, 0, 0, 0, 0, 0, 0, 0, 0] : List Int) (.slice none 0 0) (.slice none 0 0) (.slice none 0 0) (.slice none 0 0))) (zs := [i64 0, i64 0, i64 0, i64 0, i64 0, i64 0, i64 0, i64 0, i64 0, i64 0, i64 0, i64 0, i64 0, .slice none 0 0, .slice none 0 0, .slice none 0 0, .slice none 0 0]) (places := [(0, 1), (1, 1), (2, 1), (3, 1), (4, 1), (5, 1), (6, 1), (7, 1), (8, 1), (9, 1), (10, 1), (11, 1), (12, 1), (13, 1), (14, 1), (15, 1), (16, 1)]) (n := 17) evp_nil Try.type26 Try.underlying26 rfl rfl trivial rfl rfl rfl)) ?_
    refine WO.q rfl rfl rfl rfl (fun w' hE127 => (X.buildT (P := Try.prog) (t := 26) (cs := (oc ([8, 0, 0, 0, 0, 0, 0, 0, 0, 0, 0, 0, 0] : List Int) (.slice none 0 0) (.slice none 0 0) (.slice none 0 0) (.slice none 0 0))) (zs := [i64 0, i64 0, i64 0, i64 0, i64 0, i64 0, i64 0, i64 0, i64 0, i64 0, i64 0, i64 0, i64 0, .slice none 0 0, .slice none 0 0, .slice none 0 0, .slice none 0 0]) (places := [(0, 1), (1, 1), (2, 1), (3, 1), (4, 1), (5, 1), (6, 1), (7, 1), (8, 1), (9, 1), (10, 1), (11, 1), (12, 1), (13, 1), (14, 1), (15, 1), (16, 1)]) (n := 17) (evp_cons rfl evp_nil) Try.type26 Try.underlying26 rfl rfl ⟨rfl, trivial⟩ rfl rfl rfl)) ?_
    refine WO.q rfl rfl rfl rfl (fun w' hE127 => (X.buildT (P := Try.prog) (t := 26) (cs := (oc ([8, 5, 0, 0, 0, 0, 0, 0, 0, 0, 0, 0, 0] : List Int) (.slice none 0 0) (.slice none 0 0) (.slice none 0 0) (.slice none 0 0))) (zs := [i64 0, i64 0, i64 0, i64 0, i64 0, i64 0, i64 0, i64 0, i64 0, i64 0, i64 0, i64 0, i64 0, .slice none 0 0, .slice none 0 0, .slice none 0 0, .slice none 0 0]) (places := [(0, 1), (1, 1), (2, 1), (3, 1), (4, 1), (5, 1), (6, 1), (7, 1), (8, 1), (9, 1), (10, 1), (11, 1), (12, 1), (13, 1), (14, 1), (15, 1), (16, 1)]) (n := 17) (evp_cons rfl (evp_cons rfl evp_nil)) Try.type26 Try.underlying26 rfl rfl ⟨rfl, rfl, trivial⟩ rfl rfl rfl)) ?_
    refine WO.q rfl rfl rfl rfl (fun w' hE127 => (X.buildT (P := Try.prog) (t := 26) (cs := (oc ([8, 0, -1, 0, 0, 0, 0, 0, 0, 0, 0, 0, 0] : List Int) (.slice none 0 0) (.slice none 0 0) (.slice none 0 0) (.slice none 0 0))) (zs := [i64 0, i64 0, i64 0, i64 0, i64 0, i64 0, i64 0, i64 0, i64 0, i64 0, i64 0, i64 0, i64 0, .slice none 0 0, .slice none 0 0, .slice none 0 0, .slice none 0 0]) (places := [(0, 1), (1, 1), (2, 1), (3, 1), (4, 1), (5, 1), (6, 1), (7, 1), (8, 1), (9, 1), (10, 1), (11, 1), (12, 1), (13, 1), (14, 1), (15, 1), (16, 1)]) (n := 17) (evp_cons rfl (evp_cons rfl evp_nil)) Try.type26 Try.underlying26 rfl rfl ⟨rfl, rfl, trivial⟩ rfl rfl rfl)) ?_
    refine WO.q rfl rfl rfl rfl (fun w' hE127 => (X.buildT (P := Try.prog) (t := 26) (cs := (oc ([9, 0, 0, 0, 0, 0, 0, 1, 0, 0, 0, 1, 5] : List Int) (.slice none 0 0) (.slice none 0 0) (.slice none 0 0) (.slice none 0 0))) (zs := [i64 0, i64 0, i64 0, i64 0, i64 0, i64 0, i64 0, i64 0, i64 0, i64 0, i64 0, i64 0, i64 0, .slice none 0 0, .slice none 0 0, .slice none 0 0, .slice none 0 0]) (places := [(0, 1), (1, 1), (2, 1), (3, 1), (4, 1), (5, 1), (6, 1), (7, 1), (8, 1), (9, 1), (10, 1), (11, 1), (12, 1), (13, 1), (14, 1), (15, 1), (16, 1)]) (n := 17) (evp_cons rfl (evp_cons rfl (evp_cons rfl (evp_cons rfl (evp_cons rfl evp_nil))))) Try.type26 Try.underlying26 rfl rfl ⟨rfl, rfl, rfl, rfl, rfl, trivial⟩ rfl rfl rfl)) ?_
    refine WO.q rfl rfl rfl rfl (fun w' hE127 => (X.buildT (P := Try.prog) (t := 26) (cs := (oc ([9, 0, 0, 0, 0, 0, 0, 1, 0, 0, 0, 1, 1] : List Int) (.slice none 0 0) (.slice none 0 0) (.slice none 0 0) (.slice none 0 0))) (zs := [i64 0, i64 0, i64 0, i64 0, i64 0, i64 0, i64 0, i64 0, i64 0, i64 0, i64 0, i64 0, i64 0, .slice none 0 0, .slice none 0 0, .slice none 0 0, .slice none 0 0]) (places := [(0, 1), (1, 1), (2, 1), (3, 1), (4, 1), (5, 1), (6, 1), (7, 1), (8, 1), (9, 1), (10, 1), (11, 1), (12, 1), (13, 1), (14, 1), (15, 1), (16, 1)]) (n := 17) (evp_cons rfl (evp_cons rfl (evp_cons rfl (evp_cons rfl (evp_cons rfl evp_nil))))) Try.type26 Try.underlying26 rfl rfl ⟨rfl, rfl, rfl, rfl, rfl, trivial⟩ rfl rfl rfl)) ?_
    refine WO.q rfl rfl rfl rfl (fun w' hE127 => (X.buildT (P := Try.prog) (t := 26) (cs := (oc ([11, 0, 0, 0, 0, 0, 0, 0, 0, 0, 2, 0, 7] : List Int) (.slice none 0 0) (.slice none 0 0) (.slice none 0 0) (.slice none 0 0))) (zs := [i64 0, i64 0, i64 0, i64 0, i64 0, i64 0, i64 0, i64 0, i64 0, i64 0, i64 0, i64 0, i64 0, .slice none 0 0, .slice none 0 0, .slice none 0 0, .slice none 0 0]) (places := [(0, 1), (1, 1), (2, 1), (3, 1), (4, 1), (5, 1), (6, 1), (7, 1), (8, 1), (9, 1), (10, 1), (11, 1), (12, 1), (13, 1), (14, 1), (15, 1), (16, 1)]) (n := 17) (evp_cons rfl (evp_cons rfl (evp_cons rfl evp_nil))) Try.type26 Try.underlying26 rfl rfl ⟨rfl, rfl, rfl, trivial⟩ rfl rfl rfl)) ?_
    refine WO.q rfl rfl rfl rfl (fun w' hE127 => (X.buildT (P := Try.prog) (t := 26) (cs := (oc ([11, 0, 0, 0, 0, 0, 0, 0, 0, 0, 2, 0, 8] : List Int) (.slice none 0 0) (.slice none 0 0) (.slice none 0 0) (.slice none 0 0))) (zs := [i64 0, i64 0, i64 0, i64 0, i64 0, i64 0, i64 0, i64 0, i64 0, i64 0, i64 0, i64 0, i64 0, .slice none 0 0, .slice none 0 0, .slice none 0 0, .slice none 0 0]) (places := [(0, 1), (1, 1), (2, 1), (3, 1), (4, 1), (5, 1), (6, 1), (7, 1), (8, 1), (9, 1), (10, 1), (11, 1), (12, 1), (13, 1), (14, 1), (15, 1), (16, 1)]) (n := 17) (evp_cons rfl (evp_cons rfl (evp_cons rfl evp_nil))) Try.type26 Try.underlying26 rfl rfl ⟨rfl, rfl, rfl, trivial⟩ rfl rfl rfl)) ?_
    refine WO.q rfl rfl rfl rfl (fun w' hE127 => (X.buildT (P := Try.prog) (t := 26) (cs := (oc ([5, 0, 0, 0, 0, 0, 3, 3, 0, 0, 0, 0, 0] : List Int) (.slice none 0 0) (.slice none 0 0) (.slice none 0 0) (.slice none 0 0))) (zs := [i64 0, i64 0, i64 0, i64 0, i64 0, i64 0, i64 0, i64 0, i64 0, i64 0, i64 0, i64 0, i64 0, .slice none 0 0, .slice none 0 0, .slice none 0 0, .slice none 0 0]) (places := [(0, 1), (1, 1), (2, 1), (3, 1), (4, 1), (5, 1), (6, 1), (7, 1), (8, 1), (9, 1), (10, 1), (11, 1), (12, 1), (13, 1), (14, 1), (15, 1), (16, 1)]) (n := 17) (evp_cons rfl (evp_cons rfl (evp_cons rfl evp_nil))) Try.type26 Try.underlying26 rfl rfl ⟨rfl, rfl, rfl, trivial⟩ rfl rfl rfl)) ?_
    refine WO.q rfl rfl rfl rfl (fun w' hE127 => (X.buildT (P := Try.prog) (t := 26) (cs := (oc ([5, 0, 0, 0, 0, 0, -1, 3, 0, 0, 0, 0, 0] : List Int) (.slice none 0 0) (.slice none 0 0) (.slice none 0 0) (.slice none 0 0))) (zs := [i64 0, i64 0, i64 0, i64 0, i64 0, i64 0, i64 0, i64 0, i64 0, i64 0, i64 0, i64 0, i64 0, .slice none 0 0, .slice none 0 0, .slice none 0 0, .slice none 0 0]) (places := [(0, 1), (1, 1), (2, 1), (3, 1), (4, 1), (5, 1), (6, 1), (7, 1), (8, 1), (9, 1), (10, 1), (11, 1), (12, 1), (13, 1), (14, 1), (15, 1), (16, 1)]) (n := 17) (evp_cons rfl (evp_cons rfl (evp_cons rfl evp_nil))) Try.type26 Try.underlying26 rfl rfl ⟨rfl, rfl, rfl, trivial⟩ rfl rfl rfl)) ?_
    refine WO.q rfl rfl rfl rfl (fun w' hE127 => (X.buildT (P := Try.prog) (t := 26) (cs := (oc ([5, 0, 0, 0, 0, 0, 63, 64, 0, 0, 0, 0, 0] : List Int) (.slice none 0 0) (.slice none 0 0) (.slice none 0 0) (.slice none 0 0))) (zs := [i64 0, i64 0, i64 0, i64 0, i64 0, i64 0, i64 0, i64 0, i64 0, i64 0, i64 0, i64 0, i64 0, .slice none 0 0, .slice none 0 0, .slice none 0 0, .slice none 0 0]) (places := [(0, 1), (1, 1), (2, 1), (3, 1), (4, 1), (5, 1), (6, 1), (7, 1), (8, 1), (9, 1), (10, 1), (11, 1), (12, 1), (13, 1), (14, 1), (15, 1), (16, 1)]) (n := 17) (evp_cons rfl (evp_cons rfl (evp_cons rfl evp_nil))) Try.type26 Try.underlying26 rfl rfl ⟨rfl, rfl, rfl, trivial⟩ rfl rfl rfl)) ?_
    refine WO.q rfl rfl rfl rfl (fun w' hE127 => (X.buildT (P := Try.prog) (t := 26) (cs := (oc ([5, 0, 0, 0, 0, 0, 63, 65, 0, 0, 0, 0, 0] : List Int) (.slice none 0 0) (.slice none 0 0) (.slice none 0 0) (.slice none 0 0))) (zs := [i64 0, i64 0, i64 0, i64 0, i64 0, i64 0, i64 0, i64 0, i64 0, i64 0, i64 0, i64 0, i64 0, .slice none 0 0, .slice none 0 0, .slice none 0 0, .slice none 0 0]) (places := [(0, 1), (1, 1), (2, 1), (3, 1), (4, 1), (5, 1), (6, 1), (7, 1), (8, 1), (9, 1), (10, 1), (11, 1), (12, 1), (13, 1), (14, 1), (15, 1), (16, 1)]) (n := 17) (evp_cons rfl (evp_cons rfl (evp_cons rfl evp_nil))) Try.type26 Try.underlying26 rfl rfl ⟨rfl, rfl, rfl, trivial⟩ rfl rfl rfl)) ?_
    refine WO.q rfl rfl rfl rfl (fun w' hE127 => (X.buildT (P := Try.prog) (t := 26) (cs := (oc ([1, 0, 0, 1, 0, 0, 0, 0, 63, 0, 0, 0, 0] : List Int) (.slice none 0 0) (.slice none 0 0) (.slice none 0 0) (.slice none 0 0))) (zs := [i64 0, i64 0, i64 0, i64 0, i64 0, i64 0, i64 0, i64 0, i64 0, i64 0, i64 0, i64 0, i64 0, .slice none 0 0, .slice none 0 0, .slice none 0 0, .slice none 0 0]) (places := [(0, 1), (1, 1), (2, 1), (3, 1), (4, 1), (5, 1), (6, 1), (7, 1), (8, 1), (9, 1), (10, 1), (11, 1), (12, 1), (13, 1), (14, 1), (15, 1), (16, 1)]) (n := 17) (evp_cons rfl (evp_cons rfl (evp_cons rfl evp_nil))) Try.type26 Try.underlying26 rfl rfl ⟨rfl, rfl, rfl, trivial⟩ rfl rfl rfl)) ?_
    refine WO.q rfl rfl rfl rfl (fun w' hE127 => (X.buildT (P := Try.prog) (t := 26) (cs := (oc ([1, 0, 0, 1, 0, 0, 0, 0, 64, 0, 0, 0, 0] : List Int) (.slice none 0 0) (.slice none 0 0) (.slice none 0 0) (.slice none 0 0))) (zs := [i64 0, i64 0, i64 0, i64 0, i64 0, i64 0, i64 0, i64 0, i64 0, i64 0, i64 0, i64 0, i64 0, .slice none 0 0, .slice none 0 0, .slice none 0 0, .slice none 0 0]) (places := [(0, 1), (1, 1), (2, 1), (3, 1), (4, 1), (5, 1), (6, 1), (7, 1), (8, 1), (9, 1), (10, 1), (11, 1), (12, 1), (13, 1), (14, 1), (15, 1), (16, 1)]) (n := 17) (evp_cons rfl (evp_cons rfl (evp_cons rfl evp_nil))) Try.type26 Try.underlying26 rfl rfl ⟨rfl, rfl, rfl, trivial⟩ rfl rfl rfl)) ?_
    refine WO.q rfl rfl rfl rfl (fun w' hE127 => (X.buildT (P := Try.prog) (t := 26) (cs := (oc ([4, 0, 0, 0, 0, 0, 0, 0, 1, 0, 0, 0, 0] : List Int) (.slice none 0 0) (.slice none 0 0) (.slice none 0 0) (.slice none 0 0))) (zs := [i64 0, i64 0, i64 0, i64 0, i64 0, i64 0, i64 0, i64 0, i64 0, i64 0, i64 0, i64 0, i64 0, .slice none 0 0, .slice none 0 0, .slice none 0 0, .slice none 0 0]) (places := [(0, 1), (1, 1), (2, 1), (3, 1), (4, 1), (5, 1), (6, 1), (7, 1), (8, 1), (9, 1), (10, 1), (11, 1), (12, 1), (13, 1), (14, 1), (15, 1), (16, 1)]) (n := 17) (evp_cons rfl (evp_cons rfl evp_nil)) Try.type26 Try.underlying26 rfl rfl ⟨rfl, rfl, trivial⟩ rfl rfl rfl)) ?_
    refine WO.q rfl rfl rfl rfl (fun w' hE127 => (X.buildT (P := Try.prog) (t := 26) (cs := (oc ([4, 0, 0, 0, 0, 0, 0, 0, 0, 1099511627776, 0, 0, 0] : List Int) (.slice none 0 0) (.slice none 0 0) (.slice none 0 0) (.slice none 0 0))) (zs := [i64 0, i64 0, i64 0, i64 0, i64 0, i64 0, i64 0, i64 0, i64 0, i64 0, i64 0, i64 0, i64 0, .slice none 0 0, .slice none 0 0, .slice none 0 0, .slice none 0 0]) (places := [(0, 1), (1, 1), (2, 1), (3, 1), (4, 1), (5, 1), (6, 1), (7, 1), (8, 1), (9, 1), (10, 1), (11, 1), (12, 1), (13, 1), (14, 1), (15, 1), (16, 1)]) (n := 17) (evp_cons rfl (evp_cons rfl evp_nil)) Try.type26 Try.underlying26 rfl rfl ⟨rfl, rfl, trivial⟩ rfl rfl rfl)) ?_
    refine WO.q rfl rfl rfl rfl (fun w' hE127 => (X.buildT (P := Try.prog) (t := 26) (cs := (oc ([4, 0, 0, 0, 0, 0, 0, 0, 0, 1099511627777, 0, 0, 0] : List Int) (.slice none 0 0) (.slice none 0 0) (.slice none 0 0) (.slice none 0 0))) (zs := [i64 0, i64 0, i64 0, i64 0, i64 0, i64 0, i64 0, i64 0, i64 0, i64 0, i64 0, i64 0, i64 0, .slice none 0 0, .slice none 0 0, .slice none 0 0, .slice none 0 0]) (places := [(0, 1), (1, 1), (2, 1), (3, 1), (4, 1), (5, 1), (6, 1), (7, 1), (8, 1), (9, 1), (10, 1), (11, 1), (12, 1), (13, 1), (14, 1), (15, 1), (16, 1)]) (n := 17) (evp_cons rfl (evp_cons rfl evp_nil)) Try.type26 Try.underlying26 rfl rfl ⟨rfl, rfl, trivial⟩ rfl rfl rfl)) ?_
    refine WO.q rfl rfl rfl rfl (fun w' hE127 => (X.buildT (P := Try.prog) (t := 26) (cs := (oc ([10, 0, 0, 0, 0, -1, 0, 0, 0, 0, 0, 0, 0] : List Int) (.slice none 0 0) (.slice none 0 0) (.slice none 0 0) (.slice none 0 0))) (zs := [i64 0, i64 0, i64 0, i64 0, i64 0, i64 0, i64 0, i64 0, i64 0, i64 0, i64 0, i64 0, i64 0, .slice none 0 0, .slice none 0 0, .slice none 0 0, .slice none 0 0]) (places := [(0, 1), (1, 1), (2, 1), (3, 1), (4, 1), (5, 1), (6, 1), (7, 1), (8, 1), (9, 1), (10, 1), (11, 1), (12, 1), (13, 1), (14, 1), (15, 1), (16, 1)]) (n := 17) (evp_cons rfl (evp_cons rfl evp_nil)) Try.type26 Try.underlying26 rfl rfl ⟨rfl, rfl, trivial⟩ rfl rfl rfl)) ?_
    refine WO.b4 ?_ ?_ ?_ ?_
    · refine LO.go rfl rfl (OW.makeB (n := 32768) rfl rfl Try.underlying24 Try.type5 rfl rfl rfl (by omega) ?_ (by decide))
      intro v78 w78 ho131 hx130
      have o78 : OwnB w78 _ 5 v78 (List.replicate 32768 0) := ho131
      have := World.grownBy.size hx130
      refine ⟨(Ext.trans (Ext.drew _) hx130), ?_⟩
      refine WO.q rfl rfl rfl rfl (fun w' hE127 => (X.buildT (P := Try.prog) (t := 26) (cs := (oc ([6, 0, 0, 0, 0, 0, 0, 1, 0, 0, 0, 0, 0] : List Int) (.slice none 0 0) (.slice none 0 0) (.slice none 0 0) v78)) (zs := [i64 0, i64 0, i64 0, i64 0, i64 0, i64 0, i64 0, i64 0, i64 0, i64 0, i64 0, i64 0, i64 0, .slice none 0 0, .slice none 0 0, .slice none 0 0, .slice none 0 0]) (places := [(0, 1), (1, 1), (2, 1), (3, 1), (4, 1), (5, 1), (6, 1), (7, 1), (8, 1), (9, 1), (10, 1), (11, 1), (12, 1), (13, 1), (14, 1), (15, 1), (16, 1)]) (n := 17) (evp_cons rfl (evp_cons rfl (evp_cons rfl evp_nil))) Try.type26 Try.underlying26 rfl rfl ⟨rfl, rfl, own_one o78, trivial⟩ rfl rfl rfl)) ?_
      refine WO.b3 ?_ ?_ ?_
      · refine LO.go rfl rfl (OW.makeB (n := 32769) rfl rfl Try.underlying24 Try.type5 rfl rfl rfl (by omega) ?_ (by decide))
        intro v80 w80 ho133 hx132
        have o80 : OwnB w80 _ 5 v80 (List.replicate 32769 0) := ho133
        have := World.grownBy.size hx132
        refine ⟨(Ext.trans (Ext.trans (Ext.drew _) hx130) hx132), ?_⟩
        refine WO.q rfl rfl rfl rfl (fun w' hE127 => (X.buildT (P := Try.prog) (t := 26) (cs := (oc ([6, 0, 0, 0, 0, 0, 0, 1, 0, 0, 0, 0, 0] : List Int) (.slice none 0 0) (.slice none 0 0) (.slice none 0 0) v80)) (zs := [i64 0, i64 0, i64 0, i64 0, i64 0, i64 0, i64 0, i64 0, i64 0, i64 0, i64 0, i64 0, i64 0, .slice none 0 0, .slice none 0 0, .slice none 0 0, .slice none 0 0]) (places := [(0, 1), (1, 1), (2, 1), (3, 1), (4, 1), (5, 1), (6, 1), (7, 1), (8, 1), (9, 1), (10, 1), (11, 1), (12, 1), (13, 1), (14, 1), (15, 1), (16, 1)]) (n := 17) (evp_cons rfl (evp_cons rfl (evp_cons rfl evp_nil))) Try.type26 Try.underlying26 rfl rfl ⟨rfl, rfl, own_one o80, trivial⟩ rfl rfl rfl)) ?_
        refine WO.b2 ?_ ?_
        · refine LO.go rfl rfl (OW.lits (vs := [u8 1]) (evp_cons rfl evp_nil) Try.underlying24 Try.sizeOf5 Try.zeroValue5 ⟨rfl, trivial⟩ rfl rfl rfl ?_ (by decide))
          intro v82 w82 ho135 hx134
          have := World.grownBy.size hx134
          have o82 : OwnB w82 _ 5 v82 [1] := ho135
          refine ⟨(Ext.trans (Ext.trans (Ext.trans (Ext.drew _) hx130) hx132) hx134), ?_⟩
          refine WO.q rfl rfl rfl rfl (fun w' hE127 => (X.buildT (P := Try.prog) (t := 26) (cs := (oc ([7, 0, 0, 0, 0, 0, 0, 0, 0, 0, 0, 0, 0] : List Int) (.slice none 0 0) (.slice none 0 0) (.slice none 0 0) v82)) (zs := [i64 0, i64 0, i64 0, i64 0, i64 0, i64 0, i64 0, i64 0, i64 0, i64 0, i64 0, i64 0, i64 0, .slice none 0 0, .slice none 0 0, .slice none 0 0, .slice none 0 0]) (places := [(0, 1), (1, 1), (2, 1), (3, 1), (4, 1), (5, 1), (6, 1), (7, 1), (8, 1), (9, 1), (10, 1), (11, 1), (12, 1), (13, 1), (14, 1), (15, 1), (16, 1)]) (n := 17) (evp_cons rfl (evp_cons rfl evp_nil)) Try.type26 Try.underlying26 rfl rfl ⟨rfl, own_one o82, trivial⟩ rfl rfl rfl)) ?_
          refine WO.l ?_
          refine LO.go rfl rfl (OW.lits (vs := [_]) (evp_cons rfl evp_nil) Try.underlying22 Try.sizeOf3 Try.zeroValue3 ⟨rfl, trivial⟩ rfl rfl rfl ?_ (by decide))
          intro v85 w85 ho137 hx136
          have := World.grownBy.size hx136
          have o85 : OwnI w85 _ 3 v85 [1] := ho137
          refine ⟨(Ext.trans (Ext.trans (Ext.trans (Ext.trans (Ext.drew _) hx130) hx132) hx134) hx136), ?_⟩
          refine WO.q rfl rfl rfl rfl (fun w' hE127 => (X.buildT (P := Try.prog) (t := 26) (cs := (oc ([7, 0, 0, 0, 0, 0, 0, 0, 0, 0, 0, 0, 0] : List Int) v85 (.slice none 0 0) (.slice none 0 0) (.slice none 0 0))) (zs := [i64 0, i64 0, i64 0, i64 0, i64 0, i64 0, i64 0, i64 0, i64 0, i64 0, i64 0, i64 0, i64 0, .slice none 0 0, .slice none 0 0, .slice none 0 0, .slice none 0 0]) (places := [(0, 1), (1, 1), (2, 1), (3, 1), (4, 1), (5, 1), (6, 1), (7, 1), (8, 1), (9, 1), (10, 1), (11, 1), (12, 1), (13, 1), (14, 1), (15, 1), (16, 1)]) (n := 17) (evp_cons rfl (evp_cons rfl evp_nil)) Try.type26 Try.underlying26 rfl rfl ⟨rfl, own_one o85, trivial⟩ rfl rfl rfl)) ?_
          refine WO.nil ?_
          exact ⟨v78, v80, v82, v85, rfl, rfl, rfl, rfl, rfl, rfl, rfl, rfl, rfl, rfl, rfl, rfl, rfl, rfl, rfl, rfl, rfl, rfl, rfl, rfl, rfl, rfl, rfl, rfl, rfl, rfl, rfl, rfl, rfl, rfl, rfl, rfl, rfl, rfl, rfl, (by repeat (first | exact (Agree.refl _ F128) | refine Agree.put ?_ rfl | refine Agree.named hF129 ?_)), (Ext.trans (Ext.trans (Ext.trans (Ext.trans (Ext.drew _) hx130) hx132) hx134) hx136), ⟨own_mono (own_ext o78 (Ext.trans (Ext.trans hx132 hx134) hx136)) (by omega), own_mono (own_ext o80 (Ext.trans hx134 hx136)) (by omega), own_mono (own_ext o82 hx136) (by omega), own_mono (own_ext o85 (Ext.refl w85)) (by omega)⟩⟩
        · refine LO.go rfl rfl (OW.lits (vs := [_]) (evp_cons rfl evp_nil) Try.underlying22 Try.sizeOf3 Try.zeroValue3 ⟨rfl, trivial⟩ rfl rfl rfl ?_ (by decide))
          intro v85 w85 ho139 hx138
          have := World.grownBy.size hx138
          have o85 : OwnI w85 _ 3 v85 [1] := ho139
          refine ⟨(Ext.trans (Ext.trans (Ext.trans (Ext.drew _) hx130) hx132) hx138), ?_⟩
          refine WO.q rfl rfl rfl rfl (fun w' hE127 => (X.buildT (P := Try.prog) (t := 26) (cs := (oc ([7, 0, 0, 0, 0, 0, 0, 0, 0, 0, 0, 0, 0] : List Int) v85 (.slice none 0 0) (.slice none 0 0) (.slice none 0 0))) (zs := [i64 0, i64 0, i64 0, i64 0, i64 0, i64 0, i64 0, i64 0, i64 0, i64 0, i64 0, i64 0, i64 0, .slice none 0 0, .slice none 0 0, .slice none 0 0, .slice none 0 0]) (places := [(0, 1), (1, 1), (2, 1), (3, 1), (4, 1), (5, 1), (6, 1), (7, 1), (8, 1), (9, 1), (10, 1), (11, 1), (12, 1), (13, 1), (14, 1), (15, 1), (16, 1)]) (n := 17) (evp_cons rfl (evp_cons rfl evp_nil)) Try.type26 Try.underlying26 rfl rfl ⟨rfl, own_one o85, trivial⟩ rfl rfl rfl)) ?_
          refine WO.l ?_
          refine LO.go rfl rfl (OW.lits (vs := [u8 1]) (evp_cons rfl evp_nil) Try.underlying24 Try.sizeOf5 Try.zeroValue5 ⟨rfl, trivial⟩ rfl rfl rfl ?_ (by decide))
          intro v82 w82 ho141 hx140
          have := World.grownBy.size hx140
          have o82 : OwnB w82 _ 5 v82 [1] := ho141
          refine ⟨(Ext.trans (Ext.trans (Ext.trans (Ext.trans (Ext.drew _) hx130) hx132) hx138) hx140), ?_⟩
          refine WO.q rfl rfl rfl rfl (fun w' hE127 => (X.buildT (P := Try.prog) (t := 26) (cs := (oc ([7, 0, 0, 0, 0, 0, 0, 0, 0, 0, 0, 0, 0] : List Int) (.slice none 0 0) (.slice none 0 0) (.slice none 0 0) v82)) (zs := [i64 0, i64 0, i64 0, i64 0, i64 0, i64 0, i64 0, i64 0, i64 0, i64 0, i64 0, i64 0, i64 0, .slice none 0 0, .slice none 0 0, .slice none 0 0, .slice none 0 0]) (places := [(0, 1), (1, 1), (2, 1), (3, 1), (4, 1), (5, 1), (6, 1), (7, 1), (8, 1), (9, 1), (10, 1), (11, 1), (12, 1), (13, 1), (14, 1), (15, 1), (16, 1)]) (n := 17) (evp_cons rfl (evp_cons rfl evp_nil)) Try.type26 Try.underlying26 rfl rfl ⟨rfl, own_one o82, trivial⟩ rfl rfl rfl)) ?_
          refine WO.nil ?_
          exact ⟨v78, v80, v82, v85, rfl, rfl, rfl, rfl, rfl, rfl, rfl, rfl, rfl, rfl, rfl, rfl, rfl, rfl, rfl, rfl, rfl, rfl, rfl, rfl, rfl, rfl, rfl, rfl, rfl, rfl, rfl, rfl, rfl, rfl, rfl, rfl, rfl, rfl, rfl, (by repeat (first | exact (Agree.refl _ F128) | refine Agree.put ?_ rfl | refine Agree.named hF129 ?_)), (Ext.trans (Ext.trans (Ext.trans (Ext.trans (Ext.drew _) hx130) hx132) hx138) hx140), ⟨own_mono (own_ext o78 (Ext.trans (Ext.trans hx132 hx138) hx140)) (by omega), own_mono (own_ext o80 (Ext.trans hx138 hx140)) (by omega), own_mono (own_ext o82 (Ext.refl w82)) (by omega), own_mono (own_ext o85 hx140) (by omega)⟩⟩
      · refine LO.go rfl rfl (OW.lits (vs := [u8 1]) (evp_cons rfl evp_nil) Try.underlying24 Try.sizeOf5 Try.zeroValue5 ⟨rfl, trivial⟩ rfl rfl rfl ?_ (by decide))
        intro v82 w82 ho143 hx142
        have := World.grownBy.size hx142
        have o82 : OwnB w82 _ 5 v82 [1] := ho143
        refine ⟨(Ext.trans (Ext.trans (Ext.drew _) hx130) hx142), ?_⟩
        refine WO.q rfl rfl rfl rfl (fun w' hE127 => (X.buildT (P := Try.prog) (t := 26) (cs := (oc ([7, 0, 0, 0, 0, 0, 0, 0, 0, 0, 0, 0, 0] : List Int) (.slice none 0 0) (.slice none 0 0) (.slice none 0 0) v82)) (zs := [i64 0, i64 0, i64 0, i64 0, i64 0, i64 0, i64 0, i64 0, i64 0, i64 0, i64 0, i64 0, i64 0, .slice none 0 0, .slice none 0 0, .slice none 0 0, .slice none 0 0]) (places := [(0, 1), (1, 1), (2, 1), (3, 1), (4, 1), (5, 1), (6, 1), (7, 1), (8, 1), (9, 1), (10, 1), (11, 1), (12, 1), (13, 1), (14, 1), (15, 1), (16, 1)]) (n := 17) (evp_cons rfl (evp_cons rfl evp_nil)) Try.type26 Try.underlying26 rfl rfl ⟨rfl, own_one o82, trivial⟩ rfl rfl rfl)) ?_
        refine WO.b2 ?_ ?_
        · refine LO.go rfl rfl (OW.makeB (n := 32769) rfl rfl Try.underlying24 Try.type5 rfl rfl rfl (by omega) ?_ (by decide))
          intro v80 w80 ho145 hx144
          have o80 : OwnB w80 _ 5 v80 (List.replicate 32769 0) := ho145
          have := World.grownBy.size hx144
          refine ⟨(Ext.trans (Ext.trans (Ext.trans (Ext.drew _) hx130) hx142) hx144), ?_⟩
          refine WO.q rfl rfl rfl rfl (fun w' hE127 => (X.buildT (P := Try.prog) (t := 26) (cs := (oc ([6, 0, 0, 0, 0, 0, 0, 1, 0, 0, 0, 0, 0] : List Int) (.slice none 0 0) (.slice none 0 0) (.slice none 0 0) v80)) (zs := [i64 0, i64 0, i64 0, i64 0, i64 0, i64 0, i64 0, i64 0, i64 0, i64 0, i64 0, i64 0, i64 0, .slice none 0 0, .slice none 0 0, .slice none 0 0, .slice none 0 0]) (places := [(0, 1), (1, 1), (2, 1), (3, 1), (4, 1), (5, 1), (6, 1), (7, 1), (8, 1), (9, 1), (10, 1), (11, 1), (12, 1), (13, 1), (14, 1), (15, 1), (16, 1)]) (n := 17) (evp_cons rfl (evp_cons rfl (evp_cons rfl evp_nil))) Try.type26 Try.underlying26 rfl rfl ⟨rfl, rfl, own_one o80, trivial⟩ rfl rfl rfl)) ?_
          refine WO.l ?_
          refine LO.go rfl rfl (OW.lits (vs := [_]) (evp_cons rfl evp_nil) Try.underlying22 Try.sizeOf3 Try.zeroValue3 ⟨rfl, trivial⟩ rfl rfl rfl ?_ (by decide))
          intro v85 w85 ho147 hx146
          have := World.grownBy.size hx146
          have o85 : OwnI w85 _ 3 v85 [1] := ho147
          refine ⟨(Ext.trans (Ext.trans (Ext.trans (Ext.trans (Ext.drew _) hx130) hx142) hx144) hx146), ?_⟩
          refine WO.q rfl rfl rfl rfl (fun w' hE127 => (X.buildT (P := Try.prog) (t := 26) (cs := (oc ([7, 0, 0, 0, 0, 0, 0, 0, 0, 0, 0, 0, 0] : List Int) v85 (.slice none 0 0) (.slice none 0 0) (.slice none 0 0))) (zs := [i64 0, i64 0, i64 0, i64 0, i64 0, i64 0, i64 0, i64 0, i64 0, i64 0, i64 0, i64 0, i64 0, .slice none 0 0, .slice none 0 0, .slice none 0 0, .slice none 0 0]) (places := [(0, 1), (1, 1), (2, 1), (3, 1), (4, 1), (5, 1), (6, 1), (7, 1), (8, 1), (9, 1), (10, 1), (11, 1), (12, 1), (13, 1), (14, 1), (15, 1), (16, 1)]) (n := 17) (evp_cons rfl (evp_cons rfl evp_nil)) Try.type26 Try.underlying26 rfl rfl ⟨rfl, own_one o85, trivial⟩ rfl rfl rfl)) ?_
          refine WO.nil ?_
          exact ⟨v78, v80, v82, v85, rfl, rfl, rfl, rfl, rfl, rfl, rfl, rfl, rfl, rfl, rfl, rfl, rfl, rfl, rfl, rfl, rfl, rfl, rfl, rfl, rfl, rfl, rfl, rfl, rfl, rfl, rfl, rfl, rfl, rfl, rfl, rfl, rfl, rfl, rfl, (by repeat (first | exact (Agree.refl _ F128) | refine Agree.put ?_ rfl | refine Agree.named hF129 ?_)), (Ext.trans (Ext.trans (Ext.trans (Ext.trans (Ext.drew _) hx130) hx142) hx144) hx146), ⟨own_mono (own_ext o78 (Ext.trans (Ext.trans hx142 hx144) hx146)) (by omega), own_mono (own_ext o80 hx146) (by omega), own_mono (own_ext o82 (Ext.trans hx144 hx146)) (by omega), own_mono (own_ext o85 (Ext.refl w85)) (by omega)⟩⟩
        · refine LO.go rfl rfl (OW.lits (vs := [_]) (evp_cons rfl evp_nil) Try.underlying22 Try.sizeOf3 Try.zeroValue3 ⟨rfl, trivial⟩ rfl rfl rfl ?_ (by decide))
          intro v85 w85 ho149 hx148
          have := World.grownBy.size hx148
          have o85 : OwnI w85 _ 3 v85 [1] := ho149
          refine ⟨(Ext.trans (Ext.trans (Ext.trans (Ext.drew _) hx130) hx142) hx148), ?_⟩
          refine WO.q rfl rfl rfl rfl (fun w' hE127 => (X.buildT (P := Try.prog) (t := 26) (cs := (oc ([7, 0, 0, 0, 0, 0, 0, 0, 0, 0, 0, 0, 0] : List Int) v85 (.slice none 0 0) (.slice none 0 0) (.slice none 0 0))) (zs := [i64 0, i64 0, i64 0, i64 0, i64 0, i64 0, i64 0, i64 0, i64 0, i64 0, i64 0, i64 0, i64 0, .slice none 0 0, .slice none 0 0, .slice none 0 0, .slice none 0 0]) (places := [(0, 1), (1, 1), (2, 1), (3, 1), (4, 1), (5, 1), (6, 1), (7, 1), (8, 1), (9, 1), (10, 1), (11, 1), (12, 1), (13, 1), (14, 1), (15, 1), (16, 1)]) (n := 17) (evp_cons rfl (evp_cons rfl evp_nil)) Try.type26 Try.underlying26 rfl rfl ⟨rfl, own_one o85, trivial⟩ rfl rfl rfl)) ?_
          refine WO.l ?_
          refine LO.go rfl rfl (OW.makeB (n := 32769) rfl rfl Try.underlying24 Try.type5 rfl rfl rfl (by omega) ?_ (by decide))
          intro v80 w80 ho151 hx150
          have o80 : OwnB w80 _ 5 v80 (List.replicate 32769 0) := ho151
          have := World.grownBy.size hx150
          refine ⟨(Ext.trans (Ext.trans (Ext.trans (Ext.trans (Ext.drew _) hx130) hx142) hx148) hx150), ?_⟩
          refine WO.q rfl rfl rfl rfl (fun w' hE127 => (X.buildT (P := Try.prog) (t := 26) (cs := (oc ([6, 0, 0, 0, 0, 0, 0, 1, 0, 0, 0, 0, 0] : List Int) (.slice none 0 0) (.slice none 0 0) (.slice none 0 0) v80)) (zs := [i64 0, i64 0, i64 0, i64 0, i64 0, i64 0, i64 0, i64 0, i64 0, i64 0, i64 0, i64 0, i64 0, .slice none 0 0, .slice none 0 0, .slice none 0 0, .slice none 0 0]) (places := [(0, 1), (1, 1), (2, 1), (3, 1), (4, 1), (5, 1), (6, 1), (7, 1), (8, 1), (9, 1), (10, 1), (11, 1), (12, 1), (13, 1), (14, 1), (15, 1), (16, 1)]) (n := 17) (evp_cons rfl (evp_cons rfl (evp_cons rfl evp_nil))) Try.type26 Try.underlying26 rfl rfl ⟨rfl, rfl, own_one o80, trivial⟩ rfl rfl rfl)) ?_
          refine WO.nil ?_
          exact ⟨v78, v80, v82, v85, rfl, rfl, rfl, rfl, rfl, rfl, rfl, rfl, rfl, rfl, rfl, rfl, rfl, rfl, rfl, rfl, rfl, rfl, rfl, rfl, rfl, rfl, rfl, rfl, rfl, rfl, rfl, rfl, rfl, rfl, rfl, rfl, rfl, rfl, rfl, (by repeat (first | exact (Agree.refl _ F128) | refine Agree.put ?_ rfl | refine Agree.named hF129 ?_)), (Ext.trans (Ext.trans (Ext.trans (Ext.trans (Ext.drew _) hx130) hx142) hx148) hx150), ⟨own_mono (own_ext o78 (Ext.trans (Ext.trans hx142 hx148) hx150)) (by omega), own_mono (own_ext o80 (Ext.refl w80)) (by omega), own_mono (own_ext o82 (Ext.trans hx148 hx150)) (by omega), own_mono (own_ext o85 hx150) (by omega)⟩⟩
      · refine LO.go rfl rfl (OW.lits (vs := [_]) (evp_cons rfl evp_nil) Try.underlying22 Try.sizeOf3 Try.zeroValue3 ⟨rfl, trivial⟩ rfl rfl rfl ?_ (by decide))
        intro v85 w85 ho153 hx152
        have := World.grownBy.size hx152
        have o85 : OwnI w85 _ 3 v85 [1] := ho153
        refine ⟨(Ext.trans (Ext.trans (Ext.drew _) hx130) hx152), ?_⟩
        refine WO.q rfl rfl rfl rfl (fun w' hE127 => (X.buildT (P := Try.prog) (t := 26) (cs := (oc ([7, 0, 0, 0, 0, 0, 0, 0, 0, 0, 0, 0, 0] : List Int) v85 (.slice none 0 0) (.slice none 0 0) (.slice none 0 0))) (zs := [i64 0, i64 0, i64 0, i64 0, i64 0, i64 0, i64 0, i64 0, i64 0, i64 0, i64 0, i64 0, i64 0, .slice none 0 0, .slice none 0 0, .slice none 0 0, .slice none 0 0]) (places := [(0, 1), (1, 1), (2, 1), (3, 1), (4, 1), (5, 1), (6, 1), (7, 1), (8, 1), (9, 1), (10, 1), (11, 1), (12, 1), (13, 1), (14, 1), (15, 1), (16, 1)]) (n := 17) (evp_cons rfl (evp_cons rfl evp_nil)) Try.type26 Try.underlying26 rfl rfl ⟨rfl, own_one o85, trivial⟩ rfl rfl rfl)) ?_
        refine WO.b2 ?_ ?_
        · refine LO.go rfl rfl (OW.makeB (n := 32769) rfl rfl Try.underlying24 Try.type5 rfl rfl rfl (by omega) ?_ (by decide))
          intro v80 w80 ho155 hx154
          have o80 : OwnB w80 _ 5 v80 (List.replicate 32769 0) := ho155
          have := World.grownBy.size hx154
          refine ⟨(Ext.trans (Ext.trans (Ext.trans (Ext.drew _) hx130) hx152) hx154), ?_⟩
          refine WO.q rfl rfl rfl rfl (fun w' hE127 => (X.buildT (P := Try.prog) (t := 26) (cs := (oc ([6, 0, 0, 0, 0, 0, 0, 1, 0, 0, 0, 0, 0] : List Int) (.slice none 0 0) (.slice none 0 0) (.slice none 0 0) v80)) (zs := [i64 0, i64 0, i64 0, i64 0, i64 0, i64 0, i64 0, i64 0, i64 0, i64 0, i64 0, i64 0, i64 0, .slice none 0 0, .slice none 0 0, .slice none 0 0, .slice none 0 0]) (places := [(0, 1), (1, 1), (2, 1), (3, 1), (4, 1), (5, 1), (6, 1), (7, 1), (8, 1), (9, 1), (10, 1), (11, 1), (12, 1), (13, 1), (14, 1), (15, 1), (16, 1)]) (n := 17) (evp_cons rfl (evp_cons rfl (evp_cons rfl evp_nil))) Try.type26 Try.underlying26 rfl rfl ⟨rfl, rfl, own_one o80, trivial⟩ rfl rfl rfl)) ?_
          refine WO.l ?_
          refine LO.go rfl rfl (OW.lits (vs := [u8 1]) (evp_cons rfl evp_nil) Try.underlying24 Try.sizeOf5 Try.zeroValue5 ⟨rfl, trivial⟩ rfl rfl rfl ?_ (by decide))
          intro v82 w82 ho157 hx156
          have := World.grownBy.size hx156
          have o82 : OwnB w82 _ 5 v82 [1] := ho157
          refine ⟨(Ext.trans (Ext.trans (Ext.trans (Ext.trans (Ext.drew _) hx130) hx152) hx154) hx156), ?_⟩
          refine WO.q rfl rfl rfl rfl (fun w' hE127 => (X.buildT (P := Try.prog) (t := 26) (cs := (oc ([7, 0, 0, 0, 0, 0, 0, 0, 0, 0, 0, 0, 0] : List Int) (.slice none 0 0) (.slice none 0 0) (.slice none 0 0) v82)) (zs := [i64 0, i64 0, i64 0, i64 0, i64 0, i64 0, i64 0, i64 0, i64 0, i64 0, i64 0, i64 0, i64 0, .slice none 0 0, .slice none 0 0, .slice none 0 0, .slice none 0 0]) (places := [(0, 1), (1, 1), (2, 1), (3, 1), (4, 1), (5, 1), (6, 1), (7, 1), (8, 1), (9, 1), (10, 1), (11, 1), (12, 1), (13, 1), (14, 1), (15, 1), (16, 1)]) (n := 17) (evp_cons rfl (evp_cons rfl evp_nil)) Try.type26 Try.underlying26 rfl rfl ⟨rfl, own_one o82, trivial⟩ rfl rfl rfl)) ?_
          refine WO.nil ?_
          exact ⟨v78, v80, v82, v85, rfl, rfl, rfl, rfl, rfl, rfl, rfl, rfl, rfl, rfl, rfl, rfl, rfl, rfl, rfl, rfl, rfl, rfl, rfl, rfl, rfl, rfl, rfl, rfl, rfl, rfl, rfl, rfl, rfl, rfl, rfl, rfl, rfl, rfl, rfl, (by repeat (first | exact (Agree.refl _ F128) | refine Agree.put ?_ rfl | refine Agree.named hF129 ?_)), (Ext.trans (Ext.trans (Ext.trans (Ext.trans (Ext.drew _) hx130) hx152) hx154) hx156), ⟨own_mono (own_ext o78 (Ext.trans (Ext.trans hx152 hx154) hx156)) (by omega), own_mono (own_ext o80 hx156) (by omega), own_mono (own_ext o82 (Ext.refl w82)) (by omega), own_mono (own_ext o85 (Ext.trans hx154 hx156)) (by omega)⟩⟩
        · refine LO.go rfl rfl (OW.lits (vs := [u8 1]) (evp_cons rfl evp_nil) Try.underlying24 Try.sizeOf5 Try.zeroValue5 ⟨rfl, trivial⟩ rfl rfl rfl ?_ (by decide))
          intro v82 w82 ho159 hx158
          have := World.grownBy.size hx158
          have o82 : OwnB w82 _ 5 v82 [1] := ho159
          refine ⟨(Ext.trans (Ext.trans (Ext.trans (Ext.drew _) hx130) hx152) hx158), ?_⟩
          refine WO.q rfl rfl rfl rfl (fun w' hE127 => (X.buildT (P := Try.prog) (t := 26) (cs := (oc ([7, 0, 0, 0, 0, 0, 0, 0, 0, 0, 0, 0, 0] : List Int) (.slice none 0 0) (.slice none 0 0) (.slice none 0 0) v82)) (zs := [i64 0, i64 0, i64 0, i64 0, i64 0, i64 0, i64 0, i64 0, i64 0, i64 0, i64 0, i64 0, i64 0, .slice none 0 0, .slice none 0 0, .slice none 0 0, .slice none 0 0]) (places := [(0, 1), (1, 1), (2, 1), (3, 1), (4, 1), (5, 1), (6, 1), (7, 1), (8, 1), (9, 1), (10, 1), (11, 1), (12, 1), (13, 1), (14, 1), (15, 1), (16, 1)]) (n := 17) (evp_cons rfl (evp_cons rfl evp_nil)) Try.type26 Try.underlying26 rfl rfl ⟨rfl, own_one o82, trivial⟩ rfl rfl rfl)) ?_
          refine WO.l ?_
          refine LO.go rfl rfl (OW.makeB (n := 32769) rfl rfl Try.underlying24 Try.type5 rfl rfl rfl (by omega) ?_ (by decide))
          intro v80 w80 ho161 hx160
          have o80 : OwnB w80 _ 5 v80 (List.replicate 32769 0) := ho161
          have := World.grownBy.size hx160
          refine ⟨(Ext.trans (Ext.trans (Ext.trans (Ext.trans (Ext.drew _) hx130) hx152) hx158) hx160), ?_⟩
          refine WO.q rfl rfl rfl rfl (fun w' hE127 => (X.buildT (P := Try.prog) (t := 26) (cs := (oc ([6, 0, 0, 0, 0, 0, 0, 1, 0, 0, 0, 0, 0] : List Int) (.slice none 0 0) (.slice none 0 0) (.slice none 0 0) v80)) (zs := [i64 0, i64 0, i64 0, i64 0, i64 0, i64 0, i64 0, i64 0, i64 0, i64 0, i64 0, i64 0, i64 0, .slice none 0 0, .slice none 0 0, .slice none 0 0, .slice none 0 0]) (places := [(0, 1), (1, 1), (2, 1), (3, 1), (4, 1), (5, 1), (6, 1), (7, 1), (8, 1), (9, 1), (10, 1), (11, 1), (12, 1), (13, 1), (14, 1), (15, 1), (16, 1)]) (n := 17) (evp_cons rfl (evp_cons rfl (evp_cons rfl evp_nil))) Try.type26 Try.underlying26 rfl rfl ⟨rfl, rfl, own_one o80, trivial⟩ rfl rfl rfl)) ?_
          refine WO.nil ?_
          exact ⟨v78, v80, v82, v85, rfl, rfl, rfl, rfl, rfl, rfl, rfl, rfl, rfl, rfl, rfl, rfl, rfl, rfl, rfl, rfl, rfl, rfl, rfl, rfl, rfl, rfl, rfl, rfl, rfl, rfl, rfl, rfl, rfl, rfl, rfl, rfl, rfl, rfl, rfl, (by repeat (first | exact (Agree.refl _ F128) | refine Agree.put ?_ rfl | refine Agree.named hF129 ?_)), (Ext.trans (Ext.trans (Ext.trans (Ext.trans (Ext.drew _) hx130) hx152) hx158) hx160), ⟨own_mono (own_ext o78 (Ext.trans (Ext.trans hx152 hx158) hx160)) (by omega), own_mono (own_ext o80 (Ext.refl w80)) (by omega), own_mono (own_ext o82 hx160) (by omega), own_mono (own_ext o85 (Ext.trans hx158 hx160)) (by omega)⟩⟩
    · refine LO.go rfl rfl (OW.makeB (n := 32769) rfl rfl Try.underlying24 Try.type5 rfl rfl rfl (by omega) ?_ (by decide))
      intro v80 w80 ho163 hx162
      have o80 : OwnB w80 _ 5 v80 (List.replicate 32769 0) := ho163
      have := World.grownBy.size hx162
      refine ⟨(Ext.trans (Ext.drew _) hx162), ?_⟩
      refine WO.q rfl rfl rfl rfl (fun w' hE127 => (X.buildT (P := Try.prog) (t := 26) (cs := (oc ([6, 0, 0, 0, 0, 0, 0, 1, 0, 0, 0, 0, 0] : List Int) (.slice none 0 0) (.slice none 0 0) (.slice none 0 0) v80)) (zs := [i64 0, i64 0, i64 0, i64 0, i64 0, i64 0, i64 0, i64 0, i64 0, i64 0, i64 0, i64 0, i64 0, .slice none 0 0, .slice none 0 0, .slice none 0 0, .slice none 0 0]) (places := [(0, 1), (1, 1), (2, 1), (3, 1), (4, 1), (5, 1), (6, 1), (7, 1), (8, 1), (9, 1), (10, 1), (11, 1), (12, 1), (13, 1), (14, 1), (15, 1), (16, 1)]) (n := 17) (evp_cons rfl (evp_cons rfl (evp_cons rfl evp_nil))) Try.type26 Try.underlying26 rfl rfl ⟨rfl, rfl, own_one o80, trivial⟩ rfl rfl rfl)) ?_
      refine WO.b3 ?_ ?_ ?_
      · refine LO.go rfl rfl (OW.makeB (n := 32768) rfl rfl Try.underlying24 Try.type5 rfl rfl rfl (by omega) ?_ (by decide))
        intro v78 w78 ho165 hx164
        have o78 : OwnB w78 _ 5 v78 (List.replicate 32768 0) := ho165
        have := World.grownBy.size hx164
        refine ⟨(Ext.trans (Ext.trans (Ext.drew _) hx162) hx164), ?_⟩
        refine WO.q rfl rfl rfl rfl (fun w' hE127 => (X.buildT (P := Try.prog) (t := 26) (cs := (oc ([6, 0, 0, 0, 0, 0, 0, 1, 0, 0, 0, 0, 0] : List Int) (.slice none 0 0) (.slice none 0 0) (.slice none 0 0) v78)) (zs := [i64 0, i64 0, i64 0, i64 0, i64 0, i64 0, i64 0, i64 0, i64 0, i64 0, i64 0, i64 0, i64 0, .slice none 0 0, .slice none 0 0, .slice none 0 0, .slice none 0 0]) (places := [(0, 1), (1, 1), (2, 1), (3, 1), (4, 1), (5, 1), (6, 1), (7, 1), (8, 1), (9, 1), (10, 1), (11, 1), (12, 1), (13, 1), (14, 1), (15, 1), (16, 1)]) (n := 17) (evp_cons rfl (evp_cons rfl (evp_cons rfl evp_nil))) Try.type26 Try.underlying26 rfl rfl ⟨rfl, rfl, own_one o78, trivial⟩ rfl rfl rfl)) ?_
        refine WO.b2 ?_ ?_
        · refine LO.go rfl rfl (OW.lits (vs := [u8 1]) (evp_cons rfl evp_nil) Try.underlying24 Try.sizeOf5 Try.zeroValue5 ⟨rfl, trivial⟩ rfl rfl rfl ?_ (by decide))
          intro v82 w82 ho167 hx166
          have := World.grownBy.size hx166
          have o82 : OwnB w82 _ 5 v82 [1] := ho167
          refine ⟨(Ext.trans (Ext.trans (Ext.trans (Ext.drew _) hx162) hx164) hx166), ?_⟩
          refine WO.q rfl rfl rfl rfl (fun w' hE127 => (X.buildT (P := Try.prog) (t := 26) (cs := (oc ([7, 0, 0, 0, 0, 0, 0, 0, 0, 0, 0, 0, 0] : List Int) (.slice none 0 0) (.slice none 0 0) (.slice none 0 0) v82)) (zs := [i64 0, i64 0, i64 0, i64 0, i64 0, i64 0, i64 0, i64 0, i64 0, i64 0, i64 0, i64 0, i64 0, .slice none 0 0, .slice none 0 0, .slice none 0 0, .slice none 0 0]) (places := [(0, 1), (1, 1), (2, 1), (3, 1), (4, 1), (5, 1), (6, 1), (7, 1), (8, 1), (9, 1), (10, 1), (11, 1), (12, 1), (13, 1), (14, 1), (15, 1), (16, 1)]) (n := 17) (evp_cons rfl (evp_cons rfl evp_nil)) Try.type26 Try.underlying26 rfl rfl ⟨rfl, own_one o82, trivial⟩ rfl rfl rfl)) ?_
          refine WO.l ?_
          refine LO.go rfl rfl (OW.lits (vs := [_]) (evp_cons rfl evp_nil) Try.underlying22 Try.sizeOf3 Try.zeroValue3 ⟨rfl, trivial⟩ rfl rfl rfl ?_ (by decide))
          intro v85 w85 ho169 hx168
          have := World.grownBy.size hx168
          have o85 : OwnI w85 _ 3 v85 [1] := ho169
          refine ⟨(Ext.trans (Ext.trans (Ext.trans (Ext.trans (Ext.drew _) hx162) hx164) hx166) hx168), ?_⟩
          refine WO.q rfl rfl rfl rfl (fun w' hE127 => (X.buildT (P := Try.prog) (t := 26) (cs := (oc ([7, 0, 0, 0, 0, 0, 0, 0, 0, 0, 0, 0, 0] : List Int) v85 (.slice none 0 0) (.slice none 0 0) (.slice none 0 0))) (zs := [i64 0, i64 0, i64 0, i64 0, i64 0, i64 0, i64 0, i64 0, i64 0, i64 0, i64 0, i64 0, i64 0, .slice none 0 0, .slice none 0 0, .slice none 0 0, .slice none 0 0]) (places := [(0, 1), (1, 1), (2, 1), (3, 1), (4, 1), (5, 1), (6, 1), (7, 1), (8, 1), (9, 1), (10, 1), (11, 1), (12, 1), (13, 1), (14, 1), (15, 1), (16, 1)]) (n := 17) (evp_cons rfl (evp_cons rfl evp_nil)) Try.type26 Try.underlying26 rfl rfl ⟨rfl, own_one o85, trivial⟩ rfl rfl rfl)) ?_
          refine WO.nil ?_
          exact ⟨v78, v80, v82, v85, rfl, rfl, rfl, rfl, rfl, rfl, rfl, rfl, rfl, rfl, rfl, rfl, rfl, rfl, rfl, rfl, rfl, rfl, rfl, rfl, rfl, rfl, rfl, rfl, rfl, rfl, rfl, rfl, rfl, rfl, rfl, rfl, rfl, rfl, rfl, (by repeat (first | exact (Agree.refl _ F128) | refine Agree.put ?_ rfl | refine Agree.named hF129 ?_)), (Ext.trans (Ext.trans (Ext.trans (Ext.trans (Ext.drew _) hx162) hx164) hx166) hx168), ⟨own_mono (own_ext o78 (Ext.trans hx166 hx168)) (by omega), own_mono (own_ext o80 (Ext.trans (Ext.trans hx164 hx166) hx168)) (by omega), own_mono (own_ext o82 hx168) (by omega), own_mono (own_ext o85 (Ext.refl w85)) (by omega)⟩⟩
        · refine LO.go rfl rfl (OW.lits (vs := [_]) (evp_cons rfl evp_nil) Try.underlying22 Try.sizeOf3 Try.zeroValue3 ⟨rfl, trivial⟩ rfl rfl rfl ?_ (by decide))
          intro v85 w85 ho171 hx170
          have := World.grownBy.size hx170
          have o85 : OwnI w85 _ 3 v85 [1] := ho171
          refine ⟨(Ext.trans (Ext.trans (Ext.trans (Ext.drew _) hx162) hx164) hx170), ?_⟩
          refine WO.q rfl rfl rfl rfl (fun w' hE127 => (X.buildT (P := Try.prog) (t := 26) (cs := (oc ([7, 0, 0, 0, 0, 0, 0, 0, 0, 0, 0, 0, 0] : List Int) v85 (.slice none 0 0) (.slice none 0 0) (.slice none 0 0))) (zs := [i64 0, i64 0, i64 0, i64 0, i64 0, i64 0, i64 0, i64 0, i64 0, i64 0, i64 0, i64 0, i64 0, .slice none 0 0, .slice none 0 0, .slice none 0 0, .slice none 0 0]) (places := [(0, 1), (1, 1), (2, 1), (3, 1), (4, 1), (5, 1), (6, 1), (7, 1), (8, 1), (9, 1), (10, 1), (11, 1), (12, 1), (13, 1), (14, 1), (15, 1), (16, 1)]) (n := 17) (evp_cons rfl (evp_cons rfl evp_nil)) Try.type26 Try.underlying26 rfl rfl ⟨rfl, own_one o85, trivial⟩ rfl rfl rfl)) ?_
          refine WO.l ?_
          refine LO.go rfl rfl (OW.lits (vs := [u8 1]) (evp_cons rfl evp_nil) Try.underlying24 Try.sizeOf5 Try.zeroValue5 ⟨rfl, trivial⟩ rfl rfl rfl ?_ (by decide))
          intro v82 w82 ho173 hx172
          have := World.grownBy.size hx172
          have o82 : OwnB w82 _ 5 v82 [1] := ho173
          refine ⟨(Ext.trans (Ext.trans (Ext.trans (Ext.trans (Ext.drew _) hx162) hx164) hx170) hx172), ?_⟩
          refine WO.q rfl rfl rfl rfl (fun w' hE127 => (X.buildT (P := Try.prog) (t := 26) (cs := (oc ([7, 0, 0, 0, 0, 0, 0, 0, 0, 0, 0, 0, 0] : List Int) (.slice none 0 0) (.slice none 0 0) (.slice none 0 0) v82)) (zs := [i64 0, i64 0, i64 0, i64 0, i64 0, i64 0, i64 0, i64 0, i64 0, i64 0, i64 0, i64 0, i64 0, .slice none 0 0, .slice none 0 0, .slice none 0 0, .slice none 0 0]) (places := [(0, 1), (1, 1), (2, 1), (3, 1), (4, 1), (5, 1), (6, 1), (7, 1), (8, 1), (9, 1), (10, 1), (11, 1), (12, 1), (13, 1), (14, 1), (15, 1), (16, 1)]) (n := 17) (evp_cons rfl (evp_cons rfl evp_nil)) Try.type26 Try.underlying26 rfl rfl ⟨rfl, own_one o82, trivial⟩ rfl rfl rfl)) ?_
          refine WO.nil ?_
          exact ⟨v78, v80, v82, v85, rfl, rfl, rfl, rfl, rfl, rfl, rfl, rfl, rfl, rfl, rfl, rfl, rfl, rfl, rfl, rfl, rfl, rfl, rfl, rfl, rfl, rfl, rfl, rfl, rfl, rfl, rfl, rfl, rfl, rfl, rfl, rfl, rfl, rfl, rfl, (by repeat (first | exact (Agree.refl _ F128) | refine Agree.put ?_ rfl | refine Agree.named hF129 ?_)), (Ext.trans (Ext.trans (Ext.trans (Ext.trans (Ext.drew _) hx162) hx164) hx170) hx172), ⟨own_mono (own_ext o78 (Ext.trans hx170 hx172)) (by omega), own_mono (own_ext o80 (Ext.trans (Ext.trans hx164 hx170) hx172)) (by omega), own_mono (own_ext o82 (Ext.refl w82)) (by omega), own_mono (own_ext o85 hx172) (by omega)⟩⟩
      · refine LO.go rfl rfl (OW.lits (vs := [u8 1]) (evp_cons rfl evp_nil) Try.underlying24 Try.sizeOf5 Try.zeroValue5 ⟨rfl, trivial⟩ rfl rfl rfl ?_ (by decide))
        intro v82 w82 ho175 hx174
        have := World.grownBy.size hx174
        have o82 : OwnB w82 _ 5 v82 [1] := ho175
        refine ⟨(Ext.trans (Ext.trans (Ext.drew _) hx162) hx174), ?_⟩
        refine WO.q rfl rfl rfl rfl (fun w' hE127 => (X.buildT (P := Try.prog) (t := 26) (cs := (oc ([7, 0, 0, 0, 0, 0, 0, 0, 0, 0, 0, 0, 0] : List Int) (.slice none 0 0) (.slice none 0 0) (.slice none 0 0) v82)) (zs := [i64 0, i64 0, i64 0, i64 0, i64 0, i64 0, i64 0, i64 0, i64 0, i64 0, i64 0, i64 0, i64 0, .slice none 0 0, .slice none 0 0, .slice none 0 0, .slice none 0 0]) (places := [(0, 1), (1, 1), (2, 1), (3, 1), (4, 1), (5, 1), (6, 1), (7, 1), (8, 1), (9, 1), (10, 1), (11, 1), (12, 1), (13, 1), (14, 1), (15, 1), (16, 1)]) (n := 17) (evp_cons rfl (evp_cons rfl evp_nil)) Try.type26 Try.underlying26 rfl rfl ⟨rfl, own_one o82, trivial⟩ rfl rfl rfl)) ?_
        refine WO.b2 ?_ ?_
        · refine LO.go rfl rfl (OW.makeB (n := 32768) rfl rfl Try.underlying24 Try.type5 rfl rfl rfl (by omega) ?_ (by decide))
          intro v78 w78 ho177 hx176
          have o78 : OwnB w78 _ 5 v78 (List.replicate 32768 0) := ho177
          have := World.grownBy.size hx176
          refine ⟨(Ext.trans (Ext.trans (Ext.trans (Ext.drew _) hx162) hx174) hx176), ?_⟩
          refine WO.q rfl rfl rfl rfl (fun w' hE127 => (X.buildT (P := Try.prog) (t := 26) (cs := (oc ([6, 0, 0, 0, 0, 0, 0, 1, 0, 0, 0, 0, 0] : List Int) (.slice none 0 0) (.slice none 0 0) (.slice none 0 0) v78)) (zs := [i64 0, i64 0, i64 0, i64 0, i64 0, i64 0, i64 0, i64 0, i64 0, i64 0, i64 0, i64 0, i64 0, .slice none 0 0, .slice none 0 0, .slice none 0 0, .slice none 0 0]) (places := [(0, 1), (1, 1), (2, 1), (3, 1), (4, 1), (5, 1), (6, 1), (7, 1), (8, 1), (9, 1), (10, 1), (11, 1), (12, 1), (13, 1), (14, 1), (15, 1), (16, 1)]) (n := 17) (evp_cons rfl (evp_cons rfl (evp_cons rfl evp_nil))) Try.type26 Try.underlying26 rfl rfl ⟨rfl, rfl, own_one o78, trivial⟩ rfl rfl rfl)) ?_
          refine WO.l ?_
          refine LO.go rfl rfl (OW.lits (vs := [_]) (evp_cons rfl evp_nil) Try.underlying22 Try.sizeOf3 Try.zeroValue3 ⟨rfl, trivial⟩ rfl rfl rfl ?_ (by decide))
          intro v85 w85 ho179 hx178
          have := World.grownBy.size hx178
          have o85 : OwnI w85 _ 3 v85 [1] := ho179
          refine ⟨(Ext.trans (Ext.trans (Ext.trans (Ext.trans (Ext.drew _) hx162) hx174) hx176) hx178), ?_⟩
          refine WO.q rfl rfl rfl rfl (fun w' hE127 => (X.buildT (P := Try.prog) (t := 26) (cs := (oc ([7, 0, 0, 0, 0, 0, 0, 0, 0, 0, 0, 0, 0] : List Int) v85 (.slice none 0 0) (.slice none 0 0) (.slice none 0 0))) (zs := [i64 0, i64 0, i64 0, i64 0, i64 0, i64 0, i64 0, i64 0, i64 0, i64 0, i64 0, i64 0, i64 0, .slice none 0 0, .slice none 0 0, .slice none 0 0, .slice none 0 0]) (places := [(0, 1), (1, 1), (2, 1), (3, 1), (4, 1), (5, 1), (6, 1), (7, 1), (8, 1), (9, 1), (10, 1), (11, 1), (12, 1), (13, 1), (14, 1), (15, 1), (16, 1)]) (n := 17) (evp_cons rfl (evp_cons rfl evp_nil)) Try.type26 Try.underlying26 rfl rfl ⟨rfl, own_one o85, trivial⟩ rfl rfl rfl)) ?_
          refine WO.nil ?_
          exact ⟨v78, v80, v82, v85, rfl, rfl, rfl, rfl, rfl, rfl, rfl, rfl, rfl, rfl, rfl, rfl, rfl, rfl, rfl, rfl, rfl, rfl, rfl, rfl, rfl, rfl, rfl, rfl, rfl, rfl, rfl, rfl, rfl, rfl, rfl, rfl, rfl, rfl, rfl, (by repeat (first | exact (Agree.refl _ F128) | refine Agree.put ?_ rfl | refine Agree.named hF129 ?_)), (Ext.trans (Ext.trans (Ext.trans (Ext.trans (Ext.drew _) hx162) hx174) hx176) hx178), ⟨own_mono (own_ext o78 hx178) (by omega), own_mono (own_ext o80 (Ext.trans (Ext.trans hx174 hx176) hx178)) (by omega), own_mono (own_ext o82 (Ext.trans hx176 hx178)) (by omega), own_mono (own_ext o85 (Ext.refl w85)) (by omega)⟩⟩
        · refine LO.go rfl rfl (OW.lits (vs := [_]) (evp_cons rfl evp_nil) Try.underlying22 Try.sizeOf3 Try.zeroValue3 ⟨rfl, trivial⟩ rfl rfl rfl ?_ (by decide))
          intro v85 w85 ho181 hx180
          have := World.grownBy.size hx180
          have o85 : OwnI w85 _ 3 v85 [1] := ho181
          refine ⟨(Ext.trans (Ext.trans (Ext.trans (Ext.drew _) hx162) hx174) hx180), ?_⟩
          refine WO.q rfl rfl rfl rfl (fun w' hE127 => (X.buildT (P := Try.prog) (t := 26) (cs := (oc ([7, 0, 0, 0, 0, 0, 0, 0, 0, 0, 0, 0, 0] : List Int) v85 (.slice none 0 0) (.slice none 0 0) (.slice none 0 0))) (zs := [i64 0, i64 0, i64 0, i64 0, i64 0, i64 0, i64 0, i64 0, i64 0, i64 0, i64 0, i64 0, i64 0, .slice none 0 0, .slice none 0 0, .slice none 0 0, .slice none 0 0]) (places := [(0, 1), (1, 1), (2, 1), (3, 1), (4, 1), (5, 1), (6, 1), (7, 1), (8, 1), (9, 1), (10, 1), (11, 1), (12, 1), (13, 1), (14, 1), (15, 1), (16, 1)]) (n := 17) (evp_cons rfl (evp_cons rfl evp_nil)) Try.type26 Try.underlying26 rfl rfl ⟨rfl, own_one o85, trivial⟩ rfl rfl rfl)) ?_
          refine WO.l ?_
          refine LO.go rfl rfl (OW.makeB (n := 32768) rfl rfl Try.underlying24 Try.type5 rfl rfl rfl (by omega) ?_ (by decide))
          intro v78 w78 ho183 hx182
          have o78 : OwnB w78 _ 5 v78 (List.replicate 32768 0) := ho183
          have := World.grownBy.size hx182
          refine ⟨(Ext.trans (Ext.trans (Ext.trans (Ext.trans (Ext.drew _) hx162) hx174) hx180) hx182), ?_⟩
          refine WO.q rfl rfl rfl rfl (fun w' hE127 => (X.buildT (P := Try.prog) (t := 26) (cs := (oc ([6, 0, 0, 0, 0, 0, 0, 1, 0, 0, 0, 0, 0] : List Int) (.slice none 0 0) (.slice none 0 0) (.slice none 0 0) v78)) (zs := [i64 0, i64 0, i64 0, i64 0, i64 0, i64 0, i64 0, i64 0, i64 0, i64 0, i64 0, i64 0, i64 0, .slice none 0 0, .slice none 0 0, .slice none 0 0, .slice none 0 0]) (places := [(0, 1), (1, 1), (2, 1), (3, 1), (4, 1), (5, 1), (6, 1), (7, 1), (8, 1), (9, 1), (10, 1), (11, 1), (12, 1), (13, 1), (14, 1), (15, 1), (16, 1)]) (n := 17) (evp_cons rfl (evp_cons rfl (evp_cons rfl evp_nil))) Try.type26 Try.underlying26 rfl rfl ⟨rfl, rfl, own_one o78, trivial⟩ rfl rfl rfl)) ?_
          refine WO.nil ?_
          exact ⟨v78, v80, v82, v85, rfl, rfl, rfl, rfl, rfl, rfl, rfl, rfl, rfl, rfl, rfl, rfl, rfl, rfl, rfl, rfl, rfl, rfl, rfl, rfl, rfl, rfl, rfl, rfl, rfl, rfl, rfl, rfl, rfl, rfl, rfl, rfl, rfl, rfl, rfl, (by repeat (first | exact (Agree.refl _ F128) | refine Agree.put ?_ rfl | refine Agree.named hF129 ?_)), (Ext.trans (Ext.trans (Ext.trans (Ext.trans (Ext.drew _) hx162) hx174) hx180) hx182), ⟨own_mono (own_ext o78 (Ext.refl w78)) (by omega), own_mono (own_ext o80 (Ext.trans (Ext.trans hx174 hx180) hx182)) (by omega), own_mono (own_ext o82 (Ext.trans hx180 hx182)) (by omega), own_mono (own_ext o85 hx182) (by omega)⟩⟩
      · refine LO.go rfl rfl (OW.lits (vs := [_]) (evp_cons rfl evp_nil) Try.underlying22 Try.sizeOf3 Try.zeroValue3 ⟨rfl, trivial⟩ rfl rfl rfl ?_ (by decide))
        intro v85 w85 ho185 hx184
        have := World.grownBy.size hx184
        have o85 : OwnI w85 _ 3 v85 [1] := ho185
        refine ⟨(Ext.trans (Ext.trans (Ext.drew _) hx162) hx184), ?_⟩
        refine WO.q rfl rfl rfl rfl (fun w' hE127 => (X.buildT (P := Try.prog) (t := 26) (cs := (oc ([7, 0, 0, 0, 0, 0, 0, 0, 0, 0, 0, 0, 0] : List Int) v85 (.slice none 0 0) (.slice none 0 0) (.slice none 0 0))) (zs := [i64 0, i64 0, i64 0, i64 0, i64 0, i64 0, i64 0, i64 0, i64 0, i64 0, i64 0, i64 0, i64 0, .slice none 0 0, .slice none 0 0, .slice none 0 0, .slice none 0 0]) (places := [(0, 1), (1, 1), (2, 1), (3, 1), (4, 1), (5, 1), (6, 1), (7, 1), (8, 1), (9, 1), (10, 1), (11, 1), (12, 1), (13, 1), (14, 1), (15, 1), (16, 1)]) (n := 17) (evp_cons rfl (evp_cons rfl evp_nil)) Try.type26 Try.underlying26 rfl rfl ⟨rfl, own_one o85, trivial⟩ rfl rfl rfl)) ?_
        refine WO.b2 ?_ ?_
        · refine LO.go rfl rfl (OW.makeB (n := 32768) rfl rfl Try.underlying24 Try.type5 rfl rfl rfl (by omega) ?_ (by decide))
          intro v78 w78 ho187 hx186
          have o78 : OwnB w78 _ 5 v78 (List.replicate 32768 0) := ho187
          have := World.grownBy.size hx186
          refine ⟨(Ext.trans (Ext.trans (Ext.trans (Ext.drew _) hx162) hx184) hx186), ?_⟩
          refine WO.q rfl rfl rfl rfl (fun w' hE127 => (X.buildT (P := Try.prog) (t := 26) (cs := (oc ([6, 0, 0, 0, 0, 0, 0, 1, 0, 0, 0, 0, 0] : List Int) (.slice none 0 0) (.slice none 0 0) (.slice none 0 0) v78)) (zs := [i64 0, i64 0, i64 0, i64 0, i64 0, i64 0, i64 0, i64 0, i64 0, i64 0, i64 0, i64 0, i64 0, .slice none 0 0, .slice none 0 0, .slice none 0 0, .slice none 0 0]) (places := [(0, 1), (1, 1), (2, 1), (3, 1), (4, 1), (5, 1), (6, 1), (7, 1), (8, 1), (9, 1), (10, 1), (11, 1), (12, 1), (13, 1), (14, 1), (15, 1), (16, 1)]) (n := 17) (evp_cons rfl (evp_cons rfl (evp_cons rfl evp_nil))) Try.type26 Try.underlying26 rfl rfl ⟨rfl, rfl, own_one o78, trivial⟩ rfl rfl rfl)) ?_
          refine WO.l ?_
          refine LO.go rfl rfl (OW.lits (vs := [u8 1]) (evp_cons rfl evp_nil) Try.underlying24 Try.sizeOf5 Try.zeroValue5 ⟨rfl, trivial⟩ rfl rfl rfl ?_ (by decide))
          intro v82 w82 ho189 hx188
          have := World.grownBy.size hx188
          have o82 : OwnB w82 _ 5 v82 [1] := ho189
          refine ⟨(Ext.trans (Ext.trans (Ext.trans (Ext.trans (Ext.drew _) hx162) hx184) hx186) hx188), ?_⟩
          refine WO.q rfl rfl rfl rfl (fun w' hE127 => (X.buildT (P := Try.prog) (t := 26) (cs := (oc ([7, 0, 0, 0, 0, 0, 0, 0, 0, 0, 0, 0, 0] : List Int) (.slice none 0 0) (.slice none 0 0) (.slice none 0 0) v82)) (zs := [i64 0, i64 0, i64 0, i64 0, i64 0, i64 0, i64 0, i64 0, i64 0, i64 0, i64 0, i64 0, i64 0, .slice none 0 0, .slice none 0 0, .slice none 0 0, .slice none 0 0]) (places := [(0, 1), (1, 1), (2, 1), (3, 1), (4, 1), (5, 1), (6, 1), (7, 1), (8, 1), (9, 1), (10, 1), (11, 1), (12, 1), (13, 1), (14, 1), (15, 1), (16, 1)]) (n := 17) (evp_cons rfl (evp_cons rfl evp_nil)) Try.type26 Try.underlying26 rfl rfl ⟨rfl, own_one o82, trivial⟩ rfl rfl rfl)) ?_
          refine WO.nil ?_
          exact ⟨v78, v80, v82, v85, rfl, rfl, rfl, rfl, rfl, rfl, rfl, rfl, rfl, rfl, rfl, rfl, rfl, rfl, rfl, rfl, rfl, rfl, rfl, rfl, rfl, rfl, rfl, rfl, rfl, rfl, rfl, rfl, rfl, rfl, rfl, rfl, rfl, rfl, rfl, (by repeat (first | exact (Agree.refl _ F128) | refine Agree.put ?_ rfl | refine Agree.named hF129 ?_)), (Ext.trans (Ext.trans (Ext.trans (Ext.trans (Ext.drew _) hx162) hx184) hx186) hx188), ⟨own_mono (own_ext o78 hx188) (by omega), own_mono (own_ext o80 (Ext.trans (Ext.trans hx184 hx186) hx188)) (by omega), own_mono (own_ext o82 (Ext.refl w82)) (by omega), own_mono (own_ext o85 (Ext.trans hx186 hx188)) (by omega)⟩⟩
        · refine LO.go rfl rfl (OW.lits (vs := [u8 1]) (evp_cons rfl evp_nil) Try.underlying24 Try.sizeOf5 Try.zeroValue5 ⟨rfl, trivial⟩ rfl rfl rfl ?_ (by decide))
          intro v82 w82 ho191 hx190
          have := World.grownBy.size hx190
          have o82 : OwnB w82 _ 5 v82 [1] := ho191
          refine ⟨(Ext.trans (Ext.trans (Ext.trans (Ext.drew _) hx162) hx184) hx190), ?_⟩
          refine WO.q rfl rfl rfl rfl (fun w' hE127 => (X.buildT (P := Try.prog) (t := 26) (cs := (oc ([7, 0, 0, 0, 0, 0, 0, 0, 0, 0, 0, 0, 0] : List Int) (.slice none 0 0) (.slice none 0 0) (.slice none 0 0) v82)) (zs := [i64 0, i64 0, i64 0, i64 0, i64 0, i64 0, i64 0, i64 0, i64 0, i64 0, i64 0, i64 0, i64 0, .slice none 0 0, .slice none 0 0, .slice none 0 0, .slice none 0 0]) (places := [(0, 1), (1, 1), (2, 1), (3, 1), (4, 1), (5, 1), (6, 1), (7, 1), (8, 1), (9, 1), (10, 1), (11, 1), (12, 1), (13, 1), (14, 1), (15, 1), (16, 1)]) (n := 17) (evp_cons rfl (evp_cons rfl evp_nil)) Try.type26 Try.underlying26 rfl rfl ⟨rfl, own_one o82, trivial⟩ rfl rfl rfl)) ?_
          refine WO.l ?_
          refine LO.go rfl rfl (OW.makeB (n := 32768) rfl rfl Try.underlying24 Try.type5 rfl rfl rfl (by omega) ?_ (by decide))
          intro v78 w78 ho193 hx192
          have o78 : OwnB w78 _ 5 v78 (List.replicate 32768 0) := ho193
          have := World.grownBy.size hx192
          refine ⟨(Ext.trans (Ext.trans (Ext.trans (Ext.trans (Ext.drew _) hx162) hx184) hx190) hx192), ?_⟩
          refine WO.q rfl rfl rfl rfl (fun w' hE127 => (X.buildT (P := Try.prog) (t := 26) (cs := (oc ([6, 0, 0, 0, 0, 0, 0, 1, 0, 0, 0, 0, 0] : List Int) (.slice none 0 0) (.slice none 0 0) (.slice none 0 0) v78)) (zs := [i64 0, i64 0, i64 0, i64 0, i64 0, i64 0, i64 0, i64 0, i64 0, i64 0, i64 0, i64 0, i64 0, .slice none 0 0, .slice none 0 0, .slice none 0 0, .slice none 0 0]) (places := [(0, 1), (1, 1), (2, 1), (3, 1), (4, 1), (5, 1), (6, 1), (7, 1), (8, 1), (9, 1), (10, 1), (11, 1), (12, 1), (13, 1), (14, 1), (15, 1), (16, 1)]) (n := 17) (evp_cons rfl (evp_cons rfl (evp_cons rfl evp_nil))) Try.type26 Try.underlying26 rfl rfl ⟨rfl, rfl, own_one o78, trivial⟩ rfl rfl rfl)) ?_
          refine WO.nil ?_
          exact ⟨v78, v80, v82, v85, rfl, rfl, rfl, rfl, rfl, rfl, rfl, rfl, rfl, rfl, rfl, rfl, rfl, rfl, rfl, rfl, rfl, rfl, rfl, rfl, rfl, rfl, rfl, rfl, rfl, rfl, rfl, rfl, rfl, rfl, rfl, rfl, rfl, rfl, rfl, (by repeat (first | exact (Agree.refl _ F128) | refine Agree.put ?_ rfl | refine Agree.named hF129 ?_)), (Ext.trans (Ext.trans (Ext.trans (Ext.trans (Ext.drew _) hx162) hx184) hx190) hx192), ⟨own_mono (own_ext o78 (Ext.refl w78)) (by omega), own_mono (own_ext o80 (Ext.trans (Ext.trans hx184 hx190) hx192)) (by omega), own_mono (own_ext o82 hx192) (by omega), own_mono (own_ext o85 (Ext.trans hx190 hx192)) (by omega)⟩⟩
    · refine LO.go rfl rfl (OW.lits (vs := [u8 1]) (evp_cons rfl evp_nil) Try.underlying24 Try.sizeOf5 Try.zeroValue5 ⟨rfl, trivial⟩ rfl rfl rfl ?_ (by decide))
      intro v82 w82 ho195 hx194
      have := World.grownBy.size hx194
      have o82 : OwnB w82 _ 5 v82 [1] := ho195
      refine ⟨(Ext.trans (Ext.drew _) hx194), ?_⟩
      refine WO.q rfl rfl rfl rfl (fun w' hE127 => (X.buildT (P := Try.prog) (t := 26) (cs := (oc ([7, 0, 0, 0, 0, 0, 0, 0, 0, 0, 0, 0, 0] : List Int) (.slice none 0 0) (.slice none 0 0) (.slice none 0 0) v82)) (zs := [i64 0, i64 0, i64 0, i64 0, i64 0, i64 0, i64 0, i64 0, i64 0, i64 0, i64 0, i64 0, i64 0, .slice none 0 0, .slice none 0 0, .slice none 0 0, .slice none 0 0]) (places := [(0, 1), (1, 1), (2, 1), (3, 1), (4, 1), (5, 1), (6, 1), (7, 1), (8, 1), (9, 1), (10, 1), (11, 1), (12, 1), (13, 1), (14, 1), (15, 1), (16, 1)]) (n := 17) (evp_cons rfl (evp_cons rfl evp_nil)) Try.type26 Try.underlying26 rfl rfl ⟨rfl, own_one o82, trivial⟩ rfl rfl rfl)) ?_
      refine WO.b3 ?_ ?_ ?_
      · refine LO.go rfl rfl (OW.makeB (n := 32768) rfl rfl Try.underlying24 Try.type5 rfl rfl rfl (by omega) ?_ (by decide))
        intro v78 w78 ho197 hx196
        have o78 : OwnB w78 _ 5 v78 (List.replicate 32768 0) := ho197
        have := World.grownBy.size hx196
        refine ⟨(Ext.trans (Ext.trans (Ext.drew _) hx194) hx196), ?_⟩
        refine WO.q rfl rfl rfl rfl (fun w' hE127 => (X.buildT (P := Try.prog) (t := 26) (cs := (oc ([6, 0, 0, 0, 0, 0, 0, 1, 0, 0, 0, 0, 0] : List Int) (.slice none 0 0) (.slice none 0 0) (.slice none 0 0) v78)) (zs := [i64 0, i64 0, i64 0, i64 0, i64 0, i64 0, i64 0, i64 0, i64 0, i64 0, i64 0, i64 0, i64 0, .slice none 0 0, .slice none 0 0, .slice none 0 0, .slice none 0 0]) (places := [(0, 1), (1, 1), (2, 1), (3, 1), (4, 1), (5, 1), (6, 1), (7, 1), (8, 1), (9, 1), (10, 1), (11, 1), (12, 1), (13, 1), (14, 1), (15, 1), (16, 1)]) (n := 17) (evp_cons rfl (evp_cons rfl (evp_cons rfl evp_nil))) Try.type26 Try.underlying26 rfl rfl ⟨rfl, rfl, own_one o78, trivial⟩ rfl rfl rfl)) ?_
        refine WO.b2 ?_ ?_
        · refine LO.go rfl rfl (OW.makeB (n := 32769) rfl rfl Try.underlying24 Try.type5 rfl rfl rfl (by omega) ?_ (by decide))
          intro v80 w80 ho199 hx198
          have o80 : OwnB w80 _ 5 v80 (List.replicate 32769 0) := ho199
          have := World.grownBy.size hx198
          refine ⟨(Ext.trans (Ext.trans (Ext.trans (Ext.drew _) hx194) hx196) hx198), ?_⟩
          refine WO.q rfl rfl rfl rfl (fun w' hE127 => (X.buildT (P := Try.prog) (t := 26) (cs := (oc ([6, 0, 0, 0, 0, 0, 0, 1, 0, 0, 0, 0, 0] : List Int) (.slice none 0 0) (.slice none 0 0) (.slice none 0 0) v80)) (zs := [i64 0, i64 0, i64 0, i64 0, i64 0, i64 0, i64 0, i64 0, i64 0, i64 0, i64 0, i64 0, i64 0, .slice none 0 0, .slice none 0 0, .slice none 0 0, .slice none 0 0]) (places := [(0, 1), (1, 1), (2, 1), (3, 1), (4, 1), (5, 1), (6, 1), (7, 1), (8, 1), (9, 1), (10, 1), (11, 1), (12, 1), (13, 1), (14, 1), (15, 1), (16, 1)]) (n := 17) (evp_cons rfl (evp_cons rfl (evp_cons rfl evp_nil))) Try.type26 Try.underlying26 rfl rfl ⟨rfl, rfl, own_one o80, trivial⟩ rfl rfl rfl)) ?_
          refine WO.l ?_
          refine LO.go rfl rfl (OW.lits (vs := [_]) (evp_cons rfl evp_nil) Try.underlying22 Try.sizeOf3 Try.zeroValue3 ⟨rfl, trivial⟩ rfl rfl rfl ?_ (by decide))
          intro v85 w85 ho201 hx200
          have := World.grownBy.size hx200
          have o85 : OwnI w85 _ 3 v85 [1] := ho201
          refine ⟨(Ext.trans (Ext.trans (Ext.trans (Ext.trans (Ext.drew _) hx194) hx196) hx198) hx200), ?_⟩
          refine WO.q rfl rfl rfl rfl (fun w' hE127 => (X.buildT (P := Try.prog) (t := 26) (cs := (oc ([7, 0, 0, 0, 0, 0, 0, 0, 0, 0, 0, 0, 0] : List Int) v85 (.slice none 0 0) (.slice none 0 0) (.slice none 0 0))) (zs := [i64 0, i64 0, i64 0, i64 0, i64 0, i64 0, i64 0, i64 0, i64 0, i64 0, i64 0, i64 0, i64 0, .slice none 0 0, .slice none 0 0, .slice none 0 0, .slice none 0 0]) (places := [(0, 1), (1, 1), (2, 1), (3, 1), (4, 1), (5, 1), (6, 1), (7, 1), (8, 1), (9, 1), (10, 1), (11, 1), (12, 1), (13, 1), (14, 1), (15, 1), (16, 1)]) (n := 17) (evp_cons rfl (evp_cons rfl evp_nil)) Try.type26 Try.underlying26 rfl rfl ⟨rfl, own_one o85, trivial⟩ rfl rfl rfl)) ?_
          refine WO.nil ?_
          exact ⟨v78, v80, v82, v85, rfl, rfl, rfl, rfl, rfl, rfl, rfl, rfl, rfl, rfl, rfl, rfl, rfl, rfl, rfl, rfl, rfl, rfl, rfl, rfl, rfl, rfl, rfl, rfl, rfl, rfl, rfl, rfl, rfl, rfl, rfl, rfl, rfl, rfl, rfl, (by repeat (first | exact (Agree.refl _ F128) | refine Agree.put ?_ rfl | refine Agree.named hF129 ?_)), (Ext.trans (Ext.trans (Ext.trans (Ext.trans (Ext.drew _) hx194) hx196) hx198) hx200), ⟨own_mono (own_ext o78 (Ext.trans hx198 hx200)) (by omega), own_mono (own_ext o80 hx200) (by omega), own_mono (own_ext o82 (Ext.trans (Ext.trans hx196 hx198) hx200)) (by omega), own_mono (own_ext o85 (Ext.refl w85)) (by omega)⟩⟩
        · refine LO.go rfl rfl (OW.lits (vs := [_]) (evp_cons rfl evp_nil) Try.underlying22 Try.sizeOf3 Try.zeroValue3 ⟨rfl, trivial⟩ rfl rfl rfl ?_ (by decide))
          intro v85 w85 ho203 hx202
          have := World.grownBy.size hx202
          have o85 : OwnI w85 _ 3 v85 [1] := ho203
          refine ⟨(Ext.trans (Ext.trans (Ext.trans (Ext.drew _) hx194) hx196) hx202), ?_⟩
          refine WO.q rfl rfl rfl rfl (fun w' hE127 => (X.buildT (P := Try.prog) (t := 26) (cs := (oc ([7, 0, 0, 0, 0, 0, 0, 0, 0, 0, 0, 0, 0] : List Int) v85 (.slice none 0 0) (.slice none 0 0) (.slice none 0 0))) (zs := [i64 0, i64 0, i64 0, i64 0, i64 0, i64 0, i64 0, i64 0, i64 0, i64 0, i64 0, i64 0, i64 0, .slice none 0 0, .slice none 0 0, .slice none 0 0, .slice none 0 0]) (places := [(0, 1), (1, 1), (2, 1), (3, 1), (4, 1), (5, 1), (6, 1), (7, 1), (8, 1), (9, 1), (10, 1), (11, 1), (12, 1), (13, 1), (14, 1), (15, 1), (16, 1)]) (n := 17) (evp_cons rfl (evp_cons rfl evp_nil)) Try.type26 Try.underlying26 rfl rfl ⟨rfl, own_one o85, trivial⟩ rfl rfl rfl)) ?_
          refine WO.l ?_
          refine LO.go rfl rfl (OW.makeB (n := 32769) rfl rfl Try.underlying24 Try.type5 rfl rfl rfl (by omega) ?_ (by decide))
          intro v80 w80 ho205 hx204
          have o80 : OwnB w80 _ 5 v80 (List.replicate 32769 0) := ho205
          have := World.grownBy.size hx204
          refine ⟨(Ext.trans (Ext.trans (Ext.trans (Ext.trans (Ext.drew _) hx194) hx196) hx202) hx204), ?_⟩
          refine WO.q rfl rfl rfl rfl (fun w' hE127 => (X.buildT (P := Try.prog) (t := 26) (cs := (oc ([6, 0, 0, 0, 0, 0, 0, 1, 0, 0, 0, 0, 0] : List Int) (.slice none 0 0) (.slice none 0 0) (.slice none 0 0) v80)) (zs := [i64 0, i64 0, i64 0, i64 0, i64 0, i64 0, i64 0, i64 0, i64 0, i64 0, i64 0, i64 0, i64 0, .slice none 0 0, .slice none 0 0, .slice none 0 0, .slice none 0 0]) (places := [(0, 1), (1, 1), (2, 1), (3, 1), (4, 1), (5, 1), (6, 1), (7, 1), (8, 1), (9, 1), (10, 1), (11, 1), (12, 1), (13, 1), (14, 1), (15, 1), (16, 1)]) (n := 17) (evp_cons rfl (evp_cons rfl (evp_cons rfl evp_nil))) Try.type26 Try.underlying26 rfl rfl ⟨rfl, rfl, own_one o80, trivial⟩ rfl rfl rfl)) ?_
          refine WO.nil ?_
          exact ⟨v78, v80, v82, v85, rfl, rfl, rfl, rfl, rfl, rfl, rfl, rfl, rfl, rfl, rfl, rfl, rfl, rfl, rfl, rfl, rfl, rfl, rfl, rfl, rfl, rfl, rfl, rfl, rfl, rfl, rfl, rfl, rfl, rfl, rfl, rfl, rfl, rfl, rfl, (by repeat (first | exact (Agree.refl _ F128) | refine Agree.put ?_ rfl | refine Agree.named hF129 ?_)), (Ext.trans (Ext.trans (Ext.trans (Ext.trans (Ext.drew _) hx194) hx196) hx202) hx204), ⟨own_mono (own_ext o78 (Ext.trans hx202 hx204)) (by omega), own_mono (own_ext o80 (Ext.refl w80)) (by omega), own_mono (own_ext o82 (Ext.trans (Ext.trans hx196 hx202) hx204)) (by omega), own_mono (own_ext o85 hx204) (by omega)⟩⟩
      · refine LO.go rfl rfl (OW.makeB (n := 32769) rfl rfl Try.underlying24 Try.type5 rfl rfl rfl (by omega) ?_ (by decide))
        intro v80 w80 ho207 hx206
        have o80 : OwnB w80 _ 5 v80 (List.replicate 32769 0) := ho207
        have := World.grownBy.size hx206
        refine ⟨(Ext.trans (Ext.trans (Ext.drew _) hx194) hx206), ?_⟩
        refine WO.q rfl rfl rfl rfl (fun w' hE127 => (X.buildT (P := Try.prog) (t := 26) (cs := (oc ([6, 0, 0, 0, 0, 0, 0, 1, 0, 0, 0, 0, 0] : List Int) (.slice none 0 0) (.slice none 0 0) (.slice none 0 0) v80)) (zs := [i64 0, i64 0, i64 0, i64 0, i64 0, i64 0, i64 0, i64 0, i64 0, i64 0, i64 0, i64 0, i64 0, .slice none 0 0, .slice none 0 0, .slice none 0 0, .slice none 0 0]) (places := [(0, 1), (1, 1), (2, 1), (3, 1), (4, 1), (5, 1), (6, 1), (7, 1), (8, 1), (9, 1), (10, 1), (11, 1), (12, 1), (13, 1), (14, 1), (15, 1), (16, 1)]) (n := 17) (evp_cons rfl (evp_cons rfl (evp_cons rfl evp_nil))) Try.type26 Try.underlying26 rfl rfl ⟨rfl, rfl, own_one o80, trivial⟩ rfl rfl rfl)) ?_
        refine WO.b2 ?_ ?_
        · refine LO.go rfl rfl (OW.makeB (n := 32768) rfl rfl Try.underlying24 Try.type5 rfl rfl rfl (by omega) ?_ (by decide))
          intro v78 w78 ho209 hx208
          have o78 : OwnB w78 _ 5 v78 (List.replicate 32768 0) := ho209
          have := World.grownBy.size hx208
          refine ⟨(Ext.trans (Ext.trans (Ext.trans (Ext.drew _) hx194) hx206) hx208), ?_⟩
          refine WO.q rfl rfl rfl rfl (fun w' hE127 => (X.buildT (P := Try.prog) (t := 26) (cs := (oc ([6, 0, 0, 0, 0, 0, 0, 1, 0, 0, 0, 0, 0] : List Int) (.slice none 0 0) (.slice none 0 0) (.slice none 0 0) v78)) (zs := [i64 0, i64 0, i64 0, i64 0, i64 0, i64 0, i64 0, i64 0, i64 0, i64 0, i64 0, i64 0, i64 0, .slice none 0 0, .slice none 0 0, .slice none 0 0, .slice none 0 0]) (places := [(0, 1), (1, 1), (2, 1), (3, 1), (4, 1), (5, 1), (6, 1), (7, 1), (8, 1), (9, 1), (10, 1), (11, 1), (12, 1), (13, 1), (14, 1), (15, 1), (16, 1)]) (n := 17) (evp_cons rfl (evp_cons rfl (evp_cons rfl evp_nil))) Try.type26 Try.underlying26 rfl rfl ⟨rfl, rfl, own_one o78, trivial⟩ rfl rfl rfl)) ?_
          refine WO.l ?_
          refine LO.go rfl rfl (OW.lits (vs := [_]) (evp_cons rfl evp_nil) Try.underlying22 Try.sizeOf3 Try.zeroValue3 ⟨rfl, trivial⟩ rfl rfl rfl ?_ (by decide))
          intro v85 w85 ho211 hx210
          have := World.grownBy.size hx210
          have o85 : OwnI w85 _ 3 v85 [1] := ho211
          refine ⟨(Ext.trans (Ext.trans (Ext.trans (Ext.trans (Ext.drew _) hx194) hx206) hx208) hx210), ?_⟩
          refine WO.q rfl rfl rfl rfl (fun w' hE127 => (X.buildT (P := Try.prog) (t := 26) (cs := (oc ([7, 0, 0, 0, 0, 0, 0, 0, 0, 0, 0, 0, 0] : List Int) v85 (.slice none 0 0) (.slice none 0 0) (.slice none 0 0))) (zs := [i64 0, i64 0, i64 0, i64 0, i64 0, i64 0, i64 0, i64 0, i64 0, i64 0, i64 0, i64 0, i64 0, .slice none 0 0, .slice none 0 0, .slice none 0 0, .slice none 0 0]) (places := [(0, 1), (1, 1), (2, 1), (3, 1), (4, 1), (5, 1), (6, 1), (7, 1), (8, 1), (9, 1), (10, 1), (11, 1), (12, 1), (13, 1), (14, 1), (15, 1), (16, 1)]) (n := 17) (evp_cons rfl (evp_cons rfl evp_nil)) Try.type26 Try.underlying26 rfl rfl ⟨rfl, own_one o85, trivial⟩ rfl rfl rfl)) ?_
          refine WO.nil ?_
          exact ⟨v78, v80, v82, v85, rfl, rfl, rfl, rfl, rfl, rfl, rfl, rfl, rfl, rfl, rfl, rfl, rfl, rfl, rfl, rfl, rfl, rfl, rfl, rfl, rfl, rfl, rfl, rfl, rfl, rfl, rfl, rfl, rfl, rfl, rfl, rfl, rfl, rfl, rfl, (by repeat (first | exact (Agree.refl _ F128) | refine Agree.put ?_ rfl | refine Agree.named hF129 ?_)), (Ext.trans (Ext.trans (Ext.trans (Ext.trans (Ext.drew _) hx194) hx206) hx208) hx210), ⟨own_mono (own_ext o78 hx210) (by omega), own_mono (own_ext o80 (Ext.trans hx208 hx210)) (by omega), own_mono (own_ext o82 (Ext.trans (Ext.trans hx206 hx208) hx210)) (by omega), own_mono (own_ext o85 (Ext.refl w85)) (by omega)⟩⟩
        · refine LO.go rfl rfl (OW.lits (vs := [_]) (evp_cons rfl evp_nil) Try.underlying22 Try.sizeOf3 Try.zeroValue3 ⟨rfl, trivial⟩ rfl rfl rfl ?_ (by decide))
          intro v85 w85 ho213 hx212
          have := World.grownBy.size hx212
          have o85 : OwnI w85 _ 3 v85 [1] := ho213
          refine ⟨(Ext.trans (Ext.trans (Ext.trans (Ext.drew _) hx194) hx206) hx212), ?_⟩
          refine WO.q rfl rfl rfl rfl (fun w' hE127 => (X.buildT (P := Try.prog) (t := 26) (cs := (oc ([7, 0, 0, 0, 0, 0, 0, 0, 0, 0, 0, 0, 0] : List Int) v85 (.slice none 0 0) (.slice none 0 0) (.slice none 0 0))) (zs := [i64 0, i64 0, i64 0, i64 0, i64 0, i64 0, i64 0, i64 0, i64 0, i64 0, i64 0, i64 0, i64 0, .slice none 0 0, .slice none 0 0, .slice none 0 0, .slice none 0 0]) (places := [(0, 1), (1, 1), (2, 1), (3, 1), (4, 1), (5, 1), (6, 1), (7, 1), (8, 1), (9, 1), (10, 1), (11, 1), (12, 1), (13, 1), (14, 1), (15, 1), (16, 1)]) (n := 17) (evp_cons rfl (evp_cons rfl evp_nil)) Try.type26 Try.underlying26 rfl rfl ⟨rfl, own_one o85, trivial⟩ rfl rfl rfl)) ?_
          refine WO.l ?_
          refine LO.go rfl rfl (OW.makeB (n := 32768) rfl rfl Try.underlying24 Try.type5 rfl rfl rfl (by omega) ?_ (by decide))
          intro v78 w78 ho215 hx214
          have o78 : OwnB w78 _ 5 v78 (List.replicate 32768 0) := ho215
          have := World.grownBy.size hx214
          refine ⟨(Ext.trans (Ext.trans (Ext.trans (Ext.trans (Ext.drew _) hx194) hx206) hx212) hx214), ?_⟩
          refine WO.q rfl rfl rfl rfl (fun w' hE127 => (X.buildT (P := Try.prog) (t := 26) (cs := (oc ([6, 0, 0, 0, 0, 0, 0, 1, 0, 0, 0, 0, 0] : List Int) (.slice none 0 0) (.slice none 0 0) (.slice none 0 0) v78)) (zs := [i64 0, i64 0, i64 0, i64 0, i64 0, i64 0, i64 0, i64 0, i64 0, i64 0, i64 0, i64 0, i64 0, .slice none 0 0, .slice none 0 0, .slice none 0 0, .slice none 0 0]) (places := [(0, 1), (1, 1), (2, 1), (3, 1), (4, 1), (5, 1), (6, 1), (7, 1), (8, 1), (9, 1), (10, 1), (11, 1), (12, 1), (13, 1), (14, 1), (15, 1), (16, 1)]) (n := 17) (evp_cons rfl (evp_cons rfl (evp_cons rfl evp_nil))) Try.type26 Try.underlying26 rfl rfl ⟨rfl, rfl, own_one o78, trivial⟩ rfl rfl rfl)) ?_
          refine WO.nil ?_
          exact ⟨v78, v80, v82, v85, rfl, rfl, rfl, rfl, rfl, rfl, rfl, rfl, rfl, rfl, rfl, rfl, rfl, rfl, rfl, rfl, rfl, rfl, rfl, rfl, rfl, rfl, rfl, rfl, rfl, rfl, rfl, rfl, rfl, rfl, rfl, rfl, rfl, rfl, rfl, (by repeat (first | exact (Agree.refl _ F128) | refine Agree.put ?_ rfl | refine Agree.named hF129 ?_)), (Ext.trans (Ext.trans (Ext.trans (Ext.trans (Ext.drew _) hx194) hx206) hx212) hx214), ⟨own_mono (own_ext o78 (Ext.refl w78)) (by omega), own_mono (own_ext o80 (Ext.trans hx212 hx214)) (by omega), own_mono (own_ext o82 (Ext.trans (Ext.trans hx206 hx212) hx214)) (by omega), own_mono (own_ext o85 hx214) (by omega)⟩⟩
      · refine LO.go rfl rfl (OW.lits (vs := [_]) (evp_cons rfl evp_nil) Try.underlying22 Try.sizeOf3 Try.zeroValue3 ⟨rfl, trivial⟩ rfl rfl rfl ?_ (by decide))
        intro v85 w85 ho217 hx216
        have := World.grownBy.size hx216
        have o85 : OwnI w85 _ 3 v85 [1] := ho217
        refine ⟨(Ext.trans (Ext.trans (Ext.drew _) hx194) hx216), ?_⟩
        refine WO.q rfl rfl rfl rfl (fun w' hE127 => (X.buildT (P := Try.prog) (t := 26) (cs := (oc ([7, 0, 0, 0, 0, 0, 0, 0, 0, 0, 0, 0, 0] : List Int) v85 (.slice none 0 0) (.slice none 0 0) (.slice none 0 0))) (zs := [i64 0, i64 0, i64 0, i64 0, i64 0, i64 0, i64 0, i64 0, i64 0, i64 0, i64 0, i64 0, i64 0, .slice none 0 0, .slice none 0 0, .slice none 0 0, .slice none 0 0]) (places := [(0, 1), (1, 1), (2, 1), (3, 1), (4, 1), (5, 1), (6, 1), (7, 1), (8, 1), (9, 1), (10, 1), (11, 1), (12, 1), (13, 1), (14, 1), (15, 1), (16, 1)]) (n := 17) (evp_cons rfl (evp_cons rfl evp_nil)) Try.type26 Try.underlying26 rfl rfl ⟨rfl, own_one o85, trivial⟩ rfl rfl rfl)) ?_
        refine WO.b2 ?_ ?_
        · refine LO.go rfl rfl (OW.makeB (n := 32768) rfl rfl Try.underlying24 Try.type5 rfl rfl rfl (by omega) ?_ (by decide))
          intro v78 w78 ho219 hx218
          have o78 : OwnB w78 _ 5 v78 (List.replicate 32768 0) := ho219
          have := World.grownBy.size hx218
          refine ⟨(Ext.trans (Ext.trans (Ext.trans (Ext.drew _) hx194) hx216) hx218), ?_⟩
          refine WO.q rfl rfl rfl rfl (fun w' hE127 => (X.buildT (P := Try.prog) (t := 26) (cs := (oc ([6, 0, 0, 0, 0, 0, 0, 1, 0, 0, 0, 0, 0] : List Int) (.slice none 0 0) (.slice none 0 0) (.slice none 0 0) v78)) (zs := [i64 0, i64 0, i64 0, i64 0, i64 0, i64 0, i64 0, i64 0, i64 0, i64 0, i64 0, i64 0, i64 0, .slice none 0 0, .slice none 0 0, .slice none 0 0, .slice none 0 0]) (places := [(0, 1), (1, 1), (2, 1), (3, 1), (4, 1), (5, 1), (6, 1), (7, 1), (8, 1), (9, 1), (10, 1), (11, 1), (12, 1), (13, 1), (14, 1), (15, 1), (16, 1)]) (n := 17) (evp_cons rfl (evp_cons rfl (evp_cons rfl evp_nil))) Try.type26 Try.underlying26 rfl rfl ⟨rfl, rfl, own_one o78, trivial⟩ rfl rfl rfl)) ?_
          refine WO.l ?_
          refine LO.go rfl rfl (OW.makeB (n := 32769) rfl rfl Try.underlying24 Try.type5 rfl rfl rfl (by omega) ?_ (by decide))
          intro v80 w80 ho221 hx220
          have o80 : OwnB w80 _ 5 v80 (List.replicate 32769 0) := ho221
          have := World.grownBy.size hx220
          refine ⟨(Ext.trans (Ext.trans (Ext.trans (Ext.trans (Ext.drew _) hx194) hx216) hx218) hx220), ?_⟩
          refine WO.q rfl rfl rfl rfl (fun w' hE127 => (X.buildT (P := Try.prog) (t := 26) (cs := (oc ([6, 0, 0, 0, 0, 0, 0, 1, 0, 0, 0, 0, 0] : List Int) (.slice none 0 0) (.slice none 0 0) (.slice none 0 0) v80)) (zs := [i64 0, i64 0, i64 0, i64 0, i64 0, i64 0, i64 0, i64 0, i64 0, i64 0, i64 0, i64 0, i64 0, .slice none 0 0, .slice none 0 0, .slice none 0 0, .slice none 0 0]) (places := [(0, 1), (1, 1), (2, 1), (3, 1), (4, 1), (5, 1), (6, 1), (7, 1), (8, 1), (9, 1), (10, 1), (11, 1), (12, 1), (13, 1), (14, 1), (15, 1), (16, 1)]) (n := 17) (evp_cons rfl (evp_cons rfl (evp_cons rfl evp_nil))) Try.type26 Try.underlying26 rfl rfl ⟨rfl, rfl, own_one o80, trivial⟩ rfl rfl rfl)) ?_
          refine WO.nil ?_
          exact ⟨v78, v80, v82, v85, rfl, rfl, rfl, rfl, rfl, rfl, rfl, rfl, rfl, rfl, rfl, rfl, rfl, rfl, rfl, rfl, rfl, rfl, rfl, rfl, rfl, rfl, rfl, rfl, rfl, rfl, rfl, rfl, rfl, rfl, rfl, rfl, rfl, rfl, rfl, (by repeat (first | exact (Agree.refl _ F128) | refine Agree.put ?_ rfl | refine Agree.named hF129 ?_)), (Ext.trans (Ext.trans (Ext.trans (Ext.trans (Ext.drew _) hx194) hx216) hx218) hx220), ⟨own_mono (own_ext o78 hx220) (by omega), own_mono (own_ext o80 (Ext.refl w80)) (by omega), own_mono (own_ext o82 (Ext.trans (Ext.trans hx216 hx218) hx220)) (by omega), own_mono (own_ext o85 (Ext.trans hx218 hx220)) (by omega)⟩⟩
        · refine LO.go rfl rfl (OW.makeB (n := 32769) rfl rfl Try.underlying24 Try.type5 rfl rfl rfl (by omega) ?_ (by decide))
          intro v80 w80 ho223 hx222
          have o80 : OwnB w80 _ 5 v80 (List.replicate 32769 0) := ho223
          have := World.grownBy.size hx222
          refine ⟨(Ext.trans (Ext.trans (Ext.trans (Ext.drew _) hx194) hx216) hx222), ?_⟩
          refine WO.q rfl rfl rfl rfl (fun w' hE127 => (X.buildT (P := Try.prog) (t := 26) (cs := (oc ([6, 0, 0, 0, 0, 0, 0, 1, 0, 0, 0, 0, 0] : List Int) (.slice none 0 0) (.slice none 0 0) (.slice none 0 0) v80)) (zs := [i64 0, i64 0, i64 0, i64 0, i64 0, i64 0, i64 0, i64 0, i64 0, i64 0, i64 0, i64 0, i64 0, .slice none 0 0, .slice none 0 0, .slice none 0 0, .slice none 0 0]) (places := [(0, 1), (1, 1), (2, 1), (3, 1), (4, 1), (5, 1), (6, 1), (7, 1), (8, 1), (9, 1), (10, 1), (11, 1), (12, 1), (13, 1), (14, 1), (15, 1), (16, 1)]) (n := 17) (evp_cons rfl (evp_cons rfl (evp_cons rfl evp_nil))) Try.type26 Try.underlying26 rfl rfl ⟨rfl, rfl, own_one o80, trivial⟩ rfl rfl rfl)) ?_
          refine WO.l ?_
          refine LO.go rfl rfl (OW.makeB (n := 32768) rfl rfl Try.underlying24 Try.type5 rfl rfl rfl (by omega) ?_ (by decide))
          intro v78 w78 ho225 hx224
          have o78 : OwnB w78 _ 5 v78 (List.replicate 32768 0) := ho225
          have := World.grownBy.size hx224
          refine ⟨(Ext.trans (Ext.trans (Ext.trans (Ext.trans (Ext.drew _) hx194) hx216) hx222) hx224), ?_⟩
          refine WO.q rfl rfl rfl rfl (fun w' hE127 => (X.buildT (P := Try.prog) (t := 26) (cs := (oc ([6, 0, 0, 0, 0, 0, 0, 1, 0, 0, 0, 0, 0] : List Int) (.slice none 0 0) (.slice none 0 0) (.slice none 0 0) v78)) (zs := [i64 0, i64 0, i64 0, i64 0, i64 0, i64 0, i64 0, i64 0, i64 0, i64 0, i64 0, i64 0, i64 0, .slice none 0 0, .slice none 0 0, .slice none 0 0, .slice none 0 0]) (places := [(0, 1), (1, 1), (2, 1), (3, 1), (4, 1), (5, 1), (6, 1), (7, 1), (8, 1), (9, 1), (10, 1), (11, 1), (12, 1), (13, 1), (14, 1), (15, 1), (16, 1)]) (n := 17) (evp_cons rfl (evp_cons rfl (evp_cons rfl evp_nil))) Try.type26 Try.underlying26 rfl rfl ⟨rfl, rfl, own_one o78, trivial⟩ rfl rfl rfl)) ?_
          refine WO.nil ?_
          exact ⟨v78, v80, v82, v85, rfl, rfl, rfl, rfl, rfl, rfl, rfl, rfl, rfl, rfl, rfl, rfl, rfl, rfl, rfl, rfl, rfl, rfl, rfl, rfl, rfl, rfl, rfl, rfl, rfl, rfl, rfl, rfl, rfl, rfl, rfl, rfl, rfl, rfl, rfl, (by repeat (first | exact (Agree.refl _ F128) | refine Agree.put ?_ rfl | refine Agree.named hF129 ?_)), (Ext.trans (Ext.trans (Ext.trans (Ext.trans (Ext.drew _) hx194) hx216) hx222) hx224), ⟨own_mono (own_ext o78 (Ext.refl w78)) (by omega), own_mono (own_ext o80 hx224) (by omega), own_mono (own_ext o82 (Ext.trans (Ext.trans hx216 hx222) hx224)) (by omega), own_mono (own_ext o85 (Ext.trans hx222 hx224)) (by omega)⟩⟩
    · refine LO.go rfl rfl (OW.lits (vs := [_]) (evp_cons rfl evp_nil) Try.underlying22 Try.sizeOf3 Try.zeroValue3 ⟨rfl, trivial⟩ rfl rfl rfl ?_ (by decide))
      intro v85 w85 ho227 hx226
      have := World.grownBy.size hx226
      have o85 : OwnI w85 _ 3 v85 [1] := ho227
      refine ⟨(Ext.trans (Ext.drew _) hx226), ?_⟩
      refine WO.q rfl rfl rfl rfl (fun w' hE127 => (X.buildT (P := Try.prog) (t := 26) (cs := (oc ([7, 0, 0, 0, 0, 0, 0, 0, 0, 0, 0, 0, 0] : List Int) v85 (.slice none 0 0) (.slice none 0 0) (.slice none 0 0))) (zs := [i64 0, i64 0, i64 0, i64 0, i64 0, i64 0, i64 0, i64 0, i64 0, i64 0, i64 0, i64 0, i64 0, .slice none 0 0, .slice none 0 0, .slice none 0 0, .slice none 0 0]) (places := [(0, 1), (1, 1), (2, 1), (3, 1), (4, 1), (5, 1), (6, 1), (7, 1), (8, 1), (9, 1), (10, 1), (11, 1), (12, 1), (13, 1), (14, 1), (15, 1), (16, 1)]) (n := 17) (evp_cons rfl (evp_cons rfl evp_nil)) Try.type26 Try.underlying26 rfl rfl ⟨rfl, own_one o85, trivial⟩ rfl rfl rfl)) ?_
      refine WO.b3 ?_ ?_ ?_
      · refine LO.go rfl rfl (OW.makeB (n := 32768) rfl rfl Try.underlying24 Try.type5 rfl rfl rfl (by omega) ?_ (by decide))
        intro v78 w78 ho229 hx228
        have o78 : OwnB w78 _ 5 v78 (List.replicate 32768 0) := ho229
        have := World.grownBy.size hx228
        refine ⟨(Ext.trans (Ext.trans (Ext.drew _) hx226) hx228), ?_⟩
        refine WO.q rfl rfl rfl rfl (fun w' hE127 => (X.buildT (P := Try.prog) (t := 26) (cs := (oc ([6, 0, 0, 0, 0, 0, 0, 1, 0, 0, 0, 0, 0] : List Int) (.slice none 0 0) (.slice none 0 0) (.slice none 0 0) v78)) (zs := [i64 0, i64 0, i64 0, i64 0, i64 0, i64 0, i64 0, i64 0, i64 0, i64 0, i64 0, i64 0, i64 0, .slice none 0 0, .slice none 0 0, .slice none 0 0, .slice none 0 0]) (places := [(0, 1), (1, 1), (2, 1), (3, 1), (4, 1), (5, 1), (6, 1), (7, 1), (8, 1), (9, 1), (10, 1), (11, 1), (12, 1), (13, 1), (14, 1), (15, 1), (16, 1)]) (n := 17) (evp_cons rfl (evp_cons rfl (evp_cons rfl evp_nil))) Try.type26 Try.underlying26 rfl rfl ⟨rfl, rfl, own_one o78, trivial⟩ rfl rfl rfl)) ?_
        refine WO.b2 ?_ ?_
        · refine LO.go rfl rfl (OW.makeB (n := 32769) rfl rfl Try.underlying24 Try.type5 rfl rfl rfl (by omega) ?_ (by decide))
          intro v80 w80 ho231 hx230
          have o80 : OwnB w80 _ 5 v80 (List.replicate 32769 0) := ho231
          have := World.grownBy.size hx230
          refine ⟨(Ext.trans (Ext.trans (Ext.trans (Ext.drew _) hx226) hx228) hx230), ?_⟩
          refine WO.q rfl rfl rfl rfl (fun w' hE127 => (X.buildT (P := Try.prog) (t := 26) (cs := (oc ([6, 0, 0, 0, 0, 0, 0, 1, 0, 0, 0, 0, 0] : List Int) (.slice none 0 0) (.slice none 0 0) (.slice none 0 0) v80)) (zs := [i64 0, i64 0, i64 0, i64 0, i64 0, i64 0, i64 0, i64 0, i64 0, i64 0, i64 0, i64 0, i64 0, .slice none 0 0, .slice none 0 0, .slice none 0 0, .slice none 0 0]) (places := [(0, 1), (1, 1), (2, 1), (3, 1), (4, 1), (5, 1), (6, 1), (7, 1), (8, 1), (9, 1), (10, 1), (11, 1), (12, 1), (13, 1), (14, 1), (15, 1), (16, 1)]) (n := 17) (evp_cons rfl (evp_cons rfl (evp_cons rfl evp_nil))) Try.type26 Try.underlying26 rfl rfl ⟨rfl, rfl, own_one o80, trivial⟩ rfl rfl rfl)) ?_
          refine WO.l ?_
          refine LO.go rfl rfl (OW.lits (vs := [u8 1]) (evp_cons rfl evp_nil) Try.underlying24 Try.sizeOf5 Try.zeroValue5 ⟨rfl, trivial⟩ rfl rfl rfl ?_ (by decide))
          intro v82 w82 ho233 hx232
          have := World.grownBy.size hx232
          have o82 : OwnB w82 _ 5 v82 [1] := ho233
          refine ⟨(Ext.trans (Ext.trans (Ext.trans (Ext.trans (Ext.drew _) hx226) hx228) hx230) hx232), ?_⟩
          refine WO.q rfl rfl rfl rfl (fun w' hE127 => (X.buildT (P := Try.prog) (t := 26) (cs := (oc ([7, 0, 0, 0, 0, 0, 0, 0, 0, 0, 0, 0, 0] : List Int) (.slice none 0 0) (.slice none 0 0) (.slice none 0 0) v82)) (zs := [i64 0, i64 0, i64 0, i64 0, i64 0, i64 0, i64 0, i64 0, i64 0, i64 0, i64 0, i64 0, i64 0, .slice none 0 0, .slice none 0 0, .slice none 0 0, .slice none 0 0]) (places := [(0, 1), (1, 1), (2, 1), (3, 1), (4, 1), (5, 1), (6, 1), (7, 1), (8, 1), (9, 1), (10, 1), (11, 1), (12, 1), (13, 1), (14, 1), (15, 1), (16, 1)]) (n := 17) (evp_cons rfl (evp_cons rfl evp_nil)) Try.type26 Try.underlying26 rfl rfl ⟨rfl, own_one o82, trivial⟩ rfl rfl rfl)) ?_
          refine WO.nil ?_
          exact ⟨v78, v80, v82, v85, rfl, rfl, rfl, rfl, rfl, rfl, rfl, rfl, rfl, rfl, rfl, rfl, rfl, rfl, rfl, rfl, rfl, rfl, rfl, rfl, rfl, rfl, rfl, rfl, rfl, rfl, rfl, rfl, rfl, rfl, rfl, rfl, rfl, rfl, rfl, (by repeat (first | exact (Agree.refl _ F128) | refine Agree.put ?_ rfl | refine Agree.named hF129 ?_)), (Ext.trans (Ext.trans (Ext.trans (Ext.trans (Ext.drew _) hx226) hx228) hx230) hx232), ⟨own_mono (own_ext o78 (Ext.trans hx230 hx232)) (by omega), own_mono (own_ext o80 hx232) (by omega), own_mono (own_ext o82 (Ext.refl w82)) (by omega), own_mono (own_ext o85 (Ext.trans (Ext.trans hx228 hx230) hx232)) (by omega)⟩⟩
        · refine LO.go rfl rfl (OW.lits (vs := [u8 1]) (evp_cons rfl evp_nil) Try.underlying24 Try.sizeOf5 Try.zeroValue5 ⟨rfl, trivial⟩ rfl rfl rfl ?_ (by decide))
          intro v82 w82 ho235 hx234
          have := World.grownBy.size hx234
          have o82 : OwnB w82 _ 5 v82 [1] := ho235
          refine ⟨(Ext.trans (Ext.trans (Ext.trans (Ext.drew _) hx226) hx228) hx234), ?_⟩
          refine WO.q rfl rfl rfl rfl (fun w' hE127 => (X.buildT (P := Try.prog) (t := 26) (cs := (oc ([7, 0, 0, 0, 0, 0, 0, 0, 0, 0, 0, 0, 0] : List Int) (.slice none 0 0) (.slice none 0 0) (.slice none 0 0) v82)) (zs := [i64 0, i64 0, i64 0, i64 0, i64 0, i64 0, i64 0, i64 0, i64 0, i64 0, i64 0, i64 0, i64 0, .slice none 0 0, .slice none 0 0, .slice none 0 0, .slice none 0 0]) (places := [(0, 1), (1, 1), (2, 1), (3, 1), (4, 1), (5, 1), (6, 1), (7, 1), (8, 1), (9, 1), (10, 1), (11, 1), (12, 1), (13, 1), (14, 1), (15, 1), (16, 1)]) (n := 17) (evp_cons rfl (evp_cons rfl evp_nil)) Try.type26 Try.underlying26 rfl rfl ⟨rfl, own_one o82, trivial⟩ rfl rfl rfl)) ?_
          refine WO.l ?_
          refine LO.go rfl rfl (OW.makeB (n := 32769) rfl rfl Try.underlying24 Try.type5 rfl rfl rfl (by omega) ?_ (by decide))
          intro v80 w80 ho237 hx236
          have o80 : OwnB w80 _ 5 v80 (List.replicate 32769 0) := ho237
          have := World.grownBy.size hx236
          refine ⟨(Ext.trans (Ext.trans (Ext.trans (Ext.trans (Ext.drew _) hx226) hx228) hx234) hx236), ?_⟩
          refine WO.q rfl rfl rfl rfl (fun w' hE127 => (X.buildT (P := Try.prog) (t := 26) (cs := (oc ([6, 0, 0, 0, 0, 0, 0, 1, 0, 0, 0, 0, 0] : List Int) (.slice none 0 0) (.slice none 0 0) (.slice none 0 0) v80)) (zs := [i64 0, i64 0, i64 0, i64 0, i64 0, i64 0, i64 0, i64 0, i64 0, i64 0, i64 0, i64 0, i64 0, .slice none 0 0, .slice none 0 0, .slice none 0 0, .slice none 0 0]) (places := [(0, 1), (1, 1), (2, 1), (3, 1), (4, 1), (5, 1), (6, 1), (7, 1), (8, 1), (9, 1), (10, 1), (11, 1), (12, 1), (13, 1), (14, 1), (15, 1), (16, 1)]) (n := 17) (evp_cons rfl (evp_cons rfl (evp_cons rfl evp_nil))) Try.type26 Try.underlying26 rfl rfl ⟨rfl, rfl, own_one o80, trivial⟩ rfl rfl rfl)) ?_
          refine WO.nil ?_
          exact ⟨v78, v80, v82, v85, rfl, rfl, rfl, rfl, rfl, rfl, rfl, rfl, rfl, rfl, rfl, rfl, rfl, rfl, rfl, rfl, rfl, rfl, rfl, rfl, rfl, rfl, rfl, rfl, rfl, rfl, rfl, rfl, rfl, rfl, rfl, rfl, rfl, rfl, rfl, (by repeat (first | exact (Agree.refl _ F128) | refine Agree.put ?_ rfl | refine Agree.named hF129 ?_)), (Ext.trans (Ext.trans (Ext.trans (Ext.trans (Ext.drew _) hx226) hx228) hx234) hx236), ⟨own_mono (own_ext o78 (Ext.trans hx234 hx236)) (by omega), own_mono (own_ext o80 (Ext.refl w80)) (by omega), own_mono (own_ext o82 hx236) (by omega), own_mono (own_ext o85 (Ext.trans (Ext.trans hx228 hx234) hx236)) (by omega)⟩⟩
      · refine LO.go rfl rfl (OW.makeB (n := 32769) rfl rfl Try.underlying24 Try.type5 rfl rfl rfl (by omega) ?_ (by decide))
        intro v80 w80 ho239 hx238
        have o80 : OwnB w80 _ 5 v80 (List.replicate 32769 0) := ho239
        have := World.grownBy.size hx238
        refine ⟨(Ext.trans (Ext.trans (Ext.drew _) hx226) hx238), ?_⟩
        refine WO.q rfl rfl rfl rfl (fun w' hE127 => (X.buildT (P := Try.prog) (t := 26) (cs := (oc ([6, 0, 0, 0, 0, 0, 0, 1, 0, 0, 0, 0, 0] : List Int) (.slice none 0 0) (.slice none 0 0) (.slice none 0 0) v80)) (zs := [i64 0, i64 0, i64 0, i64 0, i64 0, i64 0, i64 0, i64 0, i64 0, i64 0, i64 0, i64 0, i64 0, .slice none 0 0, .slice none 0 0, .slice none 0 0, .slice none 0 0]) (places := [(0, 1), (1, 1), (2, 1), (3, 1), (4, 1), (5, 1), (6, 1), (7, 1), (8, 1), (9, 1), (10, 1), (11, 1), (12, 1), (13, 1), (14, 1), (15, 1), (16, 1)]) (n := 17) (evp_cons rfl (evp_cons rfl (evp_cons rfl evp_nil))) Try.type26 Try.underlying26 rfl rfl ⟨rfl, rfl, own_one o80, trivial⟩ rfl rfl rfl)) ?_
        refine WO.b2 ?_ ?_
        · refine LO.go rfl rfl (OW.makeB (n := 32768) rfl rfl Try.underlying24 Try.type5 rfl rfl rfl (by omega) ?_ (by decide))
          intro v78 w78 ho241 hx240
          have o78 : OwnB w78 _ 5 v78 (List.replicate 32768 0) := ho241
          have := World.grownBy.size hx240
          refine ⟨(Ext.trans (Ext.trans (Ext.trans (Ext.drew _) hx226) hx238) hx240), ?_⟩
          refine WO.q rfl rfl rfl rfl (fun w' hE127 => (X.buildT (P := Try.prog) (t := 26) (cs := (oc ([6, 0, 0, 0, 0, 0, 0, 1, 0, 0, 0, 0, 0] : List Int) (.slice none 0 0) (.slice none 0 0) (.slice none 0 0) v78)) (zs := [i64 0, i64 0, i64 0, i64 0, i64 0, i64 0, i64 0, i64 0, i64 0, i64 0, i64 0, i64 0, i64 0, .slice none 0 0, .slice none 0 0, .slice none 0 0, .slice none 0 0]) (places := [(0, 1), (1, 1), (2, 1), (3, 1), (4, 1), (5, 1), (6, 1), (7, 1), (8, 1), (9, 1), (10, 1), (11, 1), (12, 1), (13, 1), (14, 1), (15, 1), (16, 1)]) (n := 17) (evp_cons rfl (evp_cons rfl (evp_cons rfl evp_nil))) Try.type26 Try.underlying26 rfl rfl ⟨rfl, rfl, own_one o78, trivial⟩ rfl rfl rfl)) ?_
          refine WO.l ?_
          refine LO.go rfl rfl (OW.lits (vs := [u8 1]) (evp_cons rfl evp_nil) Try.underlying24 Try.sizeOf5 Try.zeroValue5 ⟨rfl, trivial⟩ rfl rfl rfl ?_ (by decide))
          intro v82 w82 ho243 hx242
          have := World.grownBy.size hx242
          have o82 : OwnB w82 _ 5 v82 [1] := ho243
          refine ⟨(Ext.trans (Ext.trans (Ext.trans (Ext.trans (Ext.drew _) hx226) hx238) hx240) hx242), ?_⟩
          refine WO.q rfl rfl rfl rfl (fun w' hE127 => (X.buildT (P := Try.prog) (t := 26) (cs := (oc ([7, 0, 0, 0, 0, 0, 0, 0, 0, 0, 0, 0, 0] : List Int) (.slice none 0 0) (.slice none 0 0) (.slice none 0 0) v82)) (zs := [i64 0, i64 0, i64 0, i64 0, i64 0, i64 0, i64 0, i64 0, i64 0, i64 0, i64 0, i64 0, i64 0, .slice none 0 0, .slice none 0 0, .slice none 0 0, .slice none 0 0]) (places := [(0, 1), (1, 1), (2, 1), (3, 1), (4, 1), (5, 1), (6, 1), (7, 1), (8, 1), (9, 1), (10, 1), (11, 1), (12, 1), (13, 1), (14, 1), (15, 1), (16, 1)]) (n := 17) (evp_cons rfl (evp_cons rfl evp_nil)) Try.type26 Try.underlying26 rfl rfl ⟨rfl, own_one o82, trivial⟩ rfl rfl rfl)) ?_
          refine WO.nil ?_
          exact ⟨v78, v80, v82, v85, rfl, rfl, rfl, rfl, rfl, rfl, rfl, rfl, rfl, rfl, rfl, rfl, rfl, rfl, rfl, rfl, rfl, rfl, rfl, rfl, rfl, rfl, rfl, rfl, rfl, rfl, rfl, rfl, rfl, rfl, rfl, rfl, rfl, rfl, rfl, (by repeat (first | exact (Agree.refl _ F128) | refine Agree.put ?_ rfl | refine Agree.named hF129 ?_)), (Ext.trans (Ext.trans (Ext.trans (Ext.trans (Ext.drew _) hx226) hx238) hx240) hx242), ⟨own_mono (own_ext o78 hx242) (by omega), own_mono (own_ext o80 (Ext.trans hx240 hx242)) (by omega), own_mono (own_ext o82 (Ext.refl w82)) (by omega), own_mono (own_ext o85 (Ext.trans (Ext.trans hx238 hx240) hx242)) (by omega)⟩⟩
        · refine LO.go rfl rfl (OW.lits (vs := [u8 1]) (evp_cons rfl evp_nil) Try.underlying24 Try.sizeOf5 Try.zeroValue5 ⟨rfl, trivial⟩ rfl rfl rfl ?_ (by decide))
          intro v82 w82 ho245 hx244
          have := World.grownBy.size hx244
          have o82 : OwnB w82 _ 5 v82 [1] := ho245
          refine ⟨(Ext.trans (Ext.trans (Ext.trans (Ext.drew _) hx226) hx238) hx244), ?_⟩
          refine WO.q rfl rfl rfl rfl (fun w' hE127 => (X.buildT (P := Try.prog) (t := 26) (cs := (oc ([7, 0, 0, 0, 0, 0, 0, 0, 0, 0, 0, 0, 0] : List Int) (.slice none 0 0) (.slice none 0 0) (.slice none 0 0) v82)) (zs := [i64 0, i64 0, i64 0, i64 0, i64 0, i64 0, i64 0, i64 0, i64 0, i64 0, i64 0, i64 0, i64 0, .slice none 0 0, .slice none 0 0, .slice none 0 0, .slice none 0 0]) (places := [(0, 1), (1, 1), (2, 1), (3, 1), (4, 1), (5, 1), (6, 1), (7, 1), (8, 1), (9, 1), (10, 1), (11, 1), (12, 1), (13, 1), (14, 1), (15, 1), (16, 1)]) (n := 17) (evp_cons rfl (evp_cons rfl evp_nil)) Try.type26 Try.underlying26 rfl rfl ⟨rfl, own_one o82, trivial⟩ rfl rfl rfl)) ?_
          refine WO.l ?_
          refine LO.go rfl rfl (OW.makeB (n := 32768) rfl rfl Try.underlying24 Try.type5 rfl rfl rfl (by omega) ?_ (by decide))
          intro v78 w78 ho247 hx246
          have o78 : OwnB w78 _ 5 v78 (List.replicate 32768 0) := ho247
          have := World.grownBy.size hx246
          refine ⟨(Ext.trans (Ext.trans (Ext.trans (Ext.trans (Ext.drew _) hx226) hx238) hx244) hx246), ?_⟩
          refine WO.q rfl rfl rfl rfl (fun w' hE127 => (X.buildT (P := Try.prog) (t := 26) (cs := (oc ([6, 0, 0, 0, 0, 0, 0, 1, 0, 0, 0, 0, 0] : List Int) (.slice none 0 0) (.slice none 0 0) (.slice none 0 0) v78)) (zs := [i64 0, i64 0, i64 0, i64 0, i64 0, i64 0, i64 0, i64 0, i64 0, i64 0, i64 0, i64 0, i64 0, .slice none 0 0, .slice none 0 0, .slice none 0 0, .slice none 0 0]) (places := [(0, 1), (1, 1), (2, 1), (3, 1), (4, 1), (5, 1), (6, 1), (7, 1), (8, 1), (9, 1), (10, 1), (11, 1), (12, 1), (13, 1), (14, 1), (15, 1), (16, 1)]) (n := 17) (evp_cons rfl (evp_cons rfl (evp_cons rfl evp_nil))) Try.type26 Try.underlying26 rfl rfl ⟨rfl, rfl, own_one o78, trivial⟩ rfl rfl rfl)) ?_
          refine WO.nil ?_
          exact ⟨v78, v80, v82, v85, rfl, rfl, rfl, rfl, rfl, rfl, rfl, rfl, rfl, rfl, rfl, rfl, rfl, rfl, rfl, rfl, rfl, rfl, rfl, rfl, rfl, rfl, rfl, rfl, rfl, rfl, rfl, rfl, rfl, rfl, rfl, rfl, rfl, rfl, rfl, (by repeat (first | exact (Agree.refl _ F128) | refine Agree.put ?_ rfl | refine Agree.named hF129 ?_)), (Ext.trans (Ext.trans (Ext.trans (Ext.trans (Ext.drew _) hx226) hx238) hx244) hx246), ⟨own_mono (own_ext o78 (Ext.refl w78)) (by omega), own_mono (own_ext o80 (Ext.trans hx244 hx246)) (by omega), own_mono (own_ext o82 hx246) (by omega), own_mono (own_ext o85 (Ext.trans (Ext.trans hx238 hx244) hx246)) (by omega)⟩⟩
      · refine LO.go rfl rfl (OW.lits (vs := [u8 1]) (evp_cons rfl evp_nil) Try.underlying24 Try.sizeOf5 Try.zeroValue5 ⟨rfl, trivial⟩ rfl rfl rfl ?_ (by decide))
        intro v82 w82 ho249 hx248
        have := World.grownBy.size hx248
        have o82 : OwnB w82 _ 5 v82 [1] := ho249
        refine ⟨(Ext.trans (Ext.trans (Ext.drew _) hx226) hx248), ?_⟩
        refine WO.q rfl rfl rfl rfl (fun w' hE127 => (X.buildT (P := Try.prog) (t := 26) (cs := (oc ([7, 0, 0, 0, 0, 0, 0, 0, 0, 0, 0, 0, 0] : List Int) (.slice none 0 0) (.slice none 0 0) (.slice none 0 0) v82)) (zs := [i64 0, i64 0, i64 0, i64 0, i64 0, i64 0, i64 0, i64 0, i64 0, i64 0, i64 0, i64 0, i64 0, .slice none 0 0, .slice none 0 0, .slice none 0 0, .slice none 0 0]) (places := [(0, 1), (1, 1), (2, 1), (3, 1), (4, 1), (5, 1), (6, 1), (7, 1), (8, 1), (9, 1), (10, 1), (11, 1), (12, 1), (13, 1), (14, 1), (15, 1), (16, 1)]) (n := 17) (evp_cons rfl (evp_cons rfl evp_nil)) Try.type26 Try.underlying26 rfl rfl ⟨rfl, own_one o82, trivial⟩ rfl rfl rfl)) ?_
        refine WO.b2 ?_ ?_
        · refine LO.go rfl rfl (OW.makeB (n := 32768) rfl rfl Try.underlying24 Try.type5 rfl rfl rfl (by omega) ?_ (by decide))
          intro v78 w78 ho251 hx250
          have o78 : OwnB w78 _ 5 v78 (List.replicate 32768 0) := ho251
          have := World.grownBy.size hx250
          refine ⟨(Ext.trans (Ext.trans (Ext.trans (Ext.drew _) hx226) hx248) hx250), ?_⟩
          refine WO.q rfl rfl rfl rfl (fun w' hE127 => (X.buildT (P := Try.prog) (t := 26) (cs := (oc ([6, 0, 0, 0, 0, 0, 0, 1, 0, 0, 0, 0, 0] : List Int) (.slice none 0 0) (.slice none 0 0) (.slice none 0 0) v78)) (zs := [i64 0, i64 0, i64 0, i64 0, i64 0, i64 0, i64 0, i64 0, i64 0, i64 0, i64 0, i64 0, i64 0, .slice none 0 0, .slice none 0 0, .slice none 0 0, .slice none 0 0]) (places := [(0, 1), (1, 1), (2, 1), (3, 1), (4, 1), (5, 1), (6, 1), (7, 1), (8, 1), (9, 1), (10, 1), (11, 1), (12, 1), (13, 1), (14, 1), (15, 1), (16, 1)]) (n := 17) (evp_cons rfl (evp_cons rfl (evp_cons rfl evp_nil))) Try.type26 Try.underlying26 rfl rfl ⟨rfl, rfl, own_one o78, trivial⟩ rfl rfl rfl)) ?_
          refine WO.l ?_
          refine LO.go rfl rfl (OW.makeB (n := 32769) rfl rfl Try.underlying24 Try.type5 rfl rfl rfl (by omega) ?_ (by decide))
          intro v80 w80 ho253 hx252
          have o80 : OwnB w80 _ 5 v80 (List.replicate 32769 0) := ho253
          have := World.grownBy.size hx252
          refine ⟨(Ext.trans (Ext.trans (Ext.trans (Ext.trans (Ext.drew _) hx226) hx248) hx250) hx252), ?_⟩
          refine WO.q rfl rfl rfl rfl (fun w' hE127 => (X.buildT (P := Try.prog) (t := 26) (cs := (oc ([6, 0, 0, 0, 0, 0, 0, 1, 0, 0, 0, 0, 0] : List Int) (.slice none 0 0) (.slice none 0 0) (.slice none 0 0) v80)) (zs := [i64 0, i64 0, i64 0, i64 0, i64 0, i64 0, i64 0, i64 0, i64 0, i64 0, i64 0, i64 0, i64 0, .slice none 0 0, .slice none 0 0, .slice none 0 0, .slice none 0 0]) (places := [(0, 1), (1, 1), (2, 1), (3, 1), (4, 1), (5, 1), (6, 1), (7, 1), (8, 1), (9, 1), (10, 1), (11, 1), (12, 1), (13, 1), (14, 1), (15, 1), (16, 1)]) (n := 17) (evp_cons rfl (evp_cons rfl (evp_cons rfl evp_nil))) Try.type26 Try.underlying26 rfl rfl ⟨rfl, rfl, own_one o80, trivial⟩ rfl rfl rfl)) ?_
          refine WO.nil ?_
          exact ⟨v78, v80, v82, v85, rfl, rfl, rfl, rfl, rfl, rfl, rfl, rfl, rfl, rfl, rfl, rfl, rfl, rfl, rfl, rfl, rfl, rfl, rfl, rfl, rfl, rfl, rfl, rfl, rfl, rfl, rfl, rfl, rfl, rfl, rfl, rfl, rfl, rfl, rfl, (by repeat (first | exact (Agree.refl _ F128) | refine Agree.put ?_ rfl | refine Agree.named hF129 ?_)), (Ext.trans (Ext.trans (Ext.trans (Ext.trans (Ext.drew _) hx226) hx248) hx250) hx252), ⟨own_mono (own_ext o78 hx252) (by omega), own_mono (own_ext o80 (Ext.refl w80)) (by omega), own_mono (own_ext o82 (Ext.trans hx250 hx252)) (by omega), own_mono (own_ext o85 (Ext.trans (Ext.trans hx248 hx250) hx252)) (by omega)⟩⟩
        · refine LO.go rfl rfl (OW.makeB (n := 32769) rfl rfl Try.underlying24 Try.type5 rfl rfl rfl (by omega) ?_ (by decide))
          intro v80 w80 ho255 hx254
          have o80 : OwnB w80 _ 5 v80 (List.replicate 32769 0) := ho255
          have := World.grownBy.size hx254
          refine ⟨(Ext.trans (Ext.trans (Ext.trans (Ext.drew _) hx226) hx248) hx254), ?_⟩
          refine WO.q rfl rfl rfl rfl (fun w' hE127 => (X.buildT (P := Try.prog) (t := 26) (cs := (oc ([6, 0, 0, 0, 0, 0, 0, 1, 0, 0, 0, 0, 0] : List Int) (.slice none 0 0) (.slice none 0 0) (.slice none 0 0) v80)) (zs := [i64 0, i64 0, i64 0, i64 0, i64 0, i64 0, i64 0, i64 0, i64 0, i64 0, i64 0, i64 0, i64 0, .slice none 0 0, .slice none 0 0, .slice none 0 0, .slice none 0 0]) (places := [(0, 1), (1, 1), (2, 1), (3, 1), (4, 1), (5, 1), (6, 1), (7, 1), (8, 1), (9, 1), (10, 1), (11, 1), (12, 1), (13, 1), (14, 1), (15, 1), (16, 1)]) (n := 17) (evp_cons rfl (evp_cons rfl (evp_cons rfl evp_nil))) Try.type26 Try.underlying26 rfl rfl ⟨rfl, rfl, own_one o80, trivial⟩ rfl rfl rfl)) ?_
          refine WO.l ?_
          refine LO.go rfl rfl (OW.makeB (n := 32768) rfl rfl Try.underlying24 Try.type5 rfl rfl rfl (by omega) ?_ (by decide))
          intro v78 w78 ho257 hx256
          have o78 : OwnB w78 _ 5 v78 (List.replicate 32768 0) := ho257
          have := World.grownBy.size hx256
          refine ⟨(Ext.trans (Ext.trans (Ext.trans (Ext.trans (Ext.drew _) hx226) hx248) hx254) hx256), ?_⟩
          refine WO.q rfl rfl rfl rfl (fun w' hE127 => (X.buildT (P := Try.prog) (t := 26) (cs := (oc ([6, 0, 0, 0, 0, 0, 0, 1, 0, 0, 0, 0, 0] : List Int) (.slice none 0 0) (.slice none 0 0) (.slice none 0 0) v78)) (zs := [i64 0, i64 0, i64 0, i64 0, i64 0, i64 0, i64 0, i64 0, i64 0, i64 0, i64 0, i64 0, i64 0, .slice none 0 0, .slice none 0 0, .slice none 0 0, .slice none 0 0]) (places := [(0, 1), (1, 1), (2, 1), (3, 1), (4, 1), (5, 1), (6, 1), (7, 1), (8, 1), (9, 1), (10, 1), (11, 1), (12, 1), (13, 1), (14, 1), (15, 1), (16, 1)]) (n := 17) (evp_cons rfl (evp_cons rfl (evp_cons rfl evp_nil))) Try.type26 Try.underlying26 rfl rfl ⟨rfl, rfl, own_one o78, trivial⟩ rfl rfl rfl)) ?_
          refine WO.nil ?_
          exact ⟨v78, v80, v82, v85, rfl, rfl, rfl, rfl, rfl, rfl, rfl, rfl, rfl, rfl, rfl, rfl, rfl, rfl, rfl, rfl, rfl, rfl, rfl, rfl, rfl, rfl, rfl, rfl, rfl, rfl, rfl, rfl, rfl, rfl, rfl, rfl, rfl, rfl, rfl, (by repeat (first | exact (Agree.refl _ F128) | refine Agree.put ?_ rfl | refine Agree.named hF129 ?_)), (Ext.trans (Ext.trans (Ext.trans (Ext.trans (Ext.drew _) hx226) hx248) hx254) hx256), ⟨own_mono (own_ext o78 (Ext.refl w78)) (by omega), own_mono (own_ext o80 hx256) (by omega), own_mono (own_ext o82 (Ext.trans hx254 hx256)) (by omega), own_mono (own_ext o85 (Ext.trans (Ext.trans hx248 hx254) hx256)) (by omega)⟩⟩
  · rintro fJ19 wJ19 ⟨v78, v80, v82, v85, e48_J19, e49_J19, e50_J19, e51_J19, e52_J19, e53_J19, e54_J19, e55_J19, e56_J19, e57_J19, e58_J19, e59_J19, e60_J19, e61_J19, e62_J19, e63_J19, e64_J19, e65_J19, e66_J19, e67_J19, e68_J19, e69_J19, e70_J19, e71_J19, e72_J19, e73_J19, e74_J19, e75_J19, e76_J19, e77_J19, e79_J19, e81_J19, e83_J19, e84_J19, e86_J19, hAJ19, hwJ19, ⟨o78, o80, o82, o85⟩⟩
    have := World.grownBy.size hwJ19
    refine WL.op rfl (OW.lits (vs := [agg (oc ([2, 1, 3, 5, 2, 1, 0, 0, 0, 0, 0, 0, 0] : List Int) (.slice none 0 0) a2 a3 (.slice none 0 0)), agg (oc ([2, 1, 3, 5, 2, 1, 0, 0, 0, 0, 0, 0, 0] : List Int) lb b2 b3 (.slice none 0 0)), agg (oc ([2, 1, 3, 5, 2, 1, 0, 0, 0, 0, 0, 0, 0] : List Int) c1 c2 c3 (.slice none 0 0)), agg (oc ([2, 1, 3, 5, 2, 1, 0, 0, 0, 0, 0, 0, 0] : List Int) d1 ld d3 (.slice none 0 0)), agg (oc ([2, 1, 3, 5, 2, 1, 0, 0, 0, 7, 0, 0, 0] : List Int) e1 e2 e3 (.slice none 0 0)), agg (oc ([2, 1, 3, 5, 2, 1, 0, 64, 0, 7, 0, 0, 0] : List Int) e1 e2 e3 (.slice none 0 0)), agg (oc ([2, 1, 3, 5, 2, 1, 0, 0, 0, 0, 0, 0, 0] : List Int) q1 lg q3 (.slice none 0 0)), agg (oc ([2, 1, 3, 5, 2, 1, 0, 0, 0, 0, 0, 0, 0] : List Int) h1 h2 h3 lh), agg (oc ([2, 1, 3, 5, 2, 1, 0, 0, 0, 0, 0, 0, 0] : List Int) li i2 i3 (.slice none 0 0)), agg (oc ([3, 0, 0, 5, 0, 0, 0, 0, 0, 0, 3, 0, 0] : List Int) (.slice none 0 0) (.slice none 0 0) (.slice none 0 0) (.slice none 0 0)), agg (oc ([3, 0, 0, 0, 0, 0, 0, 0, 0, 0, 1, 0, 0] : List Int) (.slice none 0 0) (.slice none 0 0) (.slice none 0 0) (.slice none 0 0)), agg (oc ([3, 0, 0, 5, 0, 2, 0, 0, 0, 0, 1, 0, 0] : List Int) (.slice none 0 0) (.slice none 0 0) (.slice none 0 0) (.slice none 0 0)), agg (oc ([12, 0, 0, 0, 0, 0, 0, 0, 0, 0, 0, 0, 0] : List Int) (.slice none 0 0) (.slice none 0 0) (.slice none 0 0) (.slice none 0 0)), agg (oc ([0, 0, 0, 0, 0, 0, 0, 0, 0, 0, 0, 0, 0] : List Int) (.slice none 0 0) (.slice none 0 0) (.slice none 0 0) (.slice none 0 0)), agg (oc ([8, 0, 0, 0, 0, 0, 0, 0, 0, 0, 0, 0, 0] : List Int) (.slice none 0 0) (.slice none 0 0) (.slice none 0 0) (.slice none 0 0)), agg (oc ([8, 5, 0, 0, 0, 0, 0, 0, 0, 0, 0, 0, 0] : List Int) (.slice none 0 0) (.slice none 0 0) (.slice none 0 0) (.slice none 0 0)), agg (oc ([8, 0, -1, 0, 0, 0, 0, 0, 0, 0, 0, 0, 0] : List Int) (.slice none 0 0) (.slice none 0 0) (.slice none 0 0) (.slice none 0 0)), agg (oc ([9, 0, 0, 0, 0, 0, 0, 1, 0, 0, 0, 1, 5] : List Int) (.slice none 0 0) (.slice none 0 0) (.slice none 0 0) (.slice none 0 0)), agg (oc ([9, 0, 0, 0, 0, 0, 0, 1, 0, 0, 0, 1, 1] : List Int) (.slice none 0 0) (.slice none 0 0) (.slice none 0 0) (.slice none 0 0)), agg (oc ([11, 0, 0, 0, 0, 0, 0, 0, 0, 0, 2, 0, 7] : List Int) (.slice none 0 0) (.slice none 0 0) (.slice none 0 0) (.slice none 0 0)), agg (oc ([11, 0, 0, 0, 0, 0, 0, 0, 0, 0, 2, 0, 8] : List Int) (.slice none 0 0) (.slice none 0 0) (.slice none 0 0) (.slice none 0 0)), agg (oc ([5, 0, 0, 0, 0, 0, 3, 3, 0, 0, 0, 0, 0] : List Int) (.slice none 0 0) (.slice none 0 0) (.slice none 0 0) (.slice none 0 0)), agg (oc ([5, 0, 0, 0, 0, 0, -1, 3, 0, 0, 0, 0, 0] : List Int) (.slice none 0 0) (.slice none 0 0) (.slice none 0 0) (.slice none 0 0)), agg (oc ([5, 0, 0, 0, 0, 0, 63, 64, 0, 0, 0, 0, 0] : List Int) (.slice none 0 0) (.slice none 0 0) (.slice none 0 0) (.slice none 0 0)), agg (oc ([5, 0, 0, 0, 0, 0, 63, 65, 0, 0, 0, 0, 0] : List Int) (.slice none 0 0) (.slice none 0 0) (.slice none 0 0) (.slice none 0 0)), agg (oc ([1, 0, 0, 1, 0, 0, 0, 0, 63, 0, 0, 0, 0] : List Int) (.slice none 0 0) (.slice none 0 0) (.slice none 0 0) (.slice none 0 0)), agg (oc ([1, 0, 0, 1, 0, 0, 0, 0, 64, 0, 0, 0, 0] : List Int) (.slice none 0 0) (.slice none 0 0) (.slice none 0 0) (.slice none 0 0)), agg (oc ([4, 0, 0, 0, 0, 0, 0, 0, 1, 0, 0, 0, 0] : List Int) (.slice none 0 0) (.slice none 0 0) (.slice none 0 0) (.slice none 0 0)), agg (oc ([4, 0, 0, 0, 0, 0, 0, 0, 0, 1099511627776, 0, 0, 0] : List Int) (.slice none 0 0) (.slice none 0 0) (.slice none 0 0) (.slice none 0 0)), agg (oc ([4, 0, 0, 0, 0, 0, 0, 0, 0, 1099511627777, 0, 0, 0] : List Int) (.slice none 0 0) (.slice none 0 0) (.slice none 0 0) (.slice none 0 0)), agg (oc ([6, 0, 0, 0, 0, 0, 0, 1, 0, 0, 0, 0, 0] : List Int) (.slice none 0 0) (.slice none 0 0) (.slice none 0 0) v78), agg (oc ([6, 0, 0, 0, 0, 0, 0, 1, 0, 0, 0, 0, 0] : List Int) (.slice none 0 0) (.slice none 0 0) (.slice none 0 0) v80), agg (oc ([7, 0, 0, 0, 0, 0, 0, 0, 0, 0, 0, 0, 0] : List Int) (.slice none 0 0) (.slice none 0 0) (.slice none 0 0) v82), agg (oc ([10, 0, 0, 0, 0, -1, 0, 0, 0, 0, 0, 0, 0] : List Int) (.slice none 0 0) (.slice none 0 0) (.slice none 0 0) (.slice none 0 0)), agg (oc ([7, 0, 0, 0, 0, 0, 0, 0, 0, 0, 0, 0, 0] : List Int) v85 (.slice none 0 0) (.slice none 0 0) (.slice none 0 0))]) (evp_cons e48_J19 (evp_cons e49_J19 (evp_cons e50_J19 (evp_cons e51_J19 (evp_cons e52_J19 (evp_cons e53_J19 (evp_cons e54_J19 (evp_cons e55_J19 (evp_cons e56_J19 (evp_cons e57_J19 (evp_cons e58_J19 (evp_cons e59_J19 (evp_cons e60_J19 (evp_cons e61_J19 (evp_cons e62_J19 (evp_cons e63_J19 (evp_cons e64_J19 (evp_cons e65_J19 (evp_cons e66_J19 (evp_cons e67_J19 (evp_cons e68_J19 (evp_cons e69_J19 (evp_cons e70_J19 (evp_cons e71_J19 (evp_cons e72_J19 (evp_cons e73_J19 (evp_cons e74_J19 (evp_cons e75_J19 (evp_cons e76_J19 (evp_cons e77_J19 (evp_cons e79_J19 (evp_cons e81_J19 (evp_cons e83_J19 (evp_cons e84_J19 (evp_cons e86_J19 evp_nil))))))))))))))))))))))))))))))))))) Try.underlying53 Try.sizeOf26 Try.zeroValue26 ⟨rfl, rfl, rfl, rfl, rfl, rfl, rfl, rfl, rfl, rfl, rfl, rfl, rfl, rfl, rfl, rfl, rfl, rfl, rfl, rfl, rfl, rfl, rfl, rfl, rfl, rfl, rfl, rfl, rfl, rfl, rfl, rfl, rfl, rfl, rfl, trivial⟩ rfl rfl rfl ?_ (by decide))
    intro vE w39 ho259 hx258
    have := World.grownBy.size hx258
    have hvs : ([agg (oc ([2, 1, 3, 5, 2, 1, 0, 0, 0, 0, 0, 0, 0] : List Int) (.slice none 0 0) a2 a3 (.slice none 0 0)), agg (oc ([2, 1, 3, 5, 2, 1, 0, 0, 0, 0, 0, 0, 0] : List Int) lb b2 b3 (.slice none 0 0)), agg (oc ([2, 1, 3, 5, 2, 1, 0, 0, 0, 0, 0, 0, 0] : List Int) c1 c2 c3 (.slice none 0 0)), agg (oc ([2, 1, 3, 5, 2, 1, 0, 0, 0, 0, 0, 0, 0] : List Int) d1 ld d3 (.slice none 0 0)), agg (oc ([2, 1, 3, 5, 2, 1, 0, 0, 0, 7, 0, 0, 0] : List Int) e1 e2 e3 (.slice none 0 0)), agg (oc ([2, 1, 3, 5, 2, 1, 0, 64, 0, 7, 0, 0, 0] : List Int) e1 e2 e3 (.slice none 0 0)), agg (oc ([2, 1, 3, 5, 2, 1, 0, 0, 0, 0, 0, 0, 0] : List Int) q1 lg q3 (.slice none 0 0)), agg (oc ([2, 1, 3, 5, 2, 1, 0, 0, 0, 0, 0, 0, 0] : List Int) h1 h2 h3 lh), agg (oc ([2, 1, 3, 5, 2, 1, 0, 0, 0, 0, 0, 0, 0] : List Int) li i2 i3 (.slice none 0 0)), agg (oc ([3, 0, 0, 5, 0, 0, 0, 0, 0, 0, 3, 0, 0] : List Int) (.slice none 0 0) (.slice none 0 0) (.slice none 0 0) (.slice none 0 0)), agg (oc ([3, 0, 0, 0, 0, 0, 0, 0, 0, 0, 1, 0, 0] : List Int) (.slice none 0 0) (.slice none 0 0) (.slice none 0 0) (.slice none 0 0)), agg (oc ([3, 0, 0, 5, 0, 2, 0, 0, 0, 0, 1, 0, 0] : List Int) (.slice none 0 0) (.slice none 0 0) (.slice none 0 0) (.slice none 0 0)), agg (oc ([12, 0, 0, 0, 0, 0, 0, 0, 0, 0, 0, 0, 0] : List Int) (.slice none 0 0) (.slice none 0 0) (.slice none 0 0) (.slice none 0 0)), agg (oc ([0, 0, 0, 0, 0, 0, 0, 0, 0, 0, 0, 0, 0] : List Int) (.slice none 0 0) (.slice none 0 0) (.slice none 0 0) (.slice none 0 0)), agg (oc ([8, 0, 0, 0, 0, 0, 0, 0, 0, 0, 0, 0, 0] : List Int) (.slice none 0 0) (.slice none 0 0) (.slice none 0 0) (.slice none 0 0)), agg (oc ([8, 5, 0, 0, 0, 0, 0, 0, 0, 0, 0, 0, 0] : List Int) (.slice none 0 0) (.slice none 0 0) (.slice none 0 0) (.slice none 0 0)), agg (oc ([8, 0, -1, 0, 0, 0, 0, 0, 0, 0, 0, 0, 0] : List Int) (.slice none 0 0) (.slice none 0 0) (.slice none 0 0) (.slice none 0 0)), agg (oc ([9, 0, 0, 0, 0, 0, 0, 1, 0, 0, 0, 1, 5] : List Int) (.slice none 0 0) (.slice none 0 0) (.slice none 0 0) (.slice none 0 0)), agg (oc ([9, 0, 0, 0, 0, 0, 0, 1, 0, 0, 0, 1, 1] : List Int) (.slice none 0 0) (.slice none 0 0) (.slice none 0 0) (.slice none 0 0)), agg (oc ([11, 0, 0, 0, 0, 0, 0, 0, 0, 0, 2, 0, 7] : List Int) (.slice none 0 0) (.slice none 0 0) (.slice none 0 0) (.slice none 0 0)), agg (oc ([11, 0, 0, 0, 0, 0, 0, 0, 0, 0, 2, 0, 8] : List Int) (.slice none 0 0) (.slice none 0 0) (.slice none 0 0) (.slice none 0 0)), agg (oc ([5, 0, 0, 0, 0, 0, 3, 3, 0, 0, 0, 0, 0] : List Int) (.slice none 0 0) (.slice none 0 0) (.slice none 0 0) (.slice none 0 0)), agg (oc ([5, 0, 0, 0, 0, 0, -1, 3, 0, 0, 0, 0, 0] : List Int) (.slice none 0 0) (.slice none 0 0) (.slice none 0 0) (.slice none 0 0)), agg (oc ([5, 0, 0, 0, 0, 0, 63, 64, 0, 0, 0, 0, 0] : List Int) (.slice none 0 0) (.slice none 0 0) (.slice none 0 0) (.slice none 0 0)), agg (oc ([5, 0, 0, 0, 0, 0, 63, 65, 0, 0, 0, 0, 0] : List Int) (.slice none 0 0) (.slice none 0 0) (.slice none 0 0) (.slice none 0 0)), agg (oc ([1, 0, 0, 1, 0, 0, 0, 0, 63, 0, 0, 0, 0] : List Int) (.slice none 0 0) (.slice none 0 0) (.slice none 0 0) (.slice none 0 0)), agg (oc ([1, 0, 0, 1, 0, 0, 0, 0, 64, 0, 0, 0, 0] : List Int) (.slice none 0 0) (.slice none 0 0) (.slice none 0 0) (.slice none 0 0)), agg (oc ([4, 0, 0, 0, 0, 0, 0, 0, 1, 0, 0, 0, 0] : List Int) (.slice none 0 0) (.slice none 0 0) (.slice none 0 0) (.slice none 0 0)), agg (oc ([4, 0, 0, 0, 0, 0, 0, 0, 0, 1099511627776, 0, 0, 0] : List Int) (.slice none 0 0) (.slice none 0 0) (.slice none 0 0) (.slice none 0 0)), agg (oc ([4, 0, 0, 0, 0, 0, 0, 0, 0, 1099511627777, 0, 0, 0] : List Int) (.slice none 0 0) (.slice none 0 0) (.slice none 0 0) (.slice none 0 0)), agg (oc ([6, 0, 0, 0, 0, 0, 0, 1, 0, 0, 0, 0, 0] : List Int) (.slice none 0 0) (.slice none 0 0) (.slice none 0 0) v78), agg (oc ([6, 0, 0, 0, 0, 0, 0, 1, 0, 0, 0, 0, 0] : List Int) (.slice none 0 0) (.slice none 0 0) (.slice none 0 0) v80), agg (oc ([7, 0, 0, 0, 0, 0, 0, 0, 0, 0, 0, 0, 0] : List Int) (.slice none 0 0) (.slice none 0 0) (.slice none 0 0) v82), agg (oc ([10, 0, 0, 0, 0, -1, 0, 0, 0, 0, 0, 0, 0] : List Int) (.slice none 0 0) (.slice none 0 0) (.slice none 0 0) (.slice none 0 0)), agg (oc ([7, 0, 0, 0, 0, 0, 0, 0, 0, 0, 0, 0, 0] : List Int) v85 (.slice none 0 0) (.slice none 0 0) (.slice none 0 0))] : List Value) = ([((⟨[2, 1, 3, 5, 2, 1, 0, 0, 0, 0, 0, 0, 0], [], [7], [⟨4, [1, 2, 3, 4]⟩, ⟨9, [0, 0, 0, 0]⟩], []⟩ : Od), (.slice none 0 0), a2, a3, (.slice none 0 0)), ((⟨[2, 1, 3, 5, 2, 1, 0, 0, 0, 0, 0, 0, 0], [1, 1], [7], [⟨4, [1, 2, 3, 4]⟩, ⟨9, [0, 0, 0, 0]⟩], []⟩ : Od), lb, b2, b3, (.slice none 0 0)), ((⟨[2, 1, 3, 5, 2, 1, 0, 0, 0, 0, 0, 0, 0], [1, 3], [7], [⟨4, [1, 2, 3]⟩, ⟨9, [0, 0, 0, 0]⟩], []⟩ : Od), c1, c2, c3, (.slice none 0 0)), ((⟨[2, 1, 3, 5, 2, 1, 0, 0, 0, 0, 0, 0, 0], [1, 3], [5, 4], [⟨4, [1, 2, 3, 4]⟩, ⟨9, [0, 0, 0, 0]⟩], []⟩ : Od), d1, ld, d3, (.slice none 0 0)), ((⟨[2, 1, 3, 5, 2, 1, 0, 0, 0, 7, 0, 0, 0], [1, 3], [7], [⟨4, [1, 2, 3, 4]⟩, ⟨9, [0, 0, 0, 0]⟩], []⟩ : Od), e1, e2, e3, (.slice none 0 0)), ((⟨[2, 1, 3, 5, 2, 1, 0, 64, 0, 7, 0, 0, 0], [1, 3], [7], [⟨4, [1, 2, 3, 4]⟩, ⟨9, [0, 0, 0, 0]⟩], []⟩ : Od), e1, e2, e3, (.slice none 0 0)), ((⟨[2, 1, 3, 5, 2, 1, 0, 0, 0, 0, 0, 0, 0], [1, 3], List.replicate 17 0, [⟨4, [1, 2, 3, 4]⟩, ⟨9, [0, 0, 0, 0]⟩], []⟩ : Od), q1, lg, q3, (.slice none 0 0)), ((⟨[2, 1, 3, 5, 2, 1, 0, 0, 0, 0, 0, 0, 0], [1, 3], [7], [⟨4, [1, 2, 3, 4]⟩, ⟨9, [0, 0, 0, 0]⟩], [1]⟩ : Od), h1, h2, h3, lh), ((⟨[2, 1, 3, 5, 2, 1, 0, 0, 0, 0, 0, 0, 0], [5], [7], [⟨4, [1, 2, 3, 4]⟩, ⟨9, [0, 0, 0, 0]⟩], []⟩ : Od), li, i2, i3, (.slice none 0 0)), ((⟨[3, 0, 0, 5, 0, 0, 0, 0, 0, 0, 3, 0, 0], [], [], [], []⟩ : Od), (.slice none 0 0), (.slice none 0 0), (.slice none 0 0), (.slice none 0 0)), ((⟨[3, 0, 0, 0, 0, 0, 0, 0, 0, 0, 1, 0, 0], [], [], [], []⟩ : Od), (.slice none 0 0), (.slice none 0 0), (.slice none 0 0), (.slice none 0 0)), ((⟨[3, 0, 0, 5, 0, 2, 0, 0, 0, 0, 1, 0, 0], [], [], [], []⟩ : Od), (.slice none 0 0), (.slice none 0 0), (.slice none 0 0), (.slice none 0 0)), ((⟨[12, 0, 0, 0, 0, 0, 0, 0, 0, 0, 0, 0, 0], [], [], [], []⟩ : Od), (.slice none 0 0), (.slice none 0 0), (.slice none 0 0), (.slice none 0 0)), ((⟨[0, 0, 0, 0, 0, 0, 0, 0, 0, 0, 0, 0, 0], [], [], [], []⟩ : Od), (.slice none 0 0), (.slice none 0 0), (.slice none 0 0), (.slice none 0 0)), ((⟨[8, 0, 0, 0, 0, 0, 0, 0, 0, 0, 0, 0, 0], [], [], [], []⟩ : Od), (.slice none 0 0), (.slice none 0 0), (.slice none 0 0), (.slice none 0 0)), ((⟨[8, 5, 0, 0, 0, 0, 0, 0, 0, 0, 0, 0, 0], [], [], [], []⟩ : Od), (.slice none 0 0), (.slice none 0 0), (.slice none 0 0), (.slice none 0 0)), ((⟨[8, 0, -1, 0, 0, 0, 0, 0, 0, 0, 0, 0, 0], [], [], [], []⟩ : Od), (.slice none 0 0), (.slice none 0 0), (.slice none 0 0), (.slice none 0 0)), ((⟨[9, 0, 0, 0, 0, 0, 0, 1, 0, 0, 0, 1, 5], [], [], [], []⟩ : Od), (.slice none 0 0), (.slice none 0 0), (.slice none 0 0), (.slice none 0 0)), ((⟨[9, 0, 0, 0, 0, 0, 0, 1, 0, 0, 0, 1, 1], [], [], [], []⟩ : Od), (.slice none 0 0), (.slice none 0 0), (.slice none 0 0), (.slice none 0 0)), ((⟨[11, 0, 0, 0, 0, 0, 0, 0, 0, 0, 2, 0, 7], [], [], [], []⟩ : Od), (.slice none 0 0), (.slice none 0 0), (.slice none 0 0), (.slice none 0 0)), ((⟨[11, 0, 0, 0, 0, 0, 0, 0, 0, 0, 2, 0, 8], [], [], [], []⟩ : Od), (.slice none 0 0), (.slice none 0 0), (.slice none 0 0), (.slice none 0 0)), ((⟨[5, 0, 0, 0, 0, 0, 3, 3, 0, 0, 0, 0, 0], [], [], [], []⟩ : Od), (.slice none 0 0), (.slice none 0 0), (.slice none 0 0), (.slice none 0 0)), ((⟨[5, 0, 0, 0, 0, 0, -1, 3, 0, 0, 0, 0, 0], [], [], [], []⟩ : Od), (.slice none 0 0), (.slice none 0 0), (.slice none 0 0), (.slice none 0 0)), ((⟨[5, 0, 0, 0, 0, 0, 63, 64, 0, 0, 0, 0, 0], [], [], [], []⟩ : Od), (.slice none 0 0), (.slice none 0 0), (.slice none 0 0), (.slice none 0 0)), ((⟨[5, 0, 0, 0, 0, 0, 63, 65, 0, 0, 0, 0, 0], [], [], [], []⟩ : Od), (.slice none 0 0), (.slice none 0 0), (.slice none 0 0), (.slice none 0 0)), ((⟨[1, 0, 0, 1, 0, 0, 0, 0, 63, 0, 0, 0, 0], [], [], [], []⟩ : Od), (.slice none 0 0), (.slice none 0 0), (.slice none 0 0), (.slice none 0 0)), ((⟨[1, 0, 0, 1, 0, 0, 0, 0, 64, 0, 0, 0, 0], [], [], [], []⟩ : Od), (.slice none 0 0), (.slice none 0 0), (.slice none 0 0), (.slice none 0 0)), ((⟨[4, 0, 0, 0, 0, 0, 0, 0, 1, 0, 0, 0, 0], [], [], [], []⟩ : Od), (.slice none 0 0), (.slice none 0 0), (.slice none 0 0), (.slice none 0 0)), ((⟨[4, 0, 0, 0, 0, 0, 0, 0, 0, 1099511627776, 0, 0, 0], [], [], [], []⟩ : Od), (.slice none 0 0), (.slice none 0 0), (.slice none 0 0), (.slice none 0 0)), ((⟨[4, 0, 0, 0, 0, 0, 0, 0, 0, 1099511627777, 0, 0, 0], [], [], [], []⟩ : Od), (.slice none 0 0), (.slice none 0 0), (.slice none 0 0), (.slice none 0 0)), ((⟨[6, 0, 0, 0, 0, 0, 0, 1, 0, 0, 0, 0, 0], [], [], [], List.replicate 32768 0⟩ : Od), (.slice none 0 0), (.slice none 0 0), (.slice none 0 0), v78), ((⟨[6, 0, 0, 0, 0, 0, 0, 1, 0, 0, 0, 0, 0], [], [], [], List.replicate 32769 0⟩ : Od), (.slice none 0 0), (.slice none 0 0), (.slice none 0 0), v80), ((⟨[7, 0, 0, 0, 0, 0, 0, 0, 0, 0, 0, 0, 0], [], [], [], [1]⟩ : Od), (.slice none 0 0), (.slice none 0 0), (.slice none 0 0), v82), ((⟨[10, 0, 0, 0, 0, -1, 0, 0, 0, 0, 0, 0, 0], [], [], [], []⟩ : Od), (.slice none 0 0), (.slice none 0 0), (.slice none 0 0), (.slice none 0 0)), ((⟨[7, 0, 0, 0, 0, 0, 0, 0, 0, 0, 0, 0, 0], [1], [], [], []⟩ : Od), v85, (.slice none 0 0), (.slice none 0 0), (.slice none 0 0))] : List OV).map (fun e => agg (OV.c e)) := rfl
    have ho2 := ho259
    rw [hvs, ov_flat] at ho2
    have hEE : ∃ EE : List OV, EE.map Prod.fst = kOd ∧ World.ownsRow w39 _ 26 17 vE EE.length (EE.flatMap OV.c) ∧ ∀ e ∈ EE, OVok w39 e := ⟨_, rfl, ho2, (fa_cons (show OVok w39 _ from ata.ext (Ext.trans (Ext.trans (Ext.trans (Ext.trans (Ext.trans (Ext.trans (Ext.trans (Ext.trans (Ext.trans (Ext.trans (Ext.trans (Ext.trans (Ext.trans (Ext.trans (Ext.trans hx15 (Ext.store (Ext.trans (Ext.store hx18 hx21 (by omega)) hx24) hx27 (by omega))) (Ext.own (Ext.trans (Ext.trans hx30 (Ext.store hx33 hx36 (by omega))) hx39) oc1 (Nat.le_refl _) hx42)) hx45) (Ext.store (Ext.trans (Ext.store hx48 hx51 (by omega)) hx54) hx57 (by omega))) hx60) (Ext.store (Ext.store hx63 hx67 (by omega)) hx70 (by omega))) (Ext.store (Ext.store hx74 hx77 (by omega)) hx80 (by omega))) hx83) (Ext.store (Ext.trans (Ext.store hx86 hx89 (by omega)) hx92) hx95 (by omega))) hx98) (Ext.store (Ext.trans (Ext.store hx101 hx104 (by omega)) hx107) hx110 (by omega))) hx113) (Ext.store (Ext.trans (Ext.store hx116 hx119 (by omega)) hx122) hx125 (by omega))) hwJ19) hx258)) (fa_cons (show OVok w39 _ from atb.ext (Ext.trans (Ext.trans (Ext.trans (Ext.trans (Ext.trans (Ext.trans (Ext.trans (Ext.trans (Ext.trans (Ext.trans (Ext.trans (Ext.trans (Ext.trans (Ext.own (Ext.trans (Ext.trans hx30 (Ext.store hx33 hx36 (by omega))) hx39) oc1 (Nat.le_refl _) hx42) hx45) (Ext.store (Ext.trans (Ext.store hx48 hx51 (by omega)) hx54) hx57 (by omega))) hx60) (Ext.store (Ext.store hx63 hx67 (by omega)) hx70 (by omega))) (Ext.store (Ext.store hx74 hx77 (by omega)) hx80 (by omega))) hx83) (Ext.store (Ext.trans (Ext.store hx86 hx89 (by omega)) hx92) hx95 (by omega))) hx98) (Ext.store (Ext.trans (Ext.store hx101 hx104 (by omega)) hx107) hx110 (by omega))) hx113) (Ext.store (Ext.trans (Ext.store hx116 hx119 (by omega)) hx122) hx125 (by omega))) hwJ19) hx258)) (fa_cons (show OVok w39 _ from atc.ext (Ext.trans (Ext.trans (Ext.trans (Ext.trans (Ext.trans (Ext.trans (Ext.trans (Ext.trans (Ext.trans (Ext.trans (Ext.trans (Ext.trans hx45 (Ext.store (Ext.trans (Ext.store hx48 hx51 (by omega)) hx54) hx57 (by omega))) hx60) (Ext.store (Ext.store hx63 hx67 (by omega)) hx70 (by omega))) (Ext.store (Ext.store hx74 hx77 (by omega)) hx80 (by omega))) hx83) (Ext.store (Ext.trans (Ext.store hx86 hx89 (by omega)) hx92) hx95 (by omega))) hx98) (Ext.store (Ext.trans (Ext.store hx101 hx104 (by omega)) hx107) hx110 (by omega))) hx113) (Ext.store (Ext.trans (Ext.store hx116 hx119 (by omega)) hx122) hx125 (by omega))) hwJ19) hx258)) (fa_cons (show OVok w39 _ from atd.ext (Ext.trans (Ext.trans (Ext.trans (Ext.trans (Ext.trans (Ext.trans (Ext.trans (Ext.trans (Ext.trans (Ext.trans hx60 (Ext.store (Ext.store hx63 hx67 (by omega)) hx70 (by omega))) (Ext.store (Ext.store hx74 hx77 (by omega)) hx80 (by omega))) hx83) (Ext.store (Ext.trans (Ext.store hx86 hx89 (by omega)) hx92) hx95 (by omega))) hx98) (Ext.store (Ext.trans (Ext.store hx101 hx104 (by omega)) hx107) hx110 (by omega))) hx113) (Ext.store (Ext.trans (Ext.store hx116 hx119 (by omega)) hx122) hx125 (by omega))) hwJ19) hx258)) (fa_cons (show OVok w39 _ from ate.ext (Ext.trans (Ext.trans (Ext.trans (Ext.trans (Ext.trans (Ext.trans (Ext.trans (Ext.trans (Ext.store (Ext.store hx74 hx77 (by omega)) hx80 (by omega)) hx83) (Ext.store (Ext.trans (Ext.store hx86 hx89 (by omega)) hx92) hx95 (by omega))) hx98) (Ext.store (Ext.trans (Ext.store hx101 hx104 (by omega)) hx107) hx110 (by omega))) hx113) (Ext.store (Ext.trans (Ext.store hx116 hx119 (by omega)) hx122) hx125 (by omega))) hwJ19) hx258)) (fa_cons (show OVok w39 _ from atf.ext (Ext.trans (Ext.trans (Ext.trans (Ext.trans (Ext.trans (Ext.trans (Ext.trans hx83 (Ext.store (Ext.trans (Ext.store hx86 hx89 (by omega)) hx92) hx95 (by omega))) hx98) (Ext.store (Ext.trans (Ext.store hx101 hx104 (by omega)) hx107) hx110 (by omega))) hx113) (Ext.store (Ext.trans (Ext.store hx116 hx119 (by omega)) hx122) hx125 (by omega))) hwJ19) hx258)) (fa_cons (show OVok w39 _ from atg.ext (Ext.trans (Ext.trans (Ext.trans (Ext.trans (Ext.trans hx98 (Ext.store (Ext.trans (Ext.store hx101 hx104 (by omega)) hx107) hx110 (by omega))) hx113) (Ext.store (Ext.trans (Ext.store hx116 hx119 (by omega)) hx122) hx125 (by omega))) hwJ19) hx258)) (fa_cons (show OVok w39 _ from ath.ext (Ext.trans (Ext.trans (Ext.trans hx113 (Ext.store (Ext.trans (Ext.store hx116 hx119 (by omega)) hx122) hx125 (by omega))) hwJ19) hx258)) (fa_cons (show OVok w39 _ from ati.ext (Ext.trans hwJ19 hx258)) (fa_cons (show OVok w39 _ from op_at rfl (by decide) (Row.nil _ 1) (Row.nil _ 1) (Wrs.nil _) (Row.nil _ 1)) (fa_cons (show OVok w39 _ from op_at rfl (by decide) (Row.nil _ 1) (Row.nil _ 1) (Wrs.nil _) (Row.nil _ 1)) (fa_cons (show OVok w39 _ from op_at rfl (by decide) (Row.nil _ 1) (Row.nil _ 1) (Wrs.nil _) (Row.nil _ 1)) (fa_cons (show OVok w39 _ from op_at rfl (by decide) (Row.nil _ 1) (Row.nil _ 1) (Wrs.nil _) (Row.nil _ 1)) (fa_cons (show OVok w39 _ from op_at rfl (by decide) (Row.nil _ 1) (Row.nil _ 1) (Wrs.nil _) (Row.nil _ 1)) (fa_cons (show OVok w39 _ from op_at rfl (by decide) (Row.nil _ 1) (Row.nil _ 1) (Wrs.nil _) (Row.nil _ 1)) (fa_cons (show OVok w39 _ from op_at rfl (by decide) (Row.nil _ 1) (Row.nil _ 1) (Wrs.nil _) (Row.nil _ 1)) (fa_cons (show OVok w39 _ from op_at rfl (by decide) (Row.nil _ 1) (Row.nil _ 1) (Wrs.nil _) (Row.nil _ 1)) (fa_cons (show OVok w39 _ from op_at rfl (by decide) (Row.nil _ 1) (Row.nil _ 1) (Wrs.nil _) (Row.nil _ 1)) (fa_cons (show OVok w39 _ from op_at rfl (by decide) (Row.nil _ 1) (Row.nil _ 1) (Wrs.nil _) (Row.nil _ 1)) (fa_cons (show OVok w39 _ from op_at rfl (by decide) (Row.nil _ 1) (Row.nil _ 1) (Wrs.nil _) (Row.nil _ 1)) (fa_cons (show OVok w39 _ from op_at rfl (by decide) (Row.nil _ 1) (Row.nil _ 1) (Wrs.nil _) (Row.nil _ 1)) (fa_cons (show OVok w39 _ from op_at rfl (by decide) (Row.nil _ 1) (Row.nil _ 1) (Wrs.nil _) (Row.nil _ 1)) (fa_cons (show OVok w39 _ from op_at rfl (by decide) (Row.nil _ 1) (Row.nil _ 1) (Wrs.nil _) (Row.nil _ 1)) (fa_cons (show OVok w39 _ from op_at rfl (by decide) (Row.nil _ 1) (Row.nil _ 1) (Wrs.nil _) (Row.nil _ 1)) (fa_cons (show OVok w39 _ from op_at rfl (by decide) (Row.nil _ 1) (Row.nil _ 1) (Wrs.nil _) (Row.nil _ 1)) (fa_cons (show OVok w39 _ from op_at rfl (by decide) (Row.nil _ 1) (Row.nil _ 1) (Wrs.nil _) (Row.nil _ 1)) (fa_cons (show OVok w39 _ from op_at rfl (by decide) (Row.nil _ 1) (Row.nil _ 1) (Wrs.nil _) (Row.nil _ 1)) (fa_cons (show OVok w39 _ from op_at rfl (by decide) (Row.nil _ 1) (Row.nil _ 1) (Wrs.nil _) (Row.nil _ 1)) (fa_cons (show OVok w39 _ from op_at rfl (by decide) (Row.nil _ 1) (Row.nil _ 1) (Wrs.nil _) (Row.nil _ 1)) (fa_cons (show OVok w39 _ from op_at rfl (by decide) (Row.nil _ 1) (Row.nil _ 1) (Wrs.nil _) (Row.nil _ 1)) (fa_cons (show OVok w39 _ from op_at rfl (by decide) (Row.nil _ 1) (Row.nil _ 1) (Wrs.nil _) (Row.of_own (own_ext o78 hx258))) (fa_cons (show OVok w39 _ from op_at rfl (by decide) (Row.nil _ 1) (Row.nil _ 1) (Wrs.nil _) (Row.of_own (own_ext o80 hx258))) (fa_cons (show OVok w39 _ from op_at rfl (by decide) (Row.nil _ 1) (Row.nil _ 1) (Wrs.nil _) (Row.of_own (own_ext o82 hx258))) (fa_cons (show OVok w39 _ from op_at rfl (by decide) (Row.nil _ 1) (Row.nil _ 1) (Wrs.nil _) (Row.nil _ 1)) (fa_cons (show OVok w39 _ from op_at rfl (by decide) (Row.of_own (own_ext o85 hx258)) (Row.nil _ 1) (Wrs.nil _) (Row.nil _ 1)) fa_nil)))))))))))))))))))))))))))))))))))⟩
    clear hvs ho2 ho259
    obtain ⟨EE, hEm, oE, hEat⟩ := hEE
    have hEl : EE.length = 35 := by have := congrArg List.length hEm; rw [List.length_map] at this; exact this.trans kOd_len
    refine WL.va rfl rfl rfl (X.assign rfl) ?_
    refine WL.nil ?_
    refine thn_n ?_
    refine WF.seq ?_
    refine WF.region ?_
    refine WL.op rfl (OW.lits (vs := [_, _, _, _, _, _, _, _, _, _, _, _, _, _, _, _, _, _, _, _, _, _, _, _, _, _, _, _, _, _, _, _, _, _, _]) (evp_cons rfl (evp_cons rfl (evp_cons rfl (evp_cons rfl (evp_cons rfl (evp_cons rfl (evp_cons rfl (evp_cons rfl (evp_cons rfl (evp_cons rfl (evp_cons rfl (evp_cons rfl (evp_cons rfl (evp_cons rfl (evp_cons rfl (evp_cons rfl (evp_cons rfl (evp_cons rfl (evp_cons rfl (evp_cons rfl (evp_cons rfl (evp_cons rfl (evp_cons rfl (evp_cons rfl (evp_cons rfl (evp_cons rfl (evp_cons rfl (evp_cons rfl (evp_cons rfl (evp_cons rfl (evp_cons rfl (evp_cons rfl (evp_cons rfl (evp_cons rfl (evp_cons rfl evp_nil))))))))))))))))))))))))))))))))))) Try.underlying22 Try.sizeOf3 Try.zeroValue3 ⟨rfl, rfl, rfl, rfl, rfl, rfl, rfl, rfl, rfl, rfl, rfl, rfl, rfl, rfl, rfl, rfl, rfl, rfl, rfl, rfl, rfl, rfl, rfl, rfl, rfl, rfl, rfl, rfl, rfl, rfl, rfl, rfl, rfl, rfl, rfl, trivial⟩ rfl rfl rfl ?_ (by decide))
    intro v260 w20 ho262 hx261
    have := World.grownBy.size hx261
    refine WL.va rfl rfl rfl (X.assign rfl) ?_
    refine WL.nil ?_
    refine thn_n ?_
    refine WF.seq ?_
    refine WF.seq ?_
    refine WF.region ?_
    refine WL.va rfl rfl rfl (X.assignI rfl) ?_
    refine WL.nil ?_
    refine thn_n ?_
    refine WF.block ?_
    refine WF.named (fun F263 hF264 => ?_)
    refine WF.loopN (fun mL0 f' w' => ∃ (k : Nat), mL0 = 35 - k ∧ f' 12 = .int .i64 (k : Int) ∧ Agree [1, 2, 3, 4, 5, 6, 7, 8, 9, 10, 11, 21, 22, 23, 24, 25, 26, 27, 28, 29, 30, 31, 32, 33, 34, 35, 36, 37, 38, 39, 40, 41, 42, 43, 44, 45, 46, 47, 48, 49, 50, 51, 52, 53, 54, 55, 56, 57, 58, 59, 60, 61, 62, 63, 64, 65, 66, 67, 68, 69, 70, 71, 72, 73, 74, 75, 76, 77, 79, 81, 83, 84, 86, 87, 88] f' F263 ∧ Ext w20 w' ∧ k ≤ 35) ?_ ?_
    · exact ⟨_, 0, rfl, (congrFun hF264 12), (Agree.refl _ _), (Ext.refl _), (by omega)⟩
    · rintro mL0 fL0 wL0 ⟨k, hmL0, e12_L0, hAL0, hwL0, hk⟩
      have := World.grownBy.size hwL0
      refine WF.seq ?_
      refine WF.seq ?_
      refine WF.region ?_
      refine WL.va rfl rfl rfl (X.moveI e12_L0) ?_
      refine WL.va rfl rfl rfl (X.move ((hAL0.eq 10).trans (congrFun hF264 10))) ?_
      refine WL.va rfl rfl rfl (X.len (Row.of_own oE) rfl Try.underlying53) ?_
      refine WL.va rfl rfl rfl (X.lss rfl rfl) ?_
      refine WL.nil ?_
      refine thn_n ?_
      refine WF.cond rfl (fun h0_265 => ?_) (fun h0_265 => ?_)
      · have gh0_265 := (of_decide_eq_true h0_265)
        refine WF.skip ?_
        refine thn_n ?_
        refine WF.seq ?_
        refine WF.block ?_
        refine WF.seq ?_
        refine WF.drawn (.q 0 (.q 1 (.q 2 (.q 3 (.q 5 (.q 6 (.q 7 (.q 8 (.l 4 (.q 9 .nil)))))))))) (fun w' => Ext wL0 w') 10 (by kernel_rfl) (by kernel_rfl) (Ext.drew _) ?_
        have := World.grownBy.size (Ext.drew wL0)
        refine WO.q rfl rfl rfl rfl (fun w' hE267 => (X.move ((hAL0.eq 10).trans (congrFun hF264 10)))) ?_
        refine WO.q rfl rfl rfl rfl (fun w' hE267 => (X.moveI e12_L0)) ?_
        refine WO.q rfl rfl rfl rfl (fun w' hE267 => (X.idx (Row.of_own oE) rfl rfl (by omega) Try.underlying53 Try.sizeOf26)) ?_
        refine WO.q rfl rfl rfl rfl (fun w' hE267 => (X.loadEl (Row.of_own oE) (Ext.trans (Ext.trans hx261 hwL0) hE267) rfl (by omega) (flat_el OV.c_len (l := EE) (k := k) (by omega)) Try.isAgg26 Try.sizeOf26)) ?_
        refine WO.q rfl rfl rfl rfl (fun w' hE267 => (X.move ((hAL0.eq 11).trans (congrFun hF264 11)))) ?_
        refine WO.q rfl rfl rfl rfl (fun w' hE267 => (X.moveI e12_L0)) ?_
        refine WO.q rfl rfl rfl rfl (fun w' hE267 => (X.idx (show Ints _ _ [3, 15, 21, 15, 3, 0, 17, 14, 3, 3, 3, 14, 13, 13, 0, 3, 3, 3, 0, 0, 3, 3, 3, 0, 3, 0, 3, 3, 0, 3, 0, 2, 14, 3, 14] from Row.of_own ho262) rfl rfl (show k < 35 by omega) Try.underlying22 Try.sizeOf3)) ?_
        refine WO.q rfl rfl rfl rfl (fun w' hE267 => (X.loadI (show Ints _ _ [3, 15, 21, 15, 3, 0, 17, 14, 3, 3, 3, 14, 13, 13, 0, 3, 3, 3, 0, 0, 3, 3, 3, 0, 3, 0, 3, 3, 0, 3, 0, 2, 14, 3, 14] from Row.of_own ho262) (Ext.trans hwL0 hE267) rfl (show k < 35 by omega) Try.isAgg3)) ?_
        refine WO.l ?_
        refine LO.go rfl rfl (OW.enter rfl (by decide) (X.call Try.call14 (evl_cons rfl evl_nil)) (check_ok _ _ _ _ _ _ (OpAt.ext (hEat _ (List.getElem_mem (show k < EE.length by omega))) (Ext.trans (Ext.trans hx261 hwL0) (Ext.drew _))) (kOd_small _ (hEm ▸ List.mem_map.2 ⟨_, List.getElem_mem (show k < EE.length by omega), rfl⟩))) ?_)
        rintro v269 w268 ⟨rfl, hx270⟩
        have := World.grownBy.size hx270
        refine ⟨(Ext.trans (Ext.drew _) hx270), ?_⟩
        refine WO.q rfl rfl rfl rfl (fun w' hE267 => (X.neq rfl rfl)) ?_
        refine WO.nil ?_
        refine WL.nil ?_
        refine thn_n ?_
        refine WF.cond rfl (fun h1_271 => ?_) (fun h1_271 => ?_)
        · have gh1_271 := (of_decide_eq_true h1_271)
          exact absurd (kchk hEm (by omega)) gh1_271
        · have gh1_271 := (Decidable.of_not_not (of_decide_eq_false h1_271))
          refine WF.skip ?_
          refine blk_n ?_
          refine thn_n ?_
          refine WF.region ?_
          refine WL.va rfl rfl rfl (X.moveI e12_L0) ?_
          refine WL.va rfl rfl rfl (X.add rfl rfl (w64 (by omega))) ?_
          refine WL.va rfl rfl rfl (X.assignI rfl) ?_
          refine WL.nil ?_
          exact thn_n ⟨_, (by omega), k + 1, rfl, rfl, (by repeat (first | exact hAL0 | refine Agree.put ?_ rfl | refine Agree.sub hAJ19 rfl ?_ | refine Agree.named hF264 ?_ | refine Agree.named hF129 ?_)), (Ext.trans (Ext.trans hwL0 (Ext.drew _)) hx270), (by omega)⟩
      · have gh0_265 := (of_decide_eq_false h0_265)
        refine WF.exit ?_
        refine thn_x ?_
        refine thn_x ?_
        refine blk_eq ?_
        refine thn_n ?_
        refine WF.seq ?_
        refine WF.region ?_
        refine WL.c rfl rfl rfl (X.call Try.call18 (evl_cons rfl evl_nil)) (get_to (Bytes.nil _) (by decide) got_nil0) ?_
        rintro v274 w273 ⟨⟨x1, x2, x3, x4, rfl, hg1⟩, hx275⟩
        have := World.grownBy.size hx275
        refine WL.va rfl rfl rfl (X.move rfl) ?_
        refine WL.va rfl rfl rfl (X.extract rfl rfl) ?_
        refine WL.va rfl rfl rfl (X.extract rfl rfl) ?_
        refine WL.op rfl (OW.allocO (cs := [i64 0, i64 0, i64 0, i64 0, i64 0, i64 0, i64 0, i64 0, i64 0, i64 0, i64 0, i64 0, i64 0, .slice none 0 0, .slice none 0 0, .slice none 0 0, .slice none 0 0]) Try.zeroValue26 rfl ?_ (by decide))
        intro g13 w276 heg13 hlg13 hO13 hx278
        have := World.grownBy.size hx278
        refine WL.op rfl (OW.storeOA hO13 rfl rfl rfl (hg1.at.ones _) Try.sizeOf26 ?_)
        intro w280 hO13 hx282
        have := World.grownBy.size hx282
        replace hO1 := (hO1.ext (Ext.trans (Ext.trans (Ext.trans (Ext.trans (Ext.trans hwJ19 hx258) hx261) hwL0) hx275) hx278)).keptO hx282 (by omega)
        replace hO2 := (hO2.ext (Ext.trans (Ext.trans (Ext.trans (Ext.trans (Ext.trans hwJ19 hx258) hx261) hwL0) hx275) hx278)).keptO hx282 (by omega)
        replace hO3 := (hO3.ext (Ext.trans (Ext.trans (Ext.trans (Ext.trans (Ext.trans hwJ19 hx258) hx261) hwL0) hx275) hx278)).keptO hx282 (by omega)
        replace hO4 := (hO4.ext (Ext.trans (Ext.trans (Ext.trans (Ext.trans (Ext.trans hwJ19 hx258) hx261) hwL0) hx275) hx278)).keptO hx282 (by omega)
        replace hO5 := (hO5.ext (Ext.trans (Ext.trans (Ext.trans (Ext.trans (Ext.trans hwJ19 hx258) hx261) hwL0) hx275) hx278)).keptO hx282 (by omega)
        replace hO6 := (hO6.ext (Ext.trans (Ext.trans (Ext.trans (Ext.trans (Ext.trans hwJ19 hx258) hx261) hwL0) hx275) hx278)).keptO hx282 (by omega)
        replace hO7 := (hO7.ext (Ext.trans (Ext.trans (Ext.trans (Ext.trans (Ext.trans hwJ19 hx258) hx261) hwL0) hx275) hx278)).keptO hx282 (by omega)
        replace hO8 := (hO8.ext (Ext.trans (Ext.trans (Ext.trans (Ext.trans (Ext.trans hwJ19 hx258) hx261) hwL0) hx275) hx278)).keptO hx282 (by omega)
        replace hO9 := (hO9.ext (Ext.trans (Ext.trans (Ext.trans (Ext.trans (Ext.trans hwJ19 hx258) hx261) hwL0) hx275) hx278)).keptO hx282 (by omega)
        refine WL.va rfl rfl rfl (X.assignI rfl) ?_
        refine WL.nil ?_
        refine thn_n ?_
        refine WF.seq ?_
        refine WF.region ?_
        refine WL.op rfl (OW.makeB (n := 24) rfl rfl Try.underlying24 Try.type5 rfl rfl rfl (by omega) ?_ (by decide))
        intro v285 w284 ho287 hx286
        have om1 : OwnB w284 _ 5 v285 (List.replicate 24 0) := ho287
        have := World.grownBy.size hx286
        refine WL.c rfl rfl rfl (X.call Try.call18 (evl_cons rfl evl_nil)) (get_to (Bytes.of_own om1) (by simp) got_24) ?_
        rintro v289 w288 ⟨⟨x5, x6, x7, x8, rfl, hg2⟩, hx290⟩
        have := World.grownBy.size hx290
        refine WL.va rfl rfl rfl (X.move rfl) ?_
        refine WL.va rfl rfl rfl (X.extract rfl rfl) ?_
        refine WL.va rfl rfl rfl (X.extract rfl rfl) ?_
        refine WL.op rfl (OW.allocO (cs := [i64 0, i64 0, i64 0, i64 0, i64 0, i64 0, i64 0, i64 0, i64 0, i64 0, i64 0, i64 0, i64 0, .slice none 0 0, .slice none 0 0, .slice none 0 0, .slice none 0 0]) Try.zeroValue26 rfl ?_ (by decide))
        intro g15 w291 heg15 hlg15 hO15 hx293
        have := World.grownBy.size hx293
        refine WL.op rfl (OW.storeOA hO15 rfl rfl rfl (hg2.at.ones _) Try.sizeOf26 ?_)
        intro w295 hO15 hx297
        have := World.grownBy.size hx297
        replace hO1 := (hO1.ext (Ext.trans (Ext.trans hx286 hx290) hx293)).keptO hx297 (by omega)
        replace hO2 := (hO2.ext (Ext.trans (Ext.trans hx286 hx290) hx293)).keptO hx297 (by omega)
        replace hO3 := (hO3.ext (Ext.trans (Ext.trans hx286 hx290) hx293)).keptO hx297 (by omega)
        replace hO4 := (hO4.ext (Ext.trans (Ext.trans hx286 hx290) hx293)).keptO hx297 (by omega)
        replace hO5 := (hO5.ext (Ext.trans (Ext.trans hx286 hx290) hx293)).keptO hx297 (by omega)
        replace hO6 := (hO6.ext (Ext.trans (Ext.trans hx286 hx290) hx293)).keptO hx297 (by omega)
        replace hO7 := (hO7.ext (Ext.trans (Ext.trans hx286 hx290) hx293)).keptO hx297 (by omega)
        replace hO8 := (hO8.ext (Ext.trans (Ext.trans hx286 hx290) hx293)).keptO hx297 (by omega)
        replace hO9 := (hO9.ext (Ext.trans (Ext.trans hx286 hx290) hx293)).keptO hx297 (by omega)
        replace hO13 := (hO13.ext (Ext.trans (Ext.trans hx286 hx290) hx293)).keptO hx297 (by omega)
        refine WL.va rfl rfl rfl (X.assignI rfl) ?_
        refine WL.nil ?_
        refine thn_n ?_
        refine WF.seq ?_
        refine WF.region ?_
        refine WL.op rfl (OW.makeB (n := 15) rfl rfl Try.underlying24 Try.type5 rfl rfl rfl (by omega) ?_ (by decide))
        intro v300 w299 ho302 hx301
        have om2 : OwnB w299 _ 5 v300 (List.replicate 15 0) := ho302
        have := World.grownBy.size hx301
        refine WL.c rfl rfl rfl (X.call Try.call23 (evl_cons rfl evl_nil)) (getRes_to (Bytes.of_own om2) (by simp) gotR_15) ?_
        rintro v304 w303 ⟨⟨x9, rfl, hg3⟩, hx305⟩
        have := World.grownBy.size hx305
        refine WL.va rfl rfl rfl (X.move rfl) ?_
        refine WL.va rfl rfl rfl (X.extract rfl rfl) ?_
        refine WL.va rfl rfl rfl (X.extract rfl rfl) ?_
        refine WL.op rfl (OW.allocO (cs := [i64 0, .slice none 0 0]) Try.zeroValue44 rfl ?_ (by decide))
        intro g17 w306 heg17 hlg17 hO17 hx308
        have := World.grownBy.size hx308
        refine WL.op rfl (OW.storeOA hO17 rfl rfl rfl (one2 (Row.one hg3.at)) Try.sizeOf44 ?_)
        intro w310 hO17 hx312
        have := World.grownBy.size hx312
        replace hO1 := (hO1.ext (Ext.trans (Ext.trans hx301 hx305) hx308)).keptO hx312 (by omega)
        replace hO2 := (hO2.ext (Ext.trans (Ext.trans hx301 hx305) hx308)).keptO hx312 (by omega)
        replace hO3 := (hO3.ext (Ext.trans (Ext.trans hx301 hx305) hx308)).keptO hx312 (by omega)
        replace hO4 := (hO4.ext (Ext.trans (Ext.trans hx301 hx305) hx308)).keptO hx312 (by omega)
        replace hO5 := (hO5.ext (Ext.trans (Ext.trans hx301 hx305) hx308)).keptO hx312 (by omega)
        replace hO6 := (hO6.ext (Ext.trans (Ext.trans hx301 hx305) hx308)).keptO hx312 (by omega)
        replace hO7 := (hO7.ext (Ext.trans (Ext.trans hx301 hx305) hx308)).keptO hx312 (by omega)
        replace hO8 := (hO8.ext (Ext.trans (Ext.trans hx301 hx305) hx308)).keptO hx312 (by omega)
        replace hO9 := (hO9.ext (Ext.trans (Ext.trans hx301 hx305) hx308)).keptO hx312 (by omega)
        replace hO13 := (hO13.ext (Ext.trans (Ext.trans hx301 hx305) hx308)).keptO hx312 (by omega)
        replace hO15 := (hO15.ext (Ext.trans (Ext.trans hx301 hx305) hx308)).keptO hx312 (by omega)
        refine WL.va rfl rfl rfl (X.assignI rfl) ?_
        refine WL.nil ?_
        refine thn_n ?_
        refine WF.seq ?_
        refine WF.region ?_
        refine WL.op rfl (OW.makeB (n := 17) rfl rfl Try.underlying24 Try.type5 rfl rfl rfl (by omega) ?_ (by decide))
        intro v315 w314 ho317 hx316
        have om3 : OwnB w314 _ 5 v315 (List.replicate 17 0) := ho317
        have := World.grownBy.size hx316
        refine WL.c rfl rfl rfl (X.call Try.call23 (evl_cons rfl evl_nil)) (getRes_to (Bytes.of_own om3) (by simp) gotR_17) ?_
        rintro v319 w318 ⟨⟨x10, rfl, hg4⟩, hx320⟩
        have := World.grownBy.size hx320
        refine WL.va rfl rfl rfl (X.move rfl) ?_
        refine WL.va rfl rfl rfl (X.extract rfl rfl) ?_
        refine WL.va rfl rfl rfl (X.extract rfl rfl) ?_
        refine WL.op rfl (OW.allocO (cs := [i64 0, .slice none 0 0]) Try.zeroValue44 rfl ?_ (by decide))
        intro g19 w321 heg19 hlg19 hO19 hx323
        have := World.grownBy.size hx323
        refine WL.op rfl (OW.storeOA hO19 rfl rfl rfl (one2 (Row.one hg4.at)) Try.sizeOf44 ?_)
        intro w325 hO19 hx327
        have := World.grownBy.size hx327
        replace hO1 := (hO1.ext (Ext.trans (Ext.trans hx316 hx320) hx323)).keptO hx327 (by omega)
        replace hO2 := (hO2.ext (Ext.trans (Ext.trans hx316 hx320) hx323)).keptO hx327 (by omega)
        replace hO3 := (hO3.ext (Ext.trans (Ext.trans hx316 hx320) hx323)).keptO hx327 (by omega)
        replace hO4 := (hO4.ext (Ext.trans (Ext.trans hx316 hx320) hx323)).keptO hx327 (by omega)
        replace hO5 := (hO5.ext (Ext.trans (Ext.trans hx316 hx320) hx323)).keptO hx327 (by omega)
        replace hO6 := (hO6.ext (Ext.trans (Ext.trans hx316 hx320) hx323)).keptO hx327 (by omega)
        replace hO7 := (hO7.ext (Ext.trans (Ext.trans hx316 hx320) hx323)).keptO hx327 (by omega)
        replace hO8 := (hO8.ext (Ext.trans (Ext.trans hx316 hx320) hx323)).keptO hx327 (by omega)
        replace hO9 := (hO9.ext (Ext.trans (Ext.trans hx316 hx320) hx323)).keptO hx327 (by omega)
        replace hO13 := (hO13.ext (Ext.trans (Ext.trans hx316 hx320) hx323)).keptO hx327 (by omega)
        replace hO15 := (hO15.ext (Ext.trans (Ext.trans hx316 hx320) hx323)).keptO hx327 (by omega)
        replace hO17 := (hO17.ext (Ext.trans (Ext.trans hx316 hx320) hx323)).keptO hx327 (by omega)
        refine WL.va rfl rfl rfl (X.assignI rfl) ?_
        refine WL.nil ?_
        refine thn_n ?_
        refine WF.seq ?_
        refine WF.region ?_
        refine WL.va rfl rfl rfl (X.moveI rfl) ?_
        refine WL.va rfl rfl rfl (X.eql rfl rfl) ?_
        refine WL.va rfl rfl rfl (X.moveB rfl) ?_
        refine WL.vg rfl rfl rfl rfl (X.moveI rfl) ?_
        refine WL.vg rfl rfl rfl rfl (X.eql rfl rfl) ?_
        refine WL.va rfl rfl rfl (X.pickT rfl rfl rfl) ?_
        refine WL.va rfl rfl rfl (X.moveB rfl) ?_
        refine WL.vg rfl rfl rfl rfl (X.moveI rfl) ?_
        refine WL.vg rfl rfl rfl rfl (X.eql rfl rfl) ?_
        refine WL.va rfl rfl rfl (X.pickT rfl rfl rfl) ?_
        refine WL.va rfl rfl rfl (X.moveB rfl) ?_
        refine WL.vg rfl rfl rfl rfl (X.moveI rfl) ?_
        refine WL.vg rfl rfl rfl rfl (X.eql rfl rfl) ?_
        refine WL.va rfl rfl rfl (X.pickT rfl rfl rfl) ?_
        refine WL.va rfl rfl rfl (X.moveB rfl) ?_
        refine WL.cg rfl rfl rfl rfl (X.call Try.call10 evl_nil) (known_ok _) ?_
        rintro v334 w333 ⟨rfl, hx335⟩
        have := World.grownBy.size hx335
        refine WL.va rfl rfl rfl (X.pickT rfl rfl rfl) ?_
        refine WL.va rfl rfl rfl (X.assignB rfl) ?_
        refine WL.nil ?_
        refine thn_n ?_
        refine WF.ret ?_
        refine fin_r ?_
        exact ⟨rfl, (Ext.trans (Ext.trans (Ext.trans (Ext.trans (Ext.trans (Ext.trans (Ext.trans (Ext.trans (Ext.trans (Ext.trans (Ext.trans (Ext.trans (Ext.trans (Ext.trans (Ext.trans (Ext.trans (Ext.trans (Ext.trans (Ext.trans (Ext.trans (Ext.trans (Ext.trans (Ext.trans (Ext.trans (Ext.trans (Ext.trans (Ext.trans (Ext.trans (Ext.trans (Ext.trans (Ext.trans hx3 (Ext.store (Ext.store hx6 hx9 (by omega)) hx12 (by omega))) hx15) (Ext.store (Ext.trans (Ext.store hx18 hx21 (by omega)) hx24) hx27 (by omega))) (Ext.own (Ext.trans (Ext.trans hx30 (Ext.store hx33 hx36 (by omega))) hx39) oc1 (Nat.le_refl _) hx42)) hx45) (Ext.store (Ext.trans (Ext.store hx48 hx51 (by omega)) hx54) hx57 (by omega))) hx60) (Ext.store (Ext.store hx63 hx67 (by omega)) hx70 (by omega))) (Ext.store (Ext.store hx74 hx77 (by omega)) hx80 (by omega))) hx83) (Ext.store (Ext.trans (Ext.store hx86 hx89 (by omega)) hx92) hx95 (by omega))) hx98) (Ext.store (Ext.trans (Ext.store hx101 hx104 (by omega)) hx107) hx110 (by omega))) hx113) (Ext.store (Ext.trans (Ext.store hx116 hx119 (by omega)) hx122) hx125 (by omega))) hwJ19) hx258) hx261) hwL0) hx275) (Ext.store hx278 hx282 (by omega))) hx286) hx290) (Ext.store hx293 hx297 (by omega))) hx301) hx305) (Ext.store hx308 hx312 (by omega))) hx316) hx320) (Ext.store hx323 hx327 (by omega))) hx335)⟩

end Go.Proofs.Ythaojdpeimlngaa
