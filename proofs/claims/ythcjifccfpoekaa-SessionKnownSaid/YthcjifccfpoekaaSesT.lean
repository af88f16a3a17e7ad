/- The walks of works, SessionAsks, SessionNotes and SessionApart. -/
import Derived.Test.YthcjifccfpoekaaSesW
namespace Go.Proofs.Ythcjifccfpoekaa
open Go Go.RowKit Kf

set_option maxHeartbeats 800000 in
theorem works_ok (w : World) : FnOk Try.prog 9 [] w (fun r w' => r = .bool true ∧ Ext w w') := by
  refine FnOk.enter (rs := [0]) Try.func9 rfl Try.ntmps9 Try.results9 rfl rfl ?_
  refine WF.seq ?_
  refine WF.region ?_
  refine WL.va rfl rfl rfl (X.assignB rfl) ?_
  refine WL.nil ?_
  refine thn_n ?_
  refine WF.seq ?_
  refine WF.region ?_
  refine WL.va rfl rfl rfl (X.buildL (P := Try.prog) (t := 29) (cs := [i64 24, .slice none 0 0]) (evp_cons rfl evp_nil) Try.type29 Try.underlying29 rfl rfl ⟨rfl, trivial⟩ rfl) ?_
  refine WL.c rfl rfl rfl (X.call Try.call17 (evl_cons rfl (evl_cons rfl (evl_cons rfl (evl_cons rfl evl_nil))))) (note_ok _ [] 2 5 24 _ [] _ (Sess.nil _) (by simp) (fun s hs => by cases hs) (nil_bytes _) (by simp)) ?_
  rintro v2 w1 ⟨⟨F1, hF1, oF1⟩, hx3⟩
  have s1 : Sess w1 v2 wl1 := oF1.sessE hF1
  have ww1 : World := w1
  refine WL.va rfl rfl rfl (X.assign rfl) ?_
  refine WL.nil ?_
  refine thn_n ?_
  refine WF.seq ?_
  refine WF.region ?_
  refine WL.va rfl rfl rfl (X.move rfl) ?_
  refine WL.va rfl rfl rfl (X.buildL (P := Try.prog) (t := 29) (cs := [i64 0, .slice none 0 0]) evp_nil Try.type29 Try.underlying29 rfl rfl trivial rfl) ?_
  refine WL.c rfl rfl rfl (X.call Try.call17 (evl_cons rfl (evl_cons rfl (evl_cons rfl (evl_cons rfl evl_nil))))) (note_ok _ wl1 1 7 0 _ [] _ (s1.ext (Ext.refl w1)) (by decide) wl1_dat (nil_bytes _) (by simp)) ?_
  rintro vs w2 ⟨⟨F2, hF2, oF2⟩, hx4⟩
  have s2 : Sess w2 vs wl2 := oF2.sessE hF2
  have hF3 : F2.map Prod.fst = [⟨1, 7, 0, []⟩, ⟨2, 5, 24, []⟩] := hF2.trans wl2_eq
  have hlen : F2.length = 2 := by have := congrArg List.length hF3; simpa using this
  have h0 : (F2[0]'(by omega)).1 = ⟨1, 7, 0, []⟩ := by have := congrArg (fun z => z[0]?) hF3; simpa [List.getElem?_eq_getElem (show 0 < F2.length by omega)] using this
  refine WL.va rfl rfl rfl (X.assign rfl) ?_
  refine WL.nil ?_
  refine thn_n ?_
  refine WF.seq ?_
  refine WF.region ?_
  refine WL.va rfl rfl rfl (X.move rfl) ?_
  refine WL.c rfl rfl rfl (X.call Try.call11 (evl_cons rfl (evl_cons rfl (evl_cons rfl evl_nil)))) (ask_ok _ wl2 2 5 _ (s2.ext (Ext.refl w2)) wl2_dat) ?_
  rintro tda w5 ⟨⟨da, rfl, oa0⟩, hx6⟩
  have oa := OwnT.of oa0
  refine WL.va rfl rfl rfl (X.move rfl) ?_
  refine WL.va rfl rfl rfl (X.extract rfl rfl) ?_
  refine WL.va rfl rfl rfl (X.extract rfl rfl) ?_
  refine WL.op rfl (OW.allocO (cs := [i64 0, .slice none 0 0]) Try.zeroValue29 rfl ?_ (by decide))
  intro g2 w7 heg2 hlg2 hO2 hx9
  have := World.grownBy.size hx9
  refine WL.op rfl (OW.storeOA hO2 rfl rfl rfl (res_one (own_one oa.own)) Try.sizeOf29 ?_)
  intro w11 hO2 hx13
  have := World.grownBy.size hx13
  replace oa := (oa.ext hx9).keptO hx13 (by omega)
  refine WL.va rfl rfl rfl (X.assignI rfl) ?_
  refine WL.nil ?_
  refine thn_n ?_
  refine WF.seq ?_
  refine WF.region ?_
  refine WL.va rfl rfl rfl (X.move rfl) ?_
  refine WL.c rfl rfl rfl (X.call Try.call11 (evl_cons rfl (evl_cons rfl (evl_cons rfl evl_nil)))) (ask_ok _ wl2 2 4 _ (s2.ext (Ext.trans hx6 (Ext.store hx9 hx13 (by omega)))) wl2_dat) ?_
  rintro tdb w15 ⟨⟨db, rfl, ob0⟩, hx16⟩
  have := World.grownBy.size hx16
  have ob := OwnT.of ob0
  refine WL.va rfl rfl rfl (X.move rfl) ?_
  refine WL.va rfl rfl rfl (X.extract rfl rfl) ?_
  refine WL.va rfl rfl rfl (X.extract rfl rfl) ?_
  refine WL.op rfl (OW.allocO (cs := [i64 0, .slice none 0 0]) Try.zeroValue29 rfl ?_ (by decide))
  intro g4 w17 heg4 hlg4 hO4 hx19
  have := World.grownBy.size hx19
  refine WL.op rfl (OW.storeOA hO4 rfl rfl rfl (res_one (own_one ob.own)) Try.sizeOf29 ?_)
  intro w21 hO4 hx23
  have := World.grownBy.size hx23
  replace oa := (oa.ext (Ext.trans hx16 hx19)).keptO hx23 (by omega)
  replace hO2 := (hO2.ext (Ext.trans hx16 hx19)).keptO hx23 (by omega)
  replace ob := (ob.ext hx19).keptO hx23 (by omega)
  refine WL.va rfl rfl rfl (X.assignI rfl) ?_
  refine WL.nil ?_
  refine thn_n ?_
  refine WF.seq ?_
  refine WF.region ?_
  refine WL.va rfl rfl rfl (X.move rfl) ?_
  refine WL.c rfl rfl rfl (X.call Try.call11 (evl_cons rfl (evl_cons rfl (evl_cons rfl evl_nil)))) (ask_ok _ wl2 2 6 _ (s2.ext (Ext.trans (Ext.trans (Ext.trans hx6 (Ext.store hx9 hx13 (by omega))) hx16) (Ext.store hx19 hx23 (by omega)))) wl2_dat) ?_
  rintro tdc w25 ⟨⟨dc, rfl, oc0⟩, hx26⟩
  have := World.grownBy.size hx26
  have oc := OwnT.of oc0
  refine WL.va rfl rfl rfl (X.move rfl) ?_
  refine WL.va rfl rfl rfl (X.extract rfl rfl) ?_
  refine WL.va rfl rfl rfl (X.extract rfl rfl) ?_
  refine WL.op rfl (OW.allocO (cs := [i64 0, .slice none 0 0]) Try.zeroValue29 rfl ?_ (by decide))
  intro g6 w27 heg6 hlg6 hO6 hx29
  have := World.grownBy.size hx29
  refine WL.op rfl (OW.storeOA hO6 rfl rfl rfl (res_one (own_one oc.own)) Try.sizeOf29 ?_)
  intro w31 hO6 hx33
  have := World.grownBy.size hx33
  replace oa := (oa.ext (Ext.trans hx26 hx29)).keptO hx33 (by omega)
  replace hO2 := (hO2.ext (Ext.trans hx26 hx29)).keptO hx33 (by omega)
  replace ob := (ob.ext (Ext.trans hx26 hx29)).keptO hx33 (by omega)
  replace hO4 := (hO4.ext (Ext.trans hx26 hx29)).keptO hx33 (by omega)
  replace oc := (oc.ext hx29).keptO hx33 (by omega)
  refine WL.va rfl rfl rfl (X.assignI rfl) ?_
  refine WL.nil ?_
  refine thn_n ?_
  refine WF.seq ?_
  refine WF.region ?_
  refine WL.va rfl rfl rfl (X.move rfl) ?_
  refine WL.va rfl rfl rfl (X.len oF2.srow rfl Try.underlying22) ?_
  refine WL.va rfl rfl rfl (X.eql rfl rfl) ?_
  refine WL.va rfl rfl rfl (X.moveB rfl) ?_
  refine WL.split (j := 3) rfl (fun h36 => ?_) (fun h36 => ?_)
  · have gh36 := (of_decide_eq_true h36)
    refine WL.vg rfl (congrArg some h36) rfl rfl (X.move rfl) ?_
    refine WL.vg rfl (congrArg some h36) rfl rfl (X.idx (k := 0) oF2.srow rfl rfl (by omega) Try.underlying22 Try.sizeOf45) ?_
    refine WL.vg rfl (congrArg some h36) rfl rfl (X.fieldAddrA rfl Try.underlying45 rfl rfl Try.sizeOf3) ?_
    refine WL.vg rfl (congrArg some h36) rfl rfl (X.loadE oF2.srow (Ext.trans (Ext.trans (Ext.trans (Ext.trans (Ext.trans hx6 (Ext.store hx9 hx13 (by omega))) hx16) (Ext.store hx19 hx23 (by omega))) hx26) (Ext.store hx29 hx33 (by omega))) rfl (by omega) ((SRow.get (k := 0) (by omega) (by decide)).trans rfl) Try.isAgg3) ?_
    refine WL.vg rfl (congrArg some h36) rfl rfl (X.eql rfl rfl) ?_
    refine WL.va rfl rfl rfl (X.pickT rfl h36 rfl) ?_
    refine WL.va rfl rfl rfl (X.moveB rfl) ?_
    refine WL.split (j := 10) rfl (fun h38 => ?_) (fun h38 => ?_)
    · have gh38 := (of_decide_eq_true h38)
      refine WL.vg rfl (congrArg some h38) rfl rfl (X.moveI rfl) ?_
      refine WL.vg rfl (congrArg some h38) rfl rfl (X.eql rfl rfl) ?_
      refine WL.va rfl rfl rfl (X.pickT rfl h38 rfl) ?_
      refine WL.va rfl rfl rfl (X.moveB rfl) ?_
      refine WL.split (j := 14) rfl (fun h40 => ?_) (fun h40 => ?_)
      · have gh40 := (of_decide_eq_true h40)
        refine WL.vg rfl (congrArg some h40) rfl rfl (X.fieldAddrO (off := 0) rfl Try.underlying29 rfl rfl Try.sizeOf26) ?_
        refine WL.vg rfl (congrArg some h40) rfl rfl (X.loadO hO2 (Ext.refl _) rfl rfl Try.isAgg26) ?_
        refine WL.vg rfl (congrArg some h40) rfl rfl (X.eql rfl rfl) ?_
        refine WL.va rfl rfl rfl (X.pickT rfl h40 rfl) ?_
        refine WL.va rfl rfl rfl (X.moveB rfl) ?_
        refine WL.split (j := 19) rfl (fun h42 => ?_) (fun h42 => ?_)
        · have gh42 := (of_decide_eq_true h42)
          refine WL.vg rfl (congrArg some h42) rfl rfl (X.moveI rfl) ?_
          refine WL.vg rfl (congrArg some h42) rfl rfl (X.eql rfl rfl) ?_
          refine WL.va rfl rfl rfl (X.pickT rfl h42 rfl) ?_
          refine WL.va rfl rfl rfl (X.moveB rfl) ?_
          refine WL.split (j := 23) rfl (fun h44 => ?_) (fun h44 => ?_)
          · have gh44 := (of_decide_eq_true h44)
            refine WL.vg rfl (congrArg some h44) rfl rfl (X.moveI rfl) ?_
            refine WL.vg rfl (congrArg some h44) rfl rfl (X.eql rfl rfl) ?_
            refine WL.va rfl rfl rfl (X.pickT rfl h44 rfl) ?_
            refine WL.va rfl rfl rfl (X.assignB rfl) ?_
            refine WL.nil ?_
            refine thn_n ?_
            refine WF.ret ?_
            refine fin_r ?_
            exact ⟨congrArg Value.bool (by decide), (Ext.trans (Ext.trans (Ext.trans (Ext.trans (Ext.trans (Ext.trans (Ext.trans hx3 hx4) hx6) (Ext.store hx9 hx13 (by omega))) hx16) (Ext.store hx19 hx23 (by omega))) hx26) (Ext.store hx29 hx33 (by omega)))⟩
          · have gh44 := (of_decide_eq_false h44)
            exact absurd (by decide) gh44
        · have gh42 := (of_decide_eq_false h42)
          exact absurd (by decide) gh42
      · have gh40 := (of_decide_eq_false h40)
        exact absurd (by decide) gh40
    · have gh38 := (of_decide_eq_false h38)
      exact absurd (by rw [h0]) gh38
  · have gh36 := (of_decide_eq_false h36)
    exact absurd (by rw [hlen]; rfl) gh36

set_option maxHeartbeats 1600000 in
theorem sessionAsks_walk (v : Value) (l : List Ses) (c q : Int) (w : World) (h : Sess w v l) (_hc : -9223372036854775808 ≤ c ∧ c ≤ 9223372036854775807) (_hq : -9223372036854775808 ≤ q ∧ q ≤ 9223372036854775807) : FnOk Try.prog 3 [v, i64 c, i64 q] w (fun r w' => r = .bool true ∧ Ext w w') := by
  refine FnOk.enter (rs := [6]) Try.func3 rfl Try.ntmps3 Try.results3 rfl rfl ?_
  refine WF.seq ?_
  refine WF.region ?_
  refine WL.va rfl rfl rfl (X.assignB rfl) ?_
  refine WL.nil ?_
  refine thn_n ?_
  refine WF.seq ?_
  refine WF.seq ?_
  refine WF.region ?_
  refine WL.va rfl rfl rfl (X.move rfl) ?_
  refine WL.c rfl rfl rfl (X.call Try.call8 (evl_cons rfl evl_nil)) (long_ok _ l _ h) ?_
  rintro v3 w2 ⟨rfl, hx4⟩
  refine WL.nil ?_
  refine thn_n ?_
  refine WF.cond rfl (fun h0_5 => ?_) (fun h0_5 => ?_)
  · have gh0_5 := h0_5
    refine WF.seq ?_
    refine WF.region ?_
    refine WL.c rfl rfl rfl (X.call Try.call9 evl_nil) (works_ok _) ?_
    rintro v8 w7 ⟨rfl, hx9⟩
    refine WL.va rfl rfl rfl (X.assignB rfl) ?_
    refine WL.nil ?_
    refine thn_n ?_
    refine WF.ret ?_
    refine thn_r ?_
    refine fin_r ?_
    exact ⟨rfl, (Ext.trans hx4 hx9)⟩
  · have gh0_5 := h0_5
    obtain ⟨hl, hd⟩ := longS_no gh0_5
    refine WF.skip ?_
    refine thn_n ?_
    refine WF.seq ?_
    refine WF.region ?_
    refine WL.va rfl rfl rfl (X.move rfl) ?_
    refine WL.c rfl rfl rfl (X.call Try.call10 (evl_cons rfl evl_nil)) (copyS_ok _ l _ (h.ext hx4) (by omega) (fun s hs => Nat.le_trans (hd s hs) (by decide))) ?_
    rintro vx wx ⟨⟨F, hF, oF⟩, hx11⟩
    have sx : Sess wx vx l := oF.sessE hF
    refine WL.va rfl rfl rfl (X.assign rfl) ?_
    refine WL.nil ?_
    refine thn_n ?_
    refine WF.seq ?_
    refine WF.region ?_
    refine WL.va rfl rfl rfl (X.move rfl) ?_
    refine WL.va rfl rfl rfl (X.moveI rfl) ?_
    refine WL.va rfl rfl rfl (X.moveI rfl) ?_
    have szx := World.grownBy.size (show Ext wx wx from (Ext.refl _))
    refine WL.c rfl rfl rfl (X.call Try.call11 (evl_cons rfl (evl_cons rfl (evl_cons rfl evl_nil)))) (ask_ok _ l c q _ (sx.ext (Ext.refl wx)) (fun s hs => Nat.le_trans (hd s hs) (by decide))) ?_
    rintro tda w12 ⟨⟨da, rfl, oa0⟩, hx13⟩
    have oa := OwnT.of oa0
    refine WL.va rfl rfl rfl (X.move rfl) ?_
    refine WL.va rfl rfl rfl (X.extract rfl rfl) ?_
    refine WL.va rfl rfl rfl (X.extract rfl rfl) ?_
    refine WL.op rfl (OW.allocO (cs := [i64 0, .slice none 0 0]) Try.zeroValue29 rfl ?_ (by decide))
    intro g8 w14 heg8 hlg8 hO8 hx16
    have := World.grownBy.size hx16
    refine WL.op rfl (OW.storeOA hO8 rfl rfl rfl (res_one (own_one oa.own)) Try.sizeOf29 ?_)
    intro w18 hO8 hx20
    have := World.grownBy.size hx20
    replace oa := (oa.ext hx16).keptO hx20 (by omega)
    refine WL.va rfl rfl rfl (X.assignI rfl) ?_
    refine WL.nil ?_
    refine thn_n ?_
    refine WF.seq ?_
    refine WF.region ?_
    refine WL.va rfl rfl rfl (X.move rfl) ?_
    refine WL.va rfl rfl rfl (X.moveI rfl) ?_
    refine WL.va rfl rfl rfl (X.moveI rfl) ?_
    refine WL.c rfl rfl rfl (X.call Try.call11 (evl_cons rfl (evl_cons rfl (evl_cons rfl evl_nil)))) (ask_ok _ l c q _ (sx.ext (Ext.trans hx13 (Ext.store hx16 hx20 (by omega)))) (fun s hs => Nat.le_trans (hd s hs) (by decide))) ?_
    rintro tdb w22 ⟨⟨db, rfl, ob0⟩, hx23⟩
    have := World.grownBy.size hx23
    have ob := OwnT.of ob0
    refine WL.va rfl rfl rfl (X.move rfl) ?_
    refine WL.va rfl rfl rfl (X.extract rfl rfl) ?_
    refine WL.va rfl rfl rfl (X.extract rfl rfl) ?_
    refine WL.op rfl (OW.allocO (cs := [i64 0, .slice none 0 0]) Try.zeroValue29 rfl ?_ (by decide))
    intro g10 w24 heg10 hlg10 hO10 hx26
    have := World.grownBy.size hx26
    refine WL.op rfl (OW.storeOA hO10 rfl rfl rfl (res_one (own_one ob.own)) Try.sizeOf29 ?_)
    intro w28 hO10 hx30
    have := World.grownBy.size hx30
    replace oa := (oa.ext (Ext.trans hx23 hx26)).keptO hx30 (by omega)
    replace hO8 := (hO8.ext (Ext.trans hx23 hx26)).keptO hx30 (by omega)
    replace ob := (ob.ext hx26).keptO hx30 (by omega)
    refine WL.va rfl rfl rfl (X.assignI rfl) ?_
    refine WL.nil ?_
    refine thn_n ?_
    refine WF.seq ?_
    refine WF.region ?_
    refine WL.va rfl rfl rfl (X.move rfl) ?_
    refine WL.va rfl rfl rfl (X.moveI rfl) ?_
    refine WL.va rfl rfl rfl (X.moveI rfl) ?_
    refine WL.c rfl rfl rfl (X.call Try.call12 (evl_cons rfl (evl_cons rfl (evl_cons rfl evl_nil)))) (refAsk_ok _ l c q _ (h.ext (Ext.trans (Ext.trans (Ext.trans (Ext.trans (Ext.trans hx4 hx11) hx13) (Ext.store hx16 hx20 (by omega))) hx23) (Ext.store hx26 hx30 (by omega)))) (fun s hs => Nat.le_trans (hd s hs) (by decide))) ?_
    rintro tdw w32 ⟨⟨dw, rfl, ow0⟩, hx33⟩
    have := World.grownBy.size hx33
    have ow := OwnT.of ow0
    refine WL.va rfl rfl rfl (X.move rfl) ?_
    refine WL.va rfl rfl rfl (X.extract rfl rfl) ?_
    refine WL.va rfl rfl rfl (X.extract rfl rfl) ?_
    refine WL.op rfl (OW.allocO (cs := [i64 0, .slice none 0 0]) Try.zeroValue29 rfl ?_ (by decide))
    intro g12 w34 heg12 hlg12 hO12 hx36
    have := World.grownBy.size hx36
    refine WL.op rfl (OW.storeOA hO12 rfl rfl rfl (res_one (own_one ow.own)) Try.sizeOf29 ?_)
    intro w38 hO12 hx40
    have := World.grownBy.size hx40
    replace oa := (oa.ext (Ext.trans hx33 hx36)).keptO hx40 (by omega)
    replace hO8 := (hO8.ext (Ext.trans hx33 hx36)).keptO hx40 (by omega)
    replace ob := (ob.ext (Ext.trans hx33 hx36)).keptO hx40 (by omega)
    replace hO10 := (hO10.ext (Ext.trans hx33 hx36)).keptO hx40 (by omega)
    replace ow := (ow.ext hx36).keptO hx40 (by omega)
    refine WL.va rfl rfl rfl (X.assignI rfl) ?_
    refine WL.nil ?_
    refine thn_n ?_
    refine WF.seq ?_
    refine WF.seq ?_
    refine WF.region ?_
    refine WL.va rfl rfl rfl (X.moveI rfl) ?_
    refine WL.va rfl rfl rfl (X.moveI rfl) ?_
    refine WL.va rfl rfl rfl (X.neq rfl rfl) ?_
    refine WL.va rfl rfl rfl (X.moveB rfl) ?_
    refine WL.split (j := 3) rfl (fun h43 => ?_) (fun h43 => ?_)
    · have gh43 := (of_decide_eq_true h43)
      exact absurd rfl gh43
    · have gh43 := (Decidable.of_not_not (of_decide_eq_false h43))
      refine WL.vg rfl (congrArg some h43) rfl rfl (X.moveI rfl) ?_
      refine WL.vg rfl (congrArg some h43) rfl rfl (X.moveI rfl) ?_
      refine WL.vg rfl (congrArg some h43) rfl rfl (X.neq rfl rfl) ?_
      refine WL.va rfl rfl rfl (X.pickF rfl h43 rfl) ?_
      refine WL.va rfl rfl rfl (X.moveB rfl) ?_
      refine WL.split (j := 8) rfl (fun h45 => ?_) (fun h45 => ?_)
      · have gh45 := (of_decide_eq_true h45)
        exact absurd rfl gh45
      · have gh45 := (Decidable.of_not_not (of_decide_eq_false h45))
        refine WL.vg rfl (congrArg some h45) rfl rfl (X.loadOA hO8 (Ext.refl _) rfl rfl Try.isAgg29 Try.sizeOf29) ?_
        refine WL.vg rfl (congrArg some h45) rfl rfl (X.loadOA hO12 (Ext.refl _) rfl rfl Try.isAgg29 Try.sizeOf29) ?_
        refine WL.cg rfl (congrArg some h45) rfl rfl (X.call Try.call13 (evl_cons rfl (evl_cons rfl evl_nil))) (sameResult_ok _ _ _ _ _ _ _ oa.rd ow.rd) ?_
        rintro v47 w46 ⟨rfl, hx48⟩
        have := World.grownBy.size hx48
        refine WL.vg rfl (congrArg some h45) rfl rfl (X.not rfl) ?_
        refine WL.va rfl rfl rfl (X.pickF rfl h45 rfl) ?_
        refine WL.nil ?_
        refine thn_n ?_
        refine WF.cond rfl (fun h1_50 => ?_) (fun h1_50 => ?_)
        · have gh1_50 := (of_decide_eq_false (nt h1_50))
          exact absurd ⟨rfl, rfl⟩ gh1_50
        · have gh1_50 := (of_decide_eq_true (nf h1_50))
          refine WF.skip ?_
          refine thn_n ?_
          refine WF.seq ?_
          refine WF.region ?_
          refine WL.va rfl rfl rfl (X.fieldAddrO (off := 1) rfl Try.underlying29 rfl rfl Try.sizeOf27) ?_
          refine WL.va rfl rfl rfl (X.loadO hO8 hx48 rfl rfl Try.isAgg27) ?_
          refine WL.c rfl rfl rfl (X.call Try.call14 (evl_cons rfl evl_nil)) (spoilBytes_ok _ _ _ _ (oa.ext hx48).own) ?_
          rintro v53 w52 ⟨_, hx54⟩
          have := World.grownBy.size hx54
          replace hO8 := (hO8.ext hx48).keptR hx54 (fun b hb => by have h1 := oa.own.lt b hb; have h2 := oa.top b hb; omega)
          replace ob := (ob.ext hx48).kept hx54 (fun b hb => by have h1 := oa.own.lt b hb; have h2 := oa.top b hb; omega)
          replace hO10 := (hO10.ext hx48).keptR hx54 (fun b hb => by have h1 := oa.own.lt b hb; have h2 := oa.top b hb; omega)
          replace ow := (ow.ext hx48).kept hx54 (fun b hb => by have h1 := oa.own.lt b hb; have h2 := oa.top b hb; omega)
          replace hO12 := (hO12.ext hx48).keptR hx54 (fun b hb => by have h1 := oa.own.lt b hb; have h2 := oa.top b hb; omega)
          refine WL.nil ?_
          refine thn_n ?_
          refine WF.seq ?_
          refine WF.region ?_
          refine WL.va rfl rfl rfl (X.loadOA hO10 (Ext.refl _) rfl rfl Try.isAgg29 Try.sizeOf29) ?_
          refine WL.va rfl rfl rfl (X.loadOA hO12 (Ext.refl _) rfl rfl Try.isAgg29 Try.sizeOf29) ?_
          refine WL.c rfl rfl rfl (X.call Try.call13 (evl_cons rfl (evl_cons rfl evl_nil))) (sameResult_ok _ _ _ _ _ _ _ ob.rd ow.rd) ?_
          rintro v56 w55 ⟨rfl, hx57⟩
          have := World.grownBy.size hx57
          refine WL.va rfl rfl rfl (X.moveB rfl) ?_
          refine WL.split (j := 3) rfl (fun h59 => ?_) (fun h59 => ?_)
          · have gh59 := (of_decide_eq_true h59)
            refine WL.vg rfl (congrArg some h59) rfl rfl (X.move rfl) ?_
            refine WL.vg rfl (congrArg some h59) rfl rfl (X.move rfl) ?_
            refine WL.cg rfl (congrArg some h59) rfl rfl (X.call Try.call15 (evl_cons rfl (evl_cons rfl evl_nil))) (sameS_ok _ _ l l _ (sx.ext (Ext.trans (Ext.own (Ext.trans (Ext.trans (Ext.trans (Ext.trans (Ext.trans (Ext.trans hx13 (Ext.store hx16 hx20 (by omega))) hx23) (Ext.store hx26 hx30 (by omega))) hx33) (Ext.store hx36 hx40 (by omega))) hx48) (oa.ext hx48).own szx hx54) hx57)) (h.ext (Ext.trans (Ext.trans (Ext.trans hx4 hx11) (Ext.own (Ext.trans (Ext.trans (Ext.trans (Ext.trans (Ext.trans (Ext.trans hx13 (Ext.store hx16 hx20 (by omega))) hx23) (Ext.store hx26 hx30 (by omega))) hx33) (Ext.store hx36 hx40 (by omega))) hx48) (oa.ext hx48).own szx hx54)) hx57))) ?_
            rintro v61 w60 ⟨rfl, hx62⟩
            have := World.grownBy.size hx62
            refine WL.va rfl rfl rfl (X.pickT rfl h59 rfl) ?_
            refine WL.va rfl rfl rfl (X.moveB rfl) ?_
            refine WL.split (j := 8) rfl (fun h65 => ?_) (fun h65 => ?_)
            · have gh65 := (of_decide_eq_true h65)
              refine WL.cg rfl (congrArg some h65) rfl rfl (X.call Try.call9 evl_nil) (works_ok _) ?_
              rintro v67 w66 ⟨rfl, hx68⟩
              have := World.grownBy.size hx68
              refine WL.va rfl rfl rfl (X.pickT rfl h65 rfl) ?_
              refine WL.va rfl rfl rfl (X.assignB rfl) ?_
              refine WL.nil ?_
              refine thn_n ?_
              refine WF.ret ?_
              refine fin_r ?_
              exact ⟨rfl, (Ext.trans (Ext.trans (Ext.trans (Ext.trans (Ext.trans hx4 hx11) (Ext.own (Ext.trans (Ext.trans (Ext.trans (Ext.trans (Ext.trans (Ext.trans hx13 (Ext.store hx16 hx20 (by omega))) hx23) (Ext.store hx26 hx30 (by omega))) hx33) (Ext.store hx36 hx40 (by omega))) hx48) (oa.ext hx48).own szx hx54)) hx57) hx62) hx68)⟩
            · have gh65 := (of_decide_eq_false h65)
              exact absurd rfl gh65
          · have gh59 := (of_decide_eq_false h59)
            exact absurd ⟨rfl, rfl⟩ gh59

set_option maxHeartbeats 4000000 in
theorem sessionNotes_walk (v : Value) (l : List Ses) (c q code : Int) (dv0 : Value) (dl : List UInt8) (w : World) (h : Sess w v l) (_hc : -9223372036854775808 ≤ c ∧ c ≤ 9223372036854775807) (_hq : -9223372036854775808 ≤ q ∧ q ≤ 9223372036854775807) (hb : Bytes w dv0 dl) : FnOk Try.prog 4 [v, i64 c, i64 q, agg [i64 code, dv0]] w (fun r w' => r = .bool true ∧ Ext w w') := by
  refine FnOk.enter (rs := [8]) Try.func4 rfl Try.ntmps4 Try.results4 rfl rfl ?_
  refine WF.seq ?_
  refine WF.region ?_
  refine WL.op rfl (OW.boxA (cs := [i64 code, dv0]) rfl ?_ (by decide))
  intro g7 w1 heg7 hlg7 hO7 hx3
  have := World.grownBy.size hx3
  refine WL.va rfl rfl rfl (X.assignB rfl) ?_
  refine WL.nil ?_
  refine thn_n ?_
  refine WF.seq ?_
  refine WF.seq ?_
  refine WF.region ?_
  refine WL.va rfl rfl rfl (X.move rfl) ?_
  refine WL.c rfl rfl rfl (X.call Try.call8 (evl_cons rfl evl_nil)) (long_ok _ l _ (h.ext hx3)) ?_
  rintro v7 w6 ⟨rfl, hx8⟩
  have := World.grownBy.size hx8
  refine WL.va rfl rfl rfl (X.moveB rfl) ?_
  refine WL.split (j := 2) rfl (fun h10 => ?_) (fun h10 => ?_)
  · have gh10 := h10
    refine WL.p rfl rfl rfl (congrArg some h10) ?_
    refine WL.p rfl rfl rfl (congrArg some h10) ?_
    refine WL.p rfl rfl rfl (congrArg some h10) ?_
    refine WL.p rfl rfl rfl (congrArg some h10) ?_
    refine WL.va rfl rfl rfl (X.pickT rfl h10 rfl) ?_
    refine WL.nil ?_
    refine thn_n ?_
    refine WF.cond_t rfl ?_
    refine WF.seq ?_
    refine WF.region ?_
    refine WL.c rfl rfl rfl (X.call Try.call9 evl_nil) (works_ok _) ?_
    rintro v13 w12 ⟨rfl, hx14⟩
    have := World.grownBy.size hx14
    refine WL.va rfl rfl rfl (X.assignB rfl) ?_
    refine WL.nil ?_
    refine thn_n ?_
    refine WF.ret ?_
    refine thn_r ?_
    refine fin_r ?_
    exact ⟨rfl, (Ext.trans (Ext.trans hx3 hx8) hx14)⟩
  · have gh10 := h10
    obtain ⟨hl, hd⟩ := longS_no gh10
    refine WL.vg rfl (congrArg some h10) rfl rfl (X.fieldAddrO (off := 1) rfl Try.underlying29 rfl rfl Try.sizeOf27) ?_
    refine WL.vg rfl (congrArg some h10) rfl rfl (X.loadO hO7 hx8 rfl rfl Try.isAgg27) ?_
    refine WL.vg rfl (congrArg some h10) rfl rfl (X.len (Row.ext hb (Ext.trans hx3 hx8)) rfl Try.underlying27) ?_
    refine WL.vg rfl (congrArg some h10) rfl rfl (X.gtr rfl rfl) ?_
    refine WL.va rfl rfl rfl (X.pickF rfl h10 rfl) ?_
    refine WL.nil ?_
    refine thn_n ?_
    refine WF.cond rfl (fun h0_16 => ?_) (fun h0_16 => ?_)
    · have gh0_16 := (of_decide_eq_true h0_16)
      refine WF.seq ?_
      refine WF.region ?_
      refine WL.c rfl rfl rfl (X.call Try.call9 evl_nil) (works_ok _) ?_
      rintro v19 w18 ⟨rfl, hx20⟩
      have := World.grownBy.size hx20
      refine WL.va rfl rfl rfl (X.assignB rfl) ?_
      refine WL.nil ?_
      refine thn_n ?_
      refine WF.ret ?_
      refine thn_r ?_
      refine fin_r ?_
      exact ⟨rfl, (Ext.trans (Ext.trans hx3 hx8) hx20)⟩
    · have gh0_16 := (of_decide_eq_false h0_16)
      have hdl := gh0_16
      refine WF.skip ?_
      refine thn_n ?_
      refine WF.seq ?_
      refine WF.region ?_
      refine WL.va rfl rfl rfl (X.move rfl) ?_
      have szx := World.grownBy.size (show Ext w w6 from (Ext.trans hx3 hx8))
      obtain ⟨B0, hB0⟩ : ∃ B0, B0 = w6.heap.size := ⟨_, rfl⟩
      refine WL.c rfl rfl rfl (X.call Try.call10 (evl_cons rfl evl_nil)) (copyS_ok _ l _ (h.ext (Ext.trans hx3 hx8)) (by omega) (fun s hs => Nat.le_trans (hd s hs) (by decide))) ?_
      rintro vx wx ⟨⟨F, hF, oF⟩, hx22⟩
      have := World.grownBy.size hx22
      have sx : Sess wx vx l := oF.sessE hF
      have uF := oF.under
      have szx2 := World.grownBy.size hx22
      refine WL.va rfl rfl rfl (X.assign rfl) ?_
      refine WL.nil ?_
      refine thn_n ?_
      refine WF.named (fun F23 hF24 => ?_)
      refine WF.cut (fun f' w' => ∃ (g10 : Nat) (dy : Value), f' 10 = at_ g10 ∧ Agree [0, 1, 2, 3, 7, 8, 9, 14, 15, 16, 17, 18, 19, 20, 21, 23, 24] f' F23 ∧ Ext wx w' ∧ Blk w' g10 29 [i64 code, dy] ∧ OwnB w' wx.heap.size 5 dy dl ∧ wx.heap.size ≤ g10) ?_ ?_
      · refine WF.drawn (.q 0 (.q 1 (.q 2 (.q 3 (.b 4 6 (.q 5 (.l 6 .nil)) (.l 4 (.q 5 .nil))))))) (fun w' => Ext wx w') 7 (by kernel_rfl) (by kernel_rfl) (Ext.drew _) ?_
        have := World.grownBy.size (Ext.drew wx)
        refine WO.q rfl rfl rfl rfl (fun w' hE25 => (X.fieldAddrO (off := 0) (congrFun hF24 7) Try.underlying29 rfl rfl Try.sizeOf26)) ?_
        refine WO.q rfl rfl rfl rfl (fun w' hE25 => (X.loadO hO7 (Ext.trans (Ext.trans hx8 hx22) hE25) rfl rfl Try.isAgg26)) ?_
        refine WO.q rfl rfl rfl rfl (fun w' hE25 => (X.fieldAddrO (off := 1) (congrFun hF24 7) Try.underlying29 rfl rfl Try.sizeOf27)) ?_
        refine WO.q rfl rfl rfl rfl (fun w' hE25 => (X.loadO hO7 (Ext.trans (Ext.trans hx8 hx22) hE25) rfl rfl Try.isAgg27)) ?_
        refine WO.b2 ?_ ?_
        · have szy := World.grownBy.size (show Ext wx wx.drew from (Ext.drew _))
          refine LO.go rfl rfl (OW.enter rfl (by decide) (X.call Try.call16 (evl_cons rfl evl_nil)) (copyBytes_ok _ dl _ (Row.ext hb (Ext.trans (Ext.trans (Ext.trans hx3 hx8) hx22) (Ext.drew _))) (by omega)) ?_)
          rintro dy w26 ⟨oy0, hx27⟩
          have := World.grownBy.size hx27
          refine ⟨(Ext.trans (Ext.drew _) hx27), ?_⟩
          have oy := OwnT.of oy0
          refine WO.q rfl rfl rfl rfl (fun w' hE25 => (X.buildL (P := Try.prog) (t := 29) (cs := [i64 code, dy]) (evp_cons rfl (evp_cons rfl evp_nil)) Try.type29 Try.underlying29 rfl rfl ⟨rfl, own_one oy.own, trivial⟩ rfl)) ?_
          refine WO.l ?_
          refine LO.go rfl rfl (OW.allocO (cs := [i64 0, .slice none 0 0]) Try.zeroValue29 rfl ?_ (by decide))
          intro g10 w28 heg10 hlg10 hO10 hx30
          have := World.grownBy.size hx30
          refine ⟨(Ext.trans (Ext.trans (Ext.drew _) hx27) hx30), ?_⟩
          refine WO.nil ?_
          refine WL.op rfl (OW.storeOA hO10 rfl rfl rfl (res_one (own_one oy.own)) Try.sizeOf29 ?_)
          intro w32 hO10 hx34
          have := World.grownBy.size hx34
          replace hO7 := (hO7.ext (Ext.trans (Ext.trans (Ext.trans (Ext.trans hx8 hx22) (Ext.drew _)) hx27) hx30)).keptO hx34 (by omega)
          replace oy := (oy.ext hx30).keptO hx34 (by omega)
          replace hO10 : Blk _ _ _ [i64 code, dy] := hO10
          refine WL.nil ?_
          refine thn_n ?_
          exact ⟨g10, dy, rfl, (by repeat (first | exact (Agree.refl _ F23) | refine Agree.put ?_ rfl | refine Agree.named hF24 ?_)), (Ext.trans (Ext.trans (Ext.drew _) hx27) (Ext.store hx30 hx34 (by omega))), ⟨hO10, own_mono oy.own szy, by omega⟩⟩
        · refine LO.go rfl rfl (OW.allocO (cs := [i64 0, .slice none 0 0]) Try.zeroValue29 rfl ?_ (by decide))
          intro g10 w36 heg10 hlg10 hO10 hx38
          have := World.grownBy.size hx38
          refine ⟨(Ext.trans (Ext.drew _) hx38), ?_⟩
          refine WO.l ?_
          have szy := World.grownBy.size (show Ext wx w36 from (Ext.trans (Ext.drew _) hx38))
          refine LO.go rfl rfl (OW.enter rfl (by decide) (X.call Try.call16 (evl_cons rfl evl_nil)) (copyBytes_ok _ dl _ (Row.ext hb (Ext.trans (Ext.trans (Ext.trans (Ext.trans hx3 hx8) hx22) (Ext.drew _)) hx38)) (by omega)) ?_)
          rintro dy w40 ⟨oy0, hx41⟩
          have := World.grownBy.size hx41
          refine ⟨(Ext.trans (Ext.trans (Ext.drew _) hx38) hx41), ?_⟩
          have oy := OwnT.of oy0
          refine WO.q rfl rfl rfl rfl (fun w' hE25 => (X.buildL (P := Try.prog) (t := 29) (cs := [i64 code, dy]) (evp_cons rfl (evp_cons rfl evp_nil)) Try.type29 Try.underlying29 rfl rfl ⟨rfl, own_one oy.own, trivial⟩ rfl)) ?_
          refine WO.nil ?_
          refine WL.op rfl (OW.storeOA (hO10.ext hx41) rfl rfl rfl (res_one (own_one oy.own)) Try.sizeOf29 ?_)
          intro w42 hO10 hx44
          have := World.grownBy.size hx44
          replace hO7 := (hO7.ext (Ext.trans (Ext.trans (Ext.trans (Ext.trans hx8 hx22) (Ext.drew _)) hx38) hx41)).keptO hx44 (by omega)
          replace oy := oy.keptO hx44 (by omega)
          replace hO10 : Blk _ _ _ [i64 code, dy] := hO10
          refine WL.nil ?_
          refine thn_n ?_
          exact ⟨g10, dy, rfl, (by repeat (first | exact (Agree.refl _ F23) | refine Agree.put ?_ rfl | refine Agree.named hF24 ?_)), (Ext.trans (Ext.drew _) (Ext.store (Ext.trans hx38 hx41) hx44 (by omega))), ⟨hO10, own_mono oy.own szy, by omega⟩⟩
      · rintro fCr4 wCr4 ⟨g10, dy, e10_Cr4, hACr4, hwCr4, ⟨hO10, oy, hg10⟩⟩
        have := World.grownBy.size hwCr4
        refine WF.seq ?_
        refine WF.region ?_
        refine WL.va rfl rfl rfl (X.move ((hACr4.eq 9).trans (congrFun hF24 9))) ?_
        refine WL.va rfl rfl rfl (X.moveI ((hACr4.eq 1).trans (congrFun hF24 1))) ?_
        refine WL.va rfl rfl rfl (X.moveI ((hACr4.eq 2).trans (congrFun hF24 2))) ?_
        refine WL.va rfl rfl rfl (X.loadOA hO10 (Ext.refl _) e10_Cr4 rfl Try.isAgg29 Try.sizeOf29) ?_
        obtain ⟨wa0, hwa0⟩ : ∃ z, z = wCr4 := ⟨_, rfl⟩
        have sza := World.grownBy.size (show Ext wx wCr4 from hwCr4)
        have hgy := hO10.lt
        refine WL.c rfl rfl rfl (X.call Try.call17 (evl_cons rfl (evl_cons rfl (evl_cons rfl (evl_cons rfl evl_nil))))) (note_ok _ l c q code _ dl _ (sx.ext hwCr4) (by omega) (fun s hs => Nat.le_trans (hd s hs) (by decide)) (Row.ext (Bytes.of_own oy) (Ext.refl wCr4)) (by omega)) ?_
        rintro va wa1 ⟨⟨Fa, hFa, oA⟩, hx46⟩
        have := World.grownBy.size hx46
        have uA := oA.under
        have hxa := hx46
        have szaa := World.grownBy.size hx46
        refine WL.va rfl rfl rfl (X.assign rfl) ?_
        refine WL.nil ?_
        refine thn_n ?_
        refine WF.seq ?_
        refine WF.region ?_
        refine WL.va rfl rfl rfl (X.move ((hACr4.eq 9).trans (congrFun hF24 9))) ?_
        refine WL.va rfl rfl rfl (X.moveI ((hACr4.eq 1).trans (congrFun hF24 1))) ?_
        refine WL.va rfl rfl rfl (X.moveI ((hACr4.eq 2).trans (congrFun hF24 2))) ?_
        refine WL.va rfl rfl rfl (X.loadOA hO10 hx46 e10_Cr4 rfl Try.isAgg29 Try.sizeOf29) ?_
        have szb := World.grownBy.size (show Ext wa1 wa1 from (Ext.refl _))
        refine WL.c rfl rfl rfl (X.call Try.call17 (evl_cons rfl (evl_cons rfl (evl_cons rfl (evl_cons rfl evl_nil))))) (note_ok _ l c q code _ dl _ (sx.ext (Ext.trans hwCr4 hx46)) (by omega) (fun s hs => Nat.le_trans (hd s hs) (by decide)) (Row.ext (Bytes.of_own oy) hx46) (by omega)) ?_
        rintro vb wb1 ⟨⟨Fb, hFb, oB⟩, hx47⟩
        have := World.grownBy.size hx47
        refine WL.va rfl rfl rfl (X.assign rfl) ?_
        refine WL.nil ?_
        refine thn_n ?_
        refine WF.seq ?_
        refine WF.region ?_
        refine WL.va rfl rfl rfl (X.move ((hACr4.eq 0).trans (congrFun hF24 0))) ?_
        refine WL.va rfl rfl rfl (X.moveI ((hACr4.eq 1).trans (congrFun hF24 1))) ?_
        refine WL.va rfl rfl rfl (X.moveI ((hACr4.eq 2).trans (congrFun hF24 2))) ?_
        refine WL.va rfl rfl rfl (X.loadOA hO7 (Ext.trans (Ext.trans (Ext.trans (Ext.trans hx8 hx22) hwCr4) hx46) hx47) ((hACr4.eq 7).trans (congrFun hF24 7)) rfl Try.isAgg29 Try.sizeOf29) ?_
        have szw := World.grownBy.size (show Ext wa1 wb1 from hx47)
        refine WL.c rfl rfl rfl (X.call Try.call18 (evl_cons rfl (evl_cons rfl (evl_cons rfl (evl_cons rfl evl_nil))))) (refNote_ok _ l c q code _ dl _ (h.ext (Ext.trans (Ext.trans (Ext.trans (Ext.trans (Ext.trans hx3 hx8) hx22) hwCr4) hx46) hx47)) (by omega) (fun s hs => Nat.le_trans (hd s hs) (by decide)) (Row.ext hb (Ext.trans (Ext.trans (Ext.trans (Ext.trans (Ext.trans hx3 hx8) hx22) hwCr4) hx46) hx47)) (by omega)) ?_
        rintro vc wc1 ⟨⟨Fc, hFc, oC⟩, hx48⟩
        have := World.grownBy.size hx48
        refine WL.va rfl rfl rfl (X.assign rfl) ?_
        refine WL.nil ?_
        refine thn_n ?_
        refine WF.seq ?_
        refine WF.seq ?_
        refine WF.region ?_
        refine WL.va rfl rfl rfl (X.move rfl) ?_
        refine WL.va rfl rfl rfl (X.move rfl) ?_
        refine WL.c rfl rfl rfl (X.call Try.call15 (evl_cons rfl (evl_cons rfl evl_nil))) (sameS_ok _ _ _ _ _ (oA.sess.ext (Ext.trans hx47 hx48)) (oC.sess.ext (Ext.refl wc1))) ?_
        rintro v50 w49 ⟨rfl, hx51⟩
        have := World.grownBy.size hx51
        refine WL.va rfl rfl rfl (X.not rfl) ?_
        refine WL.va rfl rfl rfl (X.moveB rfl) ?_
        refine WL.split (j := 4) rfl (fun h54 => ?_) (fun h54 => ?_)
        · have gh54 := (of_decide_eq_false (nt h54))
          exact absurd (hFa.trans hFc.symm) gh54
        · have gh54 := (of_decide_eq_true (nf h54))
          refine WL.vg rfl (congrArg some h54) rfl rfl (X.move ((hACr4.eq 9).trans (congrFun hF24 9))) ?_
          refine WL.vg rfl (congrArg some h54) rfl rfl (X.move ((hACr4.eq 0).trans (congrFun hF24 0))) ?_
          refine WL.cg rfl (congrArg some h54) rfl rfl (X.call Try.call15 (evl_cons rfl (evl_cons rfl evl_nil))) (sameS_ok _ _ l l _ (sx.ext (Ext.trans (Ext.trans (Ext.trans (Ext.trans hwCr4 hx46) hx47) hx48) hx51)) (h.ext (Ext.trans (Ext.trans (Ext.trans (Ext.trans (Ext.trans (Ext.trans (Ext.trans hx3 hx8) hx22) hwCr4) hx46) hx47) hx48) hx51))) ?_
          rintro v56 w55 ⟨rfl, hx57⟩
          have := World.grownBy.size hx57
          refine WL.vg rfl (congrArg some h54) rfl rfl (X.not rfl) ?_
          refine WL.va rfl rfl rfl (X.pickF rfl h54 rfl) ?_
          refine WL.va rfl rfl rfl (X.moveB rfl) ?_
          refine WL.split (j := 10) rfl (fun h60 => ?_) (fun h60 => ?_)
          · have gh60 := (of_decide_eq_false (nt h60))
            exact absurd rfl gh60
          · have gh60 := (of_decide_eq_true (nf h60))
            refine WL.vg rfl (congrArg some h60) rfl rfl (X.loadOA hO10 (Ext.trans (Ext.trans (Ext.trans (Ext.trans hx46 hx47) hx48) hx51) hx57) e10_Cr4 rfl Try.isAgg29 Try.sizeOf29) ?_
            refine WL.vg rfl (congrArg some h60) rfl rfl (X.loadOA hO7 (Ext.trans (Ext.trans (Ext.trans (Ext.trans (Ext.trans (Ext.trans (Ext.trans hx8 hx22) hwCr4) hx46) hx47) hx48) hx51) hx57) ((hACr4.eq 7).trans (congrFun hF24 7)) rfl Try.isAgg29 Try.sizeOf29) ?_
            refine WL.cg rfl (congrArg some h60) rfl rfl (X.call Try.call13 (evl_cons rfl (evl_cons rfl evl_nil))) (sameResult_ok _ _ _ _ _ _ _ (Row.ext (Bytes.of_own oy) (Ext.trans (Ext.trans (Ext.trans (Ext.trans hx46 hx47) hx48) hx51) hx57)) (Row.ext hb (Ext.trans (Ext.trans (Ext.trans (Ext.trans (Ext.trans (Ext.trans (Ext.trans (Ext.trans hx3 hx8) hx22) hwCr4) hx46) hx47) hx48) hx51) hx57))) ?_
            rintro v62 w61 ⟨rfl, hx63⟩
            have := World.grownBy.size hx63
            refine WL.vg rfl (congrArg some h60) rfl rfl (X.not rfl) ?_
            refine WL.va rfl rfl rfl (X.pickF rfl h60 rfl) ?_
            refine WL.nil ?_
            refine thn_n ?_
            refine WF.cond rfl (fun h1_66 => ?_) (fun h1_66 => ?_)
            · have gh1_66 := (of_decide_eq_false (nt h1_66))
              exact absurd ⟨rfl, rfl⟩ gh1_66
            · have gh1_66 := (of_decide_eq_true (nf h1_66))
              refine WF.skip ?_
              refine thn_n ?_
              refine WF.seq ?_
              refine WF.region ?_
              refine WL.va rfl rfl rfl (X.move rfl) ?_
              have oA1 := oA.ext (Ext.trans (Ext.trans (Ext.trans (Ext.trans hx47 hx48) hx51) hx57) hx63)
              have oB1 := oB.ext (Ext.trans (Ext.trans (Ext.trans hx48 hx51) hx57) hx63)
              have oC1 := oC.ext (Ext.trans (Ext.trans hx51 hx57) hx63)
              have hwa := (Ext.trans (Ext.trans (Ext.trans (Ext.trans (Ext.trans hx46 hx47) hx48) hx51) hx57) hx63)
              refine WL.c rfl rfl rfl (X.call Try.call19 (evl_cons rfl evl_nil)) (spoilS_ok _ _ _ _ _ oA1 uA) ?_
              rintro v68 wd hca
              have oB2 := oB1.chg hca (.inl (by omega))
              have oC2 := oC1.chg hca (.inl (by omega))
              refine WL.nil ?_
              refine thn_n ?_
              refine WF.seq ?_
              refine WF.seq ?_
              refine WF.region ?_
              refine WL.va rfl rfl rfl (X.move ((hACr4.eq 9).trans (congrFun hF24 9))) ?_
              refine WL.va rfl rfl rfl (X.move ((hACr4.eq 0).trans (congrFun hF24 0))) ?_
              refine WL.c rfl rfl rfl (X.call Try.call15 (evl_cons rfl (evl_cons rfl evl_nil))) (sameS_ok _ _ l l _ (sx.ext (Ext.trans hwCr4 (Chg.ext hwa hca (Nat.le_refl _)))) (h.ext (Ext.trans (Ext.trans (Ext.trans (Ext.trans hx3 hx8) hx22) hwCr4) (Chg.ext hwa hca (Nat.le_refl _))))) ?_
              rintro v71 w70 ⟨rfl, hx72⟩
              have := World.grownBy.size hx72
              refine WL.va rfl rfl rfl (X.not rfl) ?_
              refine WL.va rfl rfl rfl (X.moveB rfl) ?_
              refine WL.split (j := 4) rfl (fun h75 => ?_) (fun h75 => ?_)
              · have gh75 := (of_decide_eq_false (nt h75))
                exact absurd rfl gh75
              · have gh75 := (of_decide_eq_true (nf h75))
                refine WL.vg rfl (congrArg some h75) rfl rfl (X.loadOA hO10 (Ext.trans (Chg.ext hwa hca (Nat.le_refl _)) hx72) e10_Cr4 rfl Try.isAgg29 Try.sizeOf29) ?_
                refine WL.vg rfl (congrArg some h75) rfl rfl (X.loadOA hO7 (Ext.trans (Ext.trans (Ext.trans (Ext.trans hx8 hx22) hwCr4) (Chg.ext hwa hca (Nat.le_refl _))) hx72) ((hACr4.eq 7).trans (congrFun hF24 7)) rfl Try.isAgg29 Try.sizeOf29) ?_
                refine WL.cg rfl (congrArg some h75) rfl rfl (X.call Try.call13 (evl_cons rfl (evl_cons rfl evl_nil))) (sameResult_ok _ _ _ _ _ _ _ (Row.ext (Bytes.of_own oy) (Ext.trans (Chg.ext hwa hca (Nat.le_refl _)) hx72)) (Row.ext hb (Ext.trans (Ext.trans (Ext.trans (Ext.trans (Ext.trans hx3 hx8) hx22) hwCr4) (Chg.ext hwa hca (Nat.le_refl _))) hx72))) ?_
                rintro v77 w76 ⟨rfl, hx78⟩
                have := World.grownBy.size hx78
                refine WL.vg rfl (congrArg some h75) rfl rfl (X.not rfl) ?_
                refine WL.va rfl rfl rfl (X.pickF rfl h75 rfl) ?_
                refine WL.nil ?_
                refine thn_n ?_
                refine WF.cond rfl (fun h2_80 => ?_) (fun h2_80 => ?_)
                · have gh2_80 := (of_decide_eq_false (nt h2_80))
                  exact absurd ⟨rfl, rfl⟩ gh2_80
                · have gh2_80 := (of_decide_eq_true (nf h2_80))
                  refine WF.skip ?_
                  refine thn_n ?_
                  refine WF.seq ?_
                  refine WF.region ?_
                  refine WL.va rfl rfl rfl (X.move ((hACr4.eq 9).trans (congrFun hF24 9))) ?_
                  have oB3 := oB2.ext (Ext.trans hx72 hx78)
                  have oC3 := oC2.ext (Ext.trans hx72 hx78)
                  have oX3 := oF.ext (Ext.trans (Ext.trans (Ext.trans hwCr4 (Chg.ext hwa hca (Nat.le_refl _))) hx72) hx78)
                  have oy3 := own_ext oy (Ext.trans (Ext.trans (Chg.ext hwa hca (Nat.le_refl _)) hx72) hx78)
                  have hO3 := (hO10.ext (Ext.trans (Ext.trans (Chg.ext hwa hca (Nat.le_refl _)) hx72) hx78))
                  have hww := (Ext.trans (Ext.trans (Ext.trans (Ext.trans (Ext.trans (Ext.trans hx3 hx8) hx22) hwCr4) (Chg.ext hwa hca (Nat.le_refl _))) hx72) hx78)
                  refine WL.c rfl rfl rfl (X.call Try.call19 (evl_cons rfl evl_nil)) (spoilS_ok _ _ _ _ _ oX3 uF) ?_
                  rintro v82 we hcx
                  have oB4 := oB3.chg hcx (.inl (by omega))
                  have oC4 := oC3.chg hcx (.inl (by omega))
                  have oy4 := own_chg oy3 hcx (fun b hb => by have := (oy.lt b hb).1; omega)
                  replace hO10 := Blk.chg hO3 hcx (by omega)
                  refine WL.nil ?_
                  refine thn_n ?_
                  refine WF.seq ?_
                  refine WF.region ?_
                  refine WL.va rfl rfl rfl (X.fieldAddrO (off := 1) e10_Cr4 Try.underlying29 rfl rfl Try.sizeOf27) ?_
                  refine WL.va rfl rfl rfl (X.loadO hO10 (Ext.refl _) rfl rfl Try.isAgg27) ?_
                  have oB5 := oB4.ext (Ext.refl we)
                  have oC5 := oC4.ext (Ext.refl we)
                  have oy5 := own_ext oy4 (Ext.refl we)
                  have hww2 := (Chg.ext hww hcx szx)
                  refine WL.c rfl rfl rfl (X.call Try.call14 (evl_cons rfl evl_nil)) (spoilBytes_ok _ _ _ _ oy5) ?_
                  rintro v84 wf ⟨_, hcy⟩
                  have oB6 := oB5.chg (Chg.of hcy (B := wx.heap.size) (T := wCr4.heap.size) (fun b hb => ⟨(oy.lt b hb).1, (oy.lt b hb).2⟩)) (.inl (by omega))
                  have oC6 := oC5.chg (Chg.of hcy (B := wx.heap.size) (T := wCr4.heap.size) (fun b hb => ⟨(oy.lt b hb).1, (oy.lt b hb).2⟩)) (.inl (by omega))
                  refine WL.nil ?_
                  refine thn_n ?_
                  refine WF.seq ?_
                  refine WF.region ?_
                  refine WL.va rfl rfl rfl (X.move rfl) ?_
                  refine WL.va rfl rfl rfl (X.move rfl) ?_
                  refine WL.c rfl rfl rfl (X.call Try.call15 (evl_cons rfl (evl_cons rfl evl_nil))) (sameS_ok _ _ _ _ _ (oB6.sess.ext (Ext.refl wf)) (oC6.sess.ext (Ext.refl wf))) ?_
                  rintro v87 w86 ⟨rfl, hx88⟩
                  refine WL.va rfl rfl rfl (X.moveB rfl) ?_
                  refine WL.split (j := 3) rfl (fun h90 => ?_) (fun h90 => ?_)
                  · have gh90 := (of_decide_eq_true h90)
                    refine WL.cg rfl (congrArg some h90) rfl rfl (X.call Try.call9 evl_nil) (works_ok _) ?_
                    rintro v92 w91 ⟨rfl, hx93⟩
                    refine WL.va rfl rfl rfl (X.pickT rfl h90 rfl) ?_
                    refine WL.va rfl rfl rfl (X.assignB rfl) ?_
                    refine WL.nil ?_
                    refine thn_n ?_
                    refine WF.ret ?_
                    refine fin_r ?_
                    exact ⟨rfl, (Ext.trans (Ext.trans (Ext.own hww2 oy5 (by omega) hcy) hx88) hx93)⟩
                  · have gh90 := (of_decide_eq_false h90)
                    exact absurd (hFb.trans hFc.symm) gh90

set_option maxHeartbeats 4000000 in
theorem sessionApart_walk (v : Value) (l : List Ses) (c q code : Int) (dv0 : Value) (dl : List UInt8) (o wh : Int) (w : World) (h : Sess w v l) (_hc : -9223372036854775808 ≤ c ∧ c ≤ 9223372036854775807) (_hq : -9223372036854775808 ≤ q ∧ q ≤ 9223372036854775807) (hb : Bytes w dv0 dl) (_ho : -9223372036854775808 ≤ o ∧ o ≤ 9223372036854775807) (_hw : -9223372036854775808 ≤ wh ∧ wh ≤ 9223372036854775807) : FnOk Try.prog 6 [v, i64 c, i64 q, agg [i64 code, dv0], i64 o, i64 wh] w (fun r w' => r = .bool true ∧ Ext w w') := by
  obtain ⟨E, rfl, re, de⟩ := h
  have h : Sess w v (E.map Prod.fst) := ⟨E, rfl, re, de⟩
  refine FnOk.enter (rs := [12]) Try.func6 rfl Try.ntmps6 Try.results6 rfl rfl ?_
  refine WF.seq ?_
  refine WF.region ?_
  refine WL.op rfl (OW.boxA (cs := [i64 code, dv0]) rfl ?_ (by decide))
  intro g9 w1 heg9 hlg9 hO9 hx3
  have := World.grownBy.size hx3
  refine WL.va rfl rfl rfl (X.assignB rfl) ?_
  refine WL.nil ?_
  refine thn_n ?_
  refine WF.seq ?_
  refine WF.seq ?_
  refine WF.region ?_
  refine WL.va rfl rfl rfl (X.move rfl) ?_
  refine WL.c rfl rfl rfl (X.call Try.call8 (evl_cons rfl evl_nil)) (long_ok _ _ _ (h.ext hx3)) ?_
  rintro v7 w6 ⟨rfl, hx8⟩
  have := World.grownBy.size hx8
  refine WL.va rfl rfl rfl (X.moveB rfl) ?_
  refine WL.split (j := 2) rfl (fun h10 => ?_) (fun h10 => ?_)
  · have gh10 := h10
    refine WL.p rfl rfl rfl (congrArg some h10) ?_
    refine WL.p rfl rfl rfl (congrArg some h10) ?_
    refine WL.p rfl rfl rfl (congrArg some h10) ?_
    refine WL.p rfl rfl rfl (congrArg some h10) ?_
    refine WL.va rfl rfl rfl (X.pickT rfl h10 rfl) ?_
    refine WL.nil ?_
    refine thn_n ?_
    refine WF.cond_t rfl ?_
    refine WF.seq ?_
    refine WF.region ?_
    refine WL.c rfl rfl rfl (X.call Try.call9 evl_nil) (works_ok _) ?_
    rintro v13 w12 ⟨rfl, hx14⟩
    have := World.grownBy.size hx14
    refine WL.va rfl rfl rfl (X.assignB rfl) ?_
    refine WL.nil ?_
    refine thn_n ?_
    refine WF.ret ?_
    refine thn_r ?_
    refine fin_r ?_
    exact ⟨rfl, (Ext.trans (Ext.trans hx3 hx8) hx14)⟩
  · have gh10 := h10
    obtain ⟨hl, hd⟩ := longS_no gh10
    refine WL.vg rfl (congrArg some h10) rfl rfl (X.fieldAddrO (off := 1) rfl Try.underlying29 rfl rfl Try.sizeOf27) ?_
    refine WL.vg rfl (congrArg some h10) rfl rfl (X.loadO hO9 hx8 rfl rfl Try.isAgg27) ?_
    refine WL.vg rfl (congrArg some h10) rfl rfl (X.len (Row.ext hb (Ext.trans hx3 hx8)) rfl Try.underlying27) ?_
    refine WL.vg rfl (congrArg some h10) rfl rfl (X.gtr rfl rfl) ?_
    refine WL.va rfl rfl rfl (X.pickF rfl h10 rfl) ?_
    refine WL.nil ?_
    refine thn_n ?_
    refine WF.cond rfl (fun h0_16 => ?_) (fun h0_16 => ?_)
    · have gh0_16 := (of_decide_eq_true h0_16)
      refine WF.seq ?_
      refine WF.region ?_
      refine WL.c rfl rfl rfl (X.call Try.call9 evl_nil) (works_ok _) ?_
      rintro v19 w18 ⟨rfl, hx20⟩
      have := World.grownBy.size hx20
      refine WL.va rfl rfl rfl (X.assignB rfl) ?_
      refine WL.nil ?_
      refine thn_n ?_
      refine WF.ret ?_
      refine thn_r ?_
      refine fin_r ?_
      exact ⟨rfl, (Ext.trans (Ext.trans hx3 hx8) hx20)⟩
    · have gh0_16 := (of_decide_eq_false h0_16)
      have hdl := gh0_16
      rw [List.length_map] at hl
      refine WF.skip ?_
      refine thn_n ?_
      refine WF.seq ?_
      refine WF.region ?_
      refine WL.va rfl rfl rfl (X.move rfl) ?_
      refine WL.va rfl rfl rfl (X.moveI rfl) ?_
      refine WL.va rfl rfl rfl (X.moveI rfl) ?_
      refine WL.va rfl rfl rfl (X.loadOA hO9 hx8 rfl rfl Try.isAgg29 Try.sizeOf29) ?_
      refine WL.c rfl rfl rfl (X.call Try.call17 (evl_cons rfl (evl_cons rfl (evl_cons rfl (evl_cons rfl evl_nil))))) (note_ok _ _ c q code _ dl _ (h.ext (Ext.trans hx3 hx8)) (by simp; omega) (fun s hs => Nat.le_trans (hd s hs) (by decide)) (Row.ext hb (Ext.trans hx3 hx8)) (by omega)) ?_
      rintro vs ws ⟨⟨F, hF, oF⟩, hx22⟩
      have := World.grownBy.size hx22
      have ss : Sess ws vs (noteS (E.map Prod.fst) (⟨c, q, code, dl⟩ : Ses)) := oF.sessE hF
      have hFl : F.length = (noteS (E.map Prod.fst) (⟨c, q, code, dl⟩ : Ses)).length := by rw [← hF]; simp
      have hnl := noteS_len (l := E.map Prod.fst) (s := (⟨c, q, code, dl⟩ : Ses))
      rw [List.length_map, ← hFl] at hnl
      have hsd := note_dat (s := (⟨c, q, code, dl⟩ : Ses)) (fun s hs => Nat.le_trans (hd s hs) (by decide)) (show dl.length ≤ 1000000 by omega)
      refine WL.va rfl rfl rfl (X.assign rfl) ?_
      refine WL.nil ?_
      refine thn_n ?_
      refine WF.seq ?_
      refine WF.region ?_
      refine WL.va rfl rfl rfl (X.move rfl) ?_
      refine WL.va rfl rfl rfl (X.moveI rfl) ?_
      refine WL.va rfl rfl rfl (X.moveI rfl) ?_
      refine WL.c rfl rfl rfl (X.call Try.call11 (evl_cons rfl (evl_cons rfl (evl_cons rfl evl_nil)))) (ask_ok _ (E.map Prod.fst) o wh _ (h.ext (Ext.trans (Ext.trans hx3 hx8) hx22)) (fun s hs => Nat.le_trans (hd s hs) (by decide))) ?_
      rintro tda w23 ⟨⟨da, rfl, oa0⟩, hx24⟩
      have := World.grownBy.size hx24
      have oa := OwnT.of oa0
      refine WL.va rfl rfl rfl (X.move rfl) ?_
      refine WL.va rfl rfl rfl (X.extract rfl rfl) ?_
      refine WL.va rfl rfl rfl (X.extract rfl rfl) ?_
      refine WL.op rfl (OW.allocO (cs := [i64 0, .slice none 0 0]) Try.zeroValue29 rfl ?_ (by decide))
      intro g14 w25 heg14 hlg14 hO14 hx27
      have := World.grownBy.size hx27
      refine WL.op rfl (OW.storeOA hO14 rfl rfl rfl (res_one (own_one oa.own)) Try.sizeOf29 ?_)
      intro w29 hO14 hx31
      have := World.grownBy.size hx31
      replace hO9 := (hO9.ext (Ext.trans (Ext.trans (Ext.trans hx8 hx22) hx24) hx27)).keptO hx31 (by omega)
      replace oa := (oa.ext hx27).keptO hx31 (by omega)
      refine WL.va rfl rfl rfl (X.assignI rfl) ?_
      refine WL.nil ?_
      refine thn_n ?_
      refine WF.seq ?_
      refine WF.region ?_
      refine WL.va rfl rfl rfl (X.move rfl) ?_
      refine WL.va rfl rfl rfl (X.moveI rfl) ?_
      refine WL.va rfl rfl rfl (X.moveI rfl) ?_
      refine WL.c rfl rfl rfl (X.call Try.call11 (evl_cons rfl (evl_cons rfl (evl_cons rfl evl_nil)))) (ask_ok _ (noteS (E.map Prod.fst) (⟨c, q, code, dl⟩ : Ses)) o wh _ (ss.ext (Ext.trans hx24 (Ext.store hx27 hx31 (by omega)))) hsd) ?_
      rintro tdb w33 ⟨⟨db, rfl, ob0⟩, hx34⟩
      have := World.grownBy.size hx34
      have ob := OwnT.of ob0
      refine WL.va rfl rfl rfl (X.move rfl) ?_
      refine WL.va rfl rfl rfl (X.extract rfl rfl) ?_
      refine WL.va rfl rfl rfl (X.extract rfl rfl) ?_
      refine WL.op rfl (OW.allocO (cs := [i64 0, .slice none 0 0]) Try.zeroValue29 rfl ?_ (by decide))
      intro g16 w35 heg16 hlg16 hO16 hx37
      have := World.grownBy.size hx37
      refine WL.op rfl (OW.storeOA hO16 rfl rfl rfl (res_one (own_one ob.own)) Try.sizeOf29 ?_)
      intro w39 hO16 hx41
      have := World.grownBy.size hx41
      replace hO9 := (hO9.ext (Ext.trans hx34 hx37)).keptO hx41 (by omega)
      replace oa := (oa.ext (Ext.trans hx34 hx37)).keptO hx41 (by omega)
      replace hO14 := (hO14.ext (Ext.trans hx34 hx37)).keptO hx41 (by omega)
      replace ob := (ob.ext hx37).keptO hx41 (by omega)
      refine WL.va rfl rfl rfl (X.assignI rfl) ?_
      refine WL.nil ?_
      refine thn_n ?_
      refine WF.seq ?_
      refine WF.seq ?_
      refine WF.region ?_
      refine WL.va rfl rfl rfl (X.moveI rfl) ?_
      refine WL.va rfl rfl rfl (X.moveI rfl) ?_
      refine WL.va rfl rfl rfl (X.neq rfl rfl) ?_
      refine WL.va rfl rfl rfl (X.moveB rfl) ?_
      refine WL.split (j := 3) rfl (fun h44 => ?_) (fun h44 => ?_)
      · have gh44 := (of_decide_eq_true h44)
        have hne := gh44
        refine WL.vg rfl (congrArg some h44) rfl rfl (X.moveI rfl) ?_
        refine WL.vg rfl (congrArg some h44) rfl rfl (X.moveI rfl) ?_
        refine WL.vg rfl (congrArg some h44) rfl rfl (X.neq rfl rfl) ?_
        refine WL.vg rfl (congrArg some h44) rfl rfl (X.moveB rfl) ?_
        refine WL.split (j := 7) rfl (fun h46 => ?_) (fun h46 => ?_)
        · have gh46 := (of_decide_eq_true h46)
          exact absurd (congrArg Prod.snd (ask_note (s := (⟨c, q, code, dl⟩ : Ses)) hne)).symm gh46
        · have gh46 := (Decidable.of_not_not (of_decide_eq_false h46))
          refine WL.vg rfl (congrArg some h46) rfl rfl (X.loadOA hO14 (Ext.refl _) rfl rfl Try.isAgg29 Try.sizeOf29) ?_
          refine WL.vg rfl (congrArg some h46) rfl rfl (X.loadOA hO16 (Ext.refl _) rfl rfl Try.isAgg29 Try.sizeOf29) ?_
          refine WL.cg rfl (congrArg some h46) rfl rfl (X.call Try.call13 (evl_cons rfl (evl_cons rfl evl_nil))) (sameResult_ok _ _ _ _ _ _ _ oa.rd ob.rd) ?_
          rintro v48 w47 ⟨rfl, hx49⟩
          have := World.grownBy.size hx49
          refine WL.vg rfl (congrArg some h46) rfl rfl (X.not rfl) ?_
          refine WL.vg rfl (congrArg some h44) rfl rfl (X.pickF rfl h46 rfl) ?_
          refine WL.va rfl rfl rfl (X.pickT rfl h44 rfl) ?_
          refine WL.nil ?_
          refine thn_n ?_
          refine WF.cond rfl (fun h1_51 => ?_) (fun h1_51 => ?_)
          · have gh1_51 := (of_decide_eq_false (nt h1_51))
            exact absurd (by rw [ask_note (s := (⟨c, q, code, dl⟩ : Ses)) hne]; exact ⟨rfl, rfl⟩) gh1_51
          · have gh1_51 := (of_decide_eq_true (nf h1_51))
            refine WF.skip ?_
            refine thn_n ?_
            refine WF.seq ?_
            refine WF.seq ?_
            refine WF.region ?_
            refine WL.va rfl rfl rfl (X.moveI rfl) ?_
            refine WL.va rfl rfl rfl (X.eql rfl rfl) ?_
            refine WL.nil ?_
            refine thn_n ?_
            refine WF.cond rfl (fun h2_53 => ?_) (fun h2_53 => ?_)
            · have gh2_53 := (of_decide_eq_true h2_53)
              have hc0 := gh2_53
              refine WF.seq ?_
              refine WF.region ?_
              refine WL.va rfl rfl rfl (X.move rfl) ?_
              refine WL.va rfl rfl rfl (X.move rfl) ?_
              refine WL.c rfl rfl rfl (X.call Try.call15 (evl_cons rfl (evl_cons rfl evl_nil))) (sameS_ok _ _ _ _ _ (ss.ext (Ext.trans (Ext.trans (Ext.trans (Ext.trans hx24 (Ext.store hx27 hx31 (by omega))) hx34) (Ext.store hx37 hx41 (by omega))) hx49)) (h.ext (Ext.trans (Ext.trans (Ext.trans (Ext.trans (Ext.trans (Ext.trans (Ext.trans hx3 hx8) hx22) hx24) (Ext.store hx27 hx31 (by omega))) hx34) (Ext.store hx37 hx41 (by omega))) hx49))) ?_
              rintro v56 w55 ⟨rfl, hx57⟩
              have := World.grownBy.size hx57
              refine WL.va rfl rfl rfl (X.moveB rfl) ?_
              refine WL.split (j := 3) rfl (fun h59 => ?_) (fun h59 => ?_)
              · have gh59 := (of_decide_eq_true h59)
                refine WL.cg rfl (congrArg some h59) rfl rfl (X.call Try.call9 evl_nil) (works_ok _) ?_
                rintro v61 w60 ⟨rfl, hx62⟩
                have := World.grownBy.size hx62
                refine WL.va rfl rfl rfl (X.pickT rfl h59 rfl) ?_
                refine WL.va rfl rfl rfl (X.assignB rfl) ?_
                refine WL.nil ?_
                refine thn_n ?_
                refine WF.ret ?_
                refine thn_r ?_
                refine fin_r ?_
                exact ⟨rfl, (Ext.trans (Ext.trans (Ext.trans (Ext.trans (Ext.trans (Ext.trans (Ext.trans (Ext.trans (Ext.trans hx3 hx8) hx22) hx24) (Ext.store hx27 hx31 (by omega))) hx34) (Ext.store hx37 hx41 (by omega))) hx49) hx57) hx62)⟩
              · have gh59 := (of_decide_eq_false h59)
                exact absurd (noteS_none hc0) gh59
            · have gh2_53 := (of_decide_eq_false h2_53)
              have hc0 := gh2_53
              refine WF.skip ?_
              refine thn_n ?_
              refine WF.seq ?_
              refine WF.region ?_
              refine WL.va rfl rfl rfl (X.move rfl) ?_
              refine WL.va rfl rfl rfl (X.moveI rfl) ?_
              refine WL.va rfl rfl rfl (X.moveI rfl) ?_
              refine WL.c rfl rfl rfl (X.call Try.call11 (evl_cons rfl (evl_cons rfl (evl_cons rfl evl_nil)))) (ask_ok _ (noteS (E.map Prod.fst) (⟨c, q, code, dl⟩ : Ses)) c q _ (ss.ext (Ext.trans (Ext.trans (Ext.trans (Ext.trans hx24 (Ext.store hx27 hx31 (by omega))) hx34) (Ext.store hx37 hx41 (by omega))) hx49)) hsd) ?_
              rintro tdc w65 ⟨⟨dc, rfl, oc0⟩, hx66⟩
              have := World.grownBy.size hx66
              have oc := OwnT.of oc0
              refine WL.va rfl rfl rfl (X.move rfl) ?_
              refine WL.va rfl rfl rfl (X.extract rfl rfl) ?_
              refine WL.va rfl rfl rfl (X.extract rfl rfl) ?_
              refine WL.op rfl (OW.allocO (cs := [i64 0, .slice none 0 0]) Try.zeroValue29 rfl ?_ (by decide))
              intro g18 w67 heg18 hlg18 hO18 hx69
              have := World.grownBy.size hx69
              refine WL.op rfl (OW.storeOA hO18 rfl rfl rfl (res_one (own_one oc.own)) Try.sizeOf29 ?_)
              intro w71 hO18 hx73
              have := World.grownBy.size hx73
              replace hO9 := (hO9.ext (Ext.trans (Ext.trans hx49 hx66) hx69)).keptO hx73 (by omega)
              replace oa := (oa.ext (Ext.trans (Ext.trans hx49 hx66) hx69)).keptO hx73 (by omega)
              replace hO14 := (hO14.ext (Ext.trans (Ext.trans hx49 hx66) hx69)).keptO hx73 (by omega)
              replace ob := (ob.ext (Ext.trans (Ext.trans hx49 hx66) hx69)).keptO hx73 (by omega)
              replace hO16 := (hO16.ext (Ext.trans (Ext.trans hx49 hx66) hx69)).keptO hx73 (by omega)
              replace oc := (oc.ext hx69).keptO hx73 (by omega)
              refine WL.va rfl rfl rfl (X.assignI rfl) ?_
              refine WL.nil ?_
              refine thn_n ?_
              refine WF.seq ?_
              refine WF.region ?_
              refine WL.va rfl rfl rfl (X.moveI rfl) ?_
              refine WL.va rfl rfl rfl (X.eql rfl rfl) ?_
              refine WL.va rfl rfl rfl (X.moveB rfl) ?_
              refine WL.split (j := 2) rfl (fun h76 => ?_) (fun h76 => ?_)
              · have gh76 := (of_decide_eq_true h76)
                refine WL.vg rfl (congrArg some h76) rfl rfl (X.loadOA hO18 (Ext.refl _) rfl rfl Try.isAgg29 Try.sizeOf29) ?_
                refine WL.vg rfl (congrArg some h76) rfl rfl (X.loadOA hO9 (Ext.refl _) rfl rfl Try.isAgg29 Try.sizeOf29) ?_
                refine WL.cg rfl (congrArg some h76) rfl rfl (X.call Try.call13 (evl_cons rfl (evl_cons rfl evl_nil))) (sameResult_ok _ _ _ _ _ _ _ oc.rd (Row.ext hb (Ext.trans (Ext.trans (Ext.trans (Ext.trans (Ext.trans (Ext.trans (Ext.trans (Ext.trans (Ext.trans hx3 hx8) hx22) hx24) (Ext.store hx27 hx31 (by omega))) hx34) (Ext.store hx37 hx41 (by omega))) hx49) hx66) (Ext.store hx69 hx73 (by omega))))) ?_
                rintro v78 w77 ⟨rfl, hx79⟩
                have := World.grownBy.size hx79
                refine WL.va rfl rfl rfl (X.pickT rfl h76 rfl) ?_
                refine WL.va rfl rfl rfl (X.moveB rfl) ?_
                refine WL.split (j := 7) rfl (fun h81 => ?_) (fun h81 => ?_)
                · have gh81 := (of_decide_eq_true h81)
                  refine WL.vg rfl (congrArg some h81) rfl rfl (X.move rfl) ?_
                  refine WL.vg rfl (congrArg some h81) rfl rfl (X.len oF.srow rfl Try.underlying22) ?_
                  refine WL.vg rfl (congrArg some h81) rfl rfl (X.move rfl) ?_
                  refine WL.vg rfl (congrArg some h81) rfl rfl (X.len re rfl Try.underlying22) ?_
                  refine WL.vg rfl (congrArg some h81) rfl rfl (X.geq rfl rfl) ?_
                  refine WL.va rfl rfl rfl (X.pickT rfl h81 rfl) ?_
                  refine WL.va rfl rfl rfl (X.moveB rfl) ?_
                  refine WL.split (j := 14) rfl (fun h83 => ?_) (fun h83 => ?_)
                  · have gh83 := (of_decide_eq_true h83)
                    refine WL.vg rfl (congrArg some h83) rfl rfl (X.move rfl) ?_
                    refine WL.vg rfl (congrArg some h83) rfl rfl (X.len oF.srow rfl Try.underlying22) ?_
                    refine WL.vg rfl (congrArg some h83) rfl rfl (X.move rfl) ?_
                    refine WL.vg rfl (congrArg some h83) rfl rfl (X.len re rfl Try.underlying22) ?_
                    refine WL.vg rfl (congrArg some h83) rfl rfl (X.add rfl rfl (w64 (by omega))) ?_
                    refine WL.vg rfl (congrArg some h83) rfl rfl (X.leq rfl rfl) ?_
                    refine WL.va rfl rfl rfl (X.pickT rfl h83 rfl) ?_
                    refine WL.va rfl rfl rfl (X.moveB rfl) ?_
                    refine WL.split (j := 22) rfl (fun h85 => ?_) (fun h85 => ?_)
                    · have gh85 := (of_decide_eq_true h85)
                      refine WL.cg rfl (congrArg some h85) rfl rfl (X.call Try.call9 evl_nil) (works_ok _) ?_
                      rintro v87 w86 ⟨rfl, hx88⟩
                      have := World.grownBy.size hx88
                      refine WL.va rfl rfl rfl (X.pickT rfl h85 rfl) ?_
                      refine WL.va rfl rfl rfl (X.assignB rfl) ?_
                      refine WL.nil ?_
                      refine thn_n ?_
                      refine WF.ret ?_
                      refine fin_r ?_
                      exact ⟨rfl, (Ext.trans (Ext.trans (Ext.trans (Ext.trans (Ext.trans (Ext.trans (Ext.trans (Ext.trans (Ext.trans (Ext.trans (Ext.trans hx3 hx8) hx22) hx24) (Ext.store hx27 hx31 (by omega))) hx34) (Ext.store hx37 hx41 (by omega))) hx49) hx66) (Ext.store hx69 hx73 (by omega))) hx79) hx88)⟩
                    · have gh85 := (of_decide_eq_false h85)
                      omega
                  · have gh83 := (of_decide_eq_false h83)
                    omega
                · have gh81 := (of_decide_eq_false h81)
                  exact absurd ⟨congrArg (fun z => z.1.1) (ask_own (s := (⟨c, q, code, dl⟩ : Ses)) hc0), congrArg (fun z => z.1.2) (ask_own (s := (⟨c, q, code, dl⟩ : Ses)) hc0)⟩ gh81
              · have gh76 := (of_decide_eq_false h76)
                exact absurd (congrArg Prod.snd (ask_own (s := (⟨c, q, code, dl⟩ : Ses)) hc0)) gh76
      · have gh44 := (Decidable.of_not_not (of_decide_eq_false h44))
        refine WL.p rfl rfl rfl (congrArg some h44) ?_
        refine WL.p rfl rfl rfl (congrArg some h44) ?_
        refine WL.p rfl rfl rfl (congrArg some h44) ?_
        refine WL.p rfl rfl rfl (congrArg some h44) ?_
        refine WL.pn rfl rfl rfl rfl ?_
        refine WL.pn rfl rfl rfl rfl ?_
        refine WL.pn rfl rfl rfl rfl ?_
        refine WL.pn rfl rfl rfl rfl ?_
        refine WL.p rfl rfl rfl (congrArg some h44) ?_
        refine WL.va rfl rfl rfl (X.pickF rfl h44 rfl) ?_
        refine WL.nil ?_
        refine thn_n ?_
        refine WF.cond_f rfl ?_
        refine WF.skip ?_
        refine thn_n ?_
        refine WF.seq ?_
        refine WF.seq ?_
        refine WF.region ?_
        refine WL.va rfl rfl rfl (X.moveI rfl) ?_
        refine WL.va rfl rfl rfl (X.eql rfl rfl) ?_
        refine WL.nil ?_
        refine thn_n ?_
        refine WF.cond rfl (fun h2_91 => ?_) (fun h2_91 => ?_)
        · have gh2_91 := (of_decide_eq_true h2_91)
          have hc0 := gh2_91
          refine WF.seq ?_
          refine WF.region ?_
          refine WL.va rfl rfl rfl (X.move rfl) ?_
          refine WL.va rfl rfl rfl (X.move rfl) ?_
          refine WL.c rfl rfl rfl (X.call Try.call15 (evl_cons rfl (evl_cons rfl evl_nil))) (sameS_ok _ _ _ _ _ (ss.ext (Ext.trans (Ext.trans (Ext.trans hx24 (Ext.store hx27 hx31 (by omega))) hx34) (Ext.store hx37 hx41 (by omega)))) (h.ext (Ext.trans (Ext.trans (Ext.trans (Ext.trans (Ext.trans (Ext.trans hx3 hx8) hx22) hx24) (Ext.store hx27 hx31 (by omega))) hx34) (Ext.store hx37 hx41 (by omega))))) ?_
          rintro v94 w93 ⟨rfl, hx95⟩
          have := World.grownBy.size hx95
          refine WL.va rfl rfl rfl (X.moveB rfl) ?_
          refine WL.split (j := 3) rfl (fun h97 => ?_) (fun h97 => ?_)
          · have gh97 := (of_decide_eq_true h97)
            refine WL.cg rfl (congrArg some h97) rfl rfl (X.call Try.call9 evl_nil) (works_ok _) ?_
            rintro v99 w98 ⟨rfl, hx100⟩
            have := World.grownBy.size hx100
            refine WL.va rfl rfl rfl (X.pickT rfl h97 rfl) ?_
            refine WL.va rfl rfl rfl (X.assignB rfl) ?_
            refine WL.nil ?_
            refine thn_n ?_
            refine WF.ret ?_
            refine thn_r ?_
            refine fin_r ?_
            exact ⟨rfl, (Ext.trans (Ext.trans (Ext.trans (Ext.trans (Ext.trans (Ext.trans (Ext.trans (Ext.trans hx3 hx8) hx22) hx24) (Ext.store hx27 hx31 (by omega))) hx34) (Ext.store hx37 hx41 (by omega))) hx95) hx100)⟩
          · have gh97 := (of_decide_eq_false h97)
            exact absurd (noteS_none hc0) gh97
        · have gh2_91 := (of_decide_eq_false h2_91)
          have hc0 := gh2_91
          refine WF.skip ?_
          refine thn_n ?_
          refine WF.seq ?_
          refine WF.region ?_
          refine WL.va rfl rfl rfl (X.move rfl) ?_
          refine WL.va rfl rfl rfl (X.moveI rfl) ?_
          refine WL.va rfl rfl rfl (X.moveI rfl) ?_
          refine WL.c rfl rfl rfl (X.call Try.call11 (evl_cons rfl (evl_cons rfl (evl_cons rfl evl_nil)))) (ask_ok _ (noteS (E.map Prod.fst) (⟨c, q, code, dl⟩ : Ses)) c q _ (ss.ext (Ext.trans (Ext.trans (Ext.trans hx24 (Ext.store hx27 hx31 (by omega))) hx34) (Ext.store hx37 hx41 (by omega)))) hsd) ?_
          rintro tdc w102 ⟨⟨dc, rfl, oc0⟩, hx103⟩
          have := World.grownBy.size hx103
          have oc := OwnT.of oc0
          refine WL.va rfl rfl rfl (X.move rfl) ?_
          refine WL.va rfl rfl rfl (X.extract rfl rfl) ?_
          refine WL.va rfl rfl rfl (X.extract rfl rfl) ?_
          refine WL.op rfl (OW.allocO (cs := [i64 0, .slice none 0 0]) Try.zeroValue29 rfl ?_ (by decide))
          intro g18 w104 heg18 hlg18 hO18 hx106
          have := World.grownBy.size hx106
          refine WL.op rfl (OW.storeOA hO18 rfl rfl rfl (res_one (own_one oc.own)) Try.sizeOf29 ?_)
          intro w108 hO18 hx110
          have := World.grownBy.size hx110
          replace hO9 := (hO9.ext (Ext.trans hx103 hx106)).keptO hx110 (by omega)
          replace oa := (oa.ext (Ext.trans hx103 hx106)).keptO hx110 (by omega)
          replace hO14 := (hO14.ext (Ext.trans hx103 hx106)).keptO hx110 (by omega)
          replace ob := (ob.ext (Ext.trans hx103 hx106)).keptO hx110 (by omega)
          replace hO16 := (hO16.ext (Ext.trans hx103 hx106)).keptO hx110 (by omega)
          replace oc := (oc.ext hx106).keptO hx110 (by omega)
          refine WL.va rfl rfl rfl (X.assignI rfl) ?_
          refine WL.nil ?_
          refine thn_n ?_
          refine WF.seq ?_
          refine WF.region ?_
          refine WL.va rfl rfl rfl (X.moveI rfl) ?_
          refine WL.va rfl rfl rfl (X.eql rfl rfl) ?_
          refine WL.va rfl rfl rfl (X.moveB rfl) ?_
          refine WL.split (j := 2) rfl (fun h113 => ?_) (fun h113 => ?_)
          · have gh113 := (of_decide_eq_true h113)
            refine WL.vg rfl (congrArg some h113) rfl rfl (X.loadOA hO18 (Ext.refl _) rfl rfl Try.isAgg29 Try.sizeOf29) ?_
            refine WL.vg rfl (congrArg some h113) rfl rfl (X.loadOA hO9 (Ext.refl _) rfl rfl Try.isAgg29 Try.sizeOf29) ?_
            refine WL.cg rfl (congrArg some h113) rfl rfl (X.call Try.call13 (evl_cons rfl (evl_cons rfl evl_nil))) (sameResult_ok _ _ _ _ _ _ _ oc.rd (Row.ext hb (Ext.trans (Ext.trans (Ext.trans (Ext.trans (Ext.trans (Ext.trans (Ext.trans (Ext.trans hx3 hx8) hx22) hx24) (Ext.store hx27 hx31 (by omega))) hx34) (Ext.store hx37 hx41 (by omega))) hx103) (Ext.store hx106 hx110 (by omega))))) ?_
            rintro v115 w114 ⟨rfl, hx116⟩
            have := World.grownBy.size hx116
            refine WL.va rfl rfl rfl (X.pickT rfl h113 rfl) ?_
            refine WL.va rfl rfl rfl (X.moveB rfl) ?_
            refine WL.split (j := 7) rfl (fun h118 => ?_) (fun h118 => ?_)
            · have gh118 := (of_decide_eq_true h118)
              refine WL.vg rfl (congrArg some h118) rfl rfl (X.move rfl) ?_
              refine WL.vg rfl (congrArg some h118) rfl rfl (X.len oF.srow rfl Try.underlying22) ?_
              refine WL.vg rfl (congrArg some h118) rfl rfl (X.move rfl) ?_
              refine WL.vg rfl (congrArg some h118) rfl rfl (X.len re rfl Try.underlying22) ?_
              refine WL.vg rfl (congrArg some h118) rfl rfl (X.geq rfl rfl) ?_
              refine WL.va rfl rfl rfl (X.pickT rfl h118 rfl) ?_
              refine WL.va rfl rfl rfl (X.moveB rfl) ?_
              refine WL.split (j := 14) rfl (fun h120 => ?_) (fun h120 => ?_)
              · have gh120 := (of_decide_eq_true h120)
                refine WL.vg rfl (congrArg some h120) rfl rfl (X.move rfl) ?_
                refine WL.vg rfl (congrArg some h120) rfl rfl (X.len oF.srow rfl Try.underlying22) ?_
                refine WL.vg rfl (congrArg some h120) rfl rfl (X.move rfl) ?_
                refine WL.vg rfl (congrArg some h120) rfl rfl (X.len re rfl Try.underlying22) ?_
                refine WL.vg rfl (congrArg some h120) rfl rfl (X.add rfl rfl (w64 (by omega))) ?_
                refine WL.vg rfl (congrArg some h120) rfl rfl (X.leq rfl rfl) ?_
                refine WL.va rfl rfl rfl (X.pickT rfl h120 rfl) ?_
                refine WL.va rfl rfl rfl (X.moveB rfl) ?_
                refine WL.split (j := 22) rfl (fun h122 => ?_) (fun h122 => ?_)
                · have gh122 := (of_decide_eq_true h122)
                  refine WL.cg rfl (congrArg some h122) rfl rfl (X.call Try.call9 evl_nil) (works_ok _) ?_
                  rintro v124 w123 ⟨rfl, hx125⟩
                  have := World.grownBy.size hx125
                  refine WL.va rfl rfl rfl (X.pickT rfl h122 rfl) ?_
                  refine WL.va rfl rfl rfl (X.assignB rfl) ?_
                  refine WL.nil ?_
                  refine thn_n ?_
                  refine WF.ret ?_
                  refine fin_r ?_
                  exact ⟨rfl, (Ext.trans (Ext.trans (Ext.trans (Ext.trans (Ext.trans (Ext.trans (Ext.trans (Ext.trans (Ext.trans (Ext.trans hx3 hx8) hx22) hx24) (Ext.store hx27 hx31 (by omega))) hx34) (Ext.store hx37 hx41 (by omega))) hx103) (Ext.store hx106 hx110 (by omega))) hx116) hx125)⟩
                · have gh122 := (of_decide_eq_false h122)
                  omega
              · have gh120 := (of_decide_eq_false h120)
                omega
            · have gh118 := (of_decide_eq_false h118)
              exact absurd ⟨congrArg (fun z => z.1.1) (ask_own (s := (⟨c, q, code, dl⟩ : Ses)) hc0), congrArg (fun z => z.1.2) (ask_own (s := (⟨c, q, code, dl⟩ : Ses)) hc0)⟩ gh118
          · have gh113 := (of_decide_eq_false h113)
            exact absurd (congrArg Prod.snd (ask_own (s := (⟨c, q, code, dl⟩ : Ses)) hc0)) gh113

end Go.Proofs.Ythcjifccfpoekaa
