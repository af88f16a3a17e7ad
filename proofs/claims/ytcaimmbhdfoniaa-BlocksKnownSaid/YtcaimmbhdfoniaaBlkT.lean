/- The walks of BlocksJoin, BlocksKeep, BlocksTell and BlocksParted. -/
import Derived.Test.YtcaimmbhdfoniaaBlkTop
namespace Go.Proofs.Ytcaimmbhdfoniaa
open Go Go.RowKit Kf

set_option maxHeartbeats 1600000 in
theorem blocksJoin_walk (va : Value) (a : List Bl) (vb : Value) (b : List Bl) (w : World) (ha : Bls w va a) (hb : Bls w vb b) : FnOk Try.prog 6 [va, vb] w (fun r w' => r = .bool true ∧ Ext w w') := by
  refine FnOk.enter (rs := [4]) Try.func6 rfl Try.ntmps6 Try.results6 rfl rfl ?_
  refine WF.seq ?_
  refine WF.region ?_
  refine WL.va rfl rfl rfl (X.assignB rfl) ?_
  refine WL.nil ?_
  refine thn_n ?_
  refine WF.seq ?_
  refine WF.seq ?_
  refine WF.region ?_
  refine WL.va rfl rfl rfl (X.move rfl) ?_
  refine WL.c rfl rfl rfl (X.call Try.call10 (evl_cons rfl evl_nil)) (right_ok _ a _ ha) ?_
  rintro v3 w2 ⟨rfl, hx4⟩
  refine WL.va rfl rfl rfl (X.not rfl) ?_
  refine WL.va rfl rfl rfl (X.moveB rfl) ?_
  refine WL.split (j := 3) rfl (fun h7 => ?_) (fun h7 => ?_)
  · have gh7 := (nt h7)
    refine WL.p rfl rfl rfl (congrArg some h7) ?_
    refine WL.p rfl rfl rfl (congrArg some h7) ?_
    refine WL.p rfl rfl rfl (congrArg some h7) ?_
    refine WL.va rfl rfl rfl (X.pickT rfl h7 rfl) ?_
    refine WL.nil ?_
    refine thn_n ?_
    refine WF.cond_t rfl ?_
    refine WF.seq ?_
    refine WF.region ?_
    refine WL.c rfl rfl rfl (X.call Try.call12 evl_nil) (known_ok _) ?_
    rintro v10 w9 ⟨rfl, hx11⟩
    refine WL.va rfl rfl rfl (X.assignB rfl) ?_
    refine WL.nil ?_
    refine thn_n ?_
    refine WF.ret ?_
    refine thn_r ?_
    refine fin_r ?_
    first | exact ⟨rfl, (Ext.trans hx4 hx11)⟩ | exact ⟨congrArg Value.bool (decide_eq_true rfl), (Ext.trans hx4 hx11)⟩
  · have gh7 := (nf h7)
    have hra := rightB_iff.1 gh7
    refine WL.vg rfl (congrArg some h7) rfl rfl (X.move rfl) ?_
    refine WL.cg rfl (congrArg some h7) rfl rfl (X.call Try.call10 (evl_cons rfl evl_nil)) (right_ok _ b _ (hb.ext hx4)) ?_
    rintro v14 w13 ⟨rfl, hx15⟩
    refine WL.vg rfl (congrArg some h7) rfl rfl (X.not rfl) ?_
    refine WL.va rfl rfl rfl (X.pickF rfl h7 rfl) ?_
    refine WL.nil ?_
    refine thn_n ?_
    refine WF.cond rfl (fun h0_17 => ?_) (fun h0_17 => ?_)
    · have gh0_17 := (nt h0_17)
      refine WF.seq ?_
      refine WF.region ?_
      refine WL.c rfl rfl rfl (X.call Try.call12 evl_nil) (known_ok _) ?_
      rintro v20 w19 ⟨rfl, hx21⟩
      refine WL.va rfl rfl rfl (X.assignB rfl) ?_
      refine WL.nil ?_
      refine thn_n ?_
      refine WF.ret ?_
      refine thn_r ?_
      refine fin_r ?_
      first | exact ⟨rfl, (Ext.trans (Ext.trans hx4 hx15) hx21)⟩ | exact ⟨congrArg Value.bool (decide_eq_true rfl), (Ext.trans (Ext.trans hx4 hx15) hx21)⟩
    · have gh0_17 := (nf h0_17)
      have hrb := rightB_iff.1 gh0_17
      refine WF.skip ?_
      refine thn_n ?_
      refine WF.seq ?_
      refine WF.region ?_
      refine WL.va rfl rfl rfl (X.move rfl) ?_
      refine WL.c rfl rfl rfl (X.call Try.call14 (evl_cons rfl evl_nil)) (copyBs_ok _ a _ (ha.ext (Ext.trans hx4 hx15)) (right_le hra) (right_dat hra)) ?_
      rintro vx wx ⟨⟨Fx, hFx, oFx⟩, hx23⟩
      have sFx : Bls wx vx a := oFx.sessE hFx
      refine WL.va rfl rfl rfl (X.assign rfl) ?_
      refine WL.nil ?_
      refine thn_n ?_
      refine WF.seq ?_
      refine WF.region ?_
      refine WL.va rfl rfl rfl (X.move rfl) ?_
      refine WL.c rfl rfl rfl (X.call Try.call14 (evl_cons rfl evl_nil)) (copyBs_ok _ b _ (hb.ext (Ext.trans (Ext.trans hx4 hx15) hx23)) (right_le hrb) (right_dat hrb)) ?_
      rintro vy wy ⟨⟨Fy, hFy, oFy⟩, hx24⟩
      have sFy : Bls wy vy b := oFy.sessE hFy
      refine WL.va rfl rfl rfl (X.assign rfl) ?_
      refine WL.nil ?_
      refine thn_n ?_
      refine WF.seq ?_
      refine WF.region ?_
      refine WL.va rfl rfl rfl (X.move rfl) ?_
      refine WL.va rfl rfl rfl (X.move rfl) ?_
      refine WL.c rfl rfl rfl (X.call Try.call26 (evl_cons rfl (evl_cons rfl evl_nil))) (join_ok _ _ a b _ (sFx.ext hx24) (sFy.ext (Ext.refl wy)) hra hrb) ?_
      rintro vz wz ⟨⟨Fz, hFz, oFz⟩, hx25⟩
      have uZ := oFz.under
      refine WL.va rfl rfl rfl (X.assign rfl) ?_
      refine WL.nil ?_
      refine thn_n ?_
      refine WF.seq ?_
      refine WF.region ?_
      refine WL.va rfl rfl rfl (X.move rfl) ?_
      refine WL.va rfl rfl rfl (X.move rfl) ?_
      refine WL.va rfl rfl rfl (X.move rfl) ?_
      refine WL.c rfl rfl rfl (X.call Try.call27 (evl_cons rfl (evl_cons rfl evl_nil))) (refJoin_ok _ _ a b _ (ha.ext (Ext.trans (Ext.trans (Ext.trans (Ext.trans hx4 hx15) hx23) hx24) hx25)) (hb.ext (Ext.trans (Ext.trans (Ext.trans (Ext.trans hx4 hx15) hx23) hx24) hx25)) hra hrb) ?_
      rintro v26 wr ⟨sR, hx27⟩
      refine WL.c rfl rfl rfl (X.call Try.call23 (evl_cons rfl (evl_cons rfl evl_nil))) (sameBs_ok _ _ (joinB a b) (joinB a b) _ ((oFz.sessE hFz).ext hx27) (sR.ext (Ext.refl wr))) ?_
      rintro v29 w28 ⟨rfl, hx30⟩
      refine WL.va rfl rfl rfl (X.assignB rfl) ?_
      refine WL.nil ?_
      refine thn_n ?_
      refine WF.seq ?_
      refine WF.region ?_
      refine WL.va rfl rfl rfl (X.move rfl) ?_
      have oZ1 := oFz.ext (Ext.trans hx27 hx30)
      have hwy := (show Ext wy w28 from (Ext.trans (Ext.trans hx25 hx27) hx30))
      refine WL.c rfl rfl rfl (X.call Try.call28 (evl_cons rfl evl_nil)) (spoilBs_ok _ _ _ _ _ oZ1 uZ) ?_
      rintro v33 w32 hcz
      refine WL.nil ?_
      refine thn_n ?_
      refine WF.seq ?_
      refine WF.region ?_
      refine WL.va rfl rfl rfl (X.moveB rfl) ?_
      refine WL.va rfl rfl rfl (X.moveB rfl) ?_
      refine WL.split (j := 1) rfl (fun h35 => ?_) (fun h35 => ?_)
      · have gh35 := (of_decide_eq_true h35)
        refine WL.vg rfl (congrArg some h35) rfl rfl (X.move rfl) ?_
        refine WL.vg rfl (congrArg some h35) rfl rfl (X.move rfl) ?_
        refine WL.cg rfl (congrArg some h35) rfl rfl (X.call Try.call23 (evl_cons rfl (evl_cons rfl evl_nil))) (sameBs_ok _ _ a a _ (sFx.ext (Ext.trans hx24 (Chg.ext hwy hcz (Nat.le_refl _)))) (ha.ext (Ext.trans (Ext.trans (Ext.trans (Ext.trans hx4 hx15) hx23) hx24) (Chg.ext hwy hcz (Nat.le_refl _))))) ?_
        rintro v37 w36 ⟨rfl, hx38⟩
        refine WL.va rfl rfl rfl (X.pickT rfl h35 rfl) ?_
        refine WL.va rfl rfl rfl (X.moveB rfl) ?_
        refine WL.split (j := 6) rfl (fun h40 => ?_) (fun h40 => ?_)
        · have gh40 := (of_decide_eq_true h40)
          refine WL.vg rfl (congrArg some h40) rfl rfl (X.move rfl) ?_
          refine WL.vg rfl (congrArg some h40) rfl rfl (X.move rfl) ?_
          refine WL.cg rfl (congrArg some h40) rfl rfl (X.call Try.call23 (evl_cons rfl (evl_cons rfl evl_nil))) (sameBs_ok _ _ b b _ (sFy.ext (Ext.trans (Chg.ext hwy hcz (Nat.le_refl _)) hx38)) (hb.ext (Ext.trans (Ext.trans (Ext.trans (Ext.trans (Ext.trans hx4 hx15) hx23) hx24) (Chg.ext hwy hcz (Nat.le_refl _))) hx38))) ?_
          rintro v42 w41 ⟨rfl, hx43⟩
          refine WL.va rfl rfl rfl (X.pickT rfl h40 rfl) ?_
          refine WL.va rfl rfl rfl (X.assignB rfl) ?_
          refine WL.nil ?_
          refine thn_n ?_
          refine WF.ret ?_
          refine fin_r ?_
          first | exact ⟨rfl, (Ext.trans (Ext.trans (Ext.trans (Ext.trans (Ext.trans (Ext.trans hx4 hx15) hx23) hx24) (Chg.ext hwy hcz (Nat.le_refl _))) hx38) hx43)⟩ | exact ⟨congrArg Value.bool (decide_eq_true rfl), (Ext.trans (Ext.trans (Ext.trans (Ext.trans (Ext.trans (Ext.trans hx4 hx15) hx23) hx24) (Chg.ext hwy hcz (Nat.le_refl _))) hx38) hx43)⟩
        · have gh40 := (of_decide_eq_false h40)
          exact absurd rfl gh40
      · have gh35 := (of_decide_eq_false h35)
        exact absurd rfl gh35

set_option maxHeartbeats 3200000 in
theorem blocksKeep_walk (vk : Value) (kk : List Kp) (no lo hi ask blk : Int) (vl : Value) (l : List Bl) (w : World) (hk : Kps w vk kk) (_hx : True) (hl : Bls w vl l) : FnOk Try.prog 3 [vk, agg [i64 no, i64 lo, i64 hi, i64 ask, i64 blk], vl] w (fun r w' => r = .bool true ∧ Ext w w') := by
  refine FnOk.enter (rs := [6]) Try.func3 rfl Try.ntmps3 Try.results3 rfl rfl ?_
  refine WF.seq ?_
  refine WF.region ?_
  refine WL.op rfl (OW.boxA (cs := [i64 no, i64 lo, i64 hi, i64 ask, i64 blk]) rfl ?_ (by decide))
  intro g4 w1 heg4 hlg4 hO4 hx3
  have := World.grownBy.size hx3
  refine WL.va rfl rfl rfl (X.assignB rfl) ?_
  refine WL.nil ?_
  refine thn_n ?_
  refine WF.seq ?_
  refine WF.seq ?_
  refine WF.region ?_
  refine WL.va rfl rfl rfl (X.move rfl) ?_
  refine WL.c rfl rfl rfl (X.call Try.call10 (evl_cons rfl evl_nil)) (right_ok _ l _ (hl.ext hx3)) ?_
  rintro v7 w6 ⟨rfl, hx8⟩
  have := World.grownBy.size hx8
  refine WL.va rfl rfl rfl (X.not rfl) ?_
  refine WL.va rfl rfl rfl (X.moveB rfl) ?_
  refine WL.split (j := 3) rfl (fun h11 => ?_) (fun h11 => ?_)
  · have gh11 := (nt h11)
    refine WL.p rfl rfl rfl (congrArg some h11) ?_
    refine WL.p rfl rfl rfl (congrArg some h11) ?_
    refine WL.p rfl rfl rfl (congrArg some h11) ?_
    refine WL.va rfl rfl rfl (X.pickT rfl h11 rfl) ?_
    refine WL.nil ?_
    refine thn_n ?_
    refine WF.cond_t rfl ?_
    refine WF.seq ?_
    refine WF.region ?_
    refine WL.c rfl rfl rfl (X.call Try.call12 evl_nil) (known_ok _) ?_
    rintro v14 w13 ⟨rfl, hx15⟩
    have := World.grownBy.size hx15
    refine WL.va rfl rfl rfl (X.assignB rfl) ?_
    refine WL.nil ?_
    refine thn_n ?_
    refine WF.ret ?_
    refine thn_r ?_
    refine fin_r ?_
    first | exact ⟨rfl, (Ext.trans (Ext.trans hx3 hx8) hx15)⟩ | exact ⟨congrArg Value.bool (decide_eq_true rfl), (Ext.trans (Ext.trans hx3 hx8) hx15)⟩
  · have gh11 := (nf h11)
    have hr := rightB_iff.1 gh11
    refine WL.vg rfl (congrArg some h11) rfl rfl (X.move rfl) ?_
    refine WL.cg rfl (congrArg some h11) rfl rfl (X.call Try.call11 (evl_cons rfl evl_nil)) (rightK_ok _ kk _ (hk.ext (Ext.trans hx3 hx8))) ?_
    rintro v18 w17 ⟨rfl, hx19⟩
    have := World.grownBy.size hx19
    refine WL.vg rfl (congrArg some h11) rfl rfl (X.not rfl) ?_
    refine WL.va rfl rfl rfl (X.pickF rfl h11 rfl) ?_
    refine WL.nil ?_
    refine thn_n ?_
    refine WF.cond rfl (fun h0_21 => ?_) (fun h0_21 => ?_)
    · have gh0_21 := (nt h0_21)
      refine WF.seq ?_
      refine WF.region ?_
      refine WL.c rfl rfl rfl (X.call Try.call12 evl_nil) (known_ok _) ?_
      rintro v24 w23 ⟨rfl, hx25⟩
      have := World.grownBy.size hx25
      refine WL.va rfl rfl rfl (X.assignB rfl) ?_
      refine WL.nil ?_
      refine thn_n ?_
      refine WF.ret ?_
      refine thn_r ?_
      refine fin_r ?_
      first | exact ⟨rfl, (Ext.trans (Ext.trans (Ext.trans hx3 hx8) hx19) hx25)⟩ | exact ⟨congrArg Value.bool (decide_eq_true rfl), (Ext.trans (Ext.trans (Ext.trans hx3 hx8) hx19) hx25)⟩
    · have gh0_21 := (nf h0_21)
      obtain ⟨hk5, hrk⟩ := right5_iff.1 gh0_21
      have hkr := keep_right (s := no) (lo := lo) (hi := hi) hrk hr
      refine WF.skip ?_
      refine thn_n ?_
      refine WF.seq ?_
      refine WF.region ?_
      refine WL.va rfl rfl rfl (X.fieldAddrO (off := 1) rfl Try.underlying24 rfl rfl Try.sizeOf3) ?_
      refine WL.va rfl rfl rfl (X.loadO hO4 (Ext.trans hx8 hx19) rfl rfl Try.isAgg3) ?_
      refine WL.va rfl rfl rfl (X.fieldAddrO (off := 2) rfl Try.underlying24 rfl rfl Try.sizeOf3) ?_
      refine WL.va rfl rfl rfl (X.loadO hO4 (Ext.trans hx8 hx19) rfl rfl Try.isAgg3) ?_
      refine WL.va rfl rfl rfl (X.buildL (P := Try.prog) (t := 30) (cs := [i64 lo, i64 hi]) (evp_cons rfl (evp_cons rfl evp_nil)) Try.type30 Try.underlying30 rfl rfl ⟨rfl, rfl, trivial⟩ rfl) ?_
      refine WL.op rfl (OW.allocO (cs := [i64 0, i64 0]) Try.zeroValue30 rfl ?_ (by decide))
      intro g7 w27 heg7 hlg7 hO7 hx29
      have := World.grownBy.size hx29
      refine WL.op rfl (OW.storeOA hO7 rfl rfl rfl (res_one rfl rfl) Try.sizeOf30 ?_)
      intro w31 hO7 hx33
      have := World.grownBy.size hx33
      replace hO4 := (hO4.ext (Ext.trans (Ext.trans hx8 hx19) hx29)).keptO hx33 (by omega)
      replace hO7 : Blk _ _ _ [i64 lo, i64 hi] := hO7
      refine WL.nil ?_
      refine thn_n ?_
      refine WF.seq ?_
      refine WF.region ?_
      refine WL.va rfl rfl rfl (X.move rfl) ?_
      refine WL.c rfl rfl rfl (X.call Try.call13 (evl_cons rfl evl_nil)) (copyKs_ok _ kk _ (hk.ext (Ext.trans (Ext.trans (Ext.trans hx3 hx8) hx19) (Ext.store hx29 hx33 (by omega)))) (by omega) (rightK_dat hrk)) ?_
      rintro vi wi ⟨⟨Fi, hFi, oFi⟩, hx35⟩
      have := World.grownBy.size hx35
      have sFi : Kps wi vi kk := oFi.sessE hFi
      refine WL.va rfl rfl rfl (X.assign rfl) ?_
      refine WL.nil ?_
      refine thn_n ?_
      refine WF.seq ?_
      refine WF.region ?_
      refine WL.va rfl rfl rfl (X.move rfl) ?_
      refine WL.c rfl rfl rfl (X.call Try.call14 (evl_cons rfl evl_nil)) (copyBs_ok _ l _ (hl.ext (Ext.trans (Ext.trans (Ext.trans (Ext.trans hx3 hx8) hx19) (Ext.store hx29 hx33 (by omega))) hx35)) (right_le hr) (right_dat hr)) ?_
      rintro vn wn ⟨⟨Fn, hFn, oFn⟩, hx36⟩
      have := World.grownBy.size hx36
      have sFn : Bls wn vn l := oFn.sessE hFn
      refine WL.va rfl rfl rfl (X.assign rfl) ?_
      refine WL.nil ?_
      refine thn_n ?_
      refine WF.seq ?_
      refine WF.region ?_
      refine WL.va rfl rfl rfl (X.move rfl) ?_
      refine WL.va rfl rfl rfl (X.fieldAddrO (off := 0) rfl Try.underlying24 rfl rfl Try.sizeOf3) ?_
      refine WL.va rfl rfl rfl (X.loadO hO4 (Ext.trans hx35 hx36) rfl rfl Try.isAgg3) ?_
      refine WL.va rfl rfl rfl (X.loadOA hO7 (Ext.trans hx35 hx36) rfl rfl Try.isAgg30 Try.sizeOf30) ?_
      refine WL.va rfl rfl rfl (X.move rfl) ?_
      refine WL.c rfl rfl rfl (X.call Try.call15 (evl_cons rfl (evl_cons rfl (evl_cons rfl (evl_cons rfl evl_nil))))) (keep_ok _ kk no lo hi _ l _ (sFi.ext hx36) hrk (by omega) (sFn.ext (Ext.refl wn)) hr) ?_
      rintro va wa ⟨⟨Fa, hFa, oFa⟩, hx37⟩
      have := World.grownBy.size hx37
      have uA := oFa.under
      have sFa : Kps wa va (keepK kk no lo hi l) := oFa.sessE hFa
      have hsza := World.grownBy.size hx37
      refine WL.va rfl rfl rfl (X.assign rfl) ?_
      refine WL.nil ?_
      refine thn_n ?_
      refine WF.seq ?_
      refine WF.region ?_
      refine WL.va rfl rfl rfl (X.move rfl) ?_
      refine WL.va rfl rfl rfl (X.fieldAddrO (off := 0) rfl Try.underlying24 rfl rfl Try.sizeOf3) ?_
      refine WL.va rfl rfl rfl (X.loadO hO4 (Ext.trans (Ext.trans hx35 hx36) hx37) rfl rfl Try.isAgg3) ?_
      refine WL.va rfl rfl rfl (X.loadOA hO7 (Ext.trans (Ext.trans hx35 hx36) hx37) rfl rfl Try.isAgg30 Try.sizeOf30) ?_
      refine WL.va rfl rfl rfl (X.move rfl) ?_
      refine WL.c rfl rfl rfl (X.call Try.call16 (evl_cons rfl (evl_cons rfl (evl_cons rfl (evl_cons rfl evl_nil))))) (refKeep_ok _ kk no lo hi _ l _ (hk.ext (Ext.trans (Ext.trans (Ext.trans (Ext.trans (Ext.trans (Ext.trans hx3 hx8) hx19) (Ext.store hx29 hx33 (by omega))) hx35) hx36) hx37)) hrk (by omega) (hl.ext (Ext.trans (Ext.trans (Ext.trans (Ext.trans (Ext.trans (Ext.trans hx3 hx8) hx19) (Ext.store hx29 hx33 (by omega))) hx35) hx36) hx37)) hr) ?_
      rintro vt wt ⟨⟨Ft, hFt, oFt⟩, hx38⟩
      have := World.grownBy.size hx38
      have sFt : Kps wt vt (keepK kk no lo hi l) := oFt.sessE hFt
      have hszt := World.grownBy.size hx38
      refine WL.va rfl rfl rfl (X.assign rfl) ?_
      refine WL.nil ?_
      refine thn_n ?_
      refine WF.seq ?_
      refine WF.region ?_
      refine WL.va rfl rfl rfl (X.move rfl) ?_
      refine WL.va rfl rfl rfl (X.fieldAddrO (off := 3) rfl Try.underlying24 rfl rfl Try.sizeOf3) ?_
      refine WL.va rfl rfl rfl (X.loadO hO4 (Ext.trans (Ext.trans (Ext.trans hx35 hx36) hx37) hx38) rfl rfl Try.isAgg3) ?_
      refine WL.va rfl rfl rfl (X.fieldAddrO (off := 4) rfl Try.underlying24 rfl rfl Try.sizeOf3) ?_
      refine WL.va rfl rfl rfl (X.loadO hO4 (Ext.trans (Ext.trans (Ext.trans hx35 hx36) hx37) hx38) rfl rfl Try.isAgg3) ?_
      refine WL.c rfl rfl rfl (X.call Try.call17 (evl_cons rfl (evl_cons rfl (evl_cons rfl evl_nil)))) (kept_ok _ (keepK kk no lo hi l) ask blk _ (sFa.ext hx38) hkr.sort (rightK_dat hkr)) ?_
      rintro tb wb ⟨⟨db, rfl, ob⟩, hx39⟩
      have := World.grownBy.size hx39
      refine WL.va rfl rfl rfl (X.move rfl) ?_
      refine WL.va rfl rfl rfl (X.extract rfl rfl) ?_
      refine WL.va rfl rfl rfl (X.extract rfl rfl) ?_
      refine WL.va rfl rfl rfl (X.assign rfl) ?_
      refine WL.va rfl rfl rfl (X.assignB rfl) ?_
      refine WL.nil ?_
      refine thn_n ?_
      refine WF.seq ?_
      refine WF.region ?_
      refine WL.va rfl rfl rfl (X.move rfl) ?_
      refine WL.va rfl rfl rfl (X.fieldAddrO (off := 3) rfl Try.underlying24 rfl rfl Try.sizeOf3) ?_
      refine WL.va rfl rfl rfl (X.loadO hO4 (Ext.trans (Ext.trans (Ext.trans (Ext.trans hx35 hx36) hx37) hx38) hx39) rfl rfl Try.isAgg3) ?_
      refine WL.va rfl rfl rfl (X.fieldAddrO (off := 4) rfl Try.underlying24 rfl rfl Try.sizeOf3) ?_
      refine WL.va rfl rfl rfl (X.loadO hO4 (Ext.trans (Ext.trans (Ext.trans (Ext.trans hx35 hx36) hx37) hx38) hx39) rfl rfl Try.isAgg3) ?_
      refine WL.c rfl rfl rfl (X.call Try.call18 (evl_cons rfl (evl_cons rfl (evl_cons rfl evl_nil)))) (refKept_ok _ (keepK kk no lo hi l) ask blk _ (sFt.ext hx39) (rightK_dat hkr)) ?_
      rintro tc wc ⟨⟨dc, rfl, oc⟩, hx41⟩
      have := World.grownBy.size hx41
      refine WL.va rfl rfl rfl (X.move rfl) ?_
      refine WL.va rfl rfl rfl (X.extract rfl rfl) ?_
      refine WL.va rfl rfl rfl (X.extract rfl rfl) ?_
      refine WL.va rfl rfl rfl (X.assign rfl) ?_
      refine WL.va rfl rfl rfl (X.assignB rfl) ?_
      refine WL.nil ?_
      refine thn_n ?_
      refine WF.seq ?_
      refine WF.region ?_
      refine WL.va rfl rfl rfl (X.move rfl) ?_
      refine WL.va rfl rfl rfl (X.move rfl) ?_
      refine WL.c rfl rfl rfl (X.call Try.call19 (evl_cons rfl (evl_cons rfl evl_nil))) (sameKs_ok _ _ (keepK kk no lo hi l) (keepK kk no lo hi l) _ (sFa.ext (Ext.trans (Ext.trans hx38 hx39) hx41)) (sFt.ext (Ext.trans hx39 hx41))) ?_
      rintro v44 w43 ⟨rfl, hx45⟩
      have := World.grownBy.size hx45
      refine WL.va rfl rfl rfl (X.moveB rfl) ?_
      refine WL.split (j := 3) rfl (fun h47 => ?_) (fun h47 => ?_)
      · have gh47 := (of_decide_eq_true h47)
        refine WL.vg rfl (congrArg some h47) rfl rfl (X.moveB rfl) ?_
        refine WL.vg rfl (congrArg some h47) rfl rfl (X.moveB rfl) ?_
        refine WL.vg rfl (congrArg some h47) rfl rfl (X.eqlB rfl rfl Try.underlying4) ?_
        refine WL.va rfl rfl rfl (X.pickT rfl h47 rfl) ?_
        refine WL.va rfl rfl rfl (X.moveB rfl) ?_
        refine WL.split (j := 8) rfl (fun h49 => ?_) (fun h49 => ?_)
        · have gh49 := h49
          refine WL.vg rfl (congrArg some h49) rfl rfl (X.move rfl) ?_
          refine WL.vg rfl (congrArg some h49) rfl rfl (X.move rfl) ?_
          refine WL.cg rfl (congrArg some h49) rfl rfl (X.call Try.call20 (evl_cons rfl (evl_cons rfl evl_nil))) (sameBytes_ok _ _ _ _ _ (Row.ext (Bytes.of_own ob) (Ext.trans hx41 hx45)) (Row.ext (Bytes.of_own oc) hx45)) ?_
          rintro v51 w50 ⟨rfl, hx52⟩
          have := World.grownBy.size hx52
          refine WL.va rfl rfl rfl (X.pickT rfl h49 rfl) ?_
          refine WL.va rfl rfl rfl (X.assignB rfl) ?_
          refine WL.nil ?_
          refine thn_n ?_
          refine WF.seq ?_
          refine WF.region ?_
          refine WL.va rfl rfl rfl (X.move rfl) ?_
          have ob1 := own_ext ob (Ext.trans (Ext.trans hx41 hx45) hx52)
          have hwt := (show Ext wt w50 from (Ext.trans (Ext.trans (Ext.trans hx39 hx41) hx45) hx52))
          refine WL.c rfl rfl rfl (X.call Try.call21 (evl_cons rfl evl_nil)) (spoilBytes_ok _ _ _ _ ob1) ?_
          rintro v55 w54 ⟨_, hcb⟩
          refine WL.nil ?_
          refine thn_n ?_
          refine WF.seq ?_
          refine WF.region ?_
          refine WL.va rfl rfl rfl (X.moveB rfl) ?_
          refine WL.va rfl rfl rfl (X.moveB rfl) ?_
          refine WL.split (j := 1) rfl (fun h57 => ?_) (fun h57 => ?_)
          · have gh57 := (of_decide_eq_true h57)
            refine WL.vg rfl (congrArg some h57) rfl rfl (X.move rfl) ?_
            refine WL.vg rfl (congrArg some h57) rfl rfl (X.move rfl) ?_
            refine WL.cg rfl (congrArg some h57) rfl rfl (X.call Try.call19 (evl_cons rfl (evl_cons rfl evl_nil))) (sameKs_ok _ _ (keepK kk no lo hi l) (keepK kk no lo hi l) _ (sFa.ext (Ext.trans hx38 (Ext.own hwt ob1 (Nat.le_refl _) hcb))) (sFt.ext (Ext.own hwt ob1 (Nat.le_refl _) hcb))) ?_
            rintro v59 w58 ⟨rfl, hx60⟩
            have := World.grownBy.size hx60
            refine WL.va rfl rfl rfl (X.pickT rfl h57 rfl) ?_
            refine WL.va rfl rfl rfl (X.assignB rfl) ?_
            refine WL.nil ?_
            refine thn_n ?_
            refine WF.seq ?_
            refine WF.region ?_
            refine WL.va rfl rfl rfl (X.move rfl) ?_
            have oA1 := oFa.ext (Ext.trans (Ext.trans hx38 (Ext.own hwt ob1 (Nat.le_refl _) hcb)) hx60)
            have hwn := (show Ext wn w58 from (Ext.trans (Ext.trans (Ext.trans hx37 hx38) (Ext.own hwt ob1 (Nat.le_refl _) hcb)) hx60))
            refine WL.c rfl rfl rfl (X.call Try.call22 (evl_cons rfl evl_nil)) (spoilKs_ok _ _ _ _ _ oA1 uA) ?_
            rintro v63 w62 hca
            refine WL.nil ?_
            refine thn_n ?_
            refine WF.seq ?_
            refine WF.region ?_
            refine WL.va rfl rfl rfl (X.moveB rfl) ?_
            refine WL.va rfl rfl rfl (X.moveB rfl) ?_
            refine WL.split (j := 1) rfl (fun h66 => ?_) (fun h66 => ?_)
            · have gh66 := (of_decide_eq_true h66)
              refine WL.vg rfl (congrArg some h66) rfl rfl (X.move rfl) ?_
              refine WL.vg rfl (congrArg some h66) rfl rfl (X.move rfl) ?_
              refine WL.cg rfl (congrArg some h66) rfl rfl (X.call Try.call19 (evl_cons rfl (evl_cons rfl evl_nil))) (sameKs_ok _ _ kk kk _ (sFi.ext (Ext.trans hx36 (Chg.ext hwn hca (Nat.le_refl _)))) (hk.ext (Ext.trans (Ext.trans (Ext.trans (Ext.trans (Ext.trans (Ext.trans hx3 hx8) hx19) (Ext.store hx29 hx33 (by omega))) hx35) hx36) (Chg.ext hwn hca (Nat.le_refl _))))) ?_
              rintro v68 w67 ⟨rfl, hx69⟩
              have := World.grownBy.size hx69
              refine WL.va rfl rfl rfl (X.pickT rfl h66 rfl) ?_
              refine WL.va rfl rfl rfl (X.moveB rfl) ?_
              refine WL.split (j := 6) rfl (fun h71 => ?_) (fun h71 => ?_)
              · have gh71 := (of_decide_eq_true h71)
                refine WL.vg rfl (congrArg some h71) rfl rfl (X.move rfl) ?_
                refine WL.vg rfl (congrArg some h71) rfl rfl (X.move rfl) ?_
                refine WL.cg rfl (congrArg some h71) rfl rfl (X.call Try.call23 (evl_cons rfl (evl_cons rfl evl_nil))) (sameBs_ok _ _ l l _ (sFn.ext (Ext.trans (Chg.ext hwn hca (Nat.le_refl _)) hx69)) (hl.ext (Ext.trans (Ext.trans (Ext.trans (Ext.trans (Ext.trans (Ext.trans (Ext.trans hx3 hx8) hx19) (Ext.store hx29 hx33 (by omega))) hx35) hx36) (Chg.ext hwn hca (Nat.le_refl _))) hx69))) ?_
                rintro v73 w72 ⟨rfl, hx74⟩
                have := World.grownBy.size hx74
                refine WL.va rfl rfl rfl (X.pickT rfl h71 rfl) ?_
                refine WL.va rfl rfl rfl (X.assignB rfl) ?_
                refine WL.nil ?_
                refine thn_n ?_
                refine WF.ret ?_
                refine fin_r ?_
                first | exact ⟨rfl, (Ext.trans (Ext.trans (Ext.trans (Ext.trans (Ext.trans (Ext.trans (Ext.trans (Ext.trans hx3 hx8) hx19) (Ext.store hx29 hx33 (by omega))) hx35) hx36) (Chg.ext hwn hca (Nat.le_refl _))) hx69) hx74)⟩ | exact ⟨congrArg Value.bool (decide_eq_true rfl), (Ext.trans (Ext.trans (Ext.trans (Ext.trans (Ext.trans (Ext.trans (Ext.trans (Ext.trans hx3 hx8) hx19) (Ext.store hx29 hx33 (by omega))) hx35) hx36) (Chg.ext hwn hca (Nat.le_refl _))) hx69) hx74)⟩
              · have gh71 := (of_decide_eq_false h71)
                exact absurd rfl gh71
            · have gh66 := (of_decide_eq_false h66)
              exact absurd rfl gh66
          · have gh57 := (of_decide_eq_false h57)
            exact absurd rfl gh57
        · have gh49 := h49
          exact absurd gh49 (by rw [has_some hkr.sort]; simp)
      · have gh47 := (of_decide_eq_false h47)
        exact absurd rfl gh47

set_option maxHeartbeats 6400000 in
theorem blocksTell_walk (v : Value) (l : List Bl) (no : Int) (dv0 : Value) (dl : List UInt8) (lo hi : Int) (w : World) (h : Bls w v l) (hb : Bytes w dv0 dl) (hdl : dl.length ≤ 140737488351232) (_hs : True) : FnOk Try.prog 7 [v, agg [i64 no, dv0], agg [i64 lo, i64 hi]] w (fun r w' => r = .bool true ∧ Ext w w') := by
  refine FnOk.enter (rs := [6]) Try.func7 rfl Try.ntmps7 Try.results7 rfl rfl ?_
  refine WF.seq ?_
  refine WF.region ?_
  refine WL.op rfl (OW.boxA (cs := [i64 no, dv0]) rfl ?_ (by decide))
  intro g4 w1 heg4 hlg4 hO4 hx3
  have := World.grownBy.size hx3
  refine WL.op rfl (OW.boxA (cs := [i64 lo, i64 hi]) rfl ?_ (by decide))
  intro g5 w5 heg5 hlg5 hO5 hx7
  have := World.grownBy.size hx7
  refine WL.va rfl rfl rfl (X.assignB rfl) ?_
  refine WL.nil ?_
  refine thn_n ?_
  refine WF.seq ?_
  refine WF.seq ?_
  refine WF.region ?_
  refine WL.va rfl rfl rfl (X.move rfl) ?_
  refine WL.c rfl rfl rfl (X.call Try.call10 (evl_cons rfl evl_nil)) (right_ok _ l _ (h.ext (Ext.trans hx3 hx7))) ?_
  rintro v11 w10 ⟨rfl, hx12⟩
  have := World.grownBy.size hx12
  refine WL.va rfl rfl rfl (X.not rfl) ?_
  refine WL.nil ?_
  refine thn_n ?_
  refine WF.cond rfl (fun h0_14 => ?_) (fun h0_14 => ?_)
  · have gh0_14 := (nt h0_14)
    refine WF.seq ?_
    refine WF.region ?_
    refine WL.c rfl rfl rfl (X.call Try.call12 evl_nil) (known_ok _) ?_
    rintro v17 w16 ⟨rfl, hx18⟩
    have := World.grownBy.size hx18
    refine WL.va rfl rfl rfl (X.assignB rfl) ?_
    refine WL.nil ?_
    refine thn_n ?_
    refine WF.ret ?_
    refine thn_r ?_
    refine fin_r ?_
    first | exact ⟨rfl, (Ext.trans (Ext.trans (Ext.trans hx3 hx7) hx12) hx18)⟩ | exact ⟨congrArg Value.bool (decide_eq_true rfl), (Ext.trans (Ext.trans (Ext.trans hx3 hx7) hx12) hx18)⟩
  · have gh0_14 := (nf h0_14)
    have hr := rightB_iff.1 gh0_14
    refine WF.skip ?_
    refine thn_n ?_
    refine WF.seq ?_
    refine WF.region ?_
    refine WL.va rfl rfl rfl (X.move rfl) ?_
    refine WL.c rfl rfl rfl (X.call Try.call14 (evl_cons rfl evl_nil)) (copyBs_ok _ l _ (h.ext (Ext.trans (Ext.trans hx3 hx7) hx12)) (right_le hr) (right_dat hr)) ?_
    rintro vx wx ⟨⟨Fx, hFx, oFx⟩, hx20⟩
    have := World.grownBy.size hx20
    have sFx : Bls wx vx l := oFx.sessE hFx
    refine WL.va rfl rfl rfl (X.assign rfl) ?_
    refine WL.nil ?_
    refine thn_n ?_
    refine WF.seq ?_
    refine WF.region ?_
    refine WL.va rfl rfl rfl (X.fieldAddrO (off := 1) rfl Try.underlying46 rfl rfl Try.sizeOf34) ?_
    refine WL.va rfl rfl rfl (X.loadO hO4 (Ext.trans (Ext.trans hx7 hx12) hx20) rfl rfl Try.isAgg34) ?_
    refine WL.c rfl rfl rfl (X.call Try.call29 (evl_cons rfl evl_nil)) (lentBytes_ok _ dl _ (Row.ext hb (Ext.trans (Ext.trans (Ext.trans hx3 hx7) hx12) hx20)) (by omega)) ?_
    rintro vl wl ⟨oL, hx21⟩
    have := World.grownBy.size hx21
    refine WL.va rfl rfl rfl (X.assign rfl) ?_
    refine WL.nil ?_
    refine thn_n ?_
    refine WF.seq ?_
    refine WF.region ?_
    refine WL.va rfl rfl rfl (X.move rfl) ?_
    refine WL.va rfl rfl rfl (X.fieldAddrO (off := 0) rfl Try.underlying46 rfl rfl Try.sizeOf3) ?_
    refine WL.va rfl rfl rfl (X.loadO hO4 (Ext.trans (Ext.trans (Ext.trans hx7 hx12) hx20) hx21) rfl rfl Try.isAgg3) ?_
    refine WL.c rfl rfl rfl (X.call Try.call25 (evl_cons rfl (evl_cons rfl evl_nil))) (get_ok _ l no _ (sFx.ext hx21) hr) ?_
    rintro va wa ⟨oa, hx22⟩
    have := World.grownBy.size hx22
    have hsza := World.grownBy.size hx22
    refine WL.va rfl rfl rfl (X.assign rfl) ?_
    refine WL.nil ?_
    refine thn_n ?_
    refine WF.seq ?_
    refine WF.drawn (.q 0 (.q 1 (.q 2 (.q 3 (.q 4 (.q 5 (.q 6 (.q 7 (.l 8 (.q 9 .nil)))))))))) (fun w' => Ext wa w') 10 (by kernel_rfl) (by kernel_rfl) (Ext.drew _) ?_
    have := World.grownBy.size (Ext.drew wa)
    refine WO.q rfl rfl rfl rfl (fun w' hE23 => (X.move rfl)) ?_
    refine WO.q rfl rfl rfl rfl (fun w' hE23 => (X.fieldAddrO (off := 0) rfl Try.underlying46 rfl rfl Try.sizeOf3)) ?_
    refine WO.q rfl rfl rfl rfl (fun w' hE23 => (X.loadO hO4 (Ext.trans (Ext.trans (Ext.trans (Ext.trans (Ext.trans hx7 hx12) hx20) hx21) hx22) hE23) rfl rfl Try.isAgg3)) ?_
    refine WO.q rfl rfl rfl rfl (fun w' hE23 => (X.move rfl)) ?_
    refine WO.q rfl rfl rfl rfl (fun w' hE23 => (X.fieldAddrO (off := 1) rfl Try.underlying46 rfl rfl Try.sizeOf34)) ?_
    refine WO.q rfl rfl rfl rfl (fun w' hE23 => (X.loadO hO4 (Ext.trans (Ext.trans (Ext.trans (Ext.trans (Ext.trans hx7 hx12) hx20) hx21) hx22) hE23) rfl rfl Try.isAgg34)) ?_
    refine WO.q rfl rfl rfl rfl (fun w' hE23 => (X.len hb rfl Try.underlying34)) ?_
    refine WO.q rfl rfl rfl rfl (fun w' hE23 => (X.slH (Bytes.of_own oL) rfl rfl (by simp) Try.underlying34 Try.sizeOf5)) ?_
    refine WO.l ?_
    have hszb0 := World.grownBy.size (show Ext wa wa.drew from (Ext.drew _))
    refine LO.go rfl rfl (OW.enter rfl (by decide) (X.call Try.call24 (evl_cons rfl (evl_cons rfl (evl_cons rfl evl_nil)))) (set_ok _ l no _ dl _ (sFx.ext (Ext.trans (Ext.trans hx21 hx22) (Ext.drew _))) hr (Row.ext (lent_part oL) (Ext.trans hx22 (Ext.drew _)))) ?_)
    rintro vb wb ⟨⟨Fb, hFb, oB⟩, hx24⟩
    have := World.grownBy.size hx24
    refine ⟨(Ext.trans (Ext.drew _) hx24), ?_⟩
    have hszb := World.grownBy.size hx24
    have uB := oB.under
    refine WO.q rfl rfl rfl rfl (fun w' hE23 => (X.assign rfl)) ?_
    refine WO.nil ?_
    refine WL.nil ?_
    refine thn_n ?_
    refine WF.seq ?_
    refine WF.region ?_
    refine WL.va rfl rfl rfl (X.move rfl) ?_
    refine WL.va rfl rfl rfl (X.loadOA hO5 (Ext.trans (Ext.trans (Ext.trans (Ext.trans (Ext.trans hx12 hx20) hx21) hx22) (Ext.drew _)) hx24) rfl rfl Try.isAgg30 Try.sizeOf30) ?_
    have hszc0 := World.grownBy.size (show Ext wb wb from (Ext.refl _))
    refine WL.c rfl rfl rfl (X.call Try.call30 (evl_cons rfl (evl_cons rfl evl_nil))) (in_ok _ l lo hi _ (sFx.ext (Ext.trans (Ext.trans (Ext.trans hx21 hx22) (Ext.drew _)) hx24)) (right_le hr) (right_dat hr)) ?_
    rintro vc wc ⟨⟨Fc, hFc, oC⟩, hx25⟩
    have := World.grownBy.size hx25
    have hszc := World.grownBy.size hx25
    have uC := oC.under
    refine WL.va rfl rfl rfl (X.assign rfl) ?_
    refine WL.nil ?_
    refine thn_n ?_
    refine WF.seq ?_
    refine WF.region ?_
    refine WL.va rfl rfl rfl (X.move rfl) ?_
    refine WL.va rfl rfl rfl (X.loadOA hO5 (Ext.trans (Ext.trans (Ext.trans (Ext.trans (Ext.trans (Ext.trans hx12 hx20) hx21) hx22) (Ext.drew _)) hx24) hx25) rfl rfl Try.isAgg30 Try.sizeOf30) ?_
    have hszd0 := World.grownBy.size (show Ext wc wc from (Ext.refl _))
    refine WL.c rfl rfl rfl (X.call Try.call31 (evl_cons rfl (evl_cons rfl evl_nil))) (without_ok _ l lo hi _ (sFx.ext (Ext.trans (Ext.trans (Ext.trans (Ext.trans hx21 hx22) (Ext.drew _)) hx24) hx25)) (right_le hr) (right_dat hr)) ?_
    rintro vd wd ⟨⟨Fd, hFd, oD⟩, hx26⟩
    have := World.grownBy.size hx26
    have hszd := World.grownBy.size hx26
    have uD := oD.under
    refine WL.va rfl rfl rfl (X.assign rfl) ?_
    refine WL.nil ?_
    refine thn_n ?_
    refine WF.seq ?_
    refine WF.region ?_
    refine WL.va rfl rfl rfl (X.move rfl) ?_
    refine WL.va rfl rfl rfl (X.move rfl) ?_
    refine WL.va rfl rfl rfl (X.fieldAddrO (off := 0) rfl Try.underlying46 rfl rfl Try.sizeOf3) ?_
    refine WL.va rfl rfl rfl (X.loadO hO4 (Ext.trans (Ext.trans (Ext.trans (Ext.trans (Ext.trans (Ext.trans (Ext.trans (Ext.trans hx7 hx12) hx20) hx21) hx22) (Ext.drew _)) hx24) hx25) hx26) rfl rfl Try.isAgg3) ?_
    refine WL.c rfl rfl rfl (X.call Try.call32 (evl_cons rfl (evl_cons rfl evl_nil))) (refGet_ok _ l no _ (h.ext (Ext.trans (Ext.trans (Ext.trans (Ext.trans (Ext.trans (Ext.trans (Ext.trans (Ext.trans (Ext.trans hx3 hx7) hx12) hx20) hx21) hx22) (Ext.drew _)) hx24) hx25) hx26)) (right_dat hr)) ?_
    rintro v27 we ⟨oe, hx28⟩
    have := World.grownBy.size hx28
    refine WL.c rfl rfl rfl (X.call Try.call20 (evl_cons rfl (evl_cons rfl evl_nil))) (sameBytes_ok _ _ (getB l no) (getB l no) _ (Row.ext (Bytes.of_own oa) (Ext.trans (Ext.trans (Ext.trans (Ext.trans (Ext.drew _) hx24) hx25) hx26) hx28)) (Row.ext (Bytes.of_own oe) (Ext.refl we))) ?_
    rintro v30 w29 ⟨rfl, hx31⟩
    have := World.grownBy.size hx31
    refine WL.va rfl rfl rfl (X.moveB rfl) ?_
    refine WL.split (j := 6) rfl (fun h33 => ?_) (fun h33 => ?_)
    · have gh33 := (of_decide_eq_true h33)
      refine WL.vg rfl (congrArg some h33) rfl rfl (X.move rfl) ?_
      refine WL.vg rfl (congrArg some h33) rfl rfl (X.move rfl) ?_
      refine WL.vg rfl (congrArg some h33) rfl rfl (X.fieldAddrO (off := 0) rfl Try.underlying46 rfl rfl Try.sizeOf3) ?_
      refine WL.vg rfl (congrArg some h33) rfl rfl (X.loadO hO4 (Ext.trans (Ext.trans (Ext.trans (Ext.trans (Ext.trans (Ext.trans (Ext.trans (Ext.trans (Ext.trans (Ext.trans hx7 hx12) hx20) hx21) hx22) (Ext.drew _)) hx24) hx25) hx26) hx28) hx31) rfl rfl Try.isAgg3) ?_
      refine WL.vg rfl (congrArg some h33) rfl rfl (X.fieldAddrO (off := 1) rfl Try.underlying46 rfl rfl Try.sizeOf34) ?_
      refine WL.vg rfl (congrArg some h33) rfl rfl (X.loadO hO4 (Ext.trans (Ext.trans (Ext.trans (Ext.trans (Ext.trans (Ext.trans (Ext.trans (Ext.trans (Ext.trans (Ext.trans hx7 hx12) hx20) hx21) hx22) (Ext.drew _)) hx24) hx25) hx26) hx28) hx31) rfl rfl Try.isAgg34) ?_
      refine WL.cg rfl (congrArg some h33) rfl rfl (X.call Try.call33 (evl_cons rfl (evl_cons rfl (evl_cons rfl evl_nil)))) (refSet_ok _ l no _ dl _ (h.ext (Ext.trans (Ext.trans (Ext.trans (Ext.trans (Ext.trans (Ext.trans (Ext.trans (Ext.trans (Ext.trans (Ext.trans (Ext.trans hx3 hx7) hx12) hx20) hx21) hx22) (Ext.drew _)) hx24) hx25) hx26) hx28) hx31)) hr (Row.ext hb (Ext.trans (Ext.trans (Ext.trans (Ext.trans (Ext.trans (Ext.trans (Ext.trans (Ext.trans (Ext.trans (Ext.trans (Ext.trans hx3 hx7) hx12) hx20) hx21) hx22) (Ext.drew _)) hx24) hx25) hx26) hx28) hx31))) ?_
      rintro v34 wf ⟨sf, hx35⟩
      have := World.grownBy.size hx35
      refine WL.cg rfl (congrArg some h33) rfl rfl (X.call Try.call23 (evl_cons rfl (evl_cons rfl evl_nil))) (sameBs_ok _ _ (setB l no dl) (setB l no dl) _ ((oB.sessE hFb).ext (Ext.trans (Ext.trans (Ext.trans (Ext.trans hx25 hx26) hx28) hx31) hx35)) (sf.ext (Ext.refl wf))) ?_
      rintro v37 w36 ⟨rfl, hx38⟩
      have := World.grownBy.size hx38
      refine WL.va rfl rfl rfl (X.pickT rfl h33 rfl) ?_
      refine WL.va rfl rfl rfl (X.moveB rfl) ?_
      refine WL.split (j := 16) rfl (fun h40 => ?_) (fun h40 => ?_)
      · have gh40 := (of_decide_eq_true h40)
        refine WL.vg rfl (congrArg some h40) rfl rfl (X.move rfl) ?_
        refine WL.vg rfl (congrArg some h40) rfl rfl (X.move rfl) ?_
        refine WL.vg rfl (congrArg some h40) rfl rfl (X.loadOA hO5 (Ext.trans (Ext.trans (Ext.trans (Ext.trans (Ext.trans (Ext.trans (Ext.trans (Ext.trans (Ext.trans (Ext.trans (Ext.trans hx12 hx20) hx21) hx22) (Ext.drew _)) hx24) hx25) hx26) hx28) hx31) hx35) hx38) rfl rfl Try.isAgg30 Try.sizeOf30) ?_
        refine WL.cg rfl (congrArg some h40) rfl rfl (X.call Try.call34 (evl_cons rfl (evl_cons rfl evl_nil))) (refIn_ok _ l lo hi _ (h.ext (Ext.trans (Ext.trans (Ext.trans (Ext.trans (Ext.trans (Ext.trans (Ext.trans (Ext.trans (Ext.trans (Ext.trans (Ext.trans (Ext.trans (Ext.trans hx3 hx7) hx12) hx20) hx21) hx22) (Ext.drew _)) hx24) hx25) hx26) hx28) hx31) hx35) hx38)) hr) ?_
        rintro v41 wg ⟨sg, hx42⟩
        have := World.grownBy.size hx42
        refine WL.cg rfl (congrArg some h40) rfl rfl (X.call Try.call23 (evl_cons rfl (evl_cons rfl evl_nil))) (sameBs_ok _ _ (inB lo hi l) (inB lo hi l) _ ((oC.sessE hFc).ext (Ext.trans (Ext.trans (Ext.trans (Ext.trans (Ext.trans hx26 hx28) hx31) hx35) hx38) hx42)) (sg.ext (Ext.refl wg))) ?_
        rintro v44 w43 ⟨rfl, hx45⟩
        have := World.grownBy.size hx45
        refine WL.va rfl rfl rfl (X.pickT rfl h40 rfl) ?_
        refine WL.va rfl rfl rfl (X.moveB rfl) ?_
        refine WL.split (j := 23) rfl (fun h47 => ?_) (fun h47 => ?_)
        · have gh47 := (of_decide_eq_true h47)
          refine WL.vg rfl (congrArg some h47) rfl rfl (X.move rfl) ?_
          refine WL.vg rfl (congrArg some h47) rfl rfl (X.move rfl) ?_
          refine WL.vg rfl (congrArg some h47) rfl rfl (X.loadOA hO5 (Ext.trans (Ext.trans (Ext.trans (Ext.trans (Ext.trans (Ext.trans (Ext.trans (Ext.trans (Ext.trans (Ext.trans (Ext.trans (Ext.trans (Ext.trans hx12 hx20) hx21) hx22) (Ext.drew _)) hx24) hx25) hx26) hx28) hx31) hx35) hx38) hx42) hx45) rfl rfl Try.isAgg30 Try.sizeOf30) ?_
          refine WL.cg rfl (congrArg some h47) rfl rfl (X.call Try.call35 (evl_cons rfl (evl_cons rfl evl_nil))) (refWithout_ok _ l lo hi _ (h.ext (Ext.trans (Ext.trans (Ext.trans (Ext.trans (Ext.trans (Ext.trans (Ext.trans (Ext.trans (Ext.trans (Ext.trans (Ext.trans (Ext.trans (Ext.trans (Ext.trans (Ext.trans hx3 hx7) hx12) hx20) hx21) hx22) (Ext.drew _)) hx24) hx25) hx26) hx28) hx31) hx35) hx38) hx42) hx45)) hr) ?_
          rintro v48 wh ⟨sh, hx49⟩
          have := World.grownBy.size hx49
          refine WL.cg rfl (congrArg some h47) rfl rfl (X.call Try.call23 (evl_cons rfl (evl_cons rfl evl_nil))) (sameBs_ok _ _ (outB lo hi l) (outB lo hi l) _ ((oD.sessE hFd).ext (Ext.trans (Ext.trans (Ext.trans (Ext.trans (Ext.trans (Ext.trans hx28 hx31) hx35) hx38) hx42) hx45) hx49)) (sh.ext (Ext.refl wh))) ?_
          rintro v51 w50 ⟨rfl, hx52⟩
          have := World.grownBy.size hx52
          refine WL.va rfl rfl rfl (X.pickT rfl h47 rfl) ?_
          refine WL.va rfl rfl rfl (X.assignB rfl) ?_
          refine WL.nil ?_
          refine thn_n ?_
          refine WF.seq ?_
          refine WF.region ?_
          refine WL.va rfl rfl rfl (X.move rfl) ?_
          have oa1 := own_ext oa (Ext.trans (Ext.trans (Ext.trans (Ext.trans (Ext.trans (Ext.trans (Ext.trans (Ext.trans (Ext.trans (Ext.trans (Ext.trans (Ext.drew _) hx24) hx25) hx26) hx28) hx31) hx35) hx38) hx42) hx45) hx49) hx52)
          have oB1 := oB.ext (Ext.trans (Ext.trans (Ext.trans (Ext.trans (Ext.trans (Ext.trans (Ext.trans (Ext.trans (Ext.trans hx25 hx26) hx28) hx31) hx35) hx38) hx42) hx45) hx49) hx52)
          have oC1 := oC.ext (Ext.trans (Ext.trans (Ext.trans (Ext.trans (Ext.trans (Ext.trans (Ext.trans (Ext.trans hx26 hx28) hx31) hx35) hx38) hx42) hx45) hx49) hx52)
          have oD1 := oD.ext (Ext.trans (Ext.trans (Ext.trans (Ext.trans (Ext.trans (Ext.trans (Ext.trans hx28 hx31) hx35) hx38) hx42) hx45) hx49) hx52)
          have hwl := (show Ext wl w50 from (Ext.trans (Ext.trans (Ext.trans (Ext.trans (Ext.trans (Ext.trans (Ext.trans (Ext.trans (Ext.trans (Ext.trans (Ext.trans (Ext.trans hx22 (Ext.drew _)) hx24) hx25) hx26) hx28) hx31) hx35) hx38) hx42) hx45) hx49) hx52))
          refine WL.c rfl rfl rfl (X.call Try.call21 (evl_cons rfl evl_nil)) (spoilBytes_ok _ _ _ _ oa1) ?_
          rintro v54 wp ⟨_, hca⟩
          have kA := Chg.of hca (B := wl.heap.size) (T := wa.heap.size) (fun b hb => oa.lt b hb)
          have oB2 := oB1.chg kA (.inl (by omega))
          have oC2 := oC1.chg kA (.inl (by omega))
          have oD2 := oD1.chg kA (.inl (by omega))
          refine WL.nil ?_
          refine thn_n ?_
          refine WF.seq ?_
          refine WF.region ?_
          refine WL.va rfl rfl rfl (X.move rfl) ?_
          have hwl2 := (show Ext wl wp from (Ext.own hwl oa1 (Nat.le_refl _) hca))
          refine WL.c rfl rfl rfl (X.call Try.call28 (evl_cons rfl evl_nil)) (spoilBs_ok _ _ _ _ _ oB2 uB) ?_
          rintro v56 wq hcb
          have oC3 := oC2.chg hcb (.inl (by omega))
          have oD3 := oD2.chg hcb (.inl (by omega))
          refine WL.nil ?_
          refine thn_n ?_
          refine WF.seq ?_
          refine WF.region ?_
          refine WL.va rfl rfl rfl (X.move rfl) ?_
          have hwl3 := (show Ext wl wq from (Chg.ext hwl2 hcb (by omega)))
          refine WL.c rfl rfl rfl (X.call Try.call28 (evl_cons rfl evl_nil)) (spoilBs_ok _ _ _ _ _ oC3 uC) ?_
          rintro v58 wr hcc
          have oD4 := oD3.chg hcc (.inl (by omega))
          refine WL.nil ?_
          refine thn_n ?_
          refine WF.seq ?_
          refine WF.region ?_
          refine WL.va rfl rfl rfl (X.move rfl) ?_
          have hwl4 := (show Ext wl wr from (Chg.ext hwl3 hcc (by omega)))
          refine WL.c rfl rfl rfl (X.call Try.call28 (evl_cons rfl evl_nil)) (spoilBs_ok _ _ _ _ _ oD4 uD) ?_
          rintro v60 ws hcd
          refine WL.nil ?_
          refine thn_n ?_
          refine WF.seq ?_
          refine WF.region ?_
          refine WL.va rfl rfl rfl (X.moveB rfl) ?_
          refine WL.va rfl rfl rfl (X.moveB rfl) ?_
          refine WL.split (j := 1) rfl (fun h62 => ?_) (fun h62 => ?_)
          · have gh62 := (of_decide_eq_true h62)
            refine WL.vg rfl (congrArg some h62) rfl rfl (X.move rfl) ?_
            refine WL.vg rfl (congrArg some h62) rfl rfl (X.move rfl) ?_
            refine WL.cg rfl (congrArg some h62) rfl rfl (X.call Try.call23 (evl_cons rfl (evl_cons rfl evl_nil))) (sameBs_ok _ _ l l _ (sFx.ext (Ext.trans hx21 (Chg.ext hwl4 hcd (by omega)))) (h.ext (Ext.trans (Ext.trans (Ext.trans (Ext.trans (Ext.trans hx3 hx7) hx12) hx20) hx21) (Chg.ext hwl4 hcd (by omega))))) ?_
            rintro v65 w63 ⟨rfl, hx66⟩
            have := World.grownBy.size hx66
            refine WL.va rfl rfl rfl (X.pickT rfl h62 rfl) ?_
            refine WL.va rfl rfl rfl (X.moveB rfl) ?_
            refine WL.split (j := 6) rfl (fun h68 => ?_) (fun h68 => ?_)
            · have gh68 := (of_decide_eq_true h68)
              refine WL.vg rfl (congrArg some h68) rfl rfl (X.move rfl) ?_
              refine WL.vg rfl (congrArg some h68) rfl rfl (X.fieldAddrO (off := 1) rfl Try.underlying46 rfl rfl Try.sizeOf34) ?_
              refine WL.vg rfl (congrArg some h68) rfl rfl (X.loadO hO4 (Ext.trans (Ext.trans (Ext.trans (Ext.trans (Ext.trans hx7 hx12) hx20) hx21) (Chg.ext hwl4 hcd (by omega))) hx66) rfl rfl Try.isAgg34) ?_
              refine WL.cg rfl (congrArg some h68) rfl rfl (X.call Try.call36 (evl_cons rfl (evl_cons rfl evl_nil))) (keptBytes_ok _ _ _ dl _ (Row.ext (Bytes.of_own oL) (Ext.trans (Chg.ext hwl4 hcd (by omega)) hx66)) (Row.ext hb (Ext.trans (Ext.trans (Ext.trans (Ext.trans (Ext.trans (Ext.trans hx3 hx7) hx12) hx20) hx21) (Chg.ext hwl4 hcd (by omega))) hx66)) (by omega)) ?_
              rintro v70 w69 ⟨rfl, hx71⟩
              have := World.grownBy.size hx71
              refine WL.va rfl rfl rfl (X.pickT rfl h68 rfl) ?_
              refine WL.va rfl rfl rfl (X.assignB rfl) ?_
              refine WL.nil ?_
              refine thn_n ?_
              refine WF.ret ?_
              refine fin_r ?_
              first | exact ⟨rfl, (Ext.trans (Ext.trans (Ext.trans (Ext.trans (Ext.trans (Ext.trans (Ext.trans hx3 hx7) hx12) hx20) hx21) (Chg.ext hwl4 hcd (by omega))) hx66) hx71)⟩ | exact ⟨congrArg Value.bool (decide_eq_true rfl), (Ext.trans (Ext.trans (Ext.trans (Ext.trans (Ext.trans (Ext.trans (Ext.trans hx3 hx7) hx12) hx20) hx21) (Chg.ext hwl4 hcd (by omega))) hx66) hx71)⟩
            · have gh68 := (of_decide_eq_false h68)
              exact absurd rfl gh68
          · have gh62 := (of_decide_eq_false h62)
            exact absurd rfl gh62
        · have gh47 := (of_decide_eq_false h47)
          exact absurd rfl gh47
      · have gh40 := (of_decide_eq_false h40)
        exact absurd rfl gh40
    · have gh33 := (of_decide_eq_false h33)
      exact absurd rfl gh33

set_option maxHeartbeats 6400000 in
theorem blocksParted_walk (v : Value) (l : List Bl) (lo hi lo2 hi2 : Int) (w : World) (h : Bls w v l) (_h1 : True) (_h2 : True) : FnOk Try.prog 9 [v, agg [i64 lo, i64 hi], agg [i64 lo2, i64 hi2]] w (fun r w' => r = .bool true ∧ Ext w w') := by
  obtain ⟨E, rfl, re, de⟩ := h
  have h : Bls w v (E.map Prod.fst) := ⟨E, rfl, re, de⟩
  refine FnOk.enter (rs := [6]) Try.func9 rfl Try.ntmps9 Try.results9 rfl rfl ?_
  refine WF.seq ?_
  refine WF.region ?_
  refine WL.op rfl (OW.boxA (cs := [i64 lo, i64 hi]) rfl ?_ (by decide))
  intro g4 w1 heg4 hlg4 hO4 hx3
  have := World.grownBy.size hx3
  refine WL.op rfl (OW.boxA (cs := [i64 lo2, i64 hi2]) rfl ?_ (by decide))
  intro g5 w5 heg5 hlg5 hO5 hx7
  have := World.grownBy.size hx7
  refine WL.va rfl rfl rfl (X.assignB rfl) ?_
  refine WL.nil ?_
  refine thn_n ?_
  refine WF.seq ?_
  refine WF.seq ?_
  refine WF.region ?_
  refine WL.va rfl rfl rfl (X.move rfl) ?_
  refine WL.c rfl rfl rfl (X.call Try.call10 (evl_cons rfl evl_nil)) (right_ok _ (E.map Prod.fst) _ (h.ext (Ext.trans hx3 hx7))) ?_
  rintro v11 w10 ⟨rfl, hx12⟩
  have := World.grownBy.size hx12
  refine WL.va rfl rfl rfl (X.not rfl) ?_
  refine WL.nil ?_
  refine thn_n ?_
  refine WF.cond rfl (fun h0_14 => ?_) (fun h0_14 => ?_)
  · have gh0_14 := (nt h0_14)
    refine WF.seq ?_
    refine WF.region ?_
    refine WL.c rfl rfl rfl (X.call Try.call12 evl_nil) (known_ok _) ?_
    rintro v17 w16 ⟨rfl, hx18⟩
    have := World.grownBy.size hx18
    refine WL.va rfl rfl rfl (X.assignB rfl) ?_
    refine WL.nil ?_
    refine thn_n ?_
    refine WF.ret ?_
    refine thn_r ?_
    refine fin_r ?_
    first | exact ⟨rfl, (Ext.trans (Ext.trans (Ext.trans hx3 hx7) hx12) hx18)⟩ | exact ⟨congrArg Value.bool (decide_eq_true rfl), (Ext.trans (Ext.trans (Ext.trans hx3 hx7) hx12) hx18)⟩
  · have gh0_14 := (nf h0_14)
    have hr := rightB_iff.1 gh0_14
    have hEl := right_len hr
    rw [List.length_map] at hEl
    have hpl := part_len (l := (E.map Prod.fst)) (lo := lo) (hi := hi)
    rw [List.length_map] at hpl
    refine WF.skip ?_
    refine thn_n ?_
    refine WF.seq ?_
    refine WF.region ?_
    refine WL.va rfl rfl rfl (X.move rfl) ?_
    refine WL.va rfl rfl rfl (X.loadOA hO4 (Ext.trans hx7 hx12) rfl rfl Try.isAgg30 Try.sizeOf30) ?_
    refine WL.c rfl rfl rfl (X.call Try.call30 (evl_cons rfl (evl_cons rfl evl_nil))) (in_ok _ (E.map Prod.fst) lo hi _ (h.ext (Ext.trans (Ext.trans hx3 hx7) hx12)) (right_le hr) (right_dat hr)) ?_
    rintro va wa ⟨⟨Fa, hFa, oFa⟩, hx20⟩
    have := World.grownBy.size hx20
    have sA : Bls wa va (inB lo hi (E.map Prod.fst)) := oFa.sessE hFa
    have hla : Fa.length = (inB lo hi (E.map Prod.fst)).length := by rw [← hFa]; simp
    refine WL.va rfl rfl rfl (X.assign rfl) ?_
    refine WL.nil ?_
    refine thn_n ?_
    refine WF.seq ?_
    refine WF.region ?_
    refine WL.va rfl rfl rfl (X.move rfl) ?_
    refine WL.va rfl rfl rfl (X.loadOA hO4 (Ext.trans (Ext.trans hx7 hx12) hx20) rfl rfl Try.isAgg30 Try.sizeOf30) ?_
    refine WL.c rfl rfl rfl (X.call Try.call31 (evl_cons rfl (evl_cons rfl evl_nil))) (without_ok _ (E.map Prod.fst) lo hi _ (h.ext (Ext.trans (Ext.trans (Ext.trans hx3 hx7) hx12) hx20)) (right_le hr) (right_dat hr)) ?_
    rintro vb wb ⟨⟨Fb, hFb, oFb⟩, hx21⟩
    have := World.grownBy.size hx21
    have sB : Bls wb vb (outB lo hi (E.map Prod.fst)) := oFb.sessE hFb
    have hlb : Fb.length = (outB lo hi (E.map Prod.fst)).length := by rw [← hFb]; simp
    refine WL.va rfl rfl rfl (X.assign rfl) ?_
    refine WL.nil ?_
    refine thn_n ?_
    refine WF.seq ?_
    refine WF.seq ?_
    refine WF.region ?_
    refine WL.va rfl rfl rfl (X.move rfl) ?_
    refine WL.c rfl rfl rfl (X.call Try.call10 (evl_cons rfl evl_nil)) (right_ok _ (inB lo hi (E.map Prod.fst)) _ (sA.ext hx21)) ?_
    rintro v23 w22 ⟨rfl, hx24⟩
    have := World.grownBy.size hx24
    refine WL.va rfl rfl rfl (X.not rfl) ?_
    refine WL.va rfl rfl rfl (X.moveB rfl) ?_
    refine WL.split (j := 3) rfl (fun h27 => ?_) (fun h27 => ?_)
    · have gh27 := (nt h27)
      exact absurd (rightB_iff.2 (inB_right hr)) (by rw [gh27]; simp)
    · have gh27 := (nf h27)
      refine WL.vg rfl (congrArg some h27) rfl rfl (X.move rfl) ?_
      refine WL.cg rfl (congrArg some h27) rfl rfl (X.call Try.call10 (evl_cons rfl evl_nil)) (right_ok _ (outB lo hi (E.map Prod.fst)) _ (sB.ext hx24)) ?_
      rintro v29 w28 ⟨rfl, hx30⟩
      have := World.grownBy.size hx30
      refine WL.vg rfl (congrArg some h27) rfl rfl (X.not rfl) ?_
      refine WL.va rfl rfl rfl (X.pickF rfl h27 rfl) ?_
      refine WL.va rfl rfl rfl (X.moveB rfl) ?_
      refine WL.split (j := 8) rfl (fun h33 => ?_) (fun h33 => ?_)
      · have gh33 := (nt h33)
        exact absurd (rightB_iff.2 (outB_right hr)) (by rw [gh33]; simp)
      · have gh33 := (nf h33)
        refine WL.vg rfl (congrArg some h33) rfl rfl (X.move rfl) ?_
        refine WL.vg rfl (congrArg some h33) rfl rfl (X.len oFa.srow rfl Try.underlying25) ?_
        refine WL.vg rfl (congrArg some h33) rfl rfl (X.move rfl) ?_
        refine WL.vg rfl (congrArg some h33) rfl rfl (X.len oFb.srow rfl Try.underlying25) ?_
        refine WL.vg rfl (congrArg some h33) rfl rfl (X.add rfl rfl (w64 (by omega))) ?_
        refine WL.vg rfl (congrArg some h33) rfl rfl (X.move rfl) ?_
        refine WL.vg rfl (congrArg some h33) rfl rfl (X.len re rfl Try.underlying25) ?_
        refine WL.vg rfl (congrArg some h33) rfl rfl (X.neq rfl rfl) ?_
        refine WL.va rfl rfl rfl (X.pickF rfl h33 rfl) ?_
        refine WL.va rfl rfl rfl (X.moveB rfl) ?_
        refine WL.split (j := 18) rfl (fun h35 => ?_) (fun h35 => ?_)
        · have gh35 := (of_decide_eq_true h35)
          exact absurd gh35 (by omega)
        · have gh35 := (Decidable.of_not_not (of_decide_eq_false h35))
          refine WL.vg rfl (congrArg some h35) rfl rfl (X.move rfl) ?_
          refine WL.vg rfl (congrArg some h35) rfl rfl (X.move rfl) ?_
          refine WL.cg rfl (congrArg some h35) rfl rfl (X.call Try.call26 (evl_cons rfl (evl_cons rfl evl_nil))) (join_ok _ _ (inB lo hi (E.map Prod.fst)) (outB lo hi (E.map Prod.fst)) _ (sA.ext (Ext.trans (Ext.trans hx21 hx24) hx30)) (sB.ext (Ext.trans hx24 hx30)) (inB_right hr) (outB_right hr)) ?_
          rintro v36 wj ⟨⟨Fj, hFj, oFj⟩, hx37⟩
          have := World.grownBy.size hx37
          refine WL.vg rfl (congrArg some h35) rfl rfl (X.move rfl) ?_
          refine WL.cg rfl (congrArg some h35) rfl rfl (X.call Try.call23 (evl_cons rfl (evl_cons rfl evl_nil))) (sameBs_ok _ _ (joinB (inB lo hi (E.map Prod.fst)) (outB lo hi (E.map Prod.fst))) (E.map Prod.fst) _ ((oFj.sessE hFj).ext (Ext.refl wj)) (h.ext (Ext.trans (Ext.trans (Ext.trans (Ext.trans (Ext.trans (Ext.trans (Ext.trans hx3 hx7) hx12) hx20) hx21) hx24) hx30) hx37))) ?_
          rintro v39 w38 ⟨rfl, hx40⟩
          have := World.grownBy.size hx40
          refine WL.vg rfl (congrArg some h35) rfl rfl (X.not rfl) ?_
          refine WL.va rfl rfl rfl (X.pickF rfl h35 rfl) ?_
          refine WL.va rfl rfl rfl (X.moveB rfl) ?_
          refine WL.split (j := 26) rfl (fun h43 => ?_) (fun h43 => ?_)
          · have gh43 := (of_decide_eq_false (nt h43))
            exact absurd (join_part1 hr) gh43
          · have gh43 := (of_decide_eq_true (nf h43))
            refine WL.vg rfl (congrArg some h43) rfl rfl (X.move rfl) ?_
            refine WL.vg rfl (congrArg some h43) rfl rfl (X.move rfl) ?_
            refine WL.cg rfl (congrArg some h43) rfl rfl (X.call Try.call26 (evl_cons rfl (evl_cons rfl evl_nil))) (join_ok _ _ (outB lo hi (E.map Prod.fst)) (inB lo hi (E.map Prod.fst)) _ (sB.ext (Ext.trans (Ext.trans (Ext.trans hx24 hx30) hx37) hx40)) (sA.ext (Ext.trans (Ext.trans (Ext.trans (Ext.trans hx21 hx24) hx30) hx37) hx40)) (outB_right hr) (inB_right hr)) ?_
            rintro v44 wk ⟨⟨Fk, hFk, oFk⟩, hx45⟩
            have := World.grownBy.size hx45
            refine WL.vg rfl (congrArg some h43) rfl rfl (X.move rfl) ?_
            refine WL.cg rfl (congrArg some h43) rfl rfl (X.call Try.call23 (evl_cons rfl (evl_cons rfl evl_nil))) (sameBs_ok _ _ (joinB (outB lo hi (E.map Prod.fst)) (inB lo hi (E.map Prod.fst))) (E.map Prod.fst) _ ((oFk.sessE hFk).ext (Ext.refl wk)) (h.ext (Ext.trans (Ext.trans (Ext.trans (Ext.trans (Ext.trans (Ext.trans (Ext.trans (Ext.trans (Ext.trans hx3 hx7) hx12) hx20) hx21) hx24) hx30) hx37) hx40) hx45))) ?_
            rintro v47 w46 ⟨rfl, hx48⟩
            have := World.grownBy.size hx48
            refine WL.vg rfl (congrArg some h43) rfl rfl (X.not rfl) ?_
            refine WL.va rfl rfl rfl (X.pickF rfl h43 rfl) ?_
            refine WL.va rfl rfl rfl (X.moveB rfl) ?_
            refine WL.split (j := 34) rfl (fun h51 => ?_) (fun h51 => ?_)
            · have gh51 := (of_decide_eq_false (nt h51))
              exact absurd (join_part2 hr) gh51
            · have gh51 := (of_decide_eq_true (nf h51))
              refine WL.vg rfl (congrArg some h51) rfl rfl (X.move rfl) ?_
              refine WL.vg rfl (congrArg some h51) rfl rfl (X.move rfl) ?_
              refine WL.cg rfl (congrArg some h51) rfl rfl (X.call Try.call26 (evl_cons rfl (evl_cons rfl evl_nil))) (join_ok _ _ (E.map Prod.fst) (inB lo hi (E.map Prod.fst)) _ (h.ext (Ext.trans (Ext.trans (Ext.trans (Ext.trans (Ext.trans (Ext.trans (Ext.trans (Ext.trans (Ext.trans (Ext.trans hx3 hx7) hx12) hx20) hx21) hx24) hx30) hx37) hx40) hx45) hx48)) (sA.ext (Ext.trans (Ext.trans (Ext.trans (Ext.trans (Ext.trans (Ext.trans hx21 hx24) hx30) hx37) hx40) hx45) hx48)) hr (inB_right hr)) ?_
              rintro v52 wm ⟨⟨Fm, hFm, oFm⟩, hx53⟩
              have := World.grownBy.size hx53
              refine WL.vg rfl (congrArg some h51) rfl rfl (X.move rfl) ?_
              refine WL.cg rfl (congrArg some h51) rfl rfl (X.call Try.call23 (evl_cons rfl (evl_cons rfl evl_nil))) (sameBs_ok _ _ (joinB (E.map Prod.fst) (inB lo hi (E.map Prod.fst))) (E.map Prod.fst) _ ((oFm.sessE hFm).ext (Ext.refl wm)) (h.ext (Ext.trans (Ext.trans (Ext.trans (Ext.trans (Ext.trans (Ext.trans (Ext.trans (Ext.trans (Ext.trans (Ext.trans (Ext.trans hx3 hx7) hx12) hx20) hx21) hx24) hx30) hx37) hx40) hx45) hx48) hx53))) ?_
              rintro v55 w54 ⟨rfl, hx56⟩
              have := World.grownBy.size hx56
              refine WL.vg rfl (congrArg some h51) rfl rfl (X.not rfl) ?_
              refine WL.va rfl rfl rfl (X.pickF rfl h51 rfl) ?_
              refine WL.nil ?_
              refine thn_n ?_
              refine WF.cond rfl (fun h1_58 => ?_) (fun h1_58 => ?_)
              · have gh1_58 := (of_decide_eq_false (nt h1_58))
                exact absurd (join_part3 hr) gh1_58
              · have gh1_58 := (of_decide_eq_true (nf h1_58))
                refine WF.skip ?_
                refine thn_n ?_
                refine WF.seq ?_
                refine WF.region ?_
                refine WL.va rfl rfl rfl (X.fieldAddrO (off := 0) rfl Try.underlying30 rfl rfl Try.sizeOf3) ?_
                refine WL.va rfl rfl rfl (X.loadO hO4 (Ext.trans (Ext.trans (Ext.trans (Ext.trans (Ext.trans (Ext.trans (Ext.trans (Ext.trans (Ext.trans (Ext.trans (Ext.trans hx7 hx12) hx20) hx21) hx24) hx30) hx37) hx40) hx45) hx48) hx53) hx56) rfl rfl Try.isAgg3) ?_
                refine WL.va rfl rfl rfl (X.fieldAddrO (off := 0) rfl Try.underlying30 rfl rfl Try.sizeOf3) ?_
                refine WL.va rfl rfl rfl (X.loadO hO5 (Ext.trans (Ext.trans (Ext.trans (Ext.trans (Ext.trans (Ext.trans (Ext.trans (Ext.trans (Ext.trans (Ext.trans hx12 hx20) hx21) hx24) hx30) hx37) hx40) hx45) hx48) hx53) hx56) rfl rfl Try.isAgg3) ?_
                refine WL.va rfl rfl rfl (X.max2 rfl rfl) ?_
                refine WL.va rfl rfl rfl (X.fieldAddrO (off := 1) rfl Try.underlying30 rfl rfl Try.sizeOf3) ?_
                refine WL.va rfl rfl rfl (X.loadO hO4 (Ext.trans (Ext.trans (Ext.trans (Ext.trans (Ext.trans (Ext.trans (Ext.trans (Ext.trans (Ext.trans (Ext.trans (Ext.trans hx7 hx12) hx20) hx21) hx24) hx30) hx37) hx40) hx45) hx48) hx53) hx56) rfl rfl Try.isAgg3) ?_
                refine WL.va rfl rfl rfl (X.fieldAddrO (off := 1) rfl Try.underlying30 rfl rfl Try.sizeOf3) ?_
                refine WL.va rfl rfl rfl (X.loadO hO5 (Ext.trans (Ext.trans (Ext.trans (Ext.trans (Ext.trans (Ext.trans (Ext.trans (Ext.trans (Ext.trans (Ext.trans hx12 hx20) hx21) hx24) hx30) hx37) hx40) hx45) hx48) hx53) hx56) rfl rfl Try.isAgg3) ?_
                refine WL.va rfl rfl rfl (X.min2 rfl rfl) ?_
                refine WL.va rfl rfl rfl (X.buildL (P := Try.prog) (t := 30) (cs := [i64 (max lo lo2), i64 (min hi hi2)]) (evp_cons rfl (evp_cons rfl evp_nil)) Try.type30 Try.underlying30 rfl rfl ⟨rfl, rfl, trivial⟩ rfl) ?_
                refine WL.op rfl (OW.allocO (cs := [i64 0, i64 0]) Try.zeroValue30 rfl ?_ (by decide))
                intro g9 w60 heg9 hlg9 hO9 hx62
                have := World.grownBy.size hx62
                refine WL.op rfl (OW.storeOA hO9 rfl rfl rfl (res_one rfl rfl) Try.sizeOf30 ?_)
                intro w65 hO9 hx67
                have := World.grownBy.size hx67
                replace hO4 := (hO4.ext (Ext.trans (Ext.trans (Ext.trans (Ext.trans (Ext.trans (Ext.trans (Ext.trans (Ext.trans (Ext.trans (Ext.trans (Ext.trans (Ext.trans hx7 hx12) hx20) hx21) hx24) hx30) hx37) hx40) hx45) hx48) hx53) hx56) hx62)).keptO hx67 (by omega)
                replace hO5 := (hO5.ext (Ext.trans (Ext.trans (Ext.trans (Ext.trans (Ext.trans (Ext.trans (Ext.trans (Ext.trans (Ext.trans (Ext.trans (Ext.trans hx12 hx20) hx21) hx24) hx30) hx37) hx40) hx45) hx48) hx53) hx56) hx62)).keptO hx67 (by omega)
                replace hO9 : Blk _ _ _ [i64 (max lo lo2), i64 (min hi hi2)] := hO9
                refine WL.nil ?_
                refine thn_n ?_
                refine WF.seq ?_
                refine WF.drawn (.q 0 (.q 1 (.q 3 (.q 4 (.l 2 (.l 5 (.l 6 (.q 7 (.q 8 (.q 9 (.l 10 (.q 11 (.q 12 (.q 13 (.q 14 (.l 15 (.q 16 (.q 17 .nil)))))))))))))))))) (fun w' => Ext w65 w') 18 (by kernel_rfl) (by kernel_rfl) (Ext.drew _) ?_
                have := World.grownBy.size (Ext.drew w65)
                refine WO.q rfl rfl rfl rfl (fun w' hE69 => (X.move rfl)) ?_
                refine WO.q rfl rfl rfl rfl (fun w' hE69 => (X.loadOA hO5 hE69 rfl rfl Try.isAgg30 Try.sizeOf30)) ?_
                refine WO.q rfl rfl rfl rfl (fun w' hE69 => (X.move rfl)) ?_
                refine WO.q rfl rfl rfl rfl (fun w' hE69 => (X.loadOA hO9 hE69 rfl rfl Try.isAgg30 Try.sizeOf30)) ?_
                refine WO.l ?_
                refine LO.go rfl rfl (OW.enter rfl (by decide) (X.call Try.call30 (evl_cons rfl (evl_cons rfl evl_nil))) (in_ok _ (inB lo hi (E.map Prod.fst)) lo2 hi2 _ (sA.ext (Ext.trans (Ext.trans (Ext.trans (Ext.trans (Ext.trans (Ext.trans (Ext.trans (Ext.trans (Ext.trans (Ext.trans hx21 hx24) hx30) hx37) hx40) hx45) hx48) hx53) hx56) (Ext.store hx62 hx67 (by omega))) (Ext.drew _))) (right_le (inB_right hr)) (right_dat (inB_right hr))) ?_)
                rintro v70 wp ⟨⟨Fp, hFp, oFp⟩, hx71⟩
                have := World.grownBy.size hx71
                refine ⟨(Ext.trans (Ext.drew _) hx71), ?_⟩
                refine WO.l ?_
                refine LO.go rfl rfl (OW.enter rfl (by decide) (X.call Try.call30 (evl_cons rfl (evl_cons rfl evl_nil))) (in_ok _ (E.map Prod.fst) (max lo lo2) (min hi hi2) _ (h.ext (Ext.trans (Ext.trans (Ext.trans (Ext.trans (Ext.trans (Ext.trans (Ext.trans (Ext.trans (Ext.trans (Ext.trans (Ext.trans (Ext.trans (Ext.trans (Ext.trans (Ext.trans hx3 hx7) hx12) hx20) hx21) hx24) hx30) hx37) hx40) hx45) hx48) hx53) hx56) (Ext.store hx62 hx67 (by omega))) (Ext.drew _)) hx71)) (right_le hr) (right_dat hr)) ?_)
                rintro v72 wq ⟨⟨Fq, hFq, oFq⟩, hx73⟩
                have := World.grownBy.size hx73
                refine ⟨(Ext.trans (Ext.trans (Ext.drew _) hx71) hx73), ?_⟩
                refine WO.l ?_
                refine LO.go rfl rfl (OW.enter rfl (by decide) (X.call Try.call23 (evl_cons rfl (evl_cons rfl evl_nil))) (sameBs_ok _ _ (inB lo2 hi2 (inB lo hi (E.map Prod.fst))) (inB (max lo lo2) (min hi hi2) (E.map Prod.fst)) _ ((oFp.sessE hFp).ext hx73) ((oFq.sessE hFq).ext (Ext.refl wq))) ?_)
                rintro v75 w74 ⟨rfl, hx76⟩
                have := World.grownBy.size hx76
                refine ⟨(Ext.trans (Ext.trans (Ext.trans (Ext.drew _) hx71) hx73) hx76), ?_⟩
                refine WO.q rfl rfl rfl rfl (fun w' hE69 => (X.moveB rfl)) ?_
                refine WO.split (j := 7) rfl (fun h78 => ?_) (fun h78 => ?_)
                · have gh78 := (of_decide_eq_true h78)
                  refine WO.qg rfl rfl (congrArg some h78) rfl rfl (fun w' hE69 => (X.move rfl)) ?_
                  refine WO.qg rfl rfl (congrArg some h78) rfl rfl (fun w' hE69 => (X.loadOA hO4 hE69 rfl rfl Try.isAgg30 Try.sizeOf30)) ?_
                  refine WO.l ?_
                  refine LO.gog rfl rfl (congrArg some h78) (OW.enter rfl (by decide) (X.call Try.call30 (evl_cons rfl (evl_cons rfl evl_nil))) (in_ok _ (outB lo hi (E.map Prod.fst)) lo hi _ (sB.ext (Ext.trans (Ext.trans (Ext.trans (Ext.trans (Ext.trans (Ext.trans (Ext.trans (Ext.trans (Ext.trans (Ext.trans (Ext.trans (Ext.trans hx24 hx30) hx37) hx40) hx45) hx48) hx53) hx56) (Ext.store hx62 hx67 (by omega))) (Ext.drew _)) hx71) hx73) hx76)) (right_le (outB_right hr)) (right_dat (outB_right hr))) ?_)
                  rintro v80 w79 ⟨⟨Fr, hFr, oFr⟩, hx81⟩
                  have := World.grownBy.size hx81
                  refine ⟨(Ext.trans (Ext.trans (Ext.trans (Ext.trans (Ext.drew _) hx71) hx73) hx76) hx81), ?_⟩
                  have hlr : Fr.length = 0 := by have := congrArg List.length (hFr.trans in_out); simpa using this
                  refine WO.qg rfl rfl (congrArg some h78) rfl rfl (fun w' hE69 => (X.len oFr.srow rfl Try.underlying25)) ?_
                  refine WO.qg rfl rfl (congrArg some h78) rfl rfl (fun w' hE69 => (X.eql rfl rfl)) ?_
                  refine WO.q rfl rfl rfl rfl (fun w' hE69 => (X.pickT rfl h78 rfl)) ?_
                  refine WO.q rfl rfl rfl rfl (fun w' hE69 => (X.moveB rfl)) ?_
                  refine WO.l ?_
                  refine LO.split (j := 14) rfl (fun h83 => ?_) (fun h83 => ?_)
                  · have gh83 := (of_decide_eq_true h83)
                    refine LO.gog rfl rfl (congrArg some h83) (OW.enter rfl (by decide) (X.call Try.call12 evl_nil) (known_ok _) ?_)
                    rintro v85 w84 ⟨rfl, hx86⟩
                    have := World.grownBy.size hx86
                    refine ⟨(Ext.trans (Ext.trans (Ext.trans (Ext.trans (Ext.trans (Ext.drew _) hx71) hx73) hx76) hx81) hx86), ?_⟩
                    refine WO.q rfl rfl rfl rfl (fun w' hE69 => (X.pickT rfl h83 rfl)) ?_
                    refine WO.q rfl rfl rfl rfl (fun w' hE69 => (X.assignB rfl)) ?_
                    refine WO.nil ?_
                    refine WL.nil ?_
                    refine thn_n ?_
                    refine WF.ret ?_
                    refine fin_r ?_
                    first | exact ⟨rfl, (Ext.trans (Ext.trans (Ext.trans (Ext.trans (Ext.trans (Ext.trans (Ext.trans (Ext.trans (Ext.trans (Ext.trans (Ext.trans (Ext.trans (Ext.trans (Ext.trans (Ext.trans (Ext.trans (Ext.trans (Ext.trans (Ext.trans hx3 hx7) hx12) hx20) hx21) hx24) hx30) hx37) hx40) hx45) hx48) hx53) hx56) (Ext.store hx62 hx67 (by omega))) (Ext.drew _)) hx71) hx73) hx76) hx81) hx86)⟩ | exact ⟨congrArg Value.bool (decide_eq_true rfl), (Ext.trans (Ext.trans (Ext.trans (Ext.trans (Ext.trans (Ext.trans (Ext.trans (Ext.trans (Ext.trans (Ext.trans (Ext.trans (Ext.trans (Ext.trans (Ext.trans (Ext.trans (Ext.trans (Ext.trans (Ext.trans (Ext.trans hx3 hx7) hx12) hx20) hx21) hx24) hx30) hx37) hx40) hx45) hx48) hx53) hx56) (Ext.store hx62 hx67 (by omega))) (Ext.drew _)) hx71) hx73) hx76) hx81) hx86)⟩
                  · have gh83 := (of_decide_eq_false h83)
                    exact absurd (by rw [hlr]; rfl) gh83
                · have gh78 := (of_decide_eq_false h78)
                  exact absurd in_in gh78

end Go.Proofs.Ytcaimmbhdfoniaa
