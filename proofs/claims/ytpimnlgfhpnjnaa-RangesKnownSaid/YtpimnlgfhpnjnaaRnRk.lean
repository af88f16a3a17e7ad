/- The walk of Apply. -/
import Derived.Test.YtpimnlgfhpnjnaaRnQn
namespace Go.Proofs.Ytpimnlgfhpnjnaa
open Go Go.RowKit Kf
set_option maxRecDepth 20000

theorem rowN_new {w : World} {G B n sz : Nat} {v u : Value} {cs : List Value} (ht : Row w v n sz cs) (h : v = u ∨ ∀ b, v.ownBlock = some b → B ≤ b) (hu : ∀ b, u.ownBlock = some b → b ≠ G) (hB : G < B) : RowN w G w.heap.size v n sz cs := ⟨ht, fun hc b hb => by
  refine ⟨?_, row_lt ht hc b hb⟩
  rcases h with q | q
  · rw [q] at hb; exact hu b hb
  · have := q b hb; omega⟩
theorem rgs_ne {m : Mp} (h : Good m) : m.R.flatMap Rg.c ≠ [] := by
  intro e
  have hv := (check_val h.E h.ok).1
  have hl : m.R ≠ [] := fun q => by have hc := hv.cov; rw [q] at hc; exact absurd (show (0 : Int) = 64 from hc) (by decide)
  obtain ⟨r, t, hr⟩ := List.exists_cons_of_ne_nil hl
  rw [hr] at e
  simp [Rg.c] at e
set_option maxHeartbeats 8000000 in
theorem apply_ok (d : Dr) (v u vP vR vW vD : Value) (o : Op.Od) (w : World) (h : DAt w v u d) (hg : Good d.m) (hS : d.S.length ≤ 999) (hD : ∀ s ∈ d.S, s.Data.length ≤ 1000000) (ho : Op.OpAt w vP vR vW vD o) : FnOk Try.prog 45 [agg (d.c v u), agg (Op.oc o.n vP vR vW vD)] w (fun r w' => AppPost w w' d o.n r ∧ Ext w w') := by
  refine FnOk.enterC (rs := [.cell 4 51, .cell 5 53]) Try.func45 rfl Try.ntmps45 Try.results45 rfl rfl ?_
  refine WF.seq ?_
  refine WF.region ?_
  refine WL.op rfl (OW.boxA (cs := (d.c v u)) rfl ?_ (by decide))
  intro g2 w1 heg2 hlg2 hO2 hx3
  have := World.grownBy.size hx3
  refine WL.op rfl (OW.boxA (cs := (Op.oc o.n vP vR vW vD)) rfl ?_ (by decide))
  intro g3 w5 heg3 hlg3 hO3 hx7
  have := World.grownBy.size hx7
  refine WL.op rfl (OW.allocO (cs := [.slice none 0 0, i64 0, i64 0, i64 0, i64 0, i64 0, i64 0, .slice none 0 0]) Try.zeroValue51 rfl ?_ (by decide))
  intro g4 w9 heg4 hlg4 hO4 hx11
  have := World.grownBy.size hx11
  refine WL.op rfl (OW.allocO (cs := [i64 0, .slice none 0 0]) Try.zeroValue53 rfl ?_ (by decide))
  intro g5 w13 heg5 hlg5 hO5 hx15
  have := World.grownBy.size hx15
  refine WL.nil ?_
  refine thn_n ?_
  refine WF.seq ?_
  refine WF.region ?_
  refine WL.va rfl rfl rfl (X.loadOA hO2 (Ext.trans (Ext.trans hx7 hx11) hx15) rfl rfl Try.isAgg51 Try.sizeOf51) ?_
  refine WL.c rfl rfl rfl (X.call Try.call86 (evl_cons rfl evl_nil)) (fresh_ok d v u _ (h.ext (Ext.trans (Ext.trans (Ext.trans hx3 hx7) hx11) hx15)) (Nat.le_trans hg.len (by decide)) (by omega) hD) ?_
  rintro v18 w17 ⟨⟨v1, u1, F1, rfl, hF1, od⟩, hx19⟩
  have := World.grownBy.size hx19
  have orT := od.rng
  have osT := od.ses
  refine WL.op rfl (OW.storeOA (hO2.ext (Ext.trans (Ext.trans (Ext.trans hx7 hx11) hx15) hx19)) rfl rfl rfl (Dr.c_one d orT.rd (own_one od.ses.own.row)) Try.sizeOf51 ?_)
  intro w20 hO2 hx22
  have := World.grownBy.size hx22
  replace hO3 := (hO3.ext (Ext.trans (Ext.trans hx11 hx15) hx19)).keptO hx22 (by omega)
  replace hO4 := (hO4.ext (Ext.trans hx15 hx19)).keptO hx22 (by omega)
  replace hO5 := (hO5.ext hx19).keptO hx22 (by omega)
  replace orT := orT.keptO hx22 (by omega)
  replace osT := osT.keptO hx22 (by omega)
  replace hO2 : Blk _ _ _ (Dr.c ⟨d.m, d.S⟩ v1 u1) := hO2
  refine WL.nil ?_
  refine thn_n ?_
  refine WF.seq ?_
  refine WF.named (fun F24 hF25 => ?_)
  refine WF.cut (fun f' w' => f' 20 = .bool (decide (o.n.getD 0 0 ≠ 9 ∧ o.n.getD 0 0 ≠ 10)) ∧ Agree [0, 1, 2, 3, 4, 5, 11, 12] f' F24 ∧ w20 = w') ?_ ?_
  · refine WF.region ?_
    refine WL.va rfl rfl rfl (X.fieldAddrO (off := 0) (congrFun hF25 3) Try.underlying72 rfl rfl Try.sizeOf3) ?_
    refine WL.va rfl rfl rfl (X.loadO hO3 (Ext.refl _) rfl rfl Try.isAgg3) ?_
    refine WL.va rfl rfl rfl (X.neq rfl rfl) ?_
    refine WL.va rfl rfl rfl (X.moveB rfl) ?_
    refine WL.split (j := 3) rfl (fun h27 => ?_) (fun h27 => ?_)
    · have gh27 := (of_decide_eq_true h27)
      have k9 : ¬ o.n.getD 0 0 = 9 := gh27
      refine WL.vg rfl (congrArg some h27) rfl rfl (X.fieldAddrO (off := 0) (congrFun hF25 3) Try.underlying72 rfl rfl Try.sizeOf3) ?_
      refine WL.vg rfl (congrArg some h27) rfl rfl (X.loadO hO3 (Ext.refl _) rfl rfl Try.isAgg3) ?_
      refine WL.vg rfl (congrArg some h27) rfl rfl (X.neq rfl rfl) ?_
      refine WL.va rfl rfl rfl (X.pickT rfl h27 rfl) ?_
      refine WL.nil ?_
      refine thn_n ?_
      exact ⟨(congrArg Value.bool (by first | exact Op.dec_f (fun e => e.1 k9) | exact decide_eq_decide.2 ⟨fun e => ⟨k9, e⟩, fun e => e.2⟩ | simp [k9])), (by repeat (first | exact (Agree.refl _ F24) | refine Agree.put ?_ rfl | refine Agree.named hF25 ?_)), rfl⟩
    · have gh27 := (Decidable.of_not_not (of_decide_eq_false h27))
      have k9 : o.n.getD 0 0 = 9 := by simpa using gh27
      refine WL.p rfl rfl rfl (congrArg some h27) ?_
      refine WL.p rfl rfl rfl (congrArg some h27) ?_
      refine WL.p rfl rfl rfl (congrArg some h27) ?_
      refine WL.va rfl rfl rfl (X.pickF rfl h27 rfl) ?_
      refine WL.nil ?_
      refine thn_n ?_
      exact ⟨(congrArg Value.bool (by first | exact Op.dec_f (fun e => e.1 k9) | exact decide_eq_decide.2 ⟨fun e => ⟨k9, e⟩, fun e => e.2⟩ | simp [k9])), (by repeat (first | exact (Agree.refl _ F24) | refine Agree.put ?_ rfl | refine Agree.named hF25 ?_)), rfl⟩
  · rintro fCr2 wCr2 ⟨e20_Cr2, hACr2, rfl⟩
    refine WF.cond e20_Cr2 (fun h0_30 => ?_) (fun h0_30 => ?_)
    · have gh0_30 := (of_decide_eq_true h0_30)
      have hk := gh0_30
      refine WF.seq ?_
      refine WF.region ?_
      refine WL.va rfl rfl rfl (X.loadOA hO2 (Ext.refl _) ((hACr2.eq 2).trans (congrFun hF25 2)) rfl Try.isAgg51 Try.sizeOf51) ?_
      refine WL.va rfl rfl rfl (X.buildL (P := Try.prog) (t := 53) (cs := [i64 13, nilS]) (evp_cons rfl evp_nil) Try.type53 Try.underlying53 rfl rfl ⟨rfl, trivial⟩ rfl) ?_
      refine WL.op rfl (OW.storeOA hO4 ((hACr2.eq 4).trans (congrFun hF25 4)) rfl rfl (Dr.c_one d orT.rd (own_one od.ses.own.row)) Try.sizeOf51 ?_)
      intro w32 hO4 hx34
      have := World.grownBy.size hx34
      replace hO2 := hO2.keptO hx34 (by omega)
      replace hO3 := hO3.keptO hx34 (by omega)
      replace hO5 := hO5.keptO hx34 (by omega)
      replace orT := orT.keptO hx34 (by omega)
      replace osT := osT.keptO hx34 (by omega)
      replace hO4 : Blk _ _ _ (Dr.c ⟨d.m, d.S⟩ v1 u1) := hO4
      refine WL.op rfl (OW.storeOA hO5 ((hACr2.eq 5).trans (congrFun hF25 5)) rfl rfl (ones2 _ rfl) Try.sizeOf53 ?_)
      intro w36 hO5 hx38
      have := World.grownBy.size hx38
      replace hO2 := hO2.keptO hx38 (by omega)
      replace hO3 := hO3.keptO hx38 (by omega)
      replace hO4 := hO4.keptO hx38 (by omega)
      replace orT := orT.keptO hx38 (by omega)
      replace osT := osT.keptO hx38 (by omega)
      replace hO5 : Blk _ _ _ [i64 13, nilS] := hO5
      refine WL.nil ?_
      refine thn_n ?_
      refine WF.ret ?_
      refine thn_r ?_
      refine finC_r (vs := [_, _]) ⟨⟨_, ((hACr2.eq 4).trans (congrFun hF25 4)), readO hO4 Try.isAgg51 Try.sizeOf51⟩, ⟨_, ((hACr2.eq 5).trans (congrFun hF25 5)), readO hO5 Try.isAgg53 Try.sizeOf53⟩, trivial⟩ ?_
      exact ⟨AppPost.mk (app_bad hk) rfl hF1 ⟨ownT_up orT (by omega) (by omega), osT.mono (by omega) (by omega), od.off⟩ (nilT _ _ _) far_nil, (Ext.store (Ext.store (Ext.store (Ext.trans (Ext.trans (Ext.trans (Ext.trans hx3 hx7) hx11) hx15) hx19) hx22 (by omega)) hx34 (by omega)) hx38 (by omega))⟩
    · have gh0_30 := (of_decide_eq_false h0_30)
      have hk := gh0_30
      refine WF.skip ?_
      refine thn_n ?_
      refine WF.seq ?_
      refine WF.seq ?_
      refine WF.region ?_
      refine WL.va rfl rfl rfl (X.fieldAddrO (off := 7) ((hACr2.eq 2).trans (congrFun hF25 2)) Try.underlying51 rfl rfl Try.sizeOf49) ?_
      refine WL.va rfl rfl rfl (X.loadO hO2 (Ext.refl _) rfl rfl Try.isAgg49) ?_
      refine WL.va rfl rfl rfl (X.fieldAddrO (off := 1) ((hACr2.eq 3).trans (congrFun hF25 3)) Try.underlying72 rfl rfl Try.sizeOf3) ?_
      refine WL.va rfl rfl rfl (X.loadO hO3 (Ext.refl _) rfl rfl Try.isAgg3) ?_
      refine WL.va rfl rfl rfl (X.fieldAddrO (off := 2) ((hACr2.eq 3).trans (congrFun hF25 3)) Try.underlying72 rfl rfl Try.sizeOf3) ?_
      refine WL.va rfl rfl rfl (X.loadO hO3 (Ext.refl _) rfl rfl Try.isAgg3) ?_
      refine WL.c rfl rfl rfl (X.call Try.call87 (evl_cons rfl (evl_cons rfl (evl_cons rfl evl_nil)))) (Se.ask_ok u1 d.S _ _ _ (sess_eq osT.sess hF1) hD) ?_
      rintro v41 w40 ⟨⟨da, rfl, oa⟩, hx42⟩
      have := World.grownBy.size hx42
      have oaT : ByT w40 _ _ da _ := OwnT.of oa
      refine WL.va rfl rfl rfl (X.move rfl) ?_
      refine WL.va rfl rfl rfl (X.extract rfl rfl) ?_
      refine WL.va rfl rfl rfl (X.extract rfl rfl) ?_
      refine WL.op rfl (OW.allocO (cs := [i64 0, .slice none 0 0]) Try.zeroValue53 rfl ?_ (by decide))
      intro g6 w43 heg6 hlg6 hO6 hx45
      have := World.grownBy.size hx45
      refine WL.op rfl (OW.storeOA hO6 rfl rfl rfl (ones2 _ (own_one oa)) Try.sizeOf53 ?_)
      intro w47 hO6 hx49
      have := World.grownBy.size hx49
      replace hO2 := (hO2.ext (Ext.trans hx42 hx45)).keptO hx49 (by omega)
      replace hO3 := (hO3.ext (Ext.trans hx42 hx45)).keptO hx49 (by omega)
      replace hO4 := (hO4.ext (Ext.trans hx42 hx45)).keptO hx49 (by omega)
      replace hO5 := (hO5.ext (Ext.trans hx42 hx45)).keptO hx49 (by omega)
      replace orT := (orT.ext (Ext.trans hx42 hx45)).keptO hx49 (by omega)
      replace osT := (osT.ext (Ext.trans hx42 hx45)).keptO hx49 (by omega)
      replace oaT := (oaT.ext hx45).keptO hx49 (by omega)
      refine WL.va rfl rfl rfl (X.assignI rfl) ?_
      refine WL.nil ?_
      refine thn_n ?_
      refine WF.seq ?_
      refine WF.region ?_
      refine WL.va rfl rfl rfl (X.moveI rfl) ?_
      refine WL.nil ?_
      refine thn_n ?_
      refine WF.block ?_
      refine WF.seq ?_
      refine WF.region ?_
      refine WL.va rfl rfl rfl (X.eql rfl rfl) ?_
      refine WL.va rfl rfl rfl (X.assignB rfl) ?_
      refine WL.nil ?_
      refine thn_n ?_
      refine WF.cond rfl (fun h1_51 => ?_) (fun h1_51 => ?_)
      · have gh1_51 := (of_decide_eq_true h1_51)
        have h0 : (Se.askS d.S (o.n.getD 1 0) (o.n.getD 2 0)).2 = 0 := gh1_51
        refine WF.skip ?_
        refine blk_n ?_
        refine thn_n ?_
        refine WF.seq ?_
        refine WF.region ?_
        refine WL.va rfl rfl rfl (X.fieldAddrO (off := 0) ((hACr2.eq 2).trans (congrFun hF25 2)) Try.underlying51 rfl rfl Try.sizeOf26) ?_
        refine WL.va rfl rfl rfl (X.loadOP hO2 (Ext.refl _) rfl rfl rfl Try.isAgg26 Try.sizeOf26) ?_
        refine WL.va rfl rfl rfl (X.loadOA hO3 (Ext.refl _) ((hACr2.eq 3).trans (congrFun hF25 3)) rfl Try.isAgg72 Try.sizeOf72) ?_
        refine WL.c rfl rfl rfl (X.call Try.call88 (evl_cons rfl (evl_cons rfl evl_nil))) (turn_ok d.m v1 vP vR vW vD o _ orT.rd hg (ho.ext (Ext.trans (Ext.trans (Ext.store (Ext.trans (Ext.trans (Ext.trans (Ext.trans hx3 hx7) hx11) hx15) hx19) hx22 (by omega)) hx42) (Ext.store hx45 hx49 (by omega))))) ?_
        rintro v54 w53 ⟨⟨vt, rfl, ht, hvt⟩, hx55⟩
        have := World.grownBy.size hx55
        have htN := rowN_new (G := g2) ht hvt (fun b hb => by have := (od.rng.own.lt b hb).1; omega) (by omega)
        refine WL.va rfl rfl rfl (X.move rfl) ?_
        refine WL.va rfl rfl rfl (X.extract rfl rfl) ?_
        refine WL.va rfl rfl rfl (X.extract rfl rfl) ?_
        refine WL.op rfl (OW.allocO (cs := [.slice none 0 0, i64 0, i64 0, i64 0, i64 0, i64 0, i64 0]) Try.zeroValue26 rfl ?_ (by decide))
        intro g8 w56 heg8 hlg8 hO8 hx58
        have := World.grownBy.size hx58
        refine WL.op rfl (OW.storeOA hO8 rfl rfl rfl (Mp.c_one ht _) Try.sizeOf26 ?_)
        intro w60 hO8 hx62
        have := World.grownBy.size hx62
        replace hO2 := (hO2.ext (Ext.trans hx55 hx58)).keptO hx62 (by omega)
        replace hO3 := (hO3.ext (Ext.trans hx55 hx58)).keptO hx62 (by omega)
        replace hO4 := (hO4.ext (Ext.trans hx55 hx58)).keptO hx62 (by omega)
        replace hO5 := (hO5.ext (Ext.trans hx55 hx58)).keptO hx62 (by omega)
        replace orT := (orT.ext (Ext.trans hx55 hx58)).keptO hx62 (by omega)
        replace osT := (osT.ext (Ext.trans hx55 hx58)).keptO hx62 (by omega)
        replace oaT := (oaT.ext (Ext.trans hx55 hx58)).keptO hx62 (by omega)
        replace hO6 := (hO6.ext (Ext.trans hx55 hx58)).keptO hx62 (by omega)
        replace htN := (htN.ext hx58).keptO hx62 (by omega)
        replace hO8 : Blk _ _ _ ((turnF d.m o.n).1.c vt) := hO8
        refine WL.va rfl rfl rfl (X.assignI rfl) ?_
        refine WL.nil ?_
        refine thn_n ?_
        refine WF.seq ?_
        refine WF.seq ?_
        refine WF.region ?_
        refine WL.va rfl rfl rfl (X.moveI rfl) ?_
        refine WL.va rfl rfl rfl (X.eql rfl rfl) ?_
        refine WL.nil ?_
        refine thn_n ?_
        refine WF.cond rfl (fun h3_65 => ?_) (fun h3_65 => ?_)
        · have gh3_65 := (of_decide_eq_true h3_65)
          have hT : turnD d.m o.n = (turnF d.m o.n).1 := if_pos gh3_65
          refine WF.seq ?_
          refine WF.region ?_
          refine WL.va rfl rfl rfl (X.loadOA hO8 (Ext.refl _) rfl rfl Try.isAgg26 Try.sizeOf26) ?_
          refine WL.va rfl rfl rfl (X.fieldAddrO (off := 0) ((hACr2.eq 2).trans (congrFun hF25 2)) Try.underlying51 rfl rfl Try.sizeOf26) ?_
          refine WL.op rfl (OW.storeU (us := ((turnF d.m o.n).1.c vt)) hO2 (Nat.le_of_ble_eq_true rfl) rfl rfl rfl (Mp.c_one ht _) Try.sizeOf26 ?_)
          intro w67 hO2 hx69
          have := World.grownBy.size hx69
          replace hO3 := hO3.keptO hx69 (by omega)
          replace hO4 := hO4.keptO hx69 (by omega)
          replace hO5 := hO5.keptO hx69 (by omega)
          replace orT := orT.keptO hx69 (by omega)
          replace osT := osT.keptO hx69 (by omega)
          replace oaT := oaT.keptO hx69 (by omega)
          replace hO6 := hO6.keptO hx69 (by omega)
          replace htN := htN.keptO hx69 (by omega)
          replace hO8 := hO8.keptO hx69 (by omega)
          replace hO2 : Blk _ _ _ (Dr.c ⟨(turnF d.m o.n).1, d.S⟩ vt u1) := hO2
          refine WL.nil ?_
          refine thn_n ?_
          refine WF.region ?_
          refine WL.va rfl rfl rfl (X.fieldAddrO (off := 0) rfl Try.underlying26 rfl rfl Try.sizeOf22) ?_
          refine WL.va rfl rfl rfl (X.loadO hO8 (Ext.refl _) rfl rfl Try.isAgg22) ?_
          refine WL.c rfl rfl rfl (X.call Try.call55 (evl_cons rfl evl_nil)) (cloneR_ok vt _ _ _ htN.rd (rgs_ones _) (Nat.le_trans (hT ▸ (turnD_good hg o.n).len) (by decide))) ?_
          rintro v3 w71 ⟨o3, hx72⟩
          have := World.grownBy.size hx72
          replace orT : RgT w71 _ _ v3 (turnF d.m o.n).1.R := OwnT.of o3
          refine WL.va rfl rfl rfl (X.fieldAddrO (off := 0) ((hACr2.eq 2).trans (congrFun hF25 2)) Try.underlying51 rfl rfl Try.sizeOf26) ?_
          refine WL.va rfl rfl rfl (X.fieldAddrP (off := 0) rfl Try.underlying26 rfl rfl Try.sizeOf22) ?_
          refine WL.op rfl (OW.storeO (hO2.ext hx72) (Nat.le_of_ble_eq_true rfl) rfl rfl (own_one o3) Try.sizeOf22 ?_)
          intro w73 hO2 hx75
          have := World.grownBy.size hx75
          replace hO3 := (hO3.ext hx72).keptO hx75 (by omega)
          replace hO4 := (hO4.ext hx72).keptO hx75 (by omega)
          replace hO5 := (hO5.ext hx72).keptO hx75 (by omega)
          replace orT := orT.keptO hx75 (by omega)
          replace osT := (osT.ext hx72).keptO hx75 (by omega)
          replace oaT := (oaT.ext hx72).keptO hx75 (by omega)
          replace hO6 := (hO6.ext hx72).keptO hx75 (by omega)
          replace htN := (htN.ext hx72).keptO hx75 (by omega)
          replace hO8 := (hO8.ext hx72).keptO hx75 (by omega)
          replace hO2 : Blk _ _ _ (Dr.c ⟨(turnF d.m o.n).1, d.S⟩ v3 u1) := hO2
          refine WL.nil ?_
          refine thn_n ?_
          refine WF.seq ?_
          refine WF.region ?_
          rw [← hT] at hO2 orT
          refine WL.va rfl rfl rfl (X.moveI rfl) ?_
          refine WL.va rfl rfl rfl (X.fieldAddrO (off := 0) ((hACr2.eq 2).trans (congrFun hF25 2)) Try.underlying51 rfl rfl Try.sizeOf26) ?_
          refine WL.va rfl rfl rfl (X.loadOP hO2 (Ext.refl _) rfl rfl rfl Try.isAgg26 Try.sizeOf26) ?_
          refine WL.c rfl rfl rfl (X.call Try.call28 (evl_cons rfl evl_nil)) (putMap_ok (turnD d.m o.n) _ _ orT.rd (Nat.le_trans (turnD_good hg o.n).len (by decide))) ?_
          rintro dp w77 ⟨op, hx78⟩
          have := World.grownBy.size hx78
          have opT : ByT w77 _ _ dp _ := OwnT.of op
          refine WL.va rfl rfl rfl (X.buildL (P := Try.prog) (t := 53) (cs := [i64 (turnF d.m o.n).2, dp]) (evp_cons rfl (evp_cons rfl evp_nil)) Try.type53 Try.underlying53 rfl rfl ⟨rfl, own_one op, trivial⟩ rfl) ?_
          refine WL.op rfl (OW.allocO (cs := [i64 0, .slice none 0 0]) Try.zeroValue53 rfl ?_ (by decide))
          intro g10 w79 heg10 hlg10 hO10 hx81
          have := World.grownBy.size hx81
          refine WL.op rfl (OW.storeOA hO10 rfl rfl rfl (ones2 _ (own_one op)) Try.sizeOf53 ?_)
          intro w83 hO10 hx85
          have := World.grownBy.size hx85
          replace hO2 := (hO2.ext (Ext.trans hx78 hx81)).keptO hx85 (by omega)
          replace hO3 := (hO3.ext (Ext.trans hx78 hx81)).keptO hx85 (by omega)
          replace hO4 := (hO4.ext (Ext.trans hx78 hx81)).keptO hx85 (by omega)
          replace hO5 := (hO5.ext (Ext.trans hx78 hx81)).keptO hx85 (by omega)
          replace orT := (orT.ext (Ext.trans hx78 hx81)).keptO hx85 (by omega)
          replace osT := (osT.ext (Ext.trans hx78 hx81)).keptO hx85 (by omega)
          replace oaT := (oaT.ext (Ext.trans hx78 hx81)).keptO hx85 (by omega)
          replace hO6 := (hO6.ext (Ext.trans hx78 hx81)).keptO hx85 (by omega)
          replace hO8 := (hO8.ext (Ext.trans hx78 hx81)).keptO hx85 (by omega)
          replace opT := (opT.ext hx81).keptO hx85 (by omega)
          refine WL.nil ?_
          refine thn_n ?_
          refine WF.seq ?_
          refine WF.region ?_
          refine WL.va rfl rfl rfl (X.fieldAddrO (off := 7) ((hACr2.eq 2).trans (congrFun hF25 2)) Try.underlying51 rfl rfl Try.sizeOf49) ?_
          refine WL.va rfl rfl rfl (X.loadO hO2 (Ext.refl _) rfl rfl Try.isAgg49) ?_
          refine WL.va rfl rfl rfl (X.fieldAddrO (off := 1) ((hACr2.eq 3).trans (congrFun hF25 3)) Try.underlying72 rfl rfl Try.sizeOf3) ?_
          refine WL.va rfl rfl rfl (X.loadO hO3 (Ext.refl _) rfl rfl Try.isAgg3) ?_
          refine WL.va rfl rfl rfl (X.fieldAddrO (off := 2) ((hACr2.eq 3).trans (congrFun hF25 3)) Try.underlying72 rfl rfl Try.sizeOf3) ?_
          refine WL.va rfl rfl rfl (X.loadO hO3 (Ext.refl _) rfl rfl Try.isAgg3) ?_
          refine WL.va rfl rfl rfl (X.loadOA hO10 (Ext.refl _) rfl rfl Try.isAgg53 Try.sizeOf53) ?_
          refine WL.c rfl rfl rfl (X.call Try.call89 (evl_cons rfl (evl_cons rfl (evl_cons rfl (evl_cons rfl evl_nil))))) (Se.note_ok u1 d.S _ _ _ dp (mpB (turnD d.m o.n)) _ (sess_eq osT.sess hF1) (by omega) hD opT.rd (by rw [mpB_len]; have := (turnD_good hg o.n).len; omega)) ?_
          rintro u3 w87 ⟨⟨F3, hF3, oF3⟩, hx88⟩
          have := World.grownBy.size hx88
          have o3T := SOwnT.of oF3
          refine WL.va rfl rfl rfl (X.fieldAddrO (off := 7) ((hACr2.eq 2).trans (congrFun hF25 2)) Try.underlying51 rfl rfl Try.sizeOf49) ?_
          refine WL.op rfl (OW.storeO (hO2.ext hx88) (Nat.le_of_ble_eq_true rfl) rfl rfl (own_one oF3.row) Try.sizeOf49 ?_)
          intro w89 hO2 hx91
          have := World.grownBy.size hx91
          replace hO3 := (hO3.ext hx88).keptO hx91 (by omega)
          replace hO4 := (hO4.ext hx88).keptO hx91 (by omega)
          replace hO5 := (hO5.ext hx88).keptO hx91 (by omega)
          replace orT := (orT.ext hx88).keptO hx91 (by omega)
          replace osT := (osT.ext hx88).keptO hx91 (by omega)
          replace oaT := (oaT.ext hx88).keptO hx91 (by omega)
          replace hO6 := (hO6.ext hx88).keptO hx91 (by omega)
          replace hO8 := (hO8.ext hx88).keptO hx91 (by omega)
          replace opT := (opT.ext hx88).keptO hx91 (by omega)
          replace hO10 := (hO10.ext hx88).keptO hx91 (by omega)
          replace o3T := o3T.keptO hx91 (by omega)
          refine WL.nil ?_
          refine thn_n ?_
          refine WF.seq ?_
          refine WF.drawn (.q 0 (.q 1 (.l 2 .nil))) (fun w' => World.grownBy w89 w' (some g4)) 3 (by kernel_rfl) (by kernel_rfl) (grown_of_ext (Ext.drew _)) ?_
          have := World.grownBy.size (Ext.drew w89)
          refine WO.q rfl rfl rfl rfl (fun w' hE93 => (X.loadOA (hO2.keptO hE93 (by omega)) (Ext.refl _) ((hACr2.eq 2).trans (congrFun hF25 2)) rfl Try.isAgg51 Try.sizeOf51)) ?_
          refine WO.q rfl rfl rfl rfl (fun w' hE93 => (X.loadOA (hO10.keptO hE93 (by omega)) (Ext.refl _) rfl rfl Try.isAgg53 Try.sizeOf53)) ?_
          refine WO.l ?_
          refine LO.go rfl rfl (OW.storeOA (hO4.ext (Ext.drew _)) ((hACr2.eq 4).trans (congrFun hF25 4)) rfl rfl (Dr.c_one ⟨(turnD d.m o.n), d.S⟩ (orT.ext (Ext.drew _)).rd (own_one oF3.row)) Try.sizeOf51 ?_)
          intro w94 hO4 hx96
          have := World.grownBy.size hx96
          replace hO2 := (hO2.ext (Ext.drew _)).keptO hx96 (by omega)
          replace hO3 := (hO3.ext (Ext.drew _)).keptO hx96 (by omega)
          replace hO5 := (hO5.ext (Ext.drew _)).keptO hx96 (by omega)
          replace orT := (orT.ext (Ext.drew _)).keptO hx96 (by omega)
          replace osT := (osT.ext (Ext.drew _)).keptO hx96 (by omega)
          replace oaT := (oaT.ext (Ext.drew _)).keptO hx96 (by omega)
          replace hO6 := (hO6.ext (Ext.drew _)).keptO hx96 (by omega)
          replace hO8 := (hO8.ext (Ext.drew _)).keptO hx96 (by omega)
          replace opT := (opT.ext (Ext.drew _)).keptO hx96 (by omega)
          replace hO10 := (hO10.ext (Ext.drew _)).keptO hx96 (by omega)
          replace o3T := (o3T.ext (Ext.drew _)).keptO hx96 (by omega)
          refine ⟨(grown2 (grown_of_ext (Ext.drew _)) hx96), ?_⟩
          refine WO.nil ?_
          refine WL.op rfl (OW.storeOA hO5 ((hACr2.eq 5).trans (congrFun hF25 5)) rfl rfl (ones2 _ (own_one op)) Try.sizeOf53 ?_)
          intro w98 hO5 hx100
          have := World.grownBy.size hx100
          replace hO2 := hO2.keptO hx100 (by omega)
          replace hO3 := hO3.keptO hx100 (by omega)
          replace hO4 := hO4.keptO hx100 (by omega)
          replace orT := orT.keptO hx100 (by omega)
          replace osT := osT.keptO hx100 (by omega)
          replace oaT := oaT.keptO hx100 (by omega)
          replace hO6 := hO6.keptO hx100 (by omega)
          replace hO8 := hO8.keptO hx100 (by omega)
          replace opT := opT.keptO hx100 (by omega)
          replace hO10 := hO10.keptO hx100 (by omega)
          replace o3T := o3T.keptO hx100 (by omega)
          refine WL.nil ?_
          refine thn_n ?_
          refine WF.ret ?_
          refine finC_r (vs := [_, _]) ⟨⟨_, ((hACr2.eq 4).trans (congrFun hF25 4)), readO hO4 Try.isAgg51 Try.sizeOf51⟩, ⟨_, ((hACr2.eq 5).trans (congrFun hF25 5)), readO hO5 Try.isAgg53 Try.sizeOf53⟩, trivial⟩ ?_
          exact ⟨AppPost.mk (app_new hk h0) rfl hF3 ⟨ownT_up orT (by omega) (by omega), o3T.mono (by omega) (by omega), apart_S orT o3T (.inl (by omega))⟩ (ownT_up opT (by omega) (by omega)) ⟨apart_T opT orT (.inr (by omega)), apart_S opT o3T (.inl (by omega))⟩, (Ext.store (Ext.store (Ext.trans (Ext.store (Ext.trans (Ext.trans (Ext.trans (Ext.store (Ext.trans (Ext.store (Ext.trans (Ext.trans (Ext.trans (Ext.trans (Ext.store (Ext.trans (Ext.trans (Ext.trans (Ext.trans hx3 hx7) hx11) hx15) hx19) hx22 (by omega)) hx42) (Ext.store hx45 hx49 (by omega))) hx55) (Ext.store hx58 hx62 (by omega))) hx69 (by omega)) hx72) hx75 (by omega)) hx78) (Ext.store hx81 hx85 (by omega))) hx88) hx91 (by omega)) (Ext.drew _)) hx96 (by omega)) hx100 (by omega))⟩
        · have gh3_65 := (of_decide_eq_false h3_65)
          have hT : turnD d.m o.n = d.m := if_neg gh3_65
          refine WF.skip ?_
          refine thn_n ?_
          refine WF.seq ?_
          refine WF.region ?_
          rw [← hT] at hO2 orT
          refine WL.va rfl rfl rfl (X.moveI rfl) ?_
          refine WL.va rfl rfl rfl (X.fieldAddrO (off := 0) ((hACr2.eq 2).trans (congrFun hF25 2)) Try.underlying51 rfl rfl Try.sizeOf26) ?_
          refine WL.va rfl rfl rfl (X.loadOP hO2 (Ext.refl _) rfl rfl rfl Try.isAgg26 Try.sizeOf26) ?_
          refine WL.c rfl rfl rfl (X.call Try.call28 (evl_cons rfl evl_nil)) (putMap_ok (turnD d.m o.n) _ _ orT.rd (Nat.le_trans (turnD_good hg o.n).len (by decide))) ?_
          rintro dp w102 ⟨op, hx103⟩
          have := World.grownBy.size hx103
          have opT : ByT w102 _ _ dp _ := OwnT.of op
          refine WL.va rfl rfl rfl (X.buildL (P := Try.prog) (t := 53) (cs := [i64 (turnF d.m o.n).2, dp]) (evp_cons rfl (evp_cons rfl evp_nil)) Try.type53 Try.underlying53 rfl rfl ⟨rfl, own_one op, trivial⟩ rfl) ?_
          refine WL.op rfl (OW.allocO (cs := [i64 0, .slice none 0 0]) Try.zeroValue53 rfl ?_ (by decide))
          intro g10 w104 heg10 hlg10 hO10 hx106
          have := World.grownBy.size hx106
          refine WL.op rfl (OW.storeOA hO10 rfl rfl rfl (ones2 _ (own_one op)) Try.sizeOf53 ?_)
          intro w108 hO10 hx110
          have := World.grownBy.size hx110
          replace hO2 := (hO2.ext (Ext.trans hx103 hx106)).keptO hx110 (by omega)
          replace hO3 := (hO3.ext (Ext.trans hx103 hx106)).keptO hx110 (by omega)
          replace hO4 := (hO4.ext (Ext.trans hx103 hx106)).keptO hx110 (by omega)
          replace hO5 := (hO5.ext (Ext.trans hx103 hx106)).keptO hx110 (by omega)
          replace orT := (orT.ext (Ext.trans hx103 hx106)).keptO hx110 (by omega)
          replace osT := (osT.ext (Ext.trans hx103 hx106)).keptO hx110 (by omega)
          replace oaT := (oaT.ext (Ext.trans hx103 hx106)).keptO hx110 (by omega)
          replace hO6 := (hO6.ext (Ext.trans hx103 hx106)).keptO hx110 (by omega)
          replace hO8 := (hO8.ext (Ext.trans hx103 hx106)).keptO hx110 (by omega)
          replace opT := (opT.ext hx106).keptO hx110 (by omega)
          refine WL.nil ?_
          refine thn_n ?_
          refine WF.seq ?_
          refine WF.region ?_
          refine WL.va rfl rfl rfl (X.fieldAddrO (off := 7) ((hACr2.eq 2).trans (congrFun hF25 2)) Try.underlying51 rfl rfl Try.sizeOf49) ?_
          refine WL.va rfl rfl rfl (X.loadO hO2 (Ext.refl _) rfl rfl Try.isAgg49) ?_
          refine WL.va rfl rfl rfl (X.fieldAddrO (off := 1) ((hACr2.eq 3).trans (congrFun hF25 3)) Try.underlying72 rfl rfl Try.sizeOf3) ?_
          refine WL.va rfl rfl rfl (X.loadO hO3 (Ext.refl _) rfl rfl Try.isAgg3) ?_
          refine WL.va rfl rfl rfl (X.fieldAddrO (off := 2) ((hACr2.eq 3).trans (congrFun hF25 3)) Try.underlying72 rfl rfl Try.sizeOf3) ?_
          refine WL.va rfl rfl rfl (X.loadO hO3 (Ext.refl _) rfl rfl Try.isAgg3) ?_
          refine WL.va rfl rfl rfl (X.loadOA hO10 (Ext.refl _) rfl rfl Try.isAgg53 Try.sizeOf53) ?_
          refine WL.c rfl rfl rfl (X.call Try.call89 (evl_cons rfl (evl_cons rfl (evl_cons rfl (evl_cons rfl evl_nil))))) (Se.note_ok u1 d.S _ _ _ dp (mpB (turnD d.m o.n)) _ (sess_eq osT.sess hF1) (by omega) hD opT.rd (by rw [mpB_len]; have := (turnD_good hg o.n).len; omega)) ?_
          rintro u3 w112 ⟨⟨F3, hF3, oF3⟩, hx113⟩
          have := World.grownBy.size hx113
          have o3T := SOwnT.of oF3
          refine WL.va rfl rfl rfl (X.fieldAddrO (off := 7) ((hACr2.eq 2).trans (congrFun hF25 2)) Try.underlying51 rfl rfl Try.sizeOf49) ?_
          refine WL.op rfl (OW.storeO (hO2.ext hx113) (Nat.le_of_ble_eq_true rfl) rfl rfl (own_one oF3.row) Try.sizeOf49 ?_)
          intro w114 hO2 hx116
          have := World.grownBy.size hx116
          replace hO3 := (hO3.ext hx113).keptO hx116 (by omega)
          replace hO4 := (hO4.ext hx113).keptO hx116 (by omega)
          replace hO5 := (hO5.ext hx113).keptO hx116 (by omega)
          replace orT := (orT.ext hx113).keptO hx116 (by omega)
          replace osT := (osT.ext hx113).keptO hx116 (by omega)
          replace oaT := (oaT.ext hx113).keptO hx116 (by omega)
          replace hO6 := (hO6.ext hx113).keptO hx116 (by omega)
          replace hO8 := (hO8.ext hx113).keptO hx116 (by omega)
          replace opT := (opT.ext hx113).keptO hx116 (by omega)
          replace hO10 := (hO10.ext hx113).keptO hx116 (by omega)
          replace o3T := o3T.keptO hx116 (by omega)
          refine WL.nil ?_
          refine thn_n ?_
          refine WF.seq ?_
          refine WF.drawn (.q 0 (.q 1 (.l 2 .nil))) (fun w' => World.grownBy w114 w' (some g4)) 3 (by kernel_rfl) (by kernel_rfl) (grown_of_ext (Ext.drew _)) ?_
          have := World.grownBy.size (Ext.drew w114)
          refine WO.q rfl rfl rfl rfl (fun w' hE118 => (X.loadOA (hO2.keptO hE118 (by omega)) (Ext.refl _) ((hACr2.eq 2).trans (congrFun hF25 2)) rfl Try.isAgg51 Try.sizeOf51)) ?_
          refine WO.q rfl rfl rfl rfl (fun w' hE118 => (X.loadOA (hO10.keptO hE118 (by omega)) (Ext.refl _) rfl rfl Try.isAgg53 Try.sizeOf53)) ?_
          refine WO.l ?_
          refine LO.go rfl rfl (OW.storeOA (hO4.ext (Ext.drew _)) ((hACr2.eq 4).trans (congrFun hF25 4)) rfl rfl (Dr.c_one ⟨(turnD d.m o.n), d.S⟩ (orT.ext (Ext.drew _)).rd (own_one oF3.row)) Try.sizeOf51 ?_)
          intro w119 hO4 hx121
          have := World.grownBy.size hx121
          replace hO2 := (hO2.ext (Ext.drew _)).keptO hx121 (by omega)
          replace hO3 := (hO3.ext (Ext.drew _)).keptO hx121 (by omega)
          replace hO5 := (hO5.ext (Ext.drew _)).keptO hx121 (by omega)
          replace orT := (orT.ext (Ext.drew _)).keptO hx121 (by omega)
          replace osT := (osT.ext (Ext.drew _)).keptO hx121 (by omega)
          replace oaT := (oaT.ext (Ext.drew _)).keptO hx121 (by omega)
          replace hO6 := (hO6.ext (Ext.drew _)).keptO hx121 (by omega)
          replace hO8 := (hO8.ext (Ext.drew _)).keptO hx121 (by omega)
          replace opT := (opT.ext (Ext.drew _)).keptO hx121 (by omega)
          replace hO10 := (hO10.ext (Ext.drew _)).keptO hx121 (by omega)
          replace o3T := (o3T.ext (Ext.drew _)).keptO hx121 (by omega)
          refine ⟨(grown2 (grown_of_ext (Ext.drew _)) hx121), ?_⟩
          refine WO.nil ?_
          refine WL.op rfl (OW.storeOA hO5 ((hACr2.eq 5).trans (congrFun hF25 5)) rfl rfl (ones2 _ (own_one op)) Try.sizeOf53 ?_)
          intro w123 hO5 hx125
          have := World.grownBy.size hx125
          replace hO2 := hO2.keptO hx125 (by omega)
          replace hO3 := hO3.keptO hx125 (by omega)
          replace hO4 := hO4.keptO hx125 (by omega)
          replace orT := orT.keptO hx125 (by omega)
          replace osT := osT.keptO hx125 (by omega)
          replace oaT := oaT.keptO hx125 (by omega)
          replace hO6 := hO6.keptO hx125 (by omega)
          replace hO8 := hO8.keptO hx125 (by omega)
          replace opT := opT.keptO hx125 (by omega)
          replace hO10 := hO10.keptO hx125 (by omega)
          replace o3T := o3T.keptO hx125 (by omega)
          refine WL.nil ?_
          refine thn_n ?_
          refine WF.ret ?_
          refine finC_r (vs := [_, _]) ⟨⟨_, ((hACr2.eq 4).trans (congrFun hF25 4)), readO hO4 Try.isAgg51 Try.sizeOf51⟩, ⟨_, ((hACr2.eq 5).trans (congrFun hF25 5)), readO hO5 Try.isAgg53 Try.sizeOf53⟩, trivial⟩ ?_
          exact ⟨AppPost.mk (app_new hk h0) rfl hF3 ⟨ownT_up orT (by omega) (by omega), o3T.mono (by omega) (by omega), apart_S orT o3T (.inl (by omega))⟩ (ownT_up opT (by omega) (by omega)) ⟨apart_T opT orT (.inr (by omega)), apart_S opT o3T (.inl (by omega))⟩, (Ext.store (Ext.store (Ext.trans (Ext.store (Ext.trans (Ext.trans (Ext.trans (Ext.trans (Ext.trans (Ext.trans (Ext.trans (Ext.store (Ext.trans (Ext.trans (Ext.trans (Ext.trans hx3 hx7) hx11) hx15) hx19) hx22 (by omega)) hx42) (Ext.store hx45 hx49 (by omega))) hx55) (Ext.store hx58 hx62 (by omega))) hx103) (Ext.store hx106 hx110 (by omega))) hx113) hx116 (by omega)) (Ext.drew _)) hx121 (by omega)) hx125 (by omega))⟩
      · have gh1_51 := (of_decide_eq_false h1_51)
        have h0 : ¬ (Se.askS d.S (o.n.getD 1 0) (o.n.getD 2 0)).2 = 0 := gh1_51
        refine WF.seq ?_
        refine WF.region ?_
        refine WL.va rfl rfl rfl (X.eql rfl rfl) ?_
        refine WL.va rfl rfl rfl (X.assignB rfl) ?_
        refine WL.nil ?_
        refine thn_n ?_
        refine WF.cond rfl (fun h2_127 => ?_) (fun h2_127 => ?_)
        · have gh2_127 := (of_decide_eq_true h2_127)
          have h7 : (Se.askS d.S (o.n.getD 1 0) (o.n.getD 2 0)).2 = 7 := gh2_127
          refine WF.seq ?_
          refine WF.drawn (.q 0 (.q 1 (.l 2 .nil))) (fun w' => World.grownBy w47 w' (some g4)) 3 (by kernel_rfl) (by kernel_rfl) (grown_of_ext (Ext.drew _)) ?_
          have := World.grownBy.size (Ext.drew w47)
          refine WO.q rfl rfl rfl rfl (fun w' hE129 => (X.loadOA (hO2.keptO hE129 (by omega)) (Ext.refl _) ((hACr2.eq 2).trans (congrFun hF25 2)) rfl Try.isAgg51 Try.sizeOf51)) ?_
          refine WO.q rfl rfl rfl rfl (fun w' hE129 => (X.loadOA (hO6.keptO hE129 (by omega)) (Ext.refl _) rfl rfl Try.isAgg53 Try.sizeOf53)) ?_
          refine WO.l ?_
          refine LO.go rfl rfl (OW.storeOA (hO4.ext (Ext.drew _)) ((hACr2.eq 4).trans (congrFun hF25 4)) rfl rfl (Dr.c_one d (orT.ext (Ext.drew _)).rd (own_one od.ses.own.row)) Try.sizeOf51 ?_)
          intro w130 hO4 hx132
          have := World.grownBy.size hx132
          replace hO2 := (hO2.ext (Ext.drew _)).keptO hx132 (by omega)
          replace hO3 := (hO3.ext (Ext.drew _)).keptO hx132 (by omega)
          replace hO5 := (hO5.ext (Ext.drew _)).keptO hx132 (by omega)
          replace orT := (orT.ext (Ext.drew _)).keptO hx132 (by omega)
          replace osT := (osT.ext (Ext.drew _)).keptO hx132 (by omega)
          replace oaT := (oaT.ext (Ext.drew _)).keptO hx132 (by omega)
          replace hO6 := (hO6.ext (Ext.drew _)).keptO hx132 (by omega)
          replace hO4 : Blk _ _ _ (Dr.c ⟨d.m, d.S⟩ v1 u1) := hO4
          refine ⟨(grown2 (grown_of_ext (Ext.drew _)) hx132), ?_⟩
          refine WO.nil ?_
          refine WL.op rfl (OW.storeOA hO5 ((hACr2.eq 5).trans (congrFun hF25 5)) rfl rfl (ones2 _ (own_one oa)) Try.sizeOf53 ?_)
          intro w134 hO5 hx136
          have := World.grownBy.size hx136
          replace hO2 := hO2.keptO hx136 (by omega)
          replace hO3 := hO3.keptO hx136 (by omega)
          replace hO4 := hO4.keptO hx136 (by omega)
          replace orT := orT.keptO hx136 (by omega)
          replace osT := osT.keptO hx136 (by omega)
          replace oaT := oaT.keptO hx136 (by omega)
          replace hO6 := hO6.keptO hx136 (by omega)
          refine WL.nil ?_
          refine thn_n ?_
          refine WF.ret ?_
          refine blk_r ?_
          refine thn_r ?_
          refine finC_r (vs := [_, _]) ⟨⟨_, ((hACr2.eq 4).trans (congrFun hF25 4)), readO hO4 Try.isAgg51 Try.sizeOf51⟩, ⟨_, ((hACr2.eq 5).trans (congrFun hF25 5)), readO hO5 Try.isAgg53 Try.sizeOf53⟩, trivial⟩ ?_
          exact ⟨AppPost.mk (app_twice hk h7) rfl hF1 ⟨ownT_up orT (by omega) (by omega), osT.mono (by omega) (by omega), od.off⟩ (ownT_up oaT (by omega) (by omega)) ⟨apart_T oaT orT (.inr (by omega)), apart_S oaT osT (.inr (by omega))⟩, (Ext.store (Ext.store (Ext.trans (Ext.trans (Ext.trans (Ext.store (Ext.trans (Ext.trans (Ext.trans (Ext.trans hx3 hx7) hx11) hx15) hx19) hx22 (by omega)) hx42) (Ext.store hx45 hx49 (by omega))) (Ext.drew _)) hx132 (by omega)) hx136 (by omega))⟩
        · have gh2_127 := (of_decide_eq_false h2_127)
          have h7 : ¬ (Se.askS d.S (o.n.getD 1 0) (o.n.getD 2 0)).2 = 7 := gh2_127
          refine WF.seq ?_
          refine WF.region ?_
          refine WL.va rfl rfl rfl (X.loadOA hO2 (Ext.refl _) ((hACr2.eq 2).trans (congrFun hF25 2)) rfl Try.isAgg51 Try.sizeOf51) ?_
          refine WL.va rfl rfl rfl (X.moveI rfl) ?_
          refine WL.va rfl rfl rfl (X.buildL (P := Try.prog) (t := 53) (cs := [i64 (Se.askS d.S (o.n.getD 1 0) (o.n.getD 2 0)).2, nilS]) (evp_cons rfl evp_nil) Try.type53 Try.underlying53 rfl rfl ⟨rfl, trivial⟩ rfl) ?_
          refine WL.op rfl (OW.storeOA hO4 ((hACr2.eq 4).trans (congrFun hF25 4)) rfl rfl (Dr.c_one d orT.rd (own_one od.ses.own.row)) Try.sizeOf51 ?_)
          intro w138 hO4 hx140
          have := World.grownBy.size hx140
          replace hO2 := hO2.keptO hx140 (by omega)
          replace hO3 := hO3.keptO hx140 (by omega)
          replace hO5 := hO5.keptO hx140 (by omega)
          replace orT := orT.keptO hx140 (by omega)
          replace osT := osT.keptO hx140 (by omega)
          replace oaT := oaT.keptO hx140 (by omega)
          replace hO6 := hO6.keptO hx140 (by omega)
          replace hO4 : Blk _ _ _ (Dr.c ⟨d.m, d.S⟩ v1 u1) := hO4
          refine WL.op rfl (OW.storeOA hO5 ((hACr2.eq 5).trans (congrFun hF25 5)) rfl rfl (ones2 _ rfl) Try.sizeOf53 ?_)
          intro w142 hO5 hx144
          have := World.grownBy.size hx144
          replace hO2 := hO2.keptO hx144 (by omega)
          replace hO3 := hO3.keptO hx144 (by omega)
          replace hO4 := hO4.keptO hx144 (by omega)
          replace orT := orT.keptO hx144 (by omega)
          replace osT := osT.keptO hx144 (by omega)
          replace oaT := oaT.keptO hx144 (by omega)
          replace hO6 := hO6.keptO hx144 (by omega)
          replace hO5 : Blk _ _ _ [i64 (Se.askS d.S (o.n.getD 1 0) (o.n.getD 2 0)).2, nilS] := hO5
          refine WL.nil ?_
          refine thn_n ?_
          refine WF.ret ?_
          refine blk_r ?_
          refine thn_r ?_
          refine finC_r (vs := [_, _]) ⟨⟨_, ((hACr2.eq 4).trans (congrFun hF25 4)), readO hO4 Try.isAgg51 Try.sizeOf51⟩, ⟨_, ((hACr2.eq 5).trans (congrFun hF25 5)), readO hO5 Try.isAgg53 Try.sizeOf53⟩, trivial⟩ ?_
          exact ⟨AppPost.mk (app_err hk h7 h0) rfl hF1 ⟨ownT_up orT (by omega) (by omega), osT.mono (by omega) (by omega), od.off⟩ (nilT _ _ _) far_nil, (Ext.store (Ext.store (Ext.trans (Ext.trans (Ext.store (Ext.trans (Ext.trans (Ext.trans (Ext.trans hx3 hx7) hx11) hx15) hx19) hx22 (by omega)) hx42) (Ext.store hx45 hx49 (by omega))) hx140 (by omega)) hx144 (by omega))⟩

end Go.Proofs.Ytpimnlgfhpnjnaa
