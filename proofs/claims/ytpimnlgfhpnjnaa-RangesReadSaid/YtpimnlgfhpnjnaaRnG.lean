/- The walk of RangesRead. -/
import Derived.Test.YtpimnlgfhpnjnaaRnY
namespace Go.Proofs.Ytpimnlgfhpnjnaa
open Go Go.RowKit Kf
set_option maxRecDepth 20000

theorem DSeg.kept {w w' : World} {B : Nat} {v u : Value} {d : Dr} {row : Option Nat} (h : DSeg w B v u d) (k : w.grownBy w' row) (hne : ∀ g, row = some g → g < B ∨ w.heap.size ≤ g) : DSeg w' B v u d := by
  cases row with
  | none => exact h.ext k
  | some g => exact h.keptO k (hne g rfl)
theorem DSeg.one {w : World} {B : Nat} {v u : Value} {d : Dr} (h : DSeg w B v u d) : ∀ x ∈ d.c v u, x.oneCell' = true := by
  obtain ⟨D, L, F, e, o, od, hs, ha⟩ := h.ses
  exact d.c_one (Row.of_own h.rng) (own_one o)
section
variable {w : World}
theorem kept_self {va vl : Value} {l : List UInt8} (ha : Bytes w va (l ++ List.replicate 5 0xA5)) (hb : Bytes w vl l) (hm : l.length ≤ 281474976710651) : FnOk Try.prog 38 [va, vl] w (fun r w' => r = .bool true ∧ Ext w w') :=
  (keptBytes_ok va vl _ l w ha hb hm).mono fun r w' ⟨e, g⟩ => ⟨by rw [e, decide_eq_true rfl], g⟩
end
theorem small_of {E : List Se.SV} {d : Dr} (hE : E.map Prod.fst = d.S) (h : ∀ j (hj : j < E.length), E[j].1.Data.length ≤ 4096) : ∀ s ∈ d.S, s.Data.length ≤ 4096 := by
  intro s hs
  rw [← hE] at hs
  obtain ⟨e, he, rfl⟩ := List.mem_map.1 hs
  obtain ⟨j, hj, rfl⟩ := List.getElem_of_mem he
  exact h j hj
set_option maxHeartbeats 8000000 in
theorem rangesRead_walk (vb : Value) (l : List UInt8) (d : Dr) (v u : Value) (w : World) (hb : Bytes w vb l) (_hz : l.length ≤ 140737488351232) (h : DAt w v u d) (_hI : DrIn d) : FnOk Try.prog 6 [vb, agg (d.c v u)] w (fun r w' => r = .bool true ∧ Ext w w') := by
  obtain ⟨E, hE1, rE, dE⟩ := h.S
  have hEl : d.S.length = E.length := by rw [← hE1]; simp
  have hEm : (E.length : Int) ≤ 9223372036854775807 := by obtain ⟨_, c, _, h1, h2, _⟩ := rE.shape; unfold maxLen at h2; omega
  refine FnOk.enter (rs := [4]) Try.func6 rfl Try.ntmps6 Try.results6 rfl rfl ?_
  refine WF.seq ?_
  refine WF.region ?_
  refine WL.op rfl (OW.boxA (cs := (d.c v u)) rfl ?_ (by decide))
  intro g3 wbb heg3 hlg3 hO3 hx2
  have := World.grownBy.size hx2
  refine WL.va rfl rfl rfl (X.assignB rfl) ?_
  refine WL.nil ?_
  refine thn_n ?_
  refine WF.seq ?_
  refine WF.seq ?_
  refine WF.region ?_
  refine WL.va rfl rfl rfl (X.move rfl) ?_
  refine WL.va rfl rfl rfl (X.len hb rfl Try.underlying46) ?_
  refine WL.va rfl rfl rfl (X.gtr rfl rfl) ?_
  refine WL.va rfl rfl rfl (X.moveB rfl) ?_
  refine WL.split (j := 3) rfl (fun h6 => ?_) (fun h6 => ?_)
  · have gh6 := (of_decide_eq_true h6)
    refine WL.p rfl rfl rfl (congrArg some h6) ?_
    refine WL.p rfl rfl rfl (congrArg some h6) ?_
    refine WL.p rfl rfl rfl (congrArg some h6) ?_
    refine WL.p rfl rfl rfl (congrArg some h6) ?_
    refine WL.va rfl rfl rfl (X.pickT rfl h6 rfl) ?_
    refine WL.va rfl rfl rfl (X.moveB rfl) ?_
    refine WL.p rfl rfl rfl rfl ?_
    refine WL.p rfl rfl rfl rfl ?_
    refine WL.p rfl rfl rfl rfl ?_
    refine WL.p rfl rfl rfl rfl ?_
    refine WL.p rfl rfl rfl rfl ?_
    refine WL.va rfl rfl rfl (X.pickT rfl rfl rfl) ?_
    refine WL.nil ?_
    refine thn_n ?_
    refine WF.cond_t rfl ?_
    refine WF.seq ?_
    refine WF.region ?_
    refine WL.c rfl rfl rfl (X.call Try.call13 evl_nil) (known_ok _) ?_
    rintro v10 w9 ⟨rfl, hx11⟩
    have := World.grownBy.size hx11
    refine WL.va rfl rfl rfl (X.assignB rfl) ?_
    refine WL.nil ?_
    refine thn_n ?_
    refine WF.ret ?_
    refine thn_r ?_
    refine fin_r ?_
    exact ⟨rfl, (Ext.trans hx2 hx11)⟩
  · have gh6 := (of_decide_eq_false h6)
    have hl6 : l.length ≤ 65536 := by have := gh6; omega
    refine WL.vg rfl (congrArg some h6) rfl rfl (X.fieldAddrO (off := 7) rfl Try.underlying51 rfl rfl Try.sizeOf49) ?_
    refine WL.vg rfl (congrArg some h6) rfl rfl (X.loadO hO3 (Ext.refl _) rfl rfl Try.isAgg49) ?_
    refine WL.vg rfl (congrArg some h6) rfl rfl (X.len rE rfl Try.underlying49) ?_
    refine WL.vg rfl (congrArg some h6) rfl rfl (X.gtr rfl rfl) ?_
    refine WL.va rfl rfl rfl (X.pickF rfl h6 rfl) ?_
    refine WL.va rfl rfl rfl (X.moveB rfl) ?_
    refine WL.split (j := 9) rfl (fun h14 => ?_) (fun h14 => ?_)
    · have gh14 := (of_decide_eq_true h14)
      refine WL.p rfl rfl rfl (congrArg some h14) ?_
      refine WL.p rfl rfl rfl (congrArg some h14) ?_
      refine WL.p rfl rfl rfl (congrArg some h14) ?_
      refine WL.p rfl rfl rfl (congrArg some h14) ?_
      refine WL.p rfl rfl rfl (congrArg some h14) ?_
      refine WL.va rfl rfl rfl (X.pickT rfl h14 rfl) ?_
      refine WL.nil ?_
      refine thn_n ?_
      refine WF.cond_t rfl ?_
      refine WF.seq ?_
      refine WF.region ?_
      refine WL.c rfl rfl rfl (X.call Try.call13 evl_nil) (known_ok _) ?_
      rintro v17 w16 ⟨rfl, hx18⟩
      have := World.grownBy.size hx18
      refine WL.va rfl rfl rfl (X.assignB rfl) ?_
      refine WL.nil ?_
      refine thn_n ?_
      refine WF.ret ?_
      refine thn_r ?_
      refine fin_r ?_
      exact ⟨rfl, (Ext.trans hx2 hx18)⟩
    · have gh14 := (of_decide_eq_false h14)
      have hS : E.length ≤ 100 := by have := gh14; omega
      refine WL.vg rfl (congrArg some h14) rfl rfl (X.fieldAddrO (off := 0) rfl Try.underlying51 rfl rfl Try.sizeOf26) ?_
      refine WL.vg rfl (congrArg some h14) rfl rfl (X.fieldAddrP (off := 0) rfl Try.underlying26 rfl rfl Try.sizeOf22) ?_
      refine WL.vg rfl (congrArg some h14) rfl rfl (X.loadO hO3 (Ext.refl _) rfl rfl Try.isAgg22) ?_
      refine WL.vg rfl (congrArg some h14) rfl rfl (X.len h.R rfl Try.underlying22) ?_
      refine WL.vg rfl (congrArg some h14) rfl rfl (X.gtr rfl rfl) ?_
      refine WL.va rfl rfl rfl (X.pickF rfl h14 rfl) ?_
      refine WL.nil ?_
      refine thn_n ?_
      refine WF.cond rfl (fun h0_20 => ?_) (fun h0_20 => ?_)
      · have gh0_20 := (of_decide_eq_true h0_20)
        refine WF.seq ?_
        refine WF.region ?_
        refine WL.c rfl rfl rfl (X.call Try.call13 evl_nil) (known_ok _) ?_
        rintro v23 w22 ⟨rfl, hx24⟩
        have := World.grownBy.size hx24
        refine WL.va rfl rfl rfl (X.assignB rfl) ?_
        refine WL.nil ?_
        refine thn_n ?_
        refine WF.ret ?_
        refine thn_r ?_
        refine fin_r ?_
        exact ⟨rfl, (Ext.trans hx2 hx24)⟩
      · have gh0_20 := (of_decide_eq_false h0_20)
        have hR : d.m.R.length ≤ 4096 := by have := gh0_20; omega
        refine WF.skip ?_
        refine thn_n ?_
        refine WF.seq ?_
        refine WF.seq ?_
        refine WF.region ?_
        refine WL.va rfl rfl rfl (X.assignI rfl) ?_
        refine WL.nil ?_
        refine thn_n ?_
        refine WF.block ?_
        refine WF.named (fun F26 hF27 => ?_)
        refine WF.loopN (fun mL0 f' w' => ∃ (i : Nat), mL0 = E.length - i ∧ f' 5 = .int .i64 (i : Int) ∧ Agree [0, 1, 3, 17, 18, 19, 20, 21, 22, 23, 24, 25, 26, 27, 28, 29, 30, 31, 32] f' F26 ∧ Ext wbb w' ∧ i ≤ E.length ∧ ∀ j (hj : j < E.length), j < i → E[j].1.Data.length ≤ 4096) ?_ ?_
        · exact ⟨_, 0, rfl, (congrFun hF27 5), (Agree.refl _ _), (Ext.refl _), ⟨Nat.zero_le _, fun j _ hj => by omega⟩⟩
        · rintro mL0 fL0 wL0 ⟨i, hmL0, e5_L0, hAL0, hwL0, ⟨hi0, hsm⟩⟩
          have := World.grownBy.size hwL0
          refine WF.seq ?_
          refine WF.seq ?_
          refine WF.region ?_
          refine WL.va rfl rfl rfl (X.moveI e5_L0) ?_
          refine WL.va rfl rfl rfl (X.fieldAddrO (off := 7) ((hAL0.eq 3).trans (congrFun hF27 3)) Try.underlying51 rfl rfl Try.sizeOf49) ?_
          refine WL.va rfl rfl rfl (X.loadO hO3 hwL0 rfl rfl Try.isAgg49) ?_
          refine WL.va rfl rfl rfl (X.len rE rfl Try.underlying49) ?_
          refine WL.va rfl rfl rfl (X.lss rfl rfl) ?_
          refine WL.nil ?_
          refine thn_n ?_
          refine WF.cond rfl (fun h1_28 => ?_) (fun h1_28 => ?_)
          · have gh1_28 := (of_decide_eq_true h1_28)
            have hi : i < E.length := by omega
            refine WF.skip ?_
            refine thn_n ?_
            refine WF.seq ?_
            refine WF.block ?_
            refine WF.seq ?_
            refine WF.region ?_
            refine WL.va rfl rfl rfl (X.fieldAddrO (off := 7) ((hAL0.eq 3).trans (congrFun hF27 3)) Try.underlying51 rfl rfl Try.sizeOf49) ?_
            refine WL.va rfl rfl rfl (X.loadO hO3 hwL0 rfl rfl Try.isAgg49) ?_
            refine WL.va rfl rfl rfl (X.moveI e5_L0) ?_
            refine WL.va rfl rfl rfl (X.idx rE rfl rfl (by omega) Try.underlying49 Try.sizeOf55) ?_
            refine WL.va rfl rfl rfl (X.fieldAddrA rfl Try.underlying55 rfl rfl Try.sizeOf53) ?_
            refine WL.va rfl rfl rfl (X.fieldAddrAA (off := 1) rfl Try.underlying53 rfl rfl Try.sizeOf46) ?_
            refine WL.va rfl rfl rfl (X.loadE rE (Ext.trans hx2 hwL0) rfl (by omega) ((Se.SRow.get hi (by decide)).trans rfl) Try.isAgg46) ?_
            refine WL.va rfl rfl rfl (X.len (dE _ (List.getElem_mem hi)) rfl Try.underlying46) ?_
            refine WL.va rfl rfl rfl (X.gtr rfl rfl) ?_
            refine WL.nil ?_
            refine thn_n ?_
            refine WF.cond rfl (fun h2_30 => ?_) (fun h2_30 => ?_)
            · have gh2_30 := (of_decide_eq_true h2_30)
              refine WF.seq ?_
              refine WF.region ?_
              refine WL.c rfl rfl rfl (X.call Try.call13 evl_nil) (known_ok _) ?_
              rintro v33 w32 ⟨rfl, hx34⟩
              have := World.grownBy.size hx34
              refine WL.va rfl rfl rfl (X.assignB rfl) ?_
              refine WL.nil ?_
              refine thn_n ?_
              refine WF.ret ?_
              refine blk_r ?_
              refine thn_r ?_
              refine thn_r ?_
              refine blk_r ?_
              refine thn_r ?_
              refine fin_r ?_
              exact ⟨rfl, (Ext.trans (Ext.trans hx2 hwL0) hx34)⟩
            · have gh2_30 := (of_decide_eq_false h2_30)
              have hil : (E[i]'hi).1.Data.length ≤ 4096 := by omega
              refine WF.skip ?_
              refine blk_n ?_
              refine thn_n ?_
              refine WF.region ?_
              refine WL.va rfl rfl rfl (X.moveI e5_L0) ?_
              refine WL.va rfl rfl rfl (X.add rfl rfl (w64 (by omega))) ?_
              refine WL.va rfl rfl rfl (X.assignI rfl) ?_
              refine WL.nil ?_
              exact thn_n ⟨_, (by omega), i + 1, rfl, rfl, (by repeat (first | exact hAL0 | refine Agree.put ?_ rfl | refine Agree.named hF27 ?_)), hwL0, ⟨by omega, fun j hj hj2 => by
        rcases Nat.lt_succ_iff_lt_or_eq.1 hj2 with hq | rfl
        · exact hsm j hj hq
        · exact hil⟩⟩
          · have gh1_28 := (of_decide_eq_false h1_28)
            have hD := small_of hE1 (fun j hj => hsm j hj (by omega))
            refine WF.exit ?_
            refine thn_x ?_
            refine thn_x ?_
            refine blk_eq ?_
            refine thn_n ?_
            refine WF.seq ?_
            refine WF.region ?_
            refine WL.va rfl rfl rfl (X.move ((hAL0.eq 0).trans (congrFun hF27 0))) ?_
            refine WL.c rfl rfl rfl (X.call Try.call31 (evl_cons rfl evl_nil)) (lentBytes_ok vb l _ (Row.ext hb (Ext.trans hx2 hwL0)) (by omega)) ?_
            rintro va wa ⟨oa, hx36⟩
            have := World.grownBy.size hx36
            have oaT := OwnT.of oa
            refine WL.va rfl rfl rfl (X.assign rfl) ?_
            refine WL.nil ?_
            refine thn_n ?_
            refine WF.seq ?_
            refine WF.region ?_
            refine WL.va rfl rfl rfl (X.move rfl) ?_
            refine WL.va rfl rfl rfl (X.move ((hAL0.eq 0).trans (congrFun hF27 0))) ?_
            refine WL.va rfl rfl rfl (X.len hb rfl Try.underlying46) ?_
            refine WL.va rfl rfl rfl (X.slH (Bytes.of_own oa) rfl rfl (by simp) Try.underlying46 Try.sizeOf5) ?_
            refine WL.va rfl rfl rfl (X.assign rfl) ?_
            refine WL.nil ?_
            refine thn_n ?_
            refine WF.seq ?_
            refine WF.region ?_
            refine WL.va rfl rfl rfl (X.move rfl) ?_
            have hz1 := ((show Ext w wa from (Ext.trans (Ext.trans hx2 hwL0) hx36))).size
            refine WL.c rfl rfl rfl (X.call Try.call32 (evl_cons rfl evl_nil)) (getMap_ok _ l _ (Row.ext (lent_part oa) (Ext.refl wa)) (by omega)) ?_
            rintro v38 w37 ⟨⟨vm, rfl, om⟩, hx39⟩
            have := World.grownBy.size hx39
            have omT := OwnT.of om
            refine WL.va rfl rfl rfl (X.move rfl) ?_
            refine WL.va rfl rfl rfl (X.extract rfl rfl) ?_
            refine WL.va rfl rfl rfl (X.extract rfl rfl) ?_
            refine WL.op rfl (OW.allocO (cs := [.slice none 0 0, i64 0, i64 0, i64 0, i64 0, i64 0, i64 0]) Try.zeroValue26 rfl ?_ (by decide))
            intro g8 w40 heg8 hlg8 hO8 hx42
            have := World.grownBy.size hx42
            refine WL.op rfl (OW.storeOA hO8 rfl rfl rfl (Mp.c_one (omT.ext hx42).rd (getM ⟨l, false⟩).1) Try.sizeOf26 ?_)
            intro w44 hO8 hx46
            have := World.grownBy.size hx46
            replace hO3 := (hO3.ext (Ext.trans (Ext.trans (Ext.trans hwL0 hx36) hx39) hx42)).keptO hx46 (by omega)
            replace oaT := (oaT.ext (Ext.trans hx39 hx42)).keptO hx46 (by omega)
            replace omT := (omT.ext hx42).keptO hx46 (by omega)
            replace hO8 : Blk _ _ _ ((getM ⟨l, false⟩).1.c vm) := hO8
            refine WL.va rfl rfl rfl (X.assignI rfl) ?_
            refine WL.nil ?_
            refine thn_n ?_
            refine WF.seq ?_
            refine WF.region ?_
            refine WL.va rfl rfl rfl (X.move ((hAL0.eq 0).trans (congrFun hF27 0))) ?_
            have hz2 := ((show Ext w w44 from (Ext.trans (Ext.trans (Ext.trans (Ext.trans hx2 hwL0) hx36) hx39) (Ext.store hx42 hx46 (by omega))))).size
            refine WL.c rfl rfl rfl (X.call Try.call33 (evl_cons rfl evl_nil)) (getMapR_ok _ l _ (Row.ext hb (Ext.trans (Ext.trans (Ext.trans (Ext.trans hx2 hwL0) hx36) hx39) (Ext.store hx42 hx46 (by omega)))) (by omega)) ?_
            rintro v49 w48 ⟨⟨vn, rfl, on⟩, hx50⟩
            have := World.grownBy.size hx50
            have onT := OwnT.of on
            refine WL.va rfl rfl rfl (X.move rfl) ?_
            refine WL.va rfl rfl rfl (X.extract rfl rfl) ?_
            refine WL.va rfl rfl rfl (X.extract rfl rfl) ?_
            refine WL.op rfl (OW.allocO (cs := [.slice none 0 0, i64 0, i64 0, i64 0, i64 0, i64 0, i64 0]) Try.zeroValue26 rfl ?_ (by decide))
            intro g10 w51 heg10 hlg10 hO10 hx53
            have := World.grownBy.size hx53
            refine WL.op rfl (OW.storeOA hO10 rfl rfl rfl (Mp.c_one (onT.ext hx53).rd (getM ⟨l, false⟩).1) Try.sizeOf26 ?_)
            intro w55 hO10 hx57
            have := World.grownBy.size hx57
            replace hO3 := (hO3.ext (Ext.trans hx50 hx53)).keptO hx57 (by omega)
            replace oaT := (oaT.ext (Ext.trans hx50 hx53)).keptO hx57 (by omega)
            replace omT := (omT.ext (Ext.trans hx50 hx53)).keptO hx57 (by omega)
            replace hO8 := (hO8.ext (Ext.trans hx50 hx53)).keptO hx57 (by omega)
            replace onT := (onT.ext hx53).keptO hx57 (by omega)
            replace hO10 : Blk _ _ _ ((getM ⟨l, false⟩).1.c vn) := hO10
            refine WL.va rfl rfl rfl (X.assignI rfl) ?_
            refine WL.nil ?_
            refine thn_n ?_
            refine WF.seq ?_
            refine WF.region ?_
            refine WL.va rfl rfl rfl (X.move rfl) ?_
            have hz3 := ((show Ext w w55 from (Ext.trans (Ext.trans (Ext.trans (Ext.trans (Ext.trans (Ext.trans hx2 hwL0) hx36) hx39) (Ext.store hx42 hx46 (by omega))) hx50) (Ext.store hx53 hx57 (by omega))))).size
            have hoaG := oaT
            obtain ⟨BG, hBG⟩ : ∃ z, z = (w55).heap.size := ⟨_, rfl⟩
            refine WL.c rfl rfl rfl (X.call Try.call34 (evl_cons rfl evl_nil)) (getDir_ok _ l _ (Row.ext (lent_part hoaG.own) (Ext.refl _)) (by omega)) ?_
            rintro v59 wD ⟨⟨v2, u2, rfl, hDS⟩, hx60⟩
            have := World.grownBy.size hx60
            rw [← hBG] at hDS
            have sD : Since wD wD := ⟨Ext.refl _⟩
            refine WL.va rfl rfl rfl (X.move rfl) ?_
            refine WL.va rfl rfl rfl (X.extract rfl rfl) ?_
            refine WL.va rfl rfl rfl (X.extract rfl rfl) ?_
            refine WL.op rfl (OW.allocO (cs := [.slice none 0 0, i64 0, i64 0, i64 0, i64 0, i64 0, i64 0, .slice none 0 0]) Try.zeroValue51 rfl ?_ (by decide))
            intro g12 w61 heg12 hlg12 hO12 hx63
            have := World.grownBy.size hx63
            refine WL.op rfl (OW.storeOA hO12 rfl rfl rfl hDS.one Try.sizeOf51 ?_)
            intro w66 hO12 hx68
            have := World.grownBy.size hx68
            replace hO3 := (hO3.ext (Ext.trans hx60 hx63)).keptO hx68 (by omega)
            replace oaT := (oaT.ext (Ext.trans hx60 hx63)).keptO hx68 (by omega)
            replace omT := (omT.ext (Ext.trans hx60 hx63)).keptO hx68 (by omega)
            replace hO8 := (hO8.ext (Ext.trans hx60 hx63)).keptO hx68 (by omega)
            replace onT := (onT.ext (Ext.trans hx60 hx63)).keptO hx68 (by omega)
            replace hO10 := (hO10.ext (Ext.trans hx60 hx63)).keptO hx68 (by omega)
            replace sD := (sD.ext hx63).keptO hx68 (by omega)
            replace hO12 : Blk _ _ _ ((getD ⟨l, false⟩).1.c v2 u2) := hO12
            refine WL.va rfl rfl rfl (X.assignI rfl) ?_
            refine WL.nil ?_
            refine thn_n ?_
            refine WF.seq ?_
            refine WF.region ?_
            refine WL.va rfl rfl rfl (X.move ((hAL0.eq 0).trans (congrFun hF27 0))) ?_
            have hz4 := ((show Ext w w66 from (Ext.trans (Ext.trans (Ext.trans (Ext.trans (Ext.trans (Ext.trans (Ext.trans (Ext.trans hx2 hwL0) hx36) hx39) (Ext.store hx42 hx46 (by omega))) hx50) (Ext.store hx53 hx57 (by omega))) hx60) (Ext.store hx63 hx68 (by omega))))).size
            refine WL.c rfl rfl rfl (X.call Try.call35 (evl_cons rfl evl_nil)) (getDirR_ok _ l _ (Row.ext hb (Ext.trans (Ext.trans (Ext.trans (Ext.trans (Ext.trans (Ext.trans (Ext.trans (Ext.trans hx2 hwL0) hx36) hx39) (Ext.store hx42 hx46 (by omega))) hx50) (Ext.store hx53 hx57 (by omega))) hx60) (Ext.store hx63 hx68 (by omega)))) (by omega)) ?_
            rintro v71 w70 ⟨⟨v3, u3, F3, rfl, hF3, oyT⟩, hx72⟩
            have := World.grownBy.size hx72
            refine WL.va rfl rfl rfl (X.move rfl) ?_
            refine WL.va rfl rfl rfl (X.extract rfl rfl) ?_
            refine WL.va rfl rfl rfl (X.extract rfl rfl) ?_
            refine WL.op rfl (OW.allocO (cs := [.slice none 0 0, i64 0, i64 0, i64 0, i64 0, i64 0, i64 0, .slice none 0 0]) Try.zeroValue51 rfl ?_ (by decide))
            intro g14 w73 heg14 hlg14 hO14 hx75
            have := World.grownBy.size hx75
            refine WL.op rfl (OW.storeOA hO14 rfl rfl rfl (Dr.c_one _ (oyT.ext hx75).rng.rd (own_one (oyT.ext hx75).ses.own.row)) Try.sizeOf51 ?_)
            intro w77 hO14 hx79
            have := World.grownBy.size hx79
            replace hO3 := (hO3.ext (Ext.trans hx72 hx75)).keptO hx79 (by omega)
            replace oaT := (oaT.ext (Ext.trans hx72 hx75)).keptO hx79 (by omega)
            replace omT := (omT.ext (Ext.trans hx72 hx75)).keptO hx79 (by omega)
            replace hO8 := (hO8.ext (Ext.trans hx72 hx75)).keptO hx79 (by omega)
            replace onT := (onT.ext (Ext.trans hx72 hx75)).keptO hx79 (by omega)
            replace hO10 := (hO10.ext (Ext.trans hx72 hx75)).keptO hx79 (by omega)
            replace sD := (sD.ext (Ext.trans hx72 hx75)).keptO hx79 (by omega)
            replace hO12 := (hO12.ext (Ext.trans hx72 hx75)).keptO hx79 (by omega)
            replace oyT := (oyT.ext hx75).keptO hx79 (by omega)
            replace hO14 : Blk _ _ _ ((getD ⟨l, false⟩).1.c v3 u3) := hO14
            refine WL.va rfl rfl rfl (X.assignI rfl) ?_
            refine WL.nil ?_
            refine thn_n ?_
            refine WF.seq ?_
            refine WF.region ?_
            refine WL.va rfl rfl rfl (X.moveI rfl) ?_
            refine WL.va rfl rfl rfl (X.moveI rfl) ?_
            refine WL.va rfl rfl rfl (X.eql rfl rfl) ?_
            refine WL.va rfl rfl rfl (X.moveB rfl) ?_
            refine WL.split (j := 3) rfl (fun h82 => ?_) (fun h82 => ?_)
            · have gh82 := (of_decide_eq_true h82)
              refine WL.vg rfl (congrArg some h82) rfl rfl (X.moveI rfl) ?_
              refine WL.vg rfl (congrArg some h82) rfl rfl (X.moveI rfl) ?_
              refine WL.vg rfl (congrArg some h82) rfl rfl (X.eql rfl rfl) ?_
              refine WL.va rfl rfl rfl (X.pickT rfl h82 rfl) ?_
              refine WL.va rfl rfl rfl (X.moveB rfl) ?_
              refine WL.split (j := 8) rfl (fun h84 => ?_) (fun h84 => ?_)
              · have gh84 := (of_decide_eq_true h84)
                refine WL.vg rfl (congrArg some h84) rfl rfl (X.loadOA hO8 (Ext.refl _) rfl rfl Try.isAgg26 Try.sizeOf26) ?_
                refine WL.vg rfl (congrArg some h84) rfl rfl (X.loadOA hO10 (Ext.refl _) rfl rfl Try.isAgg26 Try.sizeOf26) ?_
                refine WL.cg rfl (congrArg some h84) rfl rfl (X.call Try.call19 (evl_cons rfl (evl_cons rfl evl_nil))) (sameMap_self omT.rd onT.rd rfl) ?_
                rintro v86 w85 ⟨rfl, hx87⟩
                have := World.grownBy.size hx87
                refine WL.va rfl rfl rfl (X.pickT rfl h84 rfl) ?_
                refine WL.va rfl rfl rfl (X.moveB rfl) ?_
                refine WL.vg rfl rfl rfl rfl (X.loadOA hO12 hx87 rfl rfl Try.isAgg51 Try.sizeOf51) ?_
                refine WL.vg rfl rfl rfl rfl (X.loadOA hO14 hx87 rfl rfl Try.isAgg51 Try.sizeOf51) ?_
                refine WL.cg rfl rfl rfl rfl (X.call Try.call36 (evl_cons rfl (evl_cons rfl evl_nil))) (sameDir_self (hDS.ext ((sD.ext hx87)).x).at ((oyT.ext hx87).at hF3) rfl) ?_
                rintro v90 w89 ⟨rfl, hx91⟩
                have := World.grownBy.size hx91
                refine WL.va rfl rfl rfl (X.pickT rfl rfl rfl) ?_
                refine WL.va rfl rfl rfl (X.assignB rfl) ?_
                refine WL.nil ?_
                refine thn_n ?_
                refine WF.seq ?_
                refine WF.region ?_
                refine WL.va rfl rfl rfl (X.fieldAddrO (off := 0) rfl Try.underlying26 rfl rfl Try.sizeOf22) ?_
                refine WL.va rfl rfl rfl (X.loadO hO8 (Ext.trans hx87 hx91) rfl rfl Try.isAgg22) ?_
                have hDS1 := hDS.ext ((sD.ext (Ext.trans hx87 hx91))).x
                refine WL.c rfl rfl rfl (X.call Try.call20 (evl_cons rfl evl_nil)) (spoilRanges_ok vm _ _ _ (omT.ext (Ext.trans hx87 hx91)).own) ?_
                rintro v93 wS ⟨_, hx94⟩
                have := World.grownBy.size hx94
                replace hO3 := (hO3.ext (Ext.trans hx87 hx91)).keptR hx94 (fun b hb => by have h1 := (omT.own.lt b hb).1; have h2 := omT.top b hb; omega)
                replace oaT := (oaT.ext (Ext.trans hx87 hx91)).kept hx94 (fun b hb => by have h1 := (omT.own.lt b hb).1; have h2 := omT.top b hb; omega)
                replace hO8 := (hO8.ext (Ext.trans hx87 hx91)).keptR hx94 (fun b hb => by have h1 := (omT.own.lt b hb).1; have h2 := omT.top b hb; omega)
                replace hO10 := (hO10.ext (Ext.trans hx87 hx91)).keptR hx94 (fun b hb => by have h1 := (omT.own.lt b hb).1; have h2 := omT.top b hb; omega)
                replace hO12 := (hO12.ext (Ext.trans hx87 hx91)).keptR hx94 (fun b hb => by have h1 := (omT.own.lt b hb).1; have h2 := omT.top b hb; omega)
                replace hO14 := (hO14.ext (Ext.trans hx87 hx91)).keptR hx94 (fun b hb => by have h1 := (omT.own.lt b hb).1; have h2 := omT.top b hb; omega)
                have hDS2 := hDS1.kept hx94 (fun g hg => .inl (by have := omT.top g hg; omega))
                refine WL.nil ?_
                refine thn_n ?_
                refine WF.seq ?_
                refine WF.region ?_
                refine WL.va rfl rfl rfl (X.loadOA hO12 (Ext.refl _) rfl rfl Try.isAgg51 Try.sizeOf51) ?_
                have hoaS := oaT
                have hO3S := hO3
                have gwS := (show Ext w wS from (grown_trans (Ext.trans (Ext.trans (Ext.trans (Ext.trans (Ext.trans (Ext.trans (Ext.trans (Ext.trans (Ext.trans (Ext.trans (Ext.trans (Ext.trans hx2 hwL0) hx36) hx39) (Ext.store hx42 hx46 (by omega))) hx50) (Ext.store hx53 hx57 (by omega))) hx60) (Ext.store hx63 hx68 (by omega))) hx72) (Ext.store hx75 hx79 (by omega))) hx87) hx91) hx94 (fun i hi => by have := (omT.own.lt i hi).1; omega)))
                refine WL.c rfl rfl rfl (X.call Try.call37 (evl_cons rfl evl_nil)) (spoilDirD_ok _ v2 u2 wS _ BG hDS2 (Ext.refl wS)) ?_
                rintro v96 w95 hcS
                have := hcS.size
                have oaT := hoaS.chg hcS (.inr (by omega))
                have hO3 := hO3S.chg hcS (.inl (by omega))
                refine WL.nil ?_
                refine thn_n ?_
                refine WF.seq ?_
                refine WF.drawn (.q 0 (.q 1 (.q 2 (.q 3 (.l 4 (.q 5 (.q 6 (.q 7 (.q 10 (.l 8 (.l 9 (.l 11 (.l 12 (.q 13 (.q 14 .nil))))))))))))))) (fun w' => Ext w95 w') 15 (by kernel_rfl) (by kernel_rfl) (Ext.drew _) ?_
                have := World.grownBy.size (Ext.drew w95)
                refine WO.q rfl rfl rfl rfl (fun w' hE98 => (X.moveB rfl)) ?_
                refine WO.q rfl rfl rfl rfl (fun w' hE98 => (X.moveB rfl)) ?_
                refine WO.qg rfl rfl rfl rfl rfl (fun w' hE98 => (X.move rfl)) ?_
                refine WO.qg rfl rfl rfl rfl rfl (fun w' hE98 => (X.move ((hAL0.eq 0).trans (congrFun hF27 0)))) ?_
                refine WO.l ?_
                refine LO.gog rfl rfl rfl (OW.enter rfl (by decide) (X.call Try.call38 (evl_cons rfl (evl_cons rfl evl_nil))) (kept_self (oaT.ext (Ext.drew _)).rd (Row.ext hb (Ext.trans (Chg.ext gwS hcS (by omega)) (Ext.drew _))) (by omega)) ?_)
                rintro v100 w99 ⟨rfl, hx101⟩
                have := World.grownBy.size hx101
                refine ⟨(Ext.trans (Ext.drew _) hx101), ?_⟩
                refine WO.q rfl rfl rfl rfl (fun w' hE98 => (X.pickT rfl rfl rfl)) ?_
                refine WO.q rfl rfl rfl rfl (fun w' hE98 => (X.moveB rfl)) ?_
                refine WO.qg rfl rfl rfl rfl rfl (fun w' hE98 => (X.loadOA hO3 hE98 ((hAL0.eq 3).trans (congrFun hF27 3)) rfl Try.isAgg51 Try.sizeOf51)) ?_
                refine WO.qg rfl rfl rfl rfl rfl (fun w' hE98 => (X.loadOA hO3 hE98 ((hAL0.eq 3).trans (congrFun hF27 3)) rfl Try.isAgg51 Try.sizeOf51)) ?_
                refine WO.l ?_
                have hz5 := ((show Ext w w99 from (Ext.trans (Ext.trans (Chg.ext gwS hcS (by omega)) (Ext.drew _)) hx101))).size
                refine LO.gog rfl rfl rfl (OW.enter rfl (by decide) (X.call Try.call40 (evl_cons rfl evl_nil)) (copyDir_ok d v u _ (h.ext (Ext.trans (Ext.trans (Chg.ext gwS hcS (by omega)) (Ext.drew _)) hx101)) (by omega) (by omega) (fun s hs => Nat.le_trans (hD s hs) (by decide))) ?_)
                rintro v104 w103 ⟨⟨v4, u4, F4, rfl, hF4, ocT⟩, hx105⟩
                have := World.grownBy.size hx105
                refine ⟨(Ext.trans (Ext.trans (Ext.drew _) hx101) hx105), ?_⟩
                refine WO.l ?_
                refine LO.gog rfl rfl rfl (OW.enter rfl (by decide) (X.call Try.call39 (evl_cons rfl evl_nil)) (putDir_ok d v4 u4 _ (ocT.at hF4) (by omega) (by omega) (fun s hs => Nat.le_trans (hD s hs) (by decide))) ?_)
                rintro vp w106 ⟨op, hx107⟩
                have := World.grownBy.size hx107
                refine ⟨(Ext.trans (Ext.trans (Ext.trans (Ext.drew _) hx101) hx105) hx107), ?_⟩
                have opT := OwnT.of op
                refine WO.l ?_
                refine LO.gog rfl rfl rfl (OW.enter rfl (by decide) (X.call Try.call41 (evl_cons rfl evl_nil)) (putDirR_ok d v u _ (h.ext (Ext.trans (Ext.trans (Ext.trans (Ext.trans (Chg.ext gwS hcS (by omega)) (Ext.drew _)) hx101) hx105) hx107)) (by omega) (by omega) (fun s hs => Nat.le_trans (hD s hs) (by decide))) ?_)
                rintro vq w108 ⟨oq, hx109⟩
                have := World.grownBy.size hx109
                refine ⟨(Ext.trans (Ext.trans (Ext.trans (Ext.trans (Ext.drew _) hx101) hx105) hx107) hx109), ?_⟩
                refine WO.l ?_
                refine LO.gog rfl rfl rfl (OW.enter rfl (by decide) (X.call Try.call27 (evl_cons rfl (evl_cons rfl evl_nil))) (sameBytes_self (opT.ext hx109).rd (Bytes.of_own oq) rfl) ?_)
                rintro v111 w110 ⟨rfl, hx112⟩
                have := World.grownBy.size hx112
                refine ⟨(Ext.trans (Ext.trans (Ext.trans (Ext.trans (Ext.trans (Ext.drew _) hx101) hx105) hx107) hx109) hx112), ?_⟩
                refine WO.q rfl rfl rfl rfl (fun w' hE98 => (X.pickT rfl rfl rfl)) ?_
                refine WO.q rfl rfl rfl rfl (fun w' hE98 => (X.assignB rfl)) ?_
                refine WO.nil ?_
                refine WL.nil ?_
                refine thn_n ?_
                refine WF.ret ?_
                refine fin_r ?_
                exact ⟨rfl, (Ext.trans (Ext.trans (Ext.trans (Ext.trans (Ext.trans (Ext.trans (Chg.ext gwS hcS (by omega)) (Ext.drew _)) hx101) hx105) hx107) hx109) hx112)⟩
              · have gh84 := (of_decide_eq_false h84)
                exact absurd rfl gh84
            · have gh82 := (of_decide_eq_false h82)
              exact absurd rfl gh82

end Go.Proofs.Ytpimnlgfhpnjnaa
