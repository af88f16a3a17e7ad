/- The walk of RangesApply. -/
import Derived.Test.YtpimnlgfhpnjnaaRnR
namespace Go.Proofs.Ytpimnlgfhpnjnaa
open Go Go.RowKit Kf
set_option maxRecDepth 20000

theorem sameDir_self {a b : Dr} {va ua vb ub : Value} {w : World} (ha : DAt w va ua a) (hb : DAt w vb ub b) (e : a = b) : FnOk Try.prog 36 [agg (a.c va ua), agg (b.c vb ub)] w (fun r w' => r = .bool true ∧ Ext w w') := by
  have := sameDir_ok a b va ua vb ub w ha hb
  rwa [decide_eq_true e] at this
theorem sameRes_self {a b : Int} {va vb : Value} {la lb : List UInt8} {w : World} (ha : Bytes w va la) (hb : Bytes w vb lb) (e : a = b ∧ la = lb) : FnOk Try.prog 47 [agg [i64 a, va], agg [i64 b, vb]] w (fun r w' => r = .bool true ∧ Ext w w') := by
  have := Se.sameResult_ok a b va vb la lb w ha hb
  rwa [decide_eq_true e] at this
theorem sameOp_self {a1 a2 a3 a4 b1 b2 b3 b4 : Value} {o : Op.Od} {w : World} (ha : Op.OpAt w a1 a2 a3 a4 o) (hb : Op.OpAt w b1 b2 b3 b4 o) : FnOk Try.prog 48 [agg (Op.oc o.n a1 a2 a3 a4), agg (Op.oc o.n b1 b2 b3 b4)] w (fun r w' => r = .bool true ∧ Ext w w') := by
  have := Op.sameOp_ok a1 a2 a3 a4 b1 b2 b3 b4 o o w ha hb
  rwa [decide_eq_true rfl] at this
set_option maxHeartbeats 32000000 in
theorem rangesApply_walk (d : Dr) (v u vl : Value) (l : List Op.Od) (w : World) (h : DAt w v u d) (hI : DrIn d) (hl : Ops w vl l) : FnOk Try.prog 8 [agg (d.c v u), vl] w (fun r w' => r = .bool true ∧ Ext w w') := by
  have hE := hI.m.1
  obtain ⟨E, hE1, rE, dE⟩ := h.S
  have hEl : d.S.length = E.length := by rw [← hE1]; simp
  have hEm : (E.length : Int) ≤ 9223372036854775807 := by obtain ⟨_, c, _, h1, h2, _⟩ := rE.shape; unfold maxLen at h2; omega
  obtain ⟨cs, hr, hall⟩ := hl
  have hll : (l.length : Int) ≤ 9223372036854775807 := by obtain ⟨_, c, _, h1, h2, _⟩ := hr.shape; unfold maxLen at h2; omega
  refine FnOk.enter (rs := [4]) Try.func8 rfl Try.ntmps8 Try.results8 rfl rfl ?_
  refine WF.seq ?_
  refine WF.region ?_
  refine WL.op rfl (OW.boxA (cs := (d.c v u)) rfl ?_ (by decide))
  intro g2 w1 heg2 hlg2 hO2 hx2
  have := World.grownBy.size hx2
  refine WL.va rfl rfl rfl (X.assignB rfl) ?_
  refine WL.nil ?_
  refine thn_n ?_
  refine WF.seq ?_
  refine WF.seq ?_
  refine WF.region ?_
  refine WL.va rfl rfl rfl (X.fieldAddrO (off := 0) rfl Try.underlying51 rfl rfl Try.sizeOf26) ?_
  refine WL.va rfl rfl rfl (X.loadOP hO2 (Ext.refl _) rfl rfl rfl Try.isAgg26 Try.sizeOf26) ?_
  refine WL.c rfl rfl rfl (X.call Try.call12 (evl_cons rfl evl_nil)) (checkRef_eq (Row.ext h.R hx2) hE) ?_
  rintro v6 w5 ⟨rfl, hx7⟩
  have := World.grownBy.size hx7
  refine WL.va rfl rfl rfl (X.neq rfl rfl) ?_
  refine WL.va rfl rfl rfl (X.moveB rfl) ?_
  refine WL.split (j := 4) rfl (fun h9 => ?_) (fun h9 => ?_)
  · have gh9 := (of_decide_eq_true h9)
    refine WL.p rfl rfl rfl (congrArg some h9) ?_
    refine WL.p rfl rfl rfl (congrArg some h9) ?_
    refine WL.p rfl rfl rfl (congrArg some h9) ?_
    refine WL.p rfl rfl rfl (congrArg some h9) ?_
    refine WL.va rfl rfl rfl (X.pickT rfl h9 rfl) ?_
    refine WL.nil ?_
    refine thn_n ?_
    refine WF.cond_t rfl ?_
    refine WF.seq ?_
    refine WF.region ?_
    refine WL.c rfl rfl rfl (X.call Try.call13 evl_nil) (known_ok _) ?_
    rintro v12 w11 ⟨rfl, hx13⟩
    have := World.grownBy.size hx13
    refine WL.va rfl rfl rfl (X.assignB rfl) ?_
    refine WL.nil ?_
    refine thn_n ?_
    refine WF.ret ?_
    refine thn_r ?_
    refine fin_r ?_
    exact ⟨rfl, (Ext.trans (Ext.trans hx2 hx7) hx13)⟩
  · have gh9 := (Decidable.of_not_not (of_decide_eq_false h9))
    have hck : checkB d.m = true := codeOf_0 gh9
    have hg : Good d.m := ⟨hck, hE⟩
    refine WL.vg rfl (congrArg some h9) rfl rfl (X.fieldAddrO (off := 7) rfl Try.underlying51 rfl rfl Try.sizeOf49) ?_
    refine WL.vg rfl (congrArg some h9) rfl rfl (X.loadO hO2 hx7 rfl rfl Try.isAgg49) ?_
    refine WL.vg rfl (congrArg some h9) rfl rfl (X.len rE rfl Try.underlying49) ?_
    refine WL.vg rfl (congrArg some h9) rfl rfl (X.gtr rfl rfl) ?_
    refine WL.va rfl rfl rfl (X.pickF rfl h9 rfl) ?_
    refine WL.nil ?_
    refine thn_n ?_
    refine WF.cond rfl (fun h0_15 => ?_) (fun h0_15 => ?_)
    · have gh0_15 := (of_decide_eq_true h0_15)
      refine WF.seq ?_
      refine WF.region ?_
      refine WL.c rfl rfl rfl (X.call Try.call13 evl_nil) (known_ok _) ?_
      rintro v18 w17 ⟨rfl, hx19⟩
      have := World.grownBy.size hx19
      refine WL.va rfl rfl rfl (X.assignB rfl) ?_
      refine WL.nil ?_
      refine thn_n ?_
      refine WF.ret ?_
      refine thn_r ?_
      refine fin_r ?_
      exact ⟨rfl, (Ext.trans (Ext.trans hx2 hx7) hx19)⟩
    · have gh0_15 := (of_decide_eq_false h0_15)
      have hS : E.length ≤ 100 := by omega
      refine WF.skip ?_
      refine thn_n ?_
      refine WF.seq ?_
      refine WF.seq ?_
      refine WF.region ?_
      refine WL.va rfl rfl rfl (X.assignI rfl) ?_
      refine WL.nil ?_
      refine thn_n ?_
      refine WF.block ?_
      refine WF.named (fun F21 hF22 => ?_)
      refine WF.loopN (fun mL0 f' w' => ∃ (i : Nat), mL0 = E.length - i ∧ f' 5 = .int .i64 (i : Int) ∧ Agree [0, 1, 2, 14, 15, 16, 17, 18, 19, 20, 21, 22, 23] f' F21 ∧ Ext w1 w' ∧ i ≤ E.length ∧ ∀ j (hj : j < E.length), j < i → E[j].1.Data.length ≤ 4096) ?_ ?_
      · exact ⟨_, 0, rfl, (congrFun hF22 5), (Agree.refl _ _), hx7, ⟨Nat.zero_le _, fun j _ hj => by omega⟩⟩
      · rintro mL0 fL0 wL0 ⟨i, hmL0, e5_L0, hAL0, hwL0, ⟨hi0, hsm⟩⟩
        have := World.grownBy.size hwL0
        refine WF.seq ?_
        refine WF.seq ?_
        refine WF.region ?_
        refine WL.va rfl rfl rfl (X.moveI e5_L0) ?_
        refine WL.va rfl rfl rfl (X.fieldAddrO (off := 7) ((hAL0.eq 2).trans (congrFun hF22 2)) Try.underlying51 rfl rfl Try.sizeOf49) ?_
        refine WL.va rfl rfl rfl (X.loadO hO2 hwL0 rfl rfl Try.isAgg49) ?_
        refine WL.va rfl rfl rfl (X.len rE rfl Try.underlying49) ?_
        refine WL.va rfl rfl rfl (X.lss rfl rfl) ?_
        refine WL.nil ?_
        refine thn_n ?_
        refine WF.cond rfl (fun h1_23 => ?_) (fun h1_23 => ?_)
        · have gh1_23 := (of_decide_eq_true h1_23)
          have hi : i < E.length := by omega
          refine WF.skip ?_
          refine thn_n ?_
          refine WF.seq ?_
          refine WF.block ?_
          refine WF.seq ?_
          refine WF.region ?_
          refine WL.va rfl rfl rfl (X.fieldAddrO (off := 7) ((hAL0.eq 2).trans (congrFun hF22 2)) Try.underlying51 rfl rfl Try.sizeOf49) ?_
          refine WL.va rfl rfl rfl (X.loadO hO2 hwL0 rfl rfl Try.isAgg49) ?_
          refine WL.va rfl rfl rfl (X.moveI e5_L0) ?_
          refine WL.va rfl rfl rfl (X.idx rE rfl rfl (by omega) Try.underlying49 Try.sizeOf55) ?_
          refine WL.va rfl rfl rfl (X.fieldAddrA rfl Try.underlying55 rfl rfl Try.sizeOf53) ?_
          refine WL.va rfl rfl rfl (X.fieldAddrAA (off := 1) rfl Try.underlying53 rfl rfl Try.sizeOf46) ?_
          refine WL.va rfl rfl rfl (X.loadE rE (Ext.trans hx2 hwL0) rfl (by omega) ((Se.SRow.get hi (by decide)).trans rfl) Try.isAgg46) ?_
          refine WL.va rfl rfl rfl (X.len (dE _ (List.getElem_mem hi)) rfl Try.underlying46) ?_
          refine WL.va rfl rfl rfl (X.gtr rfl rfl) ?_
          refine WL.nil ?_
          refine thn_n ?_
          refine WF.cond rfl (fun h2_25 => ?_) (fun h2_25 => ?_)
          · have gh2_25 := (of_decide_eq_true h2_25)
            refine WF.seq ?_
            refine WF.region ?_
            refine WL.c rfl rfl rfl (X.call Try.call13 evl_nil) (known_ok _) ?_
            rintro v28 w27 ⟨rfl, hx29⟩
            have := World.grownBy.size hx29
            refine WL.va rfl rfl rfl (X.assignB rfl) ?_
            refine WL.nil ?_
            refine thn_n ?_
            refine WF.ret ?_
            refine blk_r ?_
            refine thn_r ?_
            refine thn_r ?_
            refine blk_r ?_
            refine thn_r ?_
            refine fin_r ?_
            exact ⟨rfl, (Ext.trans (Ext.trans hx2 hwL0) hx29)⟩
          · have gh2_25 := (of_decide_eq_false h2_25)
            have hil : (E[i]'hi).1.Data.length ≤ 4096 := by omega
            refine WF.skip ?_
            refine blk_n ?_
            refine thn_n ?_
            refine WF.region ?_
            refine WL.va rfl rfl rfl (X.moveI e5_L0) ?_
            refine WL.va rfl rfl rfl (X.add rfl rfl (w64 (by omega))) ?_
            refine WL.va rfl rfl rfl (X.assignI rfl) ?_
            refine WL.nil ?_
            exact thn_n ⟨_, (by omega), i + 1, rfl, rfl, (by repeat (first | exact hAL0 | refine Agree.put ?_ rfl | refine Agree.named hF22 ?_)), hwL0, ⟨by omega, fun j hj hj2 => by
        rcases Nat.lt_succ_iff_lt_or_eq.1 hj2 with hq | rfl
        · exact hsm j hj hq
        · exact hil⟩⟩
        · have gh1_23 := (of_decide_eq_false h1_23)
          have hD : ∀ s ∈ d.S, s.Data.length ≤ 4096 := by {
            intro s hs
            rw [← hE1] at hs
            obtain ⟨e, he, rfl⟩ := List.mem_map.1 hs
            obtain ⟨j, hj, rfl⟩ := List.getElem_of_mem he
            exact hsm j hj (by omega) }
          refine WF.exit ?_
          refine thn_x ?_
          refine thn_x ?_
          refine blk_eq ?_
          refine thn_n ?_
          refine WF.seq ?_
          refine WF.region ?_
          refine WL.va rfl rfl rfl (X.loadOA hO2 hwL0 ((hAL0.eq 2).trans (congrFun hF22 2)) rfl Try.isAgg51 Try.sizeOf51) ?_
          have hzc := World.grownBy.size (show Ext w wL0 from (Ext.trans hx2 hwL0))
          refine WL.c rfl rfl rfl (X.call Try.call40 (evl_cons rfl evl_nil)) (copyDir_ok d v u _ (h.ext (Ext.trans hx2 hwL0)) (Nat.le_trans hg.len (by decide)) (by omega) (fun s hs => Nat.le_trans (hD s hs) (by decide))) ?_
          rintro v32 w31 ⟨⟨v0, u0, F0, rfl, hF0, od⟩, hx33⟩
          have := World.grownBy.size hx33
          have odT := od
          refine WL.op rfl (OW.allocO (cs := [.slice none 0 0, i64 0, i64 0, i64 0, i64 0, i64 0, i64 0, .slice none 0 0]) Try.zeroValue51 rfl ?_ (by decide))
          intro g6 w34 heg6 hlg6 hO6 hx36
          have := World.grownBy.size hx36
          refine WL.op rfl (OW.storeOA hO6 rfl rfl rfl (Dr.c_one d od.rng.rd (own_one od.ses.own.row)) Try.sizeOf51 ?_)
          intro w38 hO6 hx40
          have := World.grownBy.size hx40
          replace hO2 := (hO2.ext (Ext.trans (Ext.trans hwL0 hx33) hx36)).keptO hx40 (by omega)
          replace odT := (odT.ext hx36).keptO hx40 (by omega)
          replace hO6 : Blk _ _ _ (d.c v0 u0) := hO6
          refine WL.nil ?_
          refine thn_n ?_
          refine WF.seq ?_
          refine WF.seq ?_
          refine WF.region ?_
          refine WL.va rfl rfl rfl (X.assignI rfl) ?_
          refine WL.nil ?_
          refine thn_n ?_
          refine WF.block ?_
          refine WF.named (fun F42 hF43 => ?_)
          refine WF.loopN (fun mL1 f' w' => ∃ (k : Nat) (now : Dr) (vn un : Value) (Fn : List Se.SV) (Bn Tn : Nat), mL1 = l.length - k ∧ f' 7 = .int .i64 (k : Int) ∧ Agree [0, 1, 2, 5, 6, 14, 15, 16, 17, 18, 19, 20, 21, 22, 23, 25, 26, 27, 28, 29, 42, 43] f' F42 ∧ Ext w w' ∧ k ≤ l.length ∧ k ≤ 50 ∧ Good now.m ∧ now.S.length ≤ 100 + k ∧ (∀ s ∈ now.S, s.Data.length ≤ 4096) ∧ Fn.map Prod.fst = now.S ∧ Blk w' g6 51 (now.c vn un) ∧ DOwn w' Bn Tn vn un now.m Fn ∧ Tn ≤ w'.heap.size ∧ (g6 < Bn ∨ Tn ≤ g6)) ?_ ?_
          · exact ⟨_, 0, d, v0, u0, F0, _, _, rfl, (congrFun hF43 7), (Agree.refl _ _), (Ext.trans (Ext.trans (Ext.trans hx2 hwL0) hx33) (Ext.store hx36 hx40 (by omega))), ⟨Nat.zero_le _, Nat.zero_le _, hg, by omega, hD, hF0, hO6, odT, by omega, .inr (by omega)⟩⟩
          · rintro mL1 fL1 wL1 ⟨k, now, vn, un, Fn, Bn, Tn, hmL1, e7_L1, hAL1, hwL1, ⟨hk0, hk1, hng, hnS, hnD, hFn, hO6, onT, hTn, hgn⟩⟩
            have := World.grownBy.size hwL1
            have t6 := hO6.lt
            refine WF.seq ?_
            refine WF.seq ?_
            refine WF.region ?_
            refine WL.va rfl rfl rfl (X.moveI e7_L1) ?_
            refine WL.va rfl rfl rfl (X.move ((hAL1.eq 1).trans ((congrFun hF43 1).trans ((hAL0.eq 1).trans (congrFun hF22 1))))) ?_
            refine WL.va rfl rfl rfl (X.len hr rfl Try.underlying67) ?_
            refine WL.va rfl rfl rfl (X.lss rfl rfl) ?_
            refine WL.va rfl rfl rfl (X.moveB rfl) ?_
            refine WL.split (j := 4) rfl (fun h45 => ?_) (fun h45 => ?_)
            · have gh45 := (of_decide_eq_true h45)
              refine WL.vg rfl (congrArg some h45) rfl rfl (X.moveI e7_L1) ?_
              refine WL.vg rfl (congrArg some h45) rfl rfl (X.lss rfl rfl) ?_
              refine WL.va rfl rfl rfl (X.pickT rfl h45 rfl) ?_
              refine WL.nil ?_
              refine thn_n ?_
              refine WF.cond rfl (fun h3_46 => ?_) (fun h3_46 => ?_)
              · have gh3_46 := (of_decide_eq_true h3_46)
                have hk : k < l.length := by omega
                have hk50 : k < 50 := by omega
                obtain ⟨vP, vR, vW, vD, hel, hop⟩ := hall k hk
                refine WF.skip ?_
                refine thn_n ?_
                refine WF.seq ?_
                refine WF.block ?_
                refine WF.seq ?_
                refine WF.seq ?_
                refine WF.region ?_
                refine WL.va rfl rfl rfl (X.move ((hAL1.eq 1).trans ((congrFun hF43 1).trans ((hAL0.eq 1).trans (congrFun hF22 1))))) ?_
                refine WL.va rfl rfl rfl (X.moveI e7_L1) ?_
                refine WL.va rfl rfl rfl (X.idx hr rfl rfl (by omega) Try.underlying67 Try.sizeOf72) ?_
                refine WL.va rfl rfl rfl (X.loadEl hr hwL1 rfl (by omega) hel Try.isAgg72 Try.sizeOf72) ?_
                refine WL.c rfl rfl rfl (X.call Try.call43 (evl_cons rfl (evl_cons rfl (evl_cons rfl evl_nil)))) (Op.bigOp_ok vP vR vW vD (l[k]'hk) _ (hop.ext hwL1)) ?_
                rintro v49 w48 ⟨⟨bb, rfl, hbb⟩, hx50⟩
                have := World.grownBy.size hx50
                refine WL.nil ?_
                refine thn_n ?_
                refine WF.cond rfl (fun h4_51 => ?_) (fun h4_51 => ?_)
                · have gh4_51 := h4_51
                  refine WF.seq ?_
                  refine WF.region ?_
                  refine WL.c rfl rfl rfl (X.call Try.call13 evl_nil) (known_ok _) ?_
                  rintro v54 w53 ⟨rfl, hx55⟩
                  have := World.grownBy.size hx55
                  refine WL.va rfl rfl rfl (X.assignB rfl) ?_
                  refine WL.nil ?_
                  refine thn_n ?_
                  refine WF.ret ?_
                  refine thn_r ?_
                  refine blk_r ?_
                  refine thn_r ?_
                  refine thn_r ?_
                  refine blk_r ?_
                  refine thn_r ?_
                  refine fin_r ?_
                  exact ⟨rfl, (Ext.trans (Ext.trans hwL1 hx50) hx55)⟩
                · have gh4_51 := h4_51
                  have hbf := hbb gh4_51
                  have hsml : (l[k]'hk).small := ⟨by omega, by omega, by omega, by omega, fun x hx => by have := hbf.2.2.2.2 x hx; omega⟩
                  refine WF.skip ?_
                  refine thn_n ?_
                  refine WF.seq ?_
                  refine WF.region ?_
                  refine WL.va rfl rfl rfl (X.loadOA hO6 hx50 ((hAL1.eq 6).trans (congrFun hF43 6)) rfl Try.isAgg51 Try.sizeOf51) ?_
                  refine WL.c rfl rfl rfl (X.call Try.call40 (evl_cons rfl evl_nil)) (copyDir_ok now vn un _ ((onT.ext hx50).at hFn) (Nat.le_trans hng.len (by decide)) (by omega) (fun s hs => Nat.le_trans (hnD s hs) (by decide))) ?_
                  rintro v58 w57 ⟨⟨vi, ui, Fi, rfl, hFi, oi⟩, hx59⟩
                  have := World.grownBy.size hx59
                  have oiT := oi
                  refine WL.op rfl (OW.allocO (cs := [.slice none 0 0, i64 0, i64 0, i64 0, i64 0, i64 0, i64 0, .slice none 0 0]) Try.zeroValue51 rfl ?_ (by decide))
                  intro g8 w60 heg8 hlg8 hO8 hx62
                  have := World.grownBy.size hx62
                  refine WL.op rfl (OW.storeOA hO8 rfl rfl rfl (Dr.c_one now oi.rng.rd (own_one oi.ses.own.row)) Try.sizeOf51 ?_)
                  intro w65 hO8 hx67
                  have := World.grownBy.size hx67
                  replace hO6 := (hO6.ext (Ext.trans (Ext.trans hx50 hx59) hx62)).keptO hx67 (by omega)
                  replace onT := (onT.ext (Ext.trans (Ext.trans hx50 hx59) hx62)).keptO hx67 (by omega)
                  replace oiT := (oiT.ext hx62).keptO hx67 (by omega)
                  replace hO8 : Blk _ _ _ (now.c vi ui) := hO8
                  refine WL.nil ?_
                  refine thn_n ?_
                  refine WF.seq ?_
                  refine WF.region ?_
                  refine WL.va rfl rfl rfl (X.move ((hAL1.eq 1).trans ((congrFun hF43 1).trans ((hAL0.eq 1).trans (congrFun hF22 1))))) ?_
                  refine WL.va rfl rfl rfl (X.moveI e7_L1) ?_
                  refine WL.va rfl rfl rfl (X.idx hr rfl rfl (by omega) Try.underlying67 Try.sizeOf72) ?_
                  refine WL.va rfl rfl rfl (X.loadEl hr (Ext.trans (Ext.trans (Ext.trans hwL1 hx50) hx59) (Ext.store hx62 hx67 (by omega))) rfl (by omega) hel Try.isAgg72 Try.sizeOf72) ?_
                  refine WL.c rfl rfl rfl (X.call Try.call44 (evl_cons rfl evl_nil)) (Op.copyOp_ok vP vR vW vD (l[k]'hk) _ (hop.ext (Ext.trans (Ext.trans (Ext.trans hwL1 hx50) hx59) (Ext.store hx62 hx67 (by omega)))) hsml) ?_
                  rintro v70 w69 ⟨⟨p1, p2, p3, p4, rfl, hAo⟩, hx71⟩
                  have := World.grownBy.size hx71
                  have hSo : Since w69 w69 := ⟨Ext.refl _⟩
                  refine WL.op rfl (OW.allocO (cs := [i64 0, i64 0, i64 0, i64 0, i64 0, i64 0, i64 0, i64 0, i64 0, i64 0, i64 0, i64 0, i64 0, .slice none 0 0, .slice none 0 0, .slice none 0 0, .slice none 0 0]) Try.zeroValue72 rfl ?_ (by decide))
                  intro g9 w72 heg9 hlg9 hO9 hx74
                  have := World.grownBy.size hx74
                  refine WL.op rfl (OW.storeOA hO9 rfl rfl rfl (hAo.ones _) Try.sizeOf72 ?_)
                  intro w76 hO9 hx78
                  have := World.grownBy.size hx78
                  replace hO6 := (hO6.ext (Ext.trans hx71 hx74)).keptO hx78 (by omega)
                  replace onT := (onT.ext (Ext.trans hx71 hx74)).keptO hx78 (by omega)
                  replace oiT := (oiT.ext (Ext.trans hx71 hx74)).keptO hx78 (by omega)
                  replace hO8 := (hO8.ext (Ext.trans hx71 hx74)).keptO hx78 (by omega)
                  replace hSo := (hSo.ext hx74).keptO hx78 (by omega)
                  refine WL.nil ?_
                  refine thn_n ?_
                  refine WF.seq ?_
                  refine WF.region ?_
                  refine WL.va rfl rfl rfl (X.loadOA hO8 (Ext.refl _) rfl rfl Try.isAgg51 Try.sizeOf51) ?_
                  refine WL.va rfl rfl rfl (X.loadOA hO9 (Ext.refl _) rfl rfl Try.isAgg72 Try.sizeOf72) ?_
                  have hzx := World.grownBy.size (show Ext w w76 from (Ext.trans (Ext.trans (Ext.trans (Ext.trans (Ext.trans hwL1 hx50) hx59) (Ext.store hx62 hx67 (by omega))) hx71) (Ext.store hx74 hx78 (by omega))))
                  obtain ⟨Bx, hBx⟩ : ∃ B, B = w76.heap.size := ⟨_, rfl⟩
                  refine WL.c rfl rfl rfl (X.call Try.call45 (evl_cons rfl (evl_cons rfl evl_nil))) (apply_ok now vi ui p1 p2 p3 p4 (l[k]'hk) _ (oiT.at hFi) hng (by omega) (fun s hs => Nat.le_trans (hnD s hs) (by decide)) (hAo.ext hSo.x)) ?_
                  rintro v81 w80 ⟨⟨vx, ux, dx, Fx, rfl, hFx, oxT, odx, hfx⟩, hx82⟩
                  have := World.grownBy.size hx82
                  obtain ⟨Tx, hTx⟩ : ∃ T, T = w80.heap.size := ⟨_, rfl⟩
                  rw [← hBx, ← hTx] at oxT odx
                  refine WL.va rfl rfl rfl (X.move rfl) ?_
                  refine WL.va rfl rfl rfl (X.extract rfl rfl) ?_
                  refine WL.va rfl rfl rfl (X.extract rfl rfl) ?_
                  refine WL.op rfl (OW.allocO (cs := [.slice none 0 0, i64 0, i64 0, i64 0, i64 0, i64 0, i64 0, .slice none 0 0]) Try.zeroValue51 rfl ?_ (by decide))
                  intro g10 w83 heg10 hlg10 hO10 hx85
                  have := World.grownBy.size hx85
                  refine WL.op rfl (OW.allocO (cs := [i64 0, .slice none 0 0]) Try.zeroValue53 rfl ?_ (by decide))
                  intro g11 w87 heg11 hlg11 hO11 hx89
                  have := World.grownBy.size hx89
                  refine WL.op rfl (OW.storeOA (hO10.ext hx89) rfl rfl rfl (Dr.c_one _ oxT.rng.rd (own_one oxT.ses.own.row)) Try.sizeOf51 ?_)
                  intro w91 hO10 hx93
                  have := World.grownBy.size hx93
                  replace hO6 := (hO6.ext (Ext.trans (Ext.trans hx82 hx85) hx89)).keptO hx93 (by omega)
                  replace onT := (onT.ext (Ext.trans (Ext.trans hx82 hx85) hx89)).keptO hx93 (by omega)
                  replace oiT := (oiT.ext (Ext.trans (Ext.trans hx82 hx85) hx89)).keptO hx93 (by omega)
                  replace hO8 := (hO8.ext (Ext.trans (Ext.trans hx82 hx85) hx89)).keptO hx93 (by omega)
                  replace hSo := (hSo.ext (Ext.trans (Ext.trans hx82 hx85) hx89)).keptO hx93 (by omega)
                  replace hO9 := (hO9.ext (Ext.trans (Ext.trans hx82 hx85) hx89)).keptO hx93 (by omega)
                  replace oxT := (oxT.ext (Ext.trans hx85 hx89)).keptO hx93 (by omega)
                  replace odx := (odx.ext (Ext.trans hx85 hx89)).keptO hx93 (by omega)
                  replace hO11 := hO11.keptO hx93 (by omega)
                  replace hO10 : Blk _ _ _ ((appF now (l[k]'hk).n).1.c vx ux) := hO10
                  refine WL.op rfl (OW.storeOA hO11 rfl rfl rfl (ones2 _ (own_one odx.own)) Try.sizeOf53 ?_)
                  intro w95 hO11 hx97
                  have := World.grownBy.size hx97
                  replace hO6 := hO6.keptO hx97 (by omega)
                  replace onT := onT.keptO hx97 (by omega)
                  replace oiT := oiT.keptO hx97 (by omega)
                  replace hO8 := hO8.keptO hx97 (by omega)
                  replace hSo := hSo.keptO hx97 (by omega)
                  replace hO9 := hO9.keptO hx97 (by omega)
                  replace oxT := oxT.keptO hx97 (by omega)
                  replace odx := odx.keptO hx97 (by omega)
                  replace hO10 := hO10.keptO hx97 (by omega)
                  refine WL.nil ?_
                  refine thn_n ?_
                  refine WF.seq ?_
                  refine WF.drawn (.q 0 (.q 1 (.q 2 (.q 3 (.q 4 (.b3 5 9 10 (.q 6 (.q 7 (.q 8 (.b 9 10 (.l 10 (.l 11 .nil)) (.l 9 (.l 11 .nil)))))) (.b 5 10 (.q 6 (.q 7 (.q 8 (.l 10 (.l 11 .nil))))) (.l 5 (.q 6 (.q 7 (.q 8 (.l 11 .nil)))))) (.b 5 9 (.q 6 (.q 7 (.q 8 (.l 9 (.l 11 .nil))))) (.l 5 (.q 6 (.q 7 (.q 8 (.l 11 .nil)))))))))))) (fun w' => Ext w95 w') 12 (by kernel_rfl) (by kernel_rfl) (Ext.drew _) ?_
                  have := World.grownBy.size (Ext.drew w95)
                  refine WO.q rfl rfl rfl rfl (fun w' hE99 => (X.loadOA hO6 hE99 ((hAL1.eq 6).trans (congrFun hF43 6)) rfl Try.isAgg51 Try.sizeOf51)) ?_
                  refine WO.q rfl rfl rfl rfl (fun w' hE99 => (X.move ((hAL1.eq 1).trans ((congrFun hF43 1).trans ((hAL0.eq 1).trans (congrFun hF22 1)))))) ?_
                  refine WO.q rfl rfl rfl rfl (fun w' hE99 => (X.moveI e7_L1)) ?_
                  refine WO.q rfl rfl rfl rfl (fun w' hE99 => (X.idx hr rfl rfl (by omega) Try.underlying67 Try.sizeOf72)) ?_
                  refine WO.q rfl rfl rfl rfl (fun w' hE99 => (X.loadEl hr (Ext.trans (Ext.store (Ext.trans (Ext.trans (Ext.trans (Ext.trans (Ext.trans (Ext.trans (Ext.trans hwL1 hx50) hx59) (Ext.store hx62 hx67 (by omega))) hx71) (Ext.store hx74 hx78 (by omega))) hx82) (Ext.store (Ext.trans hx85 hx89) hx93 (by omega))) hx97 (by omega)) hE99) rfl (by omega) hel Try.isAgg72 Try.sizeOf72)) ?_
                  refine WO.b3 ?_ ?_ ?_
                  · obtain ⟨By, hBy⟩ : ∃ B, B = w95.drew.heap.size := ⟨_, rfl⟩
                    refine LO.go rfl rfl (OW.enter rfl (by decide) (X.call Try.call46 (evl_cons rfl (evl_cons rfl evl_nil))) (applyR_ok now vn un vP vR vW vD (l[k]'hk) _ ((onT.ext (Ext.drew _)).at hFn) hng (by omega) (fun s hs => Nat.le_trans (hnD s hs) (by decide)) (hop.ext (Ext.trans (Ext.store (Ext.trans (Ext.trans (Ext.trans (Ext.trans (Ext.trans (Ext.trans (Ext.trans hwL1 hx50) hx59) (Ext.store hx62 hx67 (by omega))) hx71) (Ext.store hx74 hx78 (by omega))) hx82) (Ext.store (Ext.trans hx85 hx89) hx93 (by omega))) hx97 (by omega)) (Ext.drew _)))) ?_)
                    rintro v101 w100 ⟨⟨vy, uy, dy, Fy, rfl, hFy, oyT, ody, _⟩, hx102⟩
                    have := World.grownBy.size hx102
                    refine ⟨(Ext.trans (Ext.drew _) hx102), ?_⟩
                    obtain ⟨Ty, hTy⟩ : ∃ T, T = w100.heap.size := ⟨_, rfl⟩
                    rw [← hBy, ← hTy] at oyT ody
                    refine WO.q rfl rfl rfl rfl (fun w' hE99 => (X.move rfl)) ?_
                    refine WO.q rfl rfl rfl rfl (fun w' hE99 => (X.extract rfl rfl)) ?_
                    refine WO.q rfl rfl rfl rfl (fun w' hE99 => (X.extract rfl rfl)) ?_
                    refine WO.b2 ?_ ?_
                    · refine LO.go rfl rfl (OW.allocO (cs := [.slice none 0 0, i64 0, i64 0, i64 0, i64 0, i64 0, i64 0, .slice none 0 0]) Try.zeroValue51 rfl ?_ (by decide))
                      intro g12 w103 heg12 hlg12 hO12 hx105
                      have := World.grownBy.size hx105
                      refine ⟨(Ext.trans (Ext.trans (Ext.drew _) hx102) hx105), ?_⟩
                      refine WO.l ?_
                      refine LO.go rfl rfl (OW.allocO (cs := [i64 0, .slice none 0 0]) Try.zeroValue53 rfl ?_ (by decide))
                      intro g13 w107 heg13 hlg13 hO13 hx109
                      have := World.grownBy.size hx109
                      refine ⟨(Ext.trans (Ext.trans (Ext.trans (Ext.drew _) hx102) hx105) hx109), ?_⟩
                      refine WO.l ?_
                      refine LO.go rfl rfl (OW.storeOA (hO12.ext hx109) rfl rfl rfl (Dr.c_one _ oyT.rng.rd (own_one oyT.ses.own.row)) Try.sizeOf51 ?_)
                      intro w111 hO12 hx113
                      have := World.grownBy.size hx113
                      replace hO6 := (hO6.ext (Ext.trans (Ext.trans (Ext.trans (Ext.drew _) hx102) hx105) hx109)).keptO hx113 (by omega)
                      replace onT := (onT.ext (Ext.trans (Ext.trans (Ext.trans (Ext.drew _) hx102) hx105) hx109)).keptO hx113 (by omega)
                      replace oiT := (oiT.ext (Ext.trans (Ext.trans (Ext.trans (Ext.drew _) hx102) hx105) hx109)).keptO hx113 (by omega)
                      replace hO8 := (hO8.ext (Ext.trans (Ext.trans (Ext.trans (Ext.drew _) hx102) hx105) hx109)).keptO hx113 (by omega)
                      replace hSo := (hSo.ext (Ext.trans (Ext.trans (Ext.trans (Ext.drew _) hx102) hx105) hx109)).keptO hx113 (by omega)
                      replace hO9 := (hO9.ext (Ext.trans (Ext.trans (Ext.trans (Ext.drew _) hx102) hx105) hx109)).keptO hx113 (by omega)
                      replace oxT := (oxT.ext (Ext.trans (Ext.trans (Ext.trans (Ext.drew _) hx102) hx105) hx109)).keptO hx113 (by omega)
                      replace odx := (odx.ext (Ext.trans (Ext.trans (Ext.trans (Ext.drew _) hx102) hx105) hx109)).keptO hx113 (by omega)
                      replace hO10 := (hO10.ext (Ext.trans (Ext.trans (Ext.trans (Ext.drew _) hx102) hx105) hx109)).keptO hx113 (by omega)
                      replace hO11 := (hO11.ext (Ext.trans (Ext.trans (Ext.trans (Ext.drew _) hx102) hx105) hx109)).keptO hx113 (by omega)
                      replace oyT := (oyT.ext (Ext.trans hx105 hx109)).keptO hx113 (by omega)
                      replace ody := (ody.ext (Ext.trans hx105 hx109)).keptO hx113 (by omega)
                      replace hO13 := hO13.keptO hx113 (by omega)
                      replace hO12 : Blk _ _ _ ((appF now (l[k]'hk).n).1.c vy uy) := hO12
                      refine ⟨(Ext.trans (Ext.trans (Ext.drew _) hx102) (Ext.store (Ext.trans hx105 hx109) hx113 (by omega))), ?_⟩
                      refine WO.nil ?_
                      refine WL.op rfl (OW.storeOA hO13 rfl rfl rfl (ones2 _ (own_one ody.own)) Try.sizeOf53 ?_)
                      intro w115 hO13 hx117
                      have := World.grownBy.size hx117
                      replace hO6 := hO6.keptO hx117 (by omega)
                      replace onT := onT.keptO hx117 (by omega)
                      replace oiT := oiT.keptO hx117 (by omega)
                      replace hO8 := hO8.keptO hx117 (by omega)
                      replace hSo := hSo.keptO hx117 (by omega)
                      replace hO9 := hO9.keptO hx117 (by omega)
                      replace oxT := oxT.keptO hx117 (by omega)
                      replace odx := odx.keptO hx117 (by omega)
                      replace hO10 := hO10.keptO hx117 (by omega)
                      replace hO11 := hO11.keptO hx117 (by omega)
                      replace oyT := oyT.keptO hx117 (by omega)
                      replace ody := ody.keptO hx117 (by omega)
                      replace hO12 := hO12.keptO hx117 (by omega)
                      refine WL.nil ?_
                      refine thn_n ?_
                      refine WF.seq ?_
                      refine WF.seq ?_
                      refine WF.drawn (.q 0 (.q 1 (.l 2 (.q 3 (.q 4 (.q 5 (.q 6 (.l 7 (.q 8 (.q 9 (.q 10 (.q 11 (.q 12 (.l 13 (.q 14 (.q 15 (.q 16 (.q 17 (.q 18 (.q 19 (.q 20 (.q 21 (.l 22 (.q 23 (.q 24 .nil))))))))))))))))))))))))) (fun w' => Ext w115 w') 25 (by kernel_rfl) (by kernel_rfl) (Ext.drew _) ?_
                      have := World.grownBy.size (Ext.drew w115)
                      refine WO.q rfl rfl rfl rfl (fun w' hE119 => (X.loadOA hO10 hE119 rfl rfl Try.isAgg51 Try.sizeOf51)) ?_
                      refine WO.q rfl rfl rfl rfl (fun w' hE119 => (X.loadOA hO12 hE119 rfl rfl Try.isAgg51 Try.sizeOf51)) ?_
                      refine WO.l ?_
                      refine LO.go rfl rfl (OW.enter rfl (by decide) (X.call Try.call36 (evl_cons rfl (evl_cons rfl evl_nil))) (sameDir_self ((oxT.ext (Ext.drew _)).at hFx) ((oyT.ext (Ext.drew _)).at hFy) rfl) ?_)
                      rintro v121 w120 ⟨rfl, hx122⟩
                      have := World.grownBy.size hx122
                      refine ⟨(Ext.trans (Ext.drew _) hx122), ?_⟩
                      refine WO.q rfl rfl rfl rfl (fun w' hE119 => (X.not rfl)) ?_
                      refine WO.q rfl rfl rfl rfl (fun w' hE119 => (X.moveB rfl)) ?_
                      refine WO.qg rfl rfl rfl rfl rfl (fun w' hE119 => (X.loadOA hO11 hE119 rfl rfl Try.isAgg53 Try.sizeOf53)) ?_
                      refine WO.qg rfl rfl rfl rfl rfl (fun w' hE119 => (X.loadOA hO13 hE119 rfl rfl Try.isAgg53 Try.sizeOf53)) ?_
                      refine WO.l ?_
                      refine LO.gog rfl rfl rfl (OW.enter rfl (by decide) (X.call Try.call47 (evl_cons rfl (evl_cons rfl evl_nil))) (sameRes_self (odx.ext (Ext.trans (Ext.drew _) hx122)).rd (ody.ext (Ext.trans (Ext.drew _) hx122)).rd ⟨rfl, rfl⟩) ?_)
                      rintro v126 w125 ⟨rfl, hx127⟩
                      have := World.grownBy.size hx127
                      refine ⟨(Ext.trans (Ext.trans (Ext.drew _) hx122) hx127), ?_⟩
                      refine WO.qg rfl rfl rfl rfl rfl (fun w' hE119 => (X.not rfl)) ?_
                      refine WO.q rfl rfl rfl rfl (fun w' hE119 => (X.pickF rfl rfl rfl)) ?_
                      refine WO.q rfl rfl rfl rfl (fun w' hE119 => (X.moveB rfl)) ?_
                      refine WO.qg rfl rfl rfl rfl rfl (fun w' hE119 => (X.loadOA hO8 hE119 rfl rfl Try.isAgg51 Try.sizeOf51)) ?_
                      refine WO.qg rfl rfl rfl rfl rfl (fun w' hE119 => (X.loadOA hO6 hE119 ((hAL1.eq 6).trans (congrFun hF43 6)) rfl Try.isAgg51 Try.sizeOf51)) ?_
                      refine WO.l ?_
                      refine LO.gog rfl rfl rfl (OW.enter rfl (by decide) (X.call Try.call36 (evl_cons rfl (evl_cons rfl evl_nil))) (sameDir_self ((oiT.ext (Ext.trans (Ext.trans (Ext.drew _) hx122) hx127)).at hFi) ((onT.ext (Ext.trans (Ext.trans (Ext.drew _) hx122) hx127)).at hFn) rfl) ?_)
                      rintro v131 w130 ⟨rfl, hx132⟩
                      have := World.grownBy.size hx132
                      refine ⟨(Ext.trans (Ext.trans (Ext.trans (Ext.drew _) hx122) hx127) hx132), ?_⟩
                      refine WO.qg rfl rfl rfl rfl rfl (fun w' hE119 => (X.not rfl)) ?_
                      refine WO.q rfl rfl rfl rfl (fun w' hE119 => (X.pickF rfl rfl rfl)) ?_
                      refine WO.q rfl rfl rfl rfl (fun w' hE119 => (X.moveB rfl)) ?_
                      refine WO.qg rfl rfl rfl rfl rfl (fun w' hE119 => (X.loadOA hO9 hE119 rfl rfl Try.isAgg72 Try.sizeOf72)) ?_
                      refine WO.qg rfl rfl rfl rfl rfl (fun w' hE119 => (X.move ((hAL1.eq 1).trans ((congrFun hF43 1).trans ((hAL0.eq 1).trans (congrFun hF22 1)))))) ?_
                      refine WO.qg rfl rfl rfl rfl rfl (fun w' hE119 => (X.moveI e7_L1)) ?_
                      refine WO.qg rfl rfl rfl rfl rfl (fun w' hE119 => (X.idx hr rfl rfl (by omega) Try.underlying67 Try.sizeOf72)) ?_
                      refine WO.qg rfl rfl rfl rfl rfl (fun w' hE119 => (X.loadEl hr (Ext.trans (Ext.store (Ext.trans (Ext.trans (Ext.trans (Ext.store (Ext.trans (Ext.trans (Ext.trans (Ext.trans (Ext.trans (Ext.trans (Ext.trans hwL1 hx50) hx59) (Ext.store hx62 hx67 (by omega))) hx71) (Ext.store hx74 hx78 (by omega))) hx82) (Ext.store (Ext.trans hx85 hx89) hx93 (by omega))) hx97 (by omega)) (Ext.drew _)) hx102) (Ext.store (Ext.trans hx105 hx109) hx113 (by omega))) hx117 (by omega)) hE119) rfl (by omega) hel Try.isAgg72 Try.sizeOf72)) ?_
                      refine WO.l ?_
                      refine LO.gog rfl rfl rfl (OW.enter rfl (by decide) (X.call Try.call48 (evl_cons rfl (evl_cons rfl evl_nil))) (sameOp_self (hAo.ext (hSo.ext (Ext.trans (Ext.trans (Ext.trans (Ext.drew _) hx122) hx127) hx132)).x) (hop.ext (Ext.trans (Ext.trans (Ext.trans (Ext.trans (Ext.store (Ext.trans (Ext.trans (Ext.trans (Ext.store (Ext.trans (Ext.trans (Ext.trans (Ext.trans (Ext.trans (Ext.trans (Ext.trans hwL1 hx50) hx59) (Ext.store hx62 hx67 (by omega))) hx71) (Ext.store hx74 hx78 (by omega))) hx82) (Ext.store (Ext.trans hx85 hx89) hx93 (by omega))) hx97 (by omega)) (Ext.drew _)) hx102) (Ext.store (Ext.trans hx105 hx109) hx113 (by omega))) hx117 (by omega)) (Ext.drew _)) hx122) hx127) hx132))) ?_)
                      rintro v136 w135 ⟨rfl, hx137⟩
                      have := World.grownBy.size hx137
                      refine ⟨(Ext.trans (Ext.trans (Ext.trans (Ext.trans (Ext.drew _) hx122) hx127) hx132) hx137), ?_⟩
                      refine WO.qg rfl rfl rfl rfl rfl (fun w' hE119 => (X.not rfl)) ?_
                      refine WO.q rfl rfl rfl rfl (fun w' hE119 => (X.pickF rfl rfl rfl)) ?_
                      refine WO.nil ?_
                      refine WL.nil ?_
                      refine thn_n ?_
                      refine WF.cond_f rfl ?_
                      refine WF.skip ?_
                      refine thn_n ?_
                      refine WF.seq ?_
                      refine WF.region ?_
                      refine WL.va rfl rfl rfl (X.fieldAddrO (off := 1) rfl Try.underlying53 rfl rfl Try.sizeOf46) ?_
                      refine WL.va rfl rfl rfl (X.loadO hO11 (Ext.trans (Ext.trans (Ext.trans (Ext.trans (Ext.drew _) hx122) hx127) hx132) hx137) rfl rfl Try.isAgg46) ?_
                      replace oxT := (oxT.ext (Ext.trans (Ext.trans (Ext.trans (Ext.trans (Ext.drew _) hx122) hx127) hx132) hx137))
                      refine WL.c rfl rfl rfl (X.call Try.call49 (evl_cons rfl evl_nil)) (spoilBytes_ok dx _ _ Bx (odx.ext (Ext.trans (Ext.trans (Ext.trans (Ext.trans (Ext.drew _) hx122) hx127) hx132) hx137)).own) ?_
                      rintro v141 w140 ⟨_, hx142⟩
                      have := World.grownBy.size hx142
                      replace hO6 := (hO6.ext (Ext.trans (Ext.trans (Ext.trans (Ext.trans (Ext.drew _) hx122) hx127) hx132) hx137)).keptR hx142 (fun b hb => by have h1 := (odx.own.lt b hb).1; have h2 := odx.top b hb; omega)
                      replace onT := (onT.ext (Ext.trans (Ext.trans (Ext.trans (Ext.trans (Ext.drew _) hx122) hx127) hx132) hx137)).kept hx142 (fun b hb => by have h1 := (odx.own.lt b hb).1; have h2 := odx.top b hb; omega)
                      replace oiT := (oiT.ext (Ext.trans (Ext.trans (Ext.trans (Ext.trans (Ext.drew _) hx122) hx127) hx132) hx137)).kept hx142 (fun b hb => by have h1 := (odx.own.lt b hb).1; have h2 := odx.top b hb; omega)
                      replace hO8 := (hO8.ext (Ext.trans (Ext.trans (Ext.trans (Ext.trans (Ext.drew _) hx122) hx127) hx132) hx137)).keptR hx142 (fun b hb => by have h1 := (odx.own.lt b hb).1; have h2 := odx.top b hb; omega)
                      replace hSo := (hSo.ext (Ext.trans (Ext.trans (Ext.trans (Ext.trans (Ext.drew _) hx122) hx127) hx132) hx137)).kept hx142 (fun b hb => by have h1 := (odx.own.lt b hb).1; have h2 := odx.top b hb; omega)
                      replace hO9 := (hO9.ext (Ext.trans (Ext.trans (Ext.trans (Ext.trans (Ext.drew _) hx122) hx127) hx132) hx137)).keptR hx142 (fun b hb => by have h1 := (odx.own.lt b hb).1; have h2 := odx.top b hb; omega)
                      replace hO10 := (hO10.ext (Ext.trans (Ext.trans (Ext.trans (Ext.trans (Ext.drew _) hx122) hx127) hx132) hx137)).keptR hx142 (fun b hb => by have h1 := (odx.own.lt b hb).1; have h2 := odx.top b hb; omega)
                      replace hO11 := (hO11.ext (Ext.trans (Ext.trans (Ext.trans (Ext.trans (Ext.drew _) hx122) hx127) hx132) hx137)).keptR hx142 (fun b hb => by have h1 := (odx.own.lt b hb).1; have h2 := odx.top b hb; omega)
                      replace oyT := (oyT.ext (Ext.trans (Ext.trans (Ext.trans (Ext.trans (Ext.drew _) hx122) hx127) hx132) hx137)).kept hx142 (fun b hb => by have h1 := (odx.own.lt b hb).1; have h2 := odx.top b hb; omega)
                      replace ody := (ody.ext (Ext.trans (Ext.trans (Ext.trans (Ext.trans (Ext.drew _) hx122) hx127) hx132) hx137)).kept hx142 (fun b hb => by have h1 := (odx.own.lt b hb).1; have h2 := odx.top b hb; omega)
                      replace hO12 := (hO12.ext (Ext.trans (Ext.trans (Ext.trans (Ext.trans (Ext.drew _) hx122) hx127) hx132) hx137)).keptR hx142 (fun b hb => by have h1 := (odx.own.lt b hb).1; have h2 := odx.top b hb; omega)
                      replace hO13 := (hO13.ext (Ext.trans (Ext.trans (Ext.trans (Ext.trans (Ext.drew _) hx122) hx127) hx132) hx137)).keptR hx142 (fun b hb => by have h1 := (odx.own.lt b hb).1; have h2 := odx.top b hb; omega)
                      replace oxT := oxT.keptA hx142 hfx
                      refine WL.nil ?_
                      refine thn_n ?_
                      refine WF.seq ?_
                      refine WF.seq ?_
                      refine WF.region ?_
                      refine WL.va rfl rfl rfl (X.loadOA hO10 (Ext.refl _) rfl rfl Try.isAgg51 Try.sizeOf51) ?_
                      refine WL.va rfl rfl rfl (X.loadOA hO12 (Ext.refl _) rfl rfl Try.isAgg51 Try.sizeOf51) ?_
                      refine WL.c rfl rfl rfl (X.call Try.call36 (evl_cons rfl (evl_cons rfl evl_nil))) (sameDir_self (oxT.at hFx) (oyT.at hFy) rfl) ?_
                      rintro v144 w143 ⟨rfl, hx145⟩
                      have := World.grownBy.size hx145
                      refine WL.va rfl rfl rfl (X.not rfl) ?_
                      refine WL.nil ?_
                      refine thn_n ?_
                      refine WF.cond_f rfl ?_
                      refine WF.skip ?_
                      refine thn_n ?_
                      refine WF.seq ?_
                      refine WF.region ?_
                      refine WL.va rfl rfl rfl (X.loadOA hO10 hx145 rfl rfl Try.isAgg51 Try.sizeOf51) ?_
                      refine WL.c rfl rfl rfl (X.call Try.call37 (evl_cons rfl evl_nil)) (spoilDir_ok (appF now (l[k]'hk).n).1 vx ux Fx _ Bx Tx (oxT.ext hx145)) ?_
                      rintro v149 w148 hcS
                      have := hcS.size
                      replace hO6 := (hO6.ext hx145).chg hcS (by omega)
                      replace onT := (onT.ext hx145).chg hcS (by omega)
                      replace oiT := (oiT.ext hx145).chg hcS (by omega)
                      replace hO8 := (hO8.ext hx145).chg hcS (by omega)
                      replace hSo := (hSo.ext hx145).chg hcS (by omega)
                      replace hO9 := (hO9.ext hx145).chg hcS (by omega)
                      replace hO10 := (hO10.ext hx145).chg hcS (by omega)
                      replace hO11 := (hO11.ext hx145).chg hcS (by omega)
                      replace oyT := (oyT.ext hx145).chg hcS (by omega)
                      replace ody := (ody.ext hx145).chg hcS (by omega)
                      replace hO12 := (hO12.ext hx145).chg hcS (by omega)
                      replace hO13 := (hO13.ext hx145).chg hcS (by omega)
                      refine WL.nil ?_
                      refine thn_n ?_
                      refine WF.seq ?_
                      refine WF.seq ?_
                      refine WF.region ?_
                      refine WL.va rfl rfl rfl (X.loadOA hO8 (Ext.refl _) rfl rfl Try.isAgg51 Try.sizeOf51) ?_
                      refine WL.va rfl rfl rfl (X.loadOA hO6 (Ext.refl _) ((hAL1.eq 6).trans (congrFun hF43 6)) rfl Try.isAgg51 Try.sizeOf51) ?_
                      refine WL.c rfl rfl rfl (X.call Try.call36 (evl_cons rfl (evl_cons rfl evl_nil))) (sameDir_self (oiT.at hFi) (onT.at hFn) rfl) ?_
                      rintro v152 w151 ⟨rfl, hx153⟩
                      have := World.grownBy.size hx153
                      refine WL.va rfl rfl rfl (X.not rfl) ?_
                      refine WL.nil ?_
                      refine thn_n ?_
                      refine WF.cond_f rfl ?_
                      refine WF.skip ?_
                      refine thn_n ?_
                      refine WF.region ?_
                      refine WL.va rfl rfl rfl (X.loadOA hO12 hx153 rfl rfl Try.isAgg51 Try.sizeOf51) ?_
                      refine WL.op rfl (OW.storeOA (hO6.ext hx153) ((hAL1.eq 6).trans (congrFun hF43 6)) rfl rfl (Dr.c_one _ oyT.rng.rd (own_one oyT.ses.own.row)) Try.sizeOf51 ?_)
                      intro w156 hO6 hx158
                      have := World.grownBy.size hx158
                      replace hO8 := (hO8.ext hx153).keptO hx158 (by omega)
                      replace hO9 := (hO9.ext hx153).keptO hx158 (by omega)
                      replace hO10 := (hO10.ext hx153).keptO hx158 (by omega)
                      replace hO11 := (hO11.ext hx153).keptO hx158 (by omega)
                      replace oyT := (oyT.ext hx153).keptO hx158 (by omega)
                      replace ody := (ody.ext hx153).keptO hx158 (by omega)
                      replace hO12 := (hO12.ext hx153).keptO hx158 (by omega)
                      replace hO13 := (hO13.ext hx153).keptO hx158 (by omega)
                      replace hO6 : Blk _ _ _ ((appF now (l[k]'hk).n).1.c vy uy) := hO6
                      refine WL.nil ?_
                      refine blk_n ?_
                      refine thn_n ?_
                      refine WF.region ?_
                      refine WL.va rfl rfl rfl (X.moveI e7_L1) ?_
                      refine WL.va rfl rfl rfl (X.add rfl rfl (w64 (by omega))) ?_
                      refine WL.va rfl rfl rfl (X.assignI rfl) ?_
                      refine WL.nil ?_
                      exact thn_n ⟨_, (by omega), k + 1, (appF now (l[k]'hk).n).1, vy, uy, Fy, By, Ty, rfl, rfl, (by repeat (first | exact hAL1 | refine Agree.put ?_ rfl | refine Agree.sub hAL0 rfl ?_ | refine Agree.named hF43 ?_ | refine Agree.named hF22 ?_)), (Ext.store (Ext.trans (Chg.ext (Ext.trans (grown_trans (Ext.trans (Ext.trans (Ext.trans (Ext.trans (Ext.trans (Ext.store (Ext.trans (Ext.trans (Ext.trans (Ext.store (Ext.trans (Ext.trans (Ext.trans (Ext.trans (Ext.trans (Ext.trans (Ext.trans hwL1 hx50) hx59) (Ext.store hx62 hx67 (by omega))) hx71) (Ext.store hx74 hx78 (by omega))) hx82) (Ext.store (Ext.trans hx85 hx89) hx93 (by omega))) hx97 (by omega)) (Ext.drew _)) hx102) (Ext.store (Ext.trans hx105 hx109) hx113 (by omega))) hx117 (by omega)) (Ext.drew _)) hx122) hx127) hx132) hx137) hx142 (fun i hi => by have := (odx.own.lt i hi).1; omega)) hx145) hcS (by omega)) hx153) hx158 (by omega)), ⟨by omega, by omega, app_good hng _, Nat.le_trans (app_len now _) (by omega), app_data hng _ hnD, hFy, hO6, oyT, by omega, .inl (by omega)⟩⟩
                    · refine LO.go rfl rfl (OW.allocO (cs := [i64 0, .slice none 0 0]) Try.zeroValue53 rfl ?_ (by decide))
                      intro g13 w160 heg13 hlg13 hO13 hx162
                      have := World.grownBy.size hx162
                      refine ⟨(Ext.trans (Ext.trans (Ext.drew _) hx102) hx162), ?_⟩
                      refine WO.l ?_
                      refine LO.go rfl rfl (OW.allocO (cs := [.slice none 0 0, i64 0, i64 0, i64 0, i64 0, i64 0, i64 0, .slice none 0 0]) Try.zeroValue51 rfl ?_ (by decide))
                      intro g12 w164 heg12 hlg12 hO12 hx166
                      have := World.grownBy.size hx166
                      refine ⟨(Ext.trans (Ext.trans (Ext.trans (Ext.drew _) hx102) hx162) hx166), ?_⟩
                      refine WO.l ?_
                      refine LO.go rfl rfl (OW.storeOA hO12 rfl rfl rfl (Dr.c_one _ oyT.rng.rd (own_one oyT.ses.own.row)) Try.sizeOf51 ?_)
                      intro w168 hO12 hx170
                      have := World.grownBy.size hx170
                      replace hO6 := (hO6.ext (Ext.trans (Ext.trans (Ext.trans (Ext.drew _) hx102) hx162) hx166)).keptO hx170 (by omega)
                      replace onT := (onT.ext (Ext.trans (Ext.trans (Ext.trans (Ext.drew _) hx102) hx162) hx166)).keptO hx170 (by omega)
                      replace oiT := (oiT.ext (Ext.trans (Ext.trans (Ext.trans (Ext.drew _) hx102) hx162) hx166)).keptO hx170 (by omega)
                      replace hO8 := (hO8.ext (Ext.trans (Ext.trans (Ext.trans (Ext.drew _) hx102) hx162) hx166)).keptO hx170 (by omega)
                      replace hSo := (hSo.ext (Ext.trans (Ext.trans (Ext.trans (Ext.drew _) hx102) hx162) hx166)).keptO hx170 (by omega)
                      replace hO9 := (hO9.ext (Ext.trans (Ext.trans (Ext.trans (Ext.drew _) hx102) hx162) hx166)).keptO hx170 (by omega)
                      replace oxT := (oxT.ext (Ext.trans (Ext.trans (Ext.trans (Ext.drew _) hx102) hx162) hx166)).keptO hx170 (by omega)
                      replace odx := (odx.ext (Ext.trans (Ext.trans (Ext.trans (Ext.drew _) hx102) hx162) hx166)).keptO hx170 (by omega)
                      replace hO10 := (hO10.ext (Ext.trans (Ext.trans (Ext.trans (Ext.drew _) hx102) hx162) hx166)).keptO hx170 (by omega)
                      replace hO11 := (hO11.ext (Ext.trans (Ext.trans (Ext.trans (Ext.drew _) hx102) hx162) hx166)).keptO hx170 (by omega)
                      replace oyT := (oyT.ext (Ext.trans hx162 hx166)).keptO hx170 (by omega)
                      replace ody := (ody.ext (Ext.trans hx162 hx166)).keptO hx170 (by omega)
                      replace hO13 := (hO13.ext hx166).keptO hx170 (by omega)
                      replace hO12 : Blk _ _ _ ((appF now (l[k]'hk).n).1.c vy uy) := hO12
                      refine ⟨(Ext.trans (Ext.trans (Ext.trans (Ext.drew _) hx102) hx162) (Ext.store hx166 hx170 (by omega))), ?_⟩
                      refine WO.nil ?_
                      refine WL.op rfl (OW.storeOA hO13 rfl rfl rfl (ones2 _ (own_one ody.own)) Try.sizeOf53 ?_)
                      intro w172 hO13 hx174
                      have := World.grownBy.size hx174
                      replace hO6 := hO6.keptO hx174 (by omega)
                      replace onT := onT.keptO hx174 (by omega)
                      replace oiT := oiT.keptO hx174 (by omega)
                      replace hO8 := hO8.keptO hx174 (by omega)
                      replace hSo := hSo.keptO hx174 (by omega)
                      replace hO9 := hO9.keptO hx174 (by omega)
                      replace oxT := oxT.keptO hx174 (by omega)
                      replace odx := odx.keptO hx174 (by omega)
                      replace hO10 := hO10.keptO hx174 (by omega)
                      replace hO11 := hO11.keptO hx174 (by omega)
                      replace oyT := oyT.keptO hx174 (by omega)
                      replace ody := ody.keptO hx174 (by omega)
                      replace hO12 := hO12.keptO hx174 (by omega)
                      refine WL.nil ?_
                      refine thn_n ?_
                      refine WF.seq ?_
                      refine WF.seq ?_
                      refine WF.drawn (.q 0 (.q 1 (.l 2 (.q 3 (.q 4 (.q 5 (.q 6 (.l 7 (.q 8 (.q 9 (.q 10 (.q 11 (.q 12 (.l 13 (.q 14 (.q 15 (.q 16 (.q 17 (.q 18 (.q 19 (.q 20 (.q 21 (.l 22 (.q 23 (.q 24 .nil))))))))))))))))))))))))) (fun w' => Ext w172 w') 25 (by kernel_rfl) (by kernel_rfl) (Ext.drew _) ?_
                      have := World.grownBy.size (Ext.drew w172)
                      refine WO.q rfl rfl rfl rfl (fun w' hE176 => (X.loadOA hO10 hE176 rfl rfl Try.isAgg51 Try.sizeOf51)) ?_
                      refine WO.q rfl rfl rfl rfl (fun w' hE176 => (X.loadOA hO12 hE176 rfl rfl Try.isAgg51 Try.sizeOf51)) ?_
                      refine WO.l ?_
                      refine LO.go rfl rfl (OW.enter rfl (by decide) (X.call Try.call36 (evl_cons rfl (evl_cons rfl evl_nil))) (sameDir_self ((oxT.ext (Ext.drew _)).at hFx) ((oyT.ext (Ext.drew _)).at hFy) rfl) ?_)
                      rintro v178 w177 ⟨rfl, hx179⟩
                      have := World.grownBy.size hx179
                      refine ⟨(Ext.trans (Ext.drew _) hx179), ?_⟩
                      refine WO.q rfl rfl rfl rfl (fun w' hE176 => (X.not rfl)) ?_
                      refine WO.q rfl rfl rfl rfl (fun w' hE176 => (X.moveB rfl)) ?_
                      refine WO.qg rfl rfl rfl rfl rfl (fun w' hE176 => (X.loadOA hO11 hE176 rfl rfl Try.isAgg53 Try.sizeOf53)) ?_
                      refine WO.qg rfl rfl rfl rfl rfl (fun w' hE176 => (X.loadOA hO13 hE176 rfl rfl Try.isAgg53 Try.sizeOf53)) ?_
                      refine WO.l ?_
                      refine LO.gog rfl rfl rfl (OW.enter rfl (by decide) (X.call Try.call47 (evl_cons rfl (evl_cons rfl evl_nil))) (sameRes_self (odx.ext (Ext.trans (Ext.drew _) hx179)).rd (ody.ext (Ext.trans (Ext.drew _) hx179)).rd ⟨rfl, rfl⟩) ?_)
                      rintro v183 w182 ⟨rfl, hx184⟩
                      have := World.grownBy.size hx184
                      refine ⟨(Ext.trans (Ext.trans (Ext.drew _) hx179) hx184), ?_⟩
                      refine WO.qg rfl rfl rfl rfl rfl (fun w' hE176 => (X.not rfl)) ?_
                      refine WO.q rfl rfl rfl rfl (fun w' hE176 => (X.pickF rfl rfl rfl)) ?_
                      refine WO.q rfl rfl rfl rfl (fun w' hE176 => (X.moveB rfl)) ?_
                      refine WO.qg rfl rfl rfl rfl rfl (fun w' hE176 => (X.loadOA hO8 hE176 rfl rfl Try.isAgg51 Try.sizeOf51)) ?_
                      refine WO.qg rfl rfl rfl rfl rfl (fun w' hE176 => (X.loadOA hO6 hE176 ((hAL1.eq 6).trans (congrFun hF43 6)) rfl Try.isAgg51 Try.sizeOf51)) ?_
                      refine WO.l ?_
                      refine LO.gog rfl rfl rfl (OW.enter rfl (by decide) (X.call Try.call36 (evl_cons rfl (evl_cons rfl evl_nil))) (sameDir_self ((oiT.ext (Ext.trans (Ext.trans (Ext.drew _) hx179) hx184)).at hFi) ((onT.ext (Ext.trans (Ext.trans (Ext.drew _) hx179) hx184)).at hFn) rfl) ?_)
                      rintro v188 w187 ⟨rfl, hx189⟩
                      have := World.grownBy.size hx189
                      refine ⟨(Ext.trans (Ext.trans (Ext.trans (Ext.drew _) hx179) hx184) hx189), ?_⟩
                      refine WO.qg rfl rfl rfl rfl rfl (fun w' hE176 => (X.not rfl)) ?_
                      refine WO.q rfl rfl rfl rfl (fun w' hE176 => (X.pickF rfl rfl rfl)) ?_
                      refine WO.q rfl rfl rfl rfl (fun w' hE176 => (X.moveB rfl)) ?_
                      refine WO.qg rfl rfl rfl rfl rfl (fun w' hE176 => (X.loadOA hO9 hE176 rfl rfl Try.isAgg72 Try.sizeOf72)) ?_
                      refine WO.qg rfl rfl rfl rfl rfl (fun w' hE176 => (X.move ((hAL1.eq 1).trans ((congrFun hF43 1).trans ((hAL0.eq 1).trans (congrFun hF22 1)))))) ?_
                      refine WO.qg rfl rfl rfl rfl rfl (fun w' hE176 => (X.moveI e7_L1)) ?_
                      refine WO.qg rfl rfl rfl rfl rfl (fun w' hE176 => (X.idx hr rfl rfl (by omega) Try.underlying67 Try.sizeOf72)) ?_
                      refine WO.qg rfl rfl rfl rfl rfl (fun w' hE176 => (X.loadEl hr (Ext.trans (Ext.trans (Ext.trans (Ext.trans (Ext.store (Ext.trans (Ext.trans (Ext.trans (Ext.trans (Ext.trans (Ext.trans (Ext.trans hwL1 hx50) hx59) (Ext.store hx62 hx67 (by omega))) hx71) (Ext.store hx74 hx78 (by omega))) hx82) (Ext.store (Ext.trans hx85 hx89) hx93 (by omega))) hx97 (by omega)) (Ext.drew _)) hx102) (Ext.store (Ext.trans hx162 (Ext.store hx166 hx170 (by omega))) hx174 (by omega))) hE176) rfl (by omega) hel Try.isAgg72 Try.sizeOf72)) ?_
                      refine WO.l ?_
                      refine LO.gog rfl rfl rfl (OW.enter rfl (by decide) (X.call Try.call48 (evl_cons rfl (evl_cons rfl evl_nil))) (sameOp_self (hAo.ext (hSo.ext (Ext.trans (Ext.trans (Ext.trans (Ext.drew _) hx179) hx184) hx189)).x) (hop.ext (Ext.trans (Ext.trans (Ext.trans (Ext.trans (Ext.trans (Ext.trans (Ext.trans (Ext.store (Ext.trans (Ext.trans (Ext.trans (Ext.trans (Ext.trans (Ext.trans (Ext.trans hwL1 hx50) hx59) (Ext.store hx62 hx67 (by omega))) hx71) (Ext.store hx74 hx78 (by omega))) hx82) (Ext.store (Ext.trans hx85 hx89) hx93 (by omega))) hx97 (by omega)) (Ext.drew _)) hx102) (Ext.store (Ext.trans hx162 (Ext.store hx166 hx170 (by omega))) hx174 (by omega))) (Ext.drew _)) hx179) hx184) hx189))) ?_)
                      rintro v193 w192 ⟨rfl, hx194⟩
                      have := World.grownBy.size hx194
                      refine ⟨(Ext.trans (Ext.trans (Ext.trans (Ext.trans (Ext.drew _) hx179) hx184) hx189) hx194), ?_⟩
                      refine WO.qg rfl rfl rfl rfl rfl (fun w' hE176 => (X.not rfl)) ?_
                      refine WO.q rfl rfl rfl rfl (fun w' hE176 => (X.pickF rfl rfl rfl)) ?_
                      refine WO.nil ?_
                      refine WL.nil ?_
                      refine thn_n ?_
                      refine WF.cond_f rfl ?_
                      refine WF.skip ?_
                      refine thn_n ?_
                      refine WF.seq ?_
                      refine WF.region ?_
                      refine WL.va rfl rfl rfl (X.fieldAddrO (off := 1) rfl Try.underlying53 rfl rfl Try.sizeOf46) ?_
                      refine WL.va rfl rfl rfl (X.loadO hO11 (Ext.trans (Ext.trans (Ext.trans (Ext.trans (Ext.drew _) hx179) hx184) hx189) hx194) rfl rfl Try.isAgg46) ?_
                      replace oxT := (oxT.ext (Ext.trans (Ext.trans (Ext.trans (Ext.trans (Ext.drew _) hx179) hx184) hx189) hx194))
                      refine WL.c rfl rfl rfl (X.call Try.call49 (evl_cons rfl evl_nil)) (spoilBytes_ok dx _ _ Bx (odx.ext (Ext.trans (Ext.trans (Ext.trans (Ext.trans (Ext.drew _) hx179) hx184) hx189) hx194)).own) ?_
                      rintro v198 w197 ⟨_, hx199⟩
                      have := World.grownBy.size hx199
                      replace hO6 := (hO6.ext (Ext.trans (Ext.trans (Ext.trans (Ext.trans (Ext.drew _) hx179) hx184) hx189) hx194)).keptR hx199 (fun b hb => by have h1 := (odx.own.lt b hb).1; have h2 := odx.top b hb; omega)
                      replace onT := (onT.ext (Ext.trans (Ext.trans (Ext.trans (Ext.trans (Ext.drew _) hx179) hx184) hx189) hx194)).kept hx199 (fun b hb => by have h1 := (odx.own.lt b hb).1; have h2 := odx.top b hb; omega)
                      replace oiT := (oiT.ext (Ext.trans (Ext.trans (Ext.trans (Ext.trans (Ext.drew _) hx179) hx184) hx189) hx194)).kept hx199 (fun b hb => by have h1 := (odx.own.lt b hb).1; have h2 := odx.top b hb; omega)
                      replace hO8 := (hO8.ext (Ext.trans (Ext.trans (Ext.trans (Ext.trans (Ext.drew _) hx179) hx184) hx189) hx194)).keptR hx199 (fun b hb => by have h1 := (odx.own.lt b hb).1; have h2 := odx.top b hb; omega)
                      replace hSo := (hSo.ext (Ext.trans (Ext.trans (Ext.trans (Ext.trans (Ext.drew _) hx179) hx184) hx189) hx194)).kept hx199 (fun b hb => by have h1 := (odx.own.lt b hb).1; have h2 := odx.top b hb; omega)
                      replace hO9 := (hO9.ext (Ext.trans (Ext.trans (Ext.trans (Ext.trans (Ext.drew _) hx179) hx184) hx189) hx194)).keptR hx199 (fun b hb => by have h1 := (odx.own.lt b hb).1; have h2 := odx.top b hb; omega)
                      replace hO10 := (hO10.ext (Ext.trans (Ext.trans (Ext.trans (Ext.trans (Ext.drew _) hx179) hx184) hx189) hx194)).keptR hx199 (fun b hb => by have h1 := (odx.own.lt b hb).1; have h2 := odx.top b hb; omega)
                      replace hO11 := (hO11.ext (Ext.trans (Ext.trans (Ext.trans (Ext.trans (Ext.drew _) hx179) hx184) hx189) hx194)).keptR hx199 (fun b hb => by have h1 := (odx.own.lt b hb).1; have h2 := odx.top b hb; omega)
                      replace oyT := (oyT.ext (Ext.trans (Ext.trans (Ext.trans (Ext.trans (Ext.drew _) hx179) hx184) hx189) hx194)).kept hx199 (fun b hb => by have h1 := (odx.own.lt b hb).1; have h2 := odx.top b hb; omega)
                      replace ody := (ody.ext (Ext.trans (Ext.trans (Ext.trans (Ext.trans (Ext.drew _) hx179) hx184) hx189) hx194)).kept hx199 (fun b hb => by have h1 := (odx.own.lt b hb).1; have h2 := odx.top b hb; omega)
                      replace hO13 := (hO13.ext (Ext.trans (Ext.trans (Ext.trans (Ext.trans (Ext.drew _) hx179) hx184) hx189) hx194)).keptR hx199 (fun b hb => by have h1 := (odx.own.lt b hb).1; have h2 := odx.top b hb; omega)
                      replace hO12 := (hO12.ext (Ext.trans (Ext.trans (Ext.trans (Ext.trans (Ext.drew _) hx179) hx184) hx189) hx194)).keptR hx199 (fun b hb => by have h1 := (odx.own.lt b hb).1; have h2 := odx.top b hb; omega)
                      replace oxT := oxT.keptA hx199 hfx
                      refine WL.nil ?_
                      refine thn_n ?_
                      refine WF.seq ?_
                      refine WF.seq ?_
                      refine WF.region ?_
                      refine WL.va rfl rfl rfl (X.loadOA hO10 (Ext.refl _) rfl rfl Try.isAgg51 Try.sizeOf51) ?_
                      refine WL.va rfl rfl rfl (X.loadOA hO12 (Ext.refl _) rfl rfl Try.isAgg51 Try.sizeOf51) ?_
                      refine WL.c rfl rfl rfl (X.call Try.call36 (evl_cons rfl (evl_cons rfl evl_nil))) (sameDir_self (oxT.at hFx) (oyT.at hFy) rfl) ?_
                      rintro v201 w200 ⟨rfl, hx202⟩
                      have := World.grownBy.size hx202
                      refine WL.va rfl rfl rfl (X.not rfl) ?_
                      refine WL.nil ?_
                      refine thn_n ?_
                      refine WF.cond_f rfl ?_
                      refine WF.skip ?_
                      refine thn_n ?_
                      refine WF.seq ?_
                      refine WF.region ?_
                      refine WL.va rfl rfl rfl (X.loadOA hO10 hx202 rfl rfl Try.isAgg51 Try.sizeOf51) ?_
                      refine WL.c rfl rfl rfl (X.call Try.call37 (evl_cons rfl evl_nil)) (spoilDir_ok (appF now (l[k]'hk).n).1 vx ux Fx _ Bx Tx (oxT.ext hx202)) ?_
                      rintro v206 w205 hcS
                      have := hcS.size
                      replace hO6 := (hO6.ext hx202).chg hcS (by omega)
                      replace onT := (onT.ext hx202).chg hcS (by omega)
                      replace oiT := (oiT.ext hx202).chg hcS (by omega)
                      replace hO8 := (hO8.ext hx202).chg hcS (by omega)
                      replace hSo := (hSo.ext hx202).chg hcS (by omega)
                      replace hO9 := (hO9.ext hx202).chg hcS (by omega)
                      replace hO10 := (hO10.ext hx202).chg hcS (by omega)
                      replace hO11 := (hO11.ext hx202).chg hcS (by omega)
                      replace oyT := (oyT.ext hx202).chg hcS (by omega)
                      replace ody := (ody.ext hx202).chg hcS (by omega)
                      replace hO13 := (hO13.ext hx202).chg hcS (by omega)
                      replace hO12 := (hO12.ext hx202).chg hcS (by omega)
                      refine WL.nil ?_
                      refine thn_n ?_
                      refine WF.seq ?_
                      refine WF.seq ?_
                      refine WF.region ?_
                      refine WL.va rfl rfl rfl (X.loadOA hO8 (Ext.refl _) rfl rfl Try.isAgg51 Try.sizeOf51) ?_
                      refine WL.va rfl rfl rfl (X.loadOA hO6 (Ext.refl _) ((hAL1.eq 6).trans (congrFun hF43 6)) rfl Try.isAgg51 Try.sizeOf51) ?_
                      refine WL.c rfl rfl rfl (X.call Try.call36 (evl_cons rfl (evl_cons rfl evl_nil))) (sameDir_self (oiT.at hFi) (onT.at hFn) rfl) ?_
                      rintro v209 w208 ⟨rfl, hx210⟩
                      have := World.grownBy.size hx210
                      refine WL.va rfl rfl rfl (X.not rfl) ?_
                      refine WL.nil ?_
                      refine thn_n ?_
                      refine WF.cond_f rfl ?_
                      refine WF.skip ?_
                      refine thn_n ?_
                      refine WF.region ?_
                      refine WL.va rfl rfl rfl (X.loadOA hO12 hx210 rfl rfl Try.isAgg51 Try.sizeOf51) ?_
                      refine WL.op rfl (OW.storeOA (hO6.ext hx210) ((hAL1.eq 6).trans (congrFun hF43 6)) rfl rfl (Dr.c_one _ oyT.rng.rd (own_one oyT.ses.own.row)) Try.sizeOf51 ?_)
                      intro w213 hO6 hx215
                      have := World.grownBy.size hx215
                      replace hO8 := (hO8.ext hx210).keptO hx215 (by omega)
                      replace hO9 := (hO9.ext hx210).keptO hx215 (by omega)
                      replace hO10 := (hO10.ext hx210).keptO hx215 (by omega)
                      replace hO11 := (hO11.ext hx210).keptO hx215 (by omega)
                      replace oyT := (oyT.ext hx210).keptO hx215 (by omega)
                      replace ody := (ody.ext hx210).keptO hx215 (by omega)
                      replace hO13 := (hO13.ext hx210).keptO hx215 (by omega)
                      replace hO12 := (hO12.ext hx210).keptO hx215 (by omega)
                      replace hO6 : Blk _ _ _ ((appF now (l[k]'hk).n).1.c vy uy) := hO6
                      refine WL.nil ?_
                      refine blk_n ?_
                      refine thn_n ?_
                      refine WF.region ?_
                      refine WL.va rfl rfl rfl (X.moveI e7_L1) ?_
                      refine WL.va rfl rfl rfl (X.add rfl rfl (w64 (by omega))) ?_
                      refine WL.va rfl rfl rfl (X.assignI rfl) ?_
                      refine WL.nil ?_
                      exact thn_n ⟨_, (by omega), k + 1, (appF now (l[k]'hk).n).1, vy, uy, Fy, By, Ty, rfl, rfl, (by repeat (first | exact hAL1 | refine Agree.put ?_ rfl | refine Agree.sub hAL0 rfl ?_ | refine Agree.named hF43 ?_ | refine Agree.named hF22 ?_)), (Ext.store (Ext.trans (Chg.ext (Ext.trans (grown_trans (Ext.trans (Ext.trans (Ext.trans (Ext.trans (Ext.trans (Ext.trans (Ext.trans (Ext.trans (Ext.store (Ext.trans (Ext.trans (Ext.trans (Ext.trans (Ext.trans (Ext.trans (Ext.trans hwL1 hx50) hx59) (Ext.store hx62 hx67 (by omega))) hx71) (Ext.store hx74 hx78 (by omega))) hx82) (Ext.store (Ext.trans hx85 hx89) hx93 (by omega))) hx97 (by omega)) (Ext.drew _)) hx102) (Ext.store (Ext.trans hx162 (Ext.store hx166 hx170 (by omega))) hx174 (by omega))) (Ext.drew _)) hx179) hx184) hx189) hx194) hx199 (fun i hi => by have := (odx.own.lt i hi).1; omega)) hx202) hcS (by omega)) hx210) hx215 (by omega)), ⟨by omega, by omega, app_good hng _, Nat.le_trans (app_len now _) (by omega), app_data hng _ hnD, hFy, hO6, oyT, by omega, .inl (by omega)⟩⟩
                  · refine LO.go rfl rfl (OW.allocO (cs := [.slice none 0 0, i64 0, i64 0, i64 0, i64 0, i64 0, i64 0, .slice none 0 0]) Try.zeroValue51 rfl ?_ (by decide))
                    intro g12 w217 heg12 hlg12 hO12 hx219
                    have := World.grownBy.size hx219
                    refine ⟨(Ext.trans (Ext.drew _) hx219), ?_⟩
                    refine WO.b2 ?_ ?_
                    · obtain ⟨By, hBy⟩ : ∃ B, B = w217.heap.size := ⟨_, rfl⟩
                      refine LO.go rfl rfl (OW.enter rfl (by decide) (X.call Try.call46 (evl_cons rfl (evl_cons rfl evl_nil))) (applyR_ok now vn un vP vR vW vD (l[k]'hk) _ ((onT.ext (Ext.trans (Ext.drew _) hx219)).at hFn) hng (by omega) (fun s hs => Nat.le_trans (hnD s hs) (by decide)) (hop.ext (Ext.trans (Ext.trans (Ext.store (Ext.trans (Ext.trans (Ext.trans (Ext.trans (Ext.trans (Ext.trans (Ext.trans hwL1 hx50) hx59) (Ext.store hx62 hx67 (by omega))) hx71) (Ext.store hx74 hx78 (by omega))) hx82) (Ext.store (Ext.trans hx85 hx89) hx93 (by omega))) hx97 (by omega)) (Ext.drew _)) hx219))) ?_)
                      rintro v222 w221 ⟨⟨vy, uy, dy, Fy, rfl, hFy, oyT, ody, _⟩, hx223⟩
                      have := World.grownBy.size hx223
                      refine ⟨(Ext.trans (Ext.trans (Ext.drew _) hx219) hx223), ?_⟩
                      obtain ⟨Ty, hTy⟩ : ∃ T, T = w221.heap.size := ⟨_, rfl⟩
                      rw [← hBy, ← hTy] at oyT ody
                      refine WO.q rfl rfl rfl rfl (fun w' hE99 => (X.move rfl)) ?_
                      refine WO.q rfl rfl rfl rfl (fun w' hE99 => (X.extract rfl rfl)) ?_
                      refine WO.q rfl rfl rfl rfl (fun w' hE99 => (X.extract rfl rfl)) ?_
                      refine WO.l ?_
                      refine LO.go rfl rfl (OW.allocO (cs := [i64 0, .slice none 0 0]) Try.zeroValue53 rfl ?_ (by decide))
                      intro g13 w224 heg13 hlg13 hO13 hx226
                      have := World.grownBy.size hx226
                      refine ⟨(Ext.trans (Ext.trans (Ext.trans (Ext.drew _) hx219) hx223) hx226), ?_⟩
                      refine WO.l ?_
                      refine LO.go rfl rfl (OW.storeOA (hO12.ext (Ext.trans hx223 hx226)) rfl rfl rfl (Dr.c_one _ oyT.rng.rd (own_one oyT.ses.own.row)) Try.sizeOf51 ?_)
                      intro w228 hO12 hx230
                      have := World.grownBy.size hx230
                      replace hO6 := (hO6.ext (Ext.trans (Ext.trans (Ext.trans (Ext.drew _) hx219) hx223) hx226)).keptO hx230 (by omega)
                      replace onT := (onT.ext (Ext.trans (Ext.trans (Ext.trans (Ext.drew _) hx219) hx223) hx226)).keptO hx230 (by omega)
                      replace oiT := (oiT.ext (Ext.trans (Ext.trans (Ext.trans (Ext.drew _) hx219) hx223) hx226)).keptO hx230 (by omega)
                      replace hO8 := (hO8.ext (Ext.trans (Ext.trans (Ext.trans (Ext.drew _) hx219) hx223) hx226)).keptO hx230 (by omega)
                      replace hSo := (hSo.ext (Ext.trans (Ext.trans (Ext.trans (Ext.drew _) hx219) hx223) hx226)).keptO hx230 (by omega)
                      replace hO9 := (hO9.ext (Ext.trans (Ext.trans (Ext.trans (Ext.drew _) hx219) hx223) hx226)).keptO hx230 (by omega)
                      replace oxT := (oxT.ext (Ext.trans (Ext.trans (Ext.trans (Ext.drew _) hx219) hx223) hx226)).keptO hx230 (by omega)
                      replace odx := (odx.ext (Ext.trans (Ext.trans (Ext.trans (Ext.drew _) hx219) hx223) hx226)).keptO hx230 (by omega)
                      replace hO10 := (hO10.ext (Ext.trans (Ext.trans (Ext.trans (Ext.drew _) hx219) hx223) hx226)).keptO hx230 (by omega)
                      replace hO11 := (hO11.ext (Ext.trans (Ext.trans (Ext.trans (Ext.drew _) hx219) hx223) hx226)).keptO hx230 (by omega)
                      replace oyT := (oyT.ext hx226).keptO hx230 (by omega)
                      replace ody := (ody.ext hx226).keptO hx230 (by omega)
                      replace hO13 := hO13.keptO hx230 (by omega)
                      replace hO12 : Blk _ _ _ ((appF now (l[k]'hk).n).1.c vy uy) := hO12
                      refine ⟨(Ext.trans (Ext.drew _) (Ext.store (Ext.trans (Ext.trans hx219 hx223) hx226) hx230 (by omega))), ?_⟩
                      refine WO.nil ?_
                      refine WL.op rfl (OW.storeOA hO13 rfl rfl rfl (ones2 _ (own_one ody.own)) Try.sizeOf53 ?_)
                      intro w232 hO13 hx234
                      have := World.grownBy.size hx234
                      replace hO6 := hO6.keptO hx234 (by omega)
                      replace onT := onT.keptO hx234 (by omega)
                      replace oiT := oiT.keptO hx234 (by omega)
                      replace hO8 := hO8.keptO hx234 (by omega)
                      replace hSo := hSo.keptO hx234 (by omega)
                      replace hO9 := hO9.keptO hx234 (by omega)
                      replace oxT := oxT.keptO hx234 (by omega)
                      replace odx := odx.keptO hx234 (by omega)
                      replace hO10 := hO10.keptO hx234 (by omega)
                      replace hO11 := hO11.keptO hx234 (by omega)
                      replace hO12 := hO12.keptO hx234 (by omega)
                      replace oyT := oyT.keptO hx234 (by omega)
                      replace ody := ody.keptO hx234 (by omega)
                      refine WL.nil ?_
                      refine thn_n ?_
                      refine WF.seq ?_
                      refine WF.seq ?_
                      refine WF.drawn (.q 0 (.q 1 (.l 2 (.q 3 (.q 4 (.q 5 (.q 6 (.l 7 (.q 8 (.q 9 (.q 10 (.q 11 (.q 12 (.l 13 (.q 14 (.q 15 (.q 16 (.q 17 (.q 18 (.q 19 (.q 20 (.q 21 (.l 22 (.q 23 (.q 24 .nil))))))))))))))))))))))))) (fun w' => Ext w232 w') 25 (by kernel_rfl) (by kernel_rfl) (Ext.drew _) ?_
                      have := World.grownBy.size (Ext.drew w232)
                      refine WO.q rfl rfl rfl rfl (fun w' hE236 => (X.loadOA hO10 hE236 rfl rfl Try.isAgg51 Try.sizeOf51)) ?_
                      refine WO.q rfl rfl rfl rfl (fun w' hE236 => (X.loadOA hO12 hE236 rfl rfl Try.isAgg51 Try.sizeOf51)) ?_
                      refine WO.l ?_
                      refine LO.go rfl rfl (OW.enter rfl (by decide) (X.call Try.call36 (evl_cons rfl (evl_cons rfl evl_nil))) (sameDir_self ((oxT.ext (Ext.drew _)).at hFx) ((oyT.ext (Ext.drew _)).at hFy) rfl) ?_)
                      rintro v238 w237 ⟨rfl, hx239⟩
                      have := World.grownBy.size hx239
                      refine ⟨(Ext.trans (Ext.drew _) hx239), ?_⟩
                      refine WO.q rfl rfl rfl rfl (fun w' hE236 => (X.not rfl)) ?_
                      refine WO.q rfl rfl rfl rfl (fun w' hE236 => (X.moveB rfl)) ?_
                      refine WO.qg rfl rfl rfl rfl rfl (fun w' hE236 => (X.loadOA hO11 hE236 rfl rfl Try.isAgg53 Try.sizeOf53)) ?_
                      refine WO.qg rfl rfl rfl rfl rfl (fun w' hE236 => (X.loadOA hO13 hE236 rfl rfl Try.isAgg53 Try.sizeOf53)) ?_
                      refine WO.l ?_
                      refine LO.gog rfl rfl rfl (OW.enter rfl (by decide) (X.call Try.call47 (evl_cons rfl (evl_cons rfl evl_nil))) (sameRes_self (odx.ext (Ext.trans (Ext.drew _) hx239)).rd (ody.ext (Ext.trans (Ext.drew _) hx239)).rd ⟨rfl, rfl⟩) ?_)
                      rintro v243 w242 ⟨rfl, hx244⟩
                      have := World.grownBy.size hx244
                      refine ⟨(Ext.trans (Ext.trans (Ext.drew _) hx239) hx244), ?_⟩
                      refine WO.qg rfl rfl rfl rfl rfl (fun w' hE236 => (X.not rfl)) ?_
                      refine WO.q rfl rfl rfl rfl (fun w' hE236 => (X.pickF rfl rfl rfl)) ?_
                      refine WO.q rfl rfl rfl rfl (fun w' hE236 => (X.moveB rfl)) ?_
                      refine WO.qg rfl rfl rfl rfl rfl (fun w' hE236 => (X.loadOA hO8 hE236 rfl rfl Try.isAgg51 Try.sizeOf51)) ?_
                      refine WO.qg rfl rfl rfl rfl rfl (fun w' hE236 => (X.loadOA hO6 hE236 ((hAL1.eq 6).trans (congrFun hF43 6)) rfl Try.isAgg51 Try.sizeOf51)) ?_
                      refine WO.l ?_
                      refine LO.gog rfl rfl rfl (OW.enter rfl (by decide) (X.call Try.call36 (evl_cons rfl (evl_cons rfl evl_nil))) (sameDir_self ((oiT.ext (Ext.trans (Ext.trans (Ext.drew _) hx239) hx244)).at hFi) ((onT.ext (Ext.trans (Ext.trans (Ext.drew _) hx239) hx244)).at hFn) rfl) ?_)
                      rintro v248 w247 ⟨rfl, hx249⟩
                      have := World.grownBy.size hx249
                      refine ⟨(Ext.trans (Ext.trans (Ext.trans (Ext.drew _) hx239) hx244) hx249), ?_⟩
                      refine WO.qg rfl rfl rfl rfl rfl (fun w' hE236 => (X.not rfl)) ?_
                      refine WO.q rfl rfl rfl rfl (fun w' hE236 => (X.pickF rfl rfl rfl)) ?_
                      refine WO.q rfl rfl rfl rfl (fun w' hE236 => (X.moveB rfl)) ?_
                      refine WO.qg rfl rfl rfl rfl rfl (fun w' hE236 => (X.loadOA hO9 hE236 rfl rfl Try.isAgg72 Try.sizeOf72)) ?_
                      refine WO.qg rfl rfl rfl rfl rfl (fun w' hE236 => (X.move ((hAL1.eq 1).trans ((congrFun hF43 1).trans ((hAL0.eq 1).trans (congrFun hF22 1)))))) ?_
                      refine WO.qg rfl rfl rfl rfl rfl (fun w' hE236 => (X.moveI e7_L1)) ?_
                      refine WO.qg rfl rfl rfl rfl rfl (fun w' hE236 => (X.idx hr rfl rfl (by omega) Try.underlying67 Try.sizeOf72)) ?_
                      refine WO.qg rfl rfl rfl rfl rfl (fun w' hE236 => (X.loadEl hr (Ext.trans (Ext.store (Ext.trans (Ext.trans (Ext.store (Ext.trans (Ext.trans (Ext.trans (Ext.trans (Ext.trans (Ext.trans (Ext.trans hwL1 hx50) hx59) (Ext.store hx62 hx67 (by omega))) hx71) (Ext.store hx74 hx78 (by omega))) hx82) (Ext.store (Ext.trans hx85 hx89) hx93 (by omega))) hx97 (by omega)) (Ext.drew _)) (Ext.store (Ext.trans (Ext.trans hx219 hx223) hx226) hx230 (by omega))) hx234 (by omega)) hE236) rfl (by omega) hel Try.isAgg72 Try.sizeOf72)) ?_
                      refine WO.l ?_
                      refine LO.gog rfl rfl rfl (OW.enter rfl (by decide) (X.call Try.call48 (evl_cons rfl (evl_cons rfl evl_nil))) (sameOp_self (hAo.ext (hSo.ext (Ext.trans (Ext.trans (Ext.trans (Ext.drew _) hx239) hx244) hx249)).x) (hop.ext (Ext.trans (Ext.trans (Ext.trans (Ext.trans (Ext.store (Ext.trans (Ext.trans (Ext.store (Ext.trans (Ext.trans (Ext.trans (Ext.trans (Ext.trans (Ext.trans (Ext.trans hwL1 hx50) hx59) (Ext.store hx62 hx67 (by omega))) hx71) (Ext.store hx74 hx78 (by omega))) hx82) (Ext.store (Ext.trans hx85 hx89) hx93 (by omega))) hx97 (by omega)) (Ext.drew _)) (Ext.store (Ext.trans (Ext.trans hx219 hx223) hx226) hx230 (by omega))) hx234 (by omega)) (Ext.drew _)) hx239) hx244) hx249))) ?_)
                      rintro v253 w252 ⟨rfl, hx254⟩
                      have := World.grownBy.size hx254
                      refine ⟨(Ext.trans (Ext.trans (Ext.trans (Ext.trans (Ext.drew _) hx239) hx244) hx249) hx254), ?_⟩
                      refine WO.qg rfl rfl rfl rfl rfl (fun w' hE236 => (X.not rfl)) ?_
                      refine WO.q rfl rfl rfl rfl (fun w' hE236 => (X.pickF rfl rfl rfl)) ?_
                      refine WO.nil ?_
                      refine WL.nil ?_
                      refine thn_n ?_
                      refine WF.cond_f rfl ?_
                      refine WF.skip ?_
                      refine thn_n ?_
                      refine WF.seq ?_
                      refine WF.region ?_
                      refine WL.va rfl rfl rfl (X.fieldAddrO (off := 1) rfl Try.underlying53 rfl rfl Try.sizeOf46) ?_
                      refine WL.va rfl rfl rfl (X.loadO hO11 (Ext.trans (Ext.trans (Ext.trans (Ext.trans (Ext.drew _) hx239) hx244) hx249) hx254) rfl rfl Try.isAgg46) ?_
                      replace oxT := (oxT.ext (Ext.trans (Ext.trans (Ext.trans (Ext.trans (Ext.drew _) hx239) hx244) hx249) hx254))
                      refine WL.c rfl rfl rfl (X.call Try.call49 (evl_cons rfl evl_nil)) (spoilBytes_ok dx _ _ Bx (odx.ext (Ext.trans (Ext.trans (Ext.trans (Ext.trans (Ext.drew _) hx239) hx244) hx249) hx254)).own) ?_
                      rintro v258 w257 ⟨_, hx259⟩
                      have := World.grownBy.size hx259
                      replace hO6 := (hO6.ext (Ext.trans (Ext.trans (Ext.trans (Ext.trans (Ext.drew _) hx239) hx244) hx249) hx254)).keptR hx259 (fun b hb => by have h1 := (odx.own.lt b hb).1; have h2 := odx.top b hb; omega)
                      replace onT := (onT.ext (Ext.trans (Ext.trans (Ext.trans (Ext.trans (Ext.drew _) hx239) hx244) hx249) hx254)).kept hx259 (fun b hb => by have h1 := (odx.own.lt b hb).1; have h2 := odx.top b hb; omega)
                      replace oiT := (oiT.ext (Ext.trans (Ext.trans (Ext.trans (Ext.trans (Ext.drew _) hx239) hx244) hx249) hx254)).kept hx259 (fun b hb => by have h1 := (odx.own.lt b hb).1; have h2 := odx.top b hb; omega)
                      replace hO8 := (hO8.ext (Ext.trans (Ext.trans (Ext.trans (Ext.trans (Ext.drew _) hx239) hx244) hx249) hx254)).keptR hx259 (fun b hb => by have h1 := (odx.own.lt b hb).1; have h2 := odx.top b hb; omega)
                      replace hSo := (hSo.ext (Ext.trans (Ext.trans (Ext.trans (Ext.trans (Ext.drew _) hx239) hx244) hx249) hx254)).kept hx259 (fun b hb => by have h1 := (odx.own.lt b hb).1; have h2 := odx.top b hb; omega)
                      replace hO9 := (hO9.ext (Ext.trans (Ext.trans (Ext.trans (Ext.trans (Ext.drew _) hx239) hx244) hx249) hx254)).keptR hx259 (fun b hb => by have h1 := (odx.own.lt b hb).1; have h2 := odx.top b hb; omega)
                      replace hO10 := (hO10.ext (Ext.trans (Ext.trans (Ext.trans (Ext.trans (Ext.drew _) hx239) hx244) hx249) hx254)).keptR hx259 (fun b hb => by have h1 := (odx.own.lt b hb).1; have h2 := odx.top b hb; omega)
                      replace hO11 := (hO11.ext (Ext.trans (Ext.trans (Ext.trans (Ext.trans (Ext.drew _) hx239) hx244) hx249) hx254)).keptR hx259 (fun b hb => by have h1 := (odx.own.lt b hb).1; have h2 := odx.top b hb; omega)
                      replace hO12 := (hO12.ext (Ext.trans (Ext.trans (Ext.trans (Ext.trans (Ext.drew _) hx239) hx244) hx249) hx254)).keptR hx259 (fun b hb => by have h1 := (odx.own.lt b hb).1; have h2 := odx.top b hb; omega)
                      replace oyT := (oyT.ext (Ext.trans (Ext.trans (Ext.trans (Ext.trans (Ext.drew _) hx239) hx244) hx249) hx254)).kept hx259 (fun b hb => by have h1 := (odx.own.lt b hb).1; have h2 := odx.top b hb; omega)
                      replace ody := (ody.ext (Ext.trans (Ext.trans (Ext.trans (Ext.trans (Ext.drew _) hx239) hx244) hx249) hx254)).kept hx259 (fun b hb => by have h1 := (odx.own.lt b hb).1; have h2 := odx.top b hb; omega)
                      replace hO13 := (hO13.ext (Ext.trans (Ext.trans (Ext.trans (Ext.trans (Ext.drew _) hx239) hx244) hx249) hx254)).keptR hx259 (fun b hb => by have h1 := (odx.own.lt b hb).1; have h2 := odx.top b hb; omega)
                      replace oxT := oxT.keptA hx259 hfx
                      refine WL.nil ?_
                      refine thn_n ?_
                      refine WF.seq ?_
                      refine WF.seq ?_
                      refine WF.region ?_
                      refine WL.va rfl rfl rfl (X.loadOA hO10 (Ext.refl _) rfl rfl Try.isAgg51 Try.sizeOf51) ?_
                      refine WL.va rfl rfl rfl (X.loadOA hO12 (Ext.refl _) rfl rfl Try.isAgg51 Try.sizeOf51) ?_
                      refine WL.c rfl rfl rfl (X.call Try.call36 (evl_cons rfl (evl_cons rfl evl_nil))) (sameDir_self (oxT.at hFx) (oyT.at hFy) rfl) ?_
                      rintro v261 w260 ⟨rfl, hx262⟩
                      have := World.grownBy.size hx262
                      refine WL.va rfl rfl rfl (X.not rfl) ?_
                      refine WL.nil ?_
                      refine thn_n ?_
                      refine WF.cond_f rfl ?_
                      refine WF.skip ?_
                      refine thn_n ?_
                      refine WF.seq ?_
                      refine WF.region ?_
                      refine WL.va rfl rfl rfl (X.loadOA hO10 hx262 rfl rfl Try.isAgg51 Try.sizeOf51) ?_
                      refine WL.c rfl rfl rfl (X.call Try.call37 (evl_cons rfl evl_nil)) (spoilDir_ok (appF now (l[k]'hk).n).1 vx ux Fx _ Bx Tx (oxT.ext hx262)) ?_
                      rintro v266 w265 hcS
                      have := hcS.size
                      replace hO6 := (hO6.ext hx262).chg hcS (by omega)
                      replace onT := (onT.ext hx262).chg hcS (by omega)
                      replace oiT := (oiT.ext hx262).chg hcS (by omega)
                      replace hO8 := (hO8.ext hx262).chg hcS (by omega)
                      replace hSo := (hSo.ext hx262).chg hcS (by omega)
                      replace hO9 := (hO9.ext hx262).chg hcS (by omega)
                      replace hO10 := (hO10.ext hx262).chg hcS (by omega)
                      replace hO11 := (hO11.ext hx262).chg hcS (by omega)
                      replace hO12 := (hO12.ext hx262).chg hcS (by omega)
                      replace oyT := (oyT.ext hx262).chg hcS (by omega)
                      replace ody := (ody.ext hx262).chg hcS (by omega)
                      replace hO13 := (hO13.ext hx262).chg hcS (by omega)
                      refine WL.nil ?_
                      refine thn_n ?_
                      refine WF.seq ?_
                      refine WF.seq ?_
                      refine WF.region ?_
                      refine WL.va rfl rfl rfl (X.loadOA hO8 (Ext.refl _) rfl rfl Try.isAgg51 Try.sizeOf51) ?_
                      refine WL.va rfl rfl rfl (X.loadOA hO6 (Ext.refl _) ((hAL1.eq 6).trans (congrFun hF43 6)) rfl Try.isAgg51 Try.sizeOf51) ?_
                      refine WL.c rfl rfl rfl (X.call Try.call36 (evl_cons rfl (evl_cons rfl evl_nil))) (sameDir_self (oiT.at hFi) (onT.at hFn) rfl) ?_
                      rintro v269 w268 ⟨rfl, hx270⟩
                      have := World.grownBy.size hx270
                      refine WL.va rfl rfl rfl (X.not rfl) ?_
                      refine WL.nil ?_
                      refine thn_n ?_
                      refine WF.cond_f rfl ?_
                      refine WF.skip ?_
                      refine thn_n ?_
                      refine WF.region ?_
                      refine WL.va rfl rfl rfl (X.loadOA hO12 hx270 rfl rfl Try.isAgg51 Try.sizeOf51) ?_
                      refine WL.op rfl (OW.storeOA (hO6.ext hx270) ((hAL1.eq 6).trans (congrFun hF43 6)) rfl rfl (Dr.c_one _ oyT.rng.rd (own_one oyT.ses.own.row)) Try.sizeOf51 ?_)
                      intro w273 hO6 hx275
                      have := World.grownBy.size hx275
                      replace hO8 := (hO8.ext hx270).keptO hx275 (by omega)
                      replace hO9 := (hO9.ext hx270).keptO hx275 (by omega)
                      replace hO10 := (hO10.ext hx270).keptO hx275 (by omega)
                      replace hO11 := (hO11.ext hx270).keptO hx275 (by omega)
                      replace hO12 := (hO12.ext hx270).keptO hx275 (by omega)
                      replace oyT := (oyT.ext hx270).keptO hx275 (by omega)
                      replace ody := (ody.ext hx270).keptO hx275 (by omega)
                      replace hO13 := (hO13.ext hx270).keptO hx275 (by omega)
                      replace hO6 : Blk _ _ _ ((appF now (l[k]'hk).n).1.c vy uy) := hO6
                      refine WL.nil ?_
                      refine blk_n ?_
                      refine thn_n ?_
                      refine WF.region ?_
                      refine WL.va rfl rfl rfl (X.moveI e7_L1) ?_
                      refine WL.va rfl rfl rfl (X.add rfl rfl (w64 (by omega))) ?_
                      refine WL.va rfl rfl rfl (X.assignI rfl) ?_
                      refine WL.nil ?_
                      exact thn_n ⟨_, (by omega), k + 1, (appF now (l[k]'hk).n).1, vy, uy, Fy, By, Ty, rfl, rfl, (by repeat (first | exact hAL1 | refine Agree.put ?_ rfl | refine Agree.sub hAL0 rfl ?_ | refine Agree.named hF43 ?_ | refine Agree.named hF22 ?_)), (Ext.store (Ext.trans (Chg.ext (Ext.trans (grown_trans (Ext.trans (Ext.trans (Ext.trans (Ext.trans (Ext.trans (Ext.store (Ext.trans (Ext.trans (Ext.store (Ext.trans (Ext.trans (Ext.trans (Ext.trans (Ext.trans (Ext.trans (Ext.trans hwL1 hx50) hx59) (Ext.store hx62 hx67 (by omega))) hx71) (Ext.store hx74 hx78 (by omega))) hx82) (Ext.store (Ext.trans hx85 hx89) hx93 (by omega))) hx97 (by omega)) (Ext.drew _)) (Ext.store (Ext.trans (Ext.trans hx219 hx223) hx226) hx230 (by omega))) hx234 (by omega)) (Ext.drew _)) hx239) hx244) hx249) hx254) hx259 (fun i hi => by have := (odx.own.lt i hi).1; omega)) hx262) hcS (by omega)) hx270) hx275 (by omega)), ⟨by omega, by omega, app_good hng _, Nat.le_trans (app_len now _) (by omega), app_data hng _ hnD, hFy, hO6, oyT, by omega, .inl (by omega)⟩⟩
                    · refine LO.go rfl rfl (OW.allocO (cs := [i64 0, .slice none 0 0]) Try.zeroValue53 rfl ?_ (by decide))
                      intro g13 w277 heg13 hlg13 hO13 hx279
                      have := World.grownBy.size hx279
                      refine ⟨(Ext.trans (Ext.trans (Ext.drew _) hx219) hx279), ?_⟩
                      refine WO.l ?_
                      obtain ⟨By, hBy⟩ : ∃ B, B = w277.heap.size := ⟨_, rfl⟩
                      refine LO.go rfl rfl (OW.enter rfl (by decide) (X.call Try.call46 (evl_cons rfl (evl_cons rfl evl_nil))) (applyR_ok now vn un vP vR vW vD (l[k]'hk) _ ((onT.ext (Ext.trans (Ext.trans (Ext.drew _) hx219) hx279)).at hFn) hng (by omega) (fun s hs => Nat.le_trans (hnD s hs) (by decide)) (hop.ext (Ext.trans (Ext.trans (Ext.trans (Ext.store (Ext.trans (Ext.trans (Ext.trans (Ext.trans (Ext.trans (Ext.trans (Ext.trans hwL1 hx50) hx59) (Ext.store hx62 hx67 (by omega))) hx71) (Ext.store hx74 hx78 (by omega))) hx82) (Ext.store (Ext.trans hx85 hx89) hx93 (by omega))) hx97 (by omega)) (Ext.drew _)) hx219) hx279))) ?_)
                      rintro v282 w281 ⟨⟨vy, uy, dy, Fy, rfl, hFy, oyT, ody, _⟩, hx283⟩
                      have := World.grownBy.size hx283
                      refine ⟨(Ext.trans (Ext.trans (Ext.trans (Ext.drew _) hx219) hx279) hx283), ?_⟩
                      obtain ⟨Ty, hTy⟩ : ∃ T, T = w281.heap.size := ⟨_, rfl⟩
                      rw [← hBy, ← hTy] at oyT ody
                      refine WO.q rfl rfl rfl rfl (fun w' hE99 => (X.move rfl)) ?_
                      refine WO.q rfl rfl rfl rfl (fun w' hE99 => (X.extract rfl rfl)) ?_
                      refine WO.q rfl rfl rfl rfl (fun w' hE99 => (X.extract rfl rfl)) ?_
                      refine WO.l ?_
                      refine LO.go rfl rfl (OW.storeOA (hO12.ext (Ext.trans hx279 hx283)) rfl rfl rfl (Dr.c_one _ oyT.rng.rd (own_one oyT.ses.own.row)) Try.sizeOf51 ?_)
                      intro w284 hO12 hx286
                      have := World.grownBy.size hx286
                      replace hO6 := (hO6.ext (Ext.trans (Ext.trans (Ext.trans (Ext.drew _) hx219) hx279) hx283)).keptO hx286 (by omega)
                      replace onT := (onT.ext (Ext.trans (Ext.trans (Ext.trans (Ext.drew _) hx219) hx279) hx283)).keptO hx286 (by omega)
                      replace oiT := (oiT.ext (Ext.trans (Ext.trans (Ext.trans (Ext.drew _) hx219) hx279) hx283)).keptO hx286 (by omega)
                      replace hO8 := (hO8.ext (Ext.trans (Ext.trans (Ext.trans (Ext.drew _) hx219) hx279) hx283)).keptO hx286 (by omega)
                      replace hSo := (hSo.ext (Ext.trans (Ext.trans (Ext.trans (Ext.drew _) hx219) hx279) hx283)).keptO hx286 (by omega)
                      replace hO9 := (hO9.ext (Ext.trans (Ext.trans (Ext.trans (Ext.drew _) hx219) hx279) hx283)).keptO hx286 (by omega)
                      replace oxT := (oxT.ext (Ext.trans (Ext.trans (Ext.trans (Ext.drew _) hx219) hx279) hx283)).keptO hx286 (by omega)
                      replace odx := (odx.ext (Ext.trans (Ext.trans (Ext.trans (Ext.drew _) hx219) hx279) hx283)).keptO hx286 (by omega)
                      replace hO10 := (hO10.ext (Ext.trans (Ext.trans (Ext.trans (Ext.drew _) hx219) hx279) hx283)).keptO hx286 (by omega)
                      replace hO11 := (hO11.ext (Ext.trans (Ext.trans (Ext.trans (Ext.drew _) hx219) hx279) hx283)).keptO hx286 (by omega)
                      replace hO13 := (hO13.ext hx283).keptO hx286 (by omega)
                      replace oyT := oyT.keptO hx286 (by omega)
                      replace ody := ody.keptO hx286 (by omega)
                      replace hO12 : Blk _ _ _ ((appF now (l[k]'hk).n).1.c vy uy) := hO12
                      refine ⟨(Ext.trans (Ext.drew _) (Ext.store (Ext.trans (Ext.trans hx219 hx279) hx283) hx286 (by omega))), ?_⟩
                      refine WO.nil ?_
                      refine WL.op rfl (OW.storeOA hO13 rfl rfl rfl (ones2 _ (own_one ody.own)) Try.sizeOf53 ?_)
                      intro w288 hO13 hx290
                      have := World.grownBy.size hx290
                      replace hO6 := hO6.keptO hx290 (by omega)
                      replace onT := onT.keptO hx290 (by omega)
                      replace oiT := oiT.keptO hx290 (by omega)
                      replace hO8 := hO8.keptO hx290 (by omega)
                      replace hSo := hSo.keptO hx290 (by omega)
                      replace hO9 := hO9.keptO hx290 (by omega)
                      replace oxT := oxT.keptO hx290 (by omega)
                      replace odx := odx.keptO hx290 (by omega)
                      replace hO10 := hO10.keptO hx290 (by omega)
                      replace hO11 := hO11.keptO hx290 (by omega)
                      replace hO12 := hO12.keptO hx290 (by omega)
                      replace oyT := oyT.keptO hx290 (by omega)
                      replace ody := ody.keptO hx290 (by omega)
                      refine WL.nil ?_
                      refine thn_n ?_
                      refine WF.seq ?_
                      refine WF.seq ?_
                      refine WF.drawn (.q 0 (.q 1 (.l 2 (.q 3 (.q 4 (.q 5 (.q 6 (.l 7 (.q 8 (.q 9 (.q 10 (.q 11 (.q 12 (.l 13 (.q 14 (.q 15 (.q 16 (.q 17 (.q 18 (.q 19 (.q 20 (.q 21 (.l 22 (.q 23 (.q 24 .nil))))))))))))))))))))))))) (fun w' => Ext w288 w') 25 (by kernel_rfl) (by kernel_rfl) (Ext.drew _) ?_
                      have := World.grownBy.size (Ext.drew w288)
                      refine WO.q rfl rfl rfl rfl (fun w' hE292 => (X.loadOA hO10 hE292 rfl rfl Try.isAgg51 Try.sizeOf51)) ?_
                      refine WO.q rfl rfl rfl rfl (fun w' hE292 => (X.loadOA hO12 hE292 rfl rfl Try.isAgg51 Try.sizeOf51)) ?_
                      refine WO.l ?_
                      refine LO.go rfl rfl (OW.enter rfl (by decide) (X.call Try.call36 (evl_cons rfl (evl_cons rfl evl_nil))) (sameDir_self ((oxT.ext (Ext.drew _)).at hFx) ((oyT.ext (Ext.drew _)).at hFy) rfl) ?_)
                      rintro v294 w293 ⟨rfl, hx295⟩
                      have := World.grownBy.size hx295
                      refine ⟨(Ext.trans (Ext.drew _) hx295), ?_⟩
                      refine WO.q rfl rfl rfl rfl (fun w' hE292 => (X.not rfl)) ?_
                      refine WO.q rfl rfl rfl rfl (fun w' hE292 => (X.moveB rfl)) ?_
                      refine WO.qg rfl rfl rfl rfl rfl (fun w' hE292 => (X.loadOA hO11 hE292 rfl rfl Try.isAgg53 Try.sizeOf53)) ?_
                      refine WO.qg rfl rfl rfl rfl rfl (fun w' hE292 => (X.loadOA hO13 hE292 rfl rfl Try.isAgg53 Try.sizeOf53)) ?_
                      refine WO.l ?_
                      refine LO.gog rfl rfl rfl (OW.enter rfl (by decide) (X.call Try.call47 (evl_cons rfl (evl_cons rfl evl_nil))) (sameRes_self (odx.ext (Ext.trans (Ext.drew _) hx295)).rd (ody.ext (Ext.trans (Ext.drew _) hx295)).rd ⟨rfl, rfl⟩) ?_)
                      rintro v299 w298 ⟨rfl, hx300⟩
                      have := World.grownBy.size hx300
                      refine ⟨(Ext.trans (Ext.trans (Ext.drew _) hx295) hx300), ?_⟩
                      refine WO.qg rfl rfl rfl rfl rfl (fun w' hE292 => (X.not rfl)) ?_
                      refine WO.q rfl rfl rfl rfl (fun w' hE292 => (X.pickF rfl rfl rfl)) ?_
                      refine WO.q rfl rfl rfl rfl (fun w' hE292 => (X.moveB rfl)) ?_
                      refine WO.qg rfl rfl rfl rfl rfl (fun w' hE292 => (X.loadOA hO8 hE292 rfl rfl Try.isAgg51 Try.sizeOf51)) ?_
                      refine WO.qg rfl rfl rfl rfl rfl (fun w' hE292 => (X.loadOA hO6 hE292 ((hAL1.eq 6).trans (congrFun hF43 6)) rfl Try.isAgg51 Try.sizeOf51)) ?_
                      refine WO.l ?_
                      refine LO.gog rfl rfl rfl (OW.enter rfl (by decide) (X.call Try.call36 (evl_cons rfl (evl_cons rfl evl_nil))) (sameDir_self ((oiT.ext (Ext.trans (Ext.trans (Ext.drew _) hx295) hx300)).at hFi) ((onT.ext (Ext.trans (Ext.trans (Ext.drew _) hx295) hx300)).at hFn) rfl) ?_)
                      rintro v304 w303 ⟨rfl, hx305⟩
                      have := World.grownBy.size hx305
                      refine ⟨(Ext.trans (Ext.trans (Ext.trans (Ext.drew _) hx295) hx300) hx305), ?_⟩
                      refine WO.qg rfl rfl rfl rfl rfl (fun w' hE292 => (X.not rfl)) ?_
                      refine WO.q rfl rfl rfl rfl (fun w' hE292 => (X.pickF rfl rfl rfl)) ?_
                      refine WO.q rfl rfl rfl rfl (fun w' hE292 => (X.moveB rfl)) ?_
                      refine WO.qg rfl rfl rfl rfl rfl (fun w' hE292 => (X.loadOA hO9 hE292 rfl rfl Try.isAgg72 Try.sizeOf72)) ?_
                      refine WO.qg rfl rfl rfl rfl rfl (fun w' hE292 => (X.move ((hAL1.eq 1).trans ((congrFun hF43 1).trans ((hAL0.eq 1).trans (congrFun hF22 1)))))) ?_
                      refine WO.qg rfl rfl rfl rfl rfl (fun w' hE292 => (X.moveI e7_L1)) ?_
                      refine WO.qg rfl rfl rfl rfl rfl (fun w' hE292 => (X.idx hr rfl rfl (by omega) Try.underlying67 Try.sizeOf72)) ?_
                      refine WO.qg rfl rfl rfl rfl rfl (fun w' hE292 => (X.loadEl hr (Ext.trans (Ext.store (Ext.trans (Ext.trans (Ext.store (Ext.trans (Ext.trans (Ext.trans (Ext.trans (Ext.trans (Ext.trans (Ext.trans hwL1 hx50) hx59) (Ext.store hx62 hx67 (by omega))) hx71) (Ext.store hx74 hx78 (by omega))) hx82) (Ext.store (Ext.trans hx85 hx89) hx93 (by omega))) hx97 (by omega)) (Ext.drew _)) (Ext.store (Ext.trans (Ext.trans hx219 hx279) hx283) hx286 (by omega))) hx290 (by omega)) hE292) rfl (by omega) hel Try.isAgg72 Try.sizeOf72)) ?_
                      refine WO.l ?_
                      refine LO.gog rfl rfl rfl (OW.enter rfl (by decide) (X.call Try.call48 (evl_cons rfl (evl_cons rfl evl_nil))) (sameOp_self (hAo.ext (hSo.ext (Ext.trans (Ext.trans (Ext.trans (Ext.drew _) hx295) hx300) hx305)).x) (hop.ext (Ext.trans (Ext.trans (Ext.trans (Ext.trans (Ext.store (Ext.trans (Ext.trans (Ext.store (Ext.trans (Ext.trans (Ext.trans (Ext.trans (Ext.trans (Ext.trans (Ext.trans hwL1 hx50) hx59) (Ext.store hx62 hx67 (by omega))) hx71) (Ext.store hx74 hx78 (by omega))) hx82) (Ext.store (Ext.trans hx85 hx89) hx93 (by omega))) hx97 (by omega)) (Ext.drew _)) (Ext.store (Ext.trans (Ext.trans hx219 hx279) hx283) hx286 (by omega))) hx290 (by omega)) (Ext.drew _)) hx295) hx300) hx305))) ?_)
                      rintro v309 w308 ⟨rfl, hx310⟩
                      have := World.grownBy.size hx310
                      refine ⟨(Ext.trans (Ext.trans (Ext.trans (Ext.trans (Ext.drew _) hx295) hx300) hx305) hx310), ?_⟩
                      refine WO.qg rfl rfl rfl rfl rfl (fun w' hE292 => (X.not rfl)) ?_
                      refine WO.q rfl rfl rfl rfl (fun w' hE292 => (X.pickF rfl rfl rfl)) ?_
                      refine WO.nil ?_
                      refine WL.nil ?_
                      refine thn_n ?_
                      refine WF.cond_f rfl ?_
                      refine WF.skip ?_
                      refine thn_n ?_
                      refine WF.seq ?_
                      refine WF.region ?_
                      refine WL.va rfl rfl rfl (X.fieldAddrO (off := 1) rfl Try.underlying53 rfl rfl Try.sizeOf46) ?_
                      refine WL.va rfl rfl rfl (X.loadO hO11 (Ext.trans (Ext.trans (Ext.trans (Ext.trans (Ext.drew _) hx295) hx300) hx305) hx310) rfl rfl Try.isAgg46) ?_
                      replace oxT := (oxT.ext (Ext.trans (Ext.trans (Ext.trans (Ext.trans (Ext.drew _) hx295) hx300) hx305) hx310))
                      refine WL.c rfl rfl rfl (X.call Try.call49 (evl_cons rfl evl_nil)) (spoilBytes_ok dx _ _ Bx (odx.ext (Ext.trans (Ext.trans (Ext.trans (Ext.trans (Ext.drew _) hx295) hx300) hx305) hx310)).own) ?_
                      rintro v314 w313 ⟨_, hx315⟩
                      have := World.grownBy.size hx315
                      replace hO6 := (hO6.ext (Ext.trans (Ext.trans (Ext.trans (Ext.trans (Ext.drew _) hx295) hx300) hx305) hx310)).keptR hx315 (fun b hb => by have h1 := (odx.own.lt b hb).1; have h2 := odx.top b hb; omega)
                      replace onT := (onT.ext (Ext.trans (Ext.trans (Ext.trans (Ext.trans (Ext.drew _) hx295) hx300) hx305) hx310)).kept hx315 (fun b hb => by have h1 := (odx.own.lt b hb).1; have h2 := odx.top b hb; omega)
                      replace oiT := (oiT.ext (Ext.trans (Ext.trans (Ext.trans (Ext.trans (Ext.drew _) hx295) hx300) hx305) hx310)).kept hx315 (fun b hb => by have h1 := (odx.own.lt b hb).1; have h2 := odx.top b hb; omega)
                      replace hO8 := (hO8.ext (Ext.trans (Ext.trans (Ext.trans (Ext.trans (Ext.drew _) hx295) hx300) hx305) hx310)).keptR hx315 (fun b hb => by have h1 := (odx.own.lt b hb).1; have h2 := odx.top b hb; omega)
                      replace hSo := (hSo.ext (Ext.trans (Ext.trans (Ext.trans (Ext.trans (Ext.drew _) hx295) hx300) hx305) hx310)).kept hx315 (fun b hb => by have h1 := (odx.own.lt b hb).1; have h2 := odx.top b hb; omega)
                      replace hO9 := (hO9.ext (Ext.trans (Ext.trans (Ext.trans (Ext.trans (Ext.drew _) hx295) hx300) hx305) hx310)).keptR hx315 (fun b hb => by have h1 := (odx.own.lt b hb).1; have h2 := odx.top b hb; omega)
                      replace hO10 := (hO10.ext (Ext.trans (Ext.trans (Ext.trans (Ext.trans (Ext.drew _) hx295) hx300) hx305) hx310)).keptR hx315 (fun b hb => by have h1 := (odx.own.lt b hb).1; have h2 := odx.top b hb; omega)
                      replace hO11 := (hO11.ext (Ext.trans (Ext.trans (Ext.trans (Ext.trans (Ext.drew _) hx295) hx300) hx305) hx310)).keptR hx315 (fun b hb => by have h1 := (odx.own.lt b hb).1; have h2 := odx.top b hb; omega)
                      replace hO12 := (hO12.ext (Ext.trans (Ext.trans (Ext.trans (Ext.trans (Ext.drew _) hx295) hx300) hx305) hx310)).keptR hx315 (fun b hb => by have h1 := (odx.own.lt b hb).1; have h2 := odx.top b hb; omega)
                      replace hO13 := (hO13.ext (Ext.trans (Ext.trans (Ext.trans (Ext.trans (Ext.drew _) hx295) hx300) hx305) hx310)).keptR hx315 (fun b hb => by have h1 := (odx.own.lt b hb).1; have h2 := odx.top b hb; omega)
                      replace oyT := (oyT.ext (Ext.trans (Ext.trans (Ext.trans (Ext.trans (Ext.drew _) hx295) hx300) hx305) hx310)).kept hx315 (fun b hb => by have h1 := (odx.own.lt b hb).1; have h2 := odx.top b hb; omega)
                      replace ody := (ody.ext (Ext.trans (Ext.trans (Ext.trans (Ext.trans (Ext.drew _) hx295) hx300) hx305) hx310)).kept hx315 (fun b hb => by have h1 := (odx.own.lt b hb).1; have h2 := odx.top b hb; omega)
                      replace oxT := oxT.keptA hx315 hfx
                      refine WL.nil ?_
                      refine thn_n ?_
                      refine WF.seq ?_
                      refine WF.seq ?_
                      refine WF.region ?_
                      refine WL.va rfl rfl rfl (X.loadOA hO10 (Ext.refl _) rfl rfl Try.isAgg51 Try.sizeOf51) ?_
                      refine WL.va rfl rfl rfl (X.loadOA hO12 (Ext.refl _) rfl rfl Try.isAgg51 Try.sizeOf51) ?_
                      refine WL.c rfl rfl rfl (X.call Try.call36 (evl_cons rfl (evl_cons rfl evl_nil))) (sameDir_self (oxT.at hFx) (oyT.at hFy) rfl) ?_
                      rintro v317 w316 ⟨rfl, hx318⟩
                      have := World.grownBy.size hx318
                      refine WL.va rfl rfl rfl (X.not rfl) ?_
                      refine WL.nil ?_
                      refine thn_n ?_
                      refine WF.cond_f rfl ?_
                      refine WF.skip ?_
                      refine thn_n ?_
                      refine WF.seq ?_
                      refine WF.region ?_
                      refine WL.va rfl rfl rfl (X.loadOA hO10 hx318 rfl rfl Try.isAgg51 Try.sizeOf51) ?_
                      refine WL.c rfl rfl rfl (X.call Try.call37 (evl_cons rfl evl_nil)) (spoilDir_ok (appF now (l[k]'hk).n).1 vx ux Fx _ Bx Tx (oxT.ext hx318)) ?_
                      rintro v322 w321 hcS
                      have := hcS.size
                      replace hO6 := (hO6.ext hx318).chg hcS (by omega)
                      replace onT := (onT.ext hx318).chg hcS (by omega)
                      replace oiT := (oiT.ext hx318).chg hcS (by omega)
                      replace hO8 := (hO8.ext hx318).chg hcS (by omega)
                      replace hSo := (hSo.ext hx318).chg hcS (by omega)
                      replace hO9 := (hO9.ext hx318).chg hcS (by omega)
                      replace hO10 := (hO10.ext hx318).chg hcS (by omega)
                      replace hO11 := (hO11.ext hx318).chg hcS (by omega)
                      replace hO12 := (hO12.ext hx318).chg hcS (by omega)
                      replace hO13 := (hO13.ext hx318).chg hcS (by omega)
                      replace oyT := (oyT.ext hx318).chg hcS (by omega)
                      replace ody := (ody.ext hx318).chg hcS (by omega)
                      refine WL.nil ?_
                      refine thn_n ?_
                      refine WF.seq ?_
                      refine WF.seq ?_
                      refine WF.region ?_
                      refine WL.va rfl rfl rfl (X.loadOA hO8 (Ext.refl _) rfl rfl Try.isAgg51 Try.sizeOf51) ?_
                      refine WL.va rfl rfl rfl (X.loadOA hO6 (Ext.refl _) ((hAL1.eq 6).trans (congrFun hF43 6)) rfl Try.isAgg51 Try.sizeOf51) ?_
                      refine WL.c rfl rfl rfl (X.call Try.call36 (evl_cons rfl (evl_cons rfl evl_nil))) (sameDir_self (oiT.at hFi) (onT.at hFn) rfl) ?_
                      rintro v325 w324 ⟨rfl, hx326⟩
                      have := World.grownBy.size hx326
                      refine WL.va rfl rfl rfl (X.not rfl) ?_
                      refine WL.nil ?_
                      refine thn_n ?_
                      refine WF.cond_f rfl ?_
                      refine WF.skip ?_
                      refine thn_n ?_
                      refine WF.region ?_
                      refine WL.va rfl rfl rfl (X.loadOA hO12 hx326 rfl rfl Try.isAgg51 Try.sizeOf51) ?_
                      refine WL.op rfl (OW.storeOA (hO6.ext hx326) ((hAL1.eq 6).trans (congrFun hF43 6)) rfl rfl (Dr.c_one _ oyT.rng.rd (own_one oyT.ses.own.row)) Try.sizeOf51 ?_)
                      intro w329 hO6 hx331
                      have := World.grownBy.size hx331
                      replace hO8 := (hO8.ext hx326).keptO hx331 (by omega)
                      replace hO9 := (hO9.ext hx326).keptO hx331 (by omega)
                      replace hO10 := (hO10.ext hx326).keptO hx331 (by omega)
                      replace hO11 := (hO11.ext hx326).keptO hx331 (by omega)
                      replace hO12 := (hO12.ext hx326).keptO hx331 (by omega)
                      replace hO13 := (hO13.ext hx326).keptO hx331 (by omega)
                      replace oyT := (oyT.ext hx326).keptO hx331 (by omega)
                      replace ody := (ody.ext hx326).keptO hx331 (by omega)
                      replace hO6 : Blk _ _ _ ((appF now (l[k]'hk).n).1.c vy uy) := hO6
                      refine WL.nil ?_
                      refine blk_n ?_
                      refine thn_n ?_
                      refine WF.region ?_
                      refine WL.va rfl rfl rfl (X.moveI e7_L1) ?_
                      refine WL.va rfl rfl rfl (X.add rfl rfl (w64 (by omega))) ?_
                      refine WL.va rfl rfl rfl (X.assignI rfl) ?_
                      refine WL.nil ?_
                      exact thn_n ⟨_, (by omega), k + 1, (appF now (l[k]'hk).n).1, vy, uy, Fy, By, Ty, rfl, rfl, (by repeat (first | exact hAL1 | refine Agree.put ?_ rfl | refine Agree.sub hAL0 rfl ?_ | refine Agree.named hF43 ?_ | refine Agree.named hF22 ?_)), (Ext.store (Ext.trans (Chg.ext (Ext.trans (grown_trans (Ext.trans (Ext.trans (Ext.trans (Ext.trans (Ext.trans (Ext.store (Ext.trans (Ext.trans (Ext.store (Ext.trans (Ext.trans (Ext.trans (Ext.trans (Ext.trans (Ext.trans (Ext.trans hwL1 hx50) hx59) (Ext.store hx62 hx67 (by omega))) hx71) (Ext.store hx74 hx78 (by omega))) hx82) (Ext.store (Ext.trans hx85 hx89) hx93 (by omega))) hx97 (by omega)) (Ext.drew _)) (Ext.store (Ext.trans (Ext.trans hx219 hx279) hx283) hx286 (by omega))) hx290 (by omega)) (Ext.drew _)) hx295) hx300) hx305) hx310) hx315 (fun i hi => by have := (odx.own.lt i hi).1; omega)) hx318) hcS (by omega)) hx326) hx331 (by omega)), ⟨by omega, by omega, app_good hng _, Nat.le_trans (app_len now _) (by omega), app_data hng _ hnD, hFy, hO6, oyT, by omega, .inl (by omega)⟩⟩
                  · refine LO.go rfl rfl (OW.allocO (cs := [i64 0, .slice none 0 0]) Try.zeroValue53 rfl ?_ (by decide))
                    intro g13 w333 heg13 hlg13 hO13 hx335
                    have := World.grownBy.size hx335
                    refine ⟨(Ext.trans (Ext.drew _) hx335), ?_⟩
                    refine WO.b2 ?_ ?_
                    · obtain ⟨By, hBy⟩ : ∃ B, B = w333.heap.size := ⟨_, rfl⟩
                      refine LO.go rfl rfl (OW.enter rfl (by decide) (X.call Try.call46 (evl_cons rfl (evl_cons rfl evl_nil))) (applyR_ok now vn un vP vR vW vD (l[k]'hk) _ ((onT.ext (Ext.trans (Ext.drew _) hx335)).at hFn) hng (by omega) (fun s hs => Nat.le_trans (hnD s hs) (by decide)) (hop.ext (Ext.trans (Ext.trans (Ext.store (Ext.trans (Ext.trans (Ext.trans (Ext.trans (Ext.trans (Ext.trans (Ext.trans hwL1 hx50) hx59) (Ext.store hx62 hx67 (by omega))) hx71) (Ext.store hx74 hx78 (by omega))) hx82) (Ext.store (Ext.trans hx85 hx89) hx93 (by omega))) hx97 (by omega)) (Ext.drew _)) hx335))) ?_)
                      rintro v338 w337 ⟨⟨vy, uy, dy, Fy, rfl, hFy, oyT, ody, _⟩, hx339⟩
                      have := World.grownBy.size hx339
                      refine ⟨(Ext.trans (Ext.trans (Ext.drew _) hx335) hx339), ?_⟩
                      obtain ⟨Ty, hTy⟩ : ∃ T, T = w337.heap.size := ⟨_, rfl⟩
                      rw [← hBy, ← hTy] at oyT ody
                      refine WO.q rfl rfl rfl rfl (fun w' hE99 => (X.move rfl)) ?_
                      refine WO.q rfl rfl rfl rfl (fun w' hE99 => (X.extract rfl rfl)) ?_
                      refine WO.q rfl rfl rfl rfl (fun w' hE99 => (X.extract rfl rfl)) ?_
                      refine WO.l ?_
                      refine LO.go rfl rfl (OW.allocO (cs := [.slice none 0 0, i64 0, i64 0, i64 0, i64 0, i64 0, i64 0, .slice none 0 0]) Try.zeroValue51 rfl ?_ (by decide))
                      intro g12 w340 heg12 hlg12 hO12 hx342
                      have := World.grownBy.size hx342
                      refine ⟨(Ext.trans (Ext.trans (Ext.trans (Ext.drew _) hx335) hx339) hx342), ?_⟩
                      refine WO.l ?_
                      refine LO.go rfl rfl (OW.storeOA hO12 rfl rfl rfl (Dr.c_one _ oyT.rng.rd (own_one oyT.ses.own.row)) Try.sizeOf51 ?_)
                      intro w344 hO12 hx346
                      have := World.grownBy.size hx346
                      replace hO6 := (hO6.ext (Ext.trans (Ext.trans (Ext.trans (Ext.drew _) hx335) hx339) hx342)).keptO hx346 (by omega)
                      replace onT := (onT.ext (Ext.trans (Ext.trans (Ext.trans (Ext.drew _) hx335) hx339) hx342)).keptO hx346 (by omega)
                      replace oiT := (oiT.ext (Ext.trans (Ext.trans (Ext.trans (Ext.drew _) hx335) hx339) hx342)).keptO hx346 (by omega)
                      replace hO8 := (hO8.ext (Ext.trans (Ext.trans (Ext.trans (Ext.drew _) hx335) hx339) hx342)).keptO hx346 (by omega)
                      replace hSo := (hSo.ext (Ext.trans (Ext.trans (Ext.trans (Ext.drew _) hx335) hx339) hx342)).keptO hx346 (by omega)
                      replace hO9 := (hO9.ext (Ext.trans (Ext.trans (Ext.trans (Ext.drew _) hx335) hx339) hx342)).keptO hx346 (by omega)
                      replace oxT := (oxT.ext (Ext.trans (Ext.trans (Ext.trans (Ext.drew _) hx335) hx339) hx342)).keptO hx346 (by omega)
                      replace odx := (odx.ext (Ext.trans (Ext.trans (Ext.trans (Ext.drew _) hx335) hx339) hx342)).keptO hx346 (by omega)
                      replace hO10 := (hO10.ext (Ext.trans (Ext.trans (Ext.trans (Ext.drew _) hx335) hx339) hx342)).keptO hx346 (by omega)
                      replace hO11 := (hO11.ext (Ext.trans (Ext.trans (Ext.trans (Ext.drew _) hx335) hx339) hx342)).keptO hx346 (by omega)
                      replace hO13 := (hO13.ext (Ext.trans hx339 hx342)).keptO hx346 (by omega)
                      replace oyT := (oyT.ext hx342).keptO hx346 (by omega)
                      replace ody := (ody.ext hx342).keptO hx346 (by omega)
                      replace hO12 : Blk _ _ _ ((appF now (l[k]'hk).n).1.c vy uy) := hO12
                      refine ⟨(Ext.trans (Ext.trans (Ext.trans (Ext.drew _) hx335) hx339) (Ext.store hx342 hx346 (by omega))), ?_⟩
                      refine WO.nil ?_
                      refine WL.op rfl (OW.storeOA hO13 rfl rfl rfl (ones2 _ (own_one ody.own)) Try.sizeOf53 ?_)
                      intro w348 hO13 hx350
                      have := World.grownBy.size hx350
                      replace hO6 := hO6.keptO hx350 (by omega)
                      replace onT := onT.keptO hx350 (by omega)
                      replace oiT := oiT.keptO hx350 (by omega)
                      replace hO8 := hO8.keptO hx350 (by omega)
                      replace hSo := hSo.keptO hx350 (by omega)
                      replace hO9 := hO9.keptO hx350 (by omega)
                      replace oxT := oxT.keptO hx350 (by omega)
                      replace odx := odx.keptO hx350 (by omega)
                      replace hO10 := hO10.keptO hx350 (by omega)
                      replace hO11 := hO11.keptO hx350 (by omega)
                      replace oyT := oyT.keptO hx350 (by omega)
                      replace ody := ody.keptO hx350 (by omega)
                      replace hO12 := hO12.keptO hx350 (by omega)
                      refine WL.nil ?_
                      refine thn_n ?_
                      refine WF.seq ?_
                      refine WF.seq ?_
                      refine WF.drawn (.q 0 (.q 1 (.l 2 (.q 3 (.q 4 (.q 5 (.q 6 (.l 7 (.q 8 (.q 9 (.q 10 (.q 11 (.q 12 (.l 13 (.q 14 (.q 15 (.q 16 (.q 17 (.q 18 (.q 19 (.q 20 (.q 21 (.l 22 (.q 23 (.q 24 .nil))))))))))))))))))))))))) (fun w' => Ext w348 w') 25 (by kernel_rfl) (by kernel_rfl) (Ext.drew _) ?_
                      have := World.grownBy.size (Ext.drew w348)
                      refine WO.q rfl rfl rfl rfl (fun w' hE352 => (X.loadOA hO10 hE352 rfl rfl Try.isAgg51 Try.sizeOf51)) ?_
                      refine WO.q rfl rfl rfl rfl (fun w' hE352 => (X.loadOA hO12 hE352 rfl rfl Try.isAgg51 Try.sizeOf51)) ?_
                      refine WO.l ?_
                      refine LO.go rfl rfl (OW.enter rfl (by decide) (X.call Try.call36 (evl_cons rfl (evl_cons rfl evl_nil))) (sameDir_self ((oxT.ext (Ext.drew _)).at hFx) ((oyT.ext (Ext.drew _)).at hFy) rfl) ?_)
                      rintro v354 w353 ⟨rfl, hx355⟩
                      have := World.grownBy.size hx355
                      refine ⟨(Ext.trans (Ext.drew _) hx355), ?_⟩
                      refine WO.q rfl rfl rfl rfl (fun w' hE352 => (X.not rfl)) ?_
                      refine WO.q rfl rfl rfl rfl (fun w' hE352 => (X.moveB rfl)) ?_
                      refine WO.qg rfl rfl rfl rfl rfl (fun w' hE352 => (X.loadOA hO11 hE352 rfl rfl Try.isAgg53 Try.sizeOf53)) ?_
                      refine WO.qg rfl rfl rfl rfl rfl (fun w' hE352 => (X.loadOA hO13 hE352 rfl rfl Try.isAgg53 Try.sizeOf53)) ?_
                      refine WO.l ?_
                      refine LO.gog rfl rfl rfl (OW.enter rfl (by decide) (X.call Try.call47 (evl_cons rfl (evl_cons rfl evl_nil))) (sameRes_self (odx.ext (Ext.trans (Ext.drew _) hx355)).rd (ody.ext (Ext.trans (Ext.drew _) hx355)).rd ⟨rfl, rfl⟩) ?_)
                      rintro v359 w358 ⟨rfl, hx360⟩
                      have := World.grownBy.size hx360
                      refine ⟨(Ext.trans (Ext.trans (Ext.drew _) hx355) hx360), ?_⟩
                      refine WO.qg rfl rfl rfl rfl rfl (fun w' hE352 => (X.not rfl)) ?_
                      refine WO.q rfl rfl rfl rfl (fun w' hE352 => (X.pickF rfl rfl rfl)) ?_
                      refine WO.q rfl rfl rfl rfl (fun w' hE352 => (X.moveB rfl)) ?_
                      refine WO.qg rfl rfl rfl rfl rfl (fun w' hE352 => (X.loadOA hO8 hE352 rfl rfl Try.isAgg51 Try.sizeOf51)) ?_
                      refine WO.qg rfl rfl rfl rfl rfl (fun w' hE352 => (X.loadOA hO6 hE352 ((hAL1.eq 6).trans (congrFun hF43 6)) rfl Try.isAgg51 Try.sizeOf51)) ?_
                      refine WO.l ?_
                      refine LO.gog rfl rfl rfl (OW.enter rfl (by decide) (X.call Try.call36 (evl_cons rfl (evl_cons rfl evl_nil))) (sameDir_self ((oiT.ext (Ext.trans (Ext.trans (Ext.drew _) hx355) hx360)).at hFi) ((onT.ext (Ext.trans (Ext.trans (Ext.drew _) hx355) hx360)).at hFn) rfl) ?_)
                      rintro v364 w363 ⟨rfl, hx365⟩
                      have := World.grownBy.size hx365
                      refine ⟨(Ext.trans (Ext.trans (Ext.trans (Ext.drew _) hx355) hx360) hx365), ?_⟩
                      refine WO.qg rfl rfl rfl rfl rfl (fun w' hE352 => (X.not rfl)) ?_
                      refine WO.q rfl rfl rfl rfl (fun w' hE352 => (X.pickF rfl rfl rfl)) ?_
                      refine WO.q rfl rfl rfl rfl (fun w' hE352 => (X.moveB rfl)) ?_
                      refine WO.qg rfl rfl rfl rfl rfl (fun w' hE352 => (X.loadOA hO9 hE352 rfl rfl Try.isAgg72 Try.sizeOf72)) ?_
                      refine WO.qg rfl rfl rfl rfl rfl (fun w' hE352 => (X.move ((hAL1.eq 1).trans ((congrFun hF43 1).trans ((hAL0.eq 1).trans (congrFun hF22 1)))))) ?_
                      refine WO.qg rfl rfl rfl rfl rfl (fun w' hE352 => (X.moveI e7_L1)) ?_
                      refine WO.qg rfl rfl rfl rfl rfl (fun w' hE352 => (X.idx hr rfl rfl (by omega) Try.underlying67 Try.sizeOf72)) ?_
                      refine WO.qg rfl rfl rfl rfl rfl (fun w' hE352 => (X.loadEl hr (Ext.trans (Ext.trans (Ext.trans (Ext.store (Ext.trans (Ext.trans (Ext.trans (Ext.trans (Ext.trans (Ext.trans (Ext.trans hwL1 hx50) hx59) (Ext.store hx62 hx67 (by omega))) hx71) (Ext.store hx74 hx78 (by omega))) hx82) (Ext.store (Ext.trans hx85 hx89) hx93 (by omega))) hx97 (by omega)) (Ext.drew _)) (Ext.store (Ext.trans (Ext.trans hx335 hx339) (Ext.store hx342 hx346 (by omega))) hx350 (by omega))) hE352) rfl (by omega) hel Try.isAgg72 Try.sizeOf72)) ?_
                      refine WO.l ?_
                      refine LO.gog rfl rfl rfl (OW.enter rfl (by decide) (X.call Try.call48 (evl_cons rfl (evl_cons rfl evl_nil))) (sameOp_self (hAo.ext (hSo.ext (Ext.trans (Ext.trans (Ext.trans (Ext.drew _) hx355) hx360) hx365)).x) (hop.ext (Ext.trans (Ext.trans (Ext.trans (Ext.trans (Ext.trans (Ext.trans (Ext.store (Ext.trans (Ext.trans (Ext.trans (Ext.trans (Ext.trans (Ext.trans (Ext.trans hwL1 hx50) hx59) (Ext.store hx62 hx67 (by omega))) hx71) (Ext.store hx74 hx78 (by omega))) hx82) (Ext.store (Ext.trans hx85 hx89) hx93 (by omega))) hx97 (by omega)) (Ext.drew _)) (Ext.store (Ext.trans (Ext.trans hx335 hx339) (Ext.store hx342 hx346 (by omega))) hx350 (by omega))) (Ext.drew _)) hx355) hx360) hx365))) ?_)
                      rintro v369 w368 ⟨rfl, hx370⟩
                      have := World.grownBy.size hx370
                      refine ⟨(Ext.trans (Ext.trans (Ext.trans (Ext.trans (Ext.drew _) hx355) hx360) hx365) hx370), ?_⟩
                      refine WO.qg rfl rfl rfl rfl rfl (fun w' hE352 => (X.not rfl)) ?_
                      refine WO.q rfl rfl rfl rfl (fun w' hE352 => (X.pickF rfl rfl rfl)) ?_
                      refine WO.nil ?_
                      refine WL.nil ?_
                      refine thn_n ?_
                      refine WF.cond_f rfl ?_
                      refine WF.skip ?_
                      refine thn_n ?_
                      refine WF.seq ?_
                      refine WF.region ?_
                      refine WL.va rfl rfl rfl (X.fieldAddrO (off := 1) rfl Try.underlying53 rfl rfl Try.sizeOf46) ?_
                      refine WL.va rfl rfl rfl (X.loadO hO11 (Ext.trans (Ext.trans (Ext.trans (Ext.trans (Ext.drew _) hx355) hx360) hx365) hx370) rfl rfl Try.isAgg46) ?_
                      replace oxT := (oxT.ext (Ext.trans (Ext.trans (Ext.trans (Ext.trans (Ext.drew _) hx355) hx360) hx365) hx370))
                      refine WL.c rfl rfl rfl (X.call Try.call49 (evl_cons rfl evl_nil)) (spoilBytes_ok dx _ _ Bx (odx.ext (Ext.trans (Ext.trans (Ext.trans (Ext.trans (Ext.drew _) hx355) hx360) hx365) hx370)).own) ?_
                      rintro v374 w373 ⟨_, hx375⟩
                      have := World.grownBy.size hx375
                      replace hO6 := (hO6.ext (Ext.trans (Ext.trans (Ext.trans (Ext.trans (Ext.drew _) hx355) hx360) hx365) hx370)).keptR hx375 (fun b hb => by have h1 := (odx.own.lt b hb).1; have h2 := odx.top b hb; omega)
                      replace onT := (onT.ext (Ext.trans (Ext.trans (Ext.trans (Ext.trans (Ext.drew _) hx355) hx360) hx365) hx370)).kept hx375 (fun b hb => by have h1 := (odx.own.lt b hb).1; have h2 := odx.top b hb; omega)
                      replace oiT := (oiT.ext (Ext.trans (Ext.trans (Ext.trans (Ext.trans (Ext.drew _) hx355) hx360) hx365) hx370)).kept hx375 (fun b hb => by have h1 := (odx.own.lt b hb).1; have h2 := odx.top b hb; omega)
                      replace hO8 := (hO8.ext (Ext.trans (Ext.trans (Ext.trans (Ext.trans (Ext.drew _) hx355) hx360) hx365) hx370)).keptR hx375 (fun b hb => by have h1 := (odx.own.lt b hb).1; have h2 := odx.top b hb; omega)
                      replace hSo := (hSo.ext (Ext.trans (Ext.trans (Ext.trans (Ext.trans (Ext.drew _) hx355) hx360) hx365) hx370)).kept hx375 (fun b hb => by have h1 := (odx.own.lt b hb).1; have h2 := odx.top b hb; omega)
                      replace hO9 := (hO9.ext (Ext.trans (Ext.trans (Ext.trans (Ext.trans (Ext.drew _) hx355) hx360) hx365) hx370)).keptR hx375 (fun b hb => by have h1 := (odx.own.lt b hb).1; have h2 := odx.top b hb; omega)
                      replace hO10 := (hO10.ext (Ext.trans (Ext.trans (Ext.trans (Ext.trans (Ext.drew _) hx355) hx360) hx365) hx370)).keptR hx375 (fun b hb => by have h1 := (odx.own.lt b hb).1; have h2 := odx.top b hb; omega)
                      replace hO11 := (hO11.ext (Ext.trans (Ext.trans (Ext.trans (Ext.trans (Ext.drew _) hx355) hx360) hx365) hx370)).keptR hx375 (fun b hb => by have h1 := (odx.own.lt b hb).1; have h2 := odx.top b hb; omega)
                      replace hO13 := (hO13.ext (Ext.trans (Ext.trans (Ext.trans (Ext.trans (Ext.drew _) hx355) hx360) hx365) hx370)).keptR hx375 (fun b hb => by have h1 := (odx.own.lt b hb).1; have h2 := odx.top b hb; omega)
                      replace oyT := (oyT.ext (Ext.trans (Ext.trans (Ext.trans (Ext.trans (Ext.drew _) hx355) hx360) hx365) hx370)).kept hx375 (fun b hb => by have h1 := (odx.own.lt b hb).1; have h2 := odx.top b hb; omega)
                      replace ody := (ody.ext (Ext.trans (Ext.trans (Ext.trans (Ext.trans (Ext.drew _) hx355) hx360) hx365) hx370)).kept hx375 (fun b hb => by have h1 := (odx.own.lt b hb).1; have h2 := odx.top b hb; omega)
                      replace hO12 := (hO12.ext (Ext.trans (Ext.trans (Ext.trans (Ext.trans (Ext.drew _) hx355) hx360) hx365) hx370)).keptR hx375 (fun b hb => by have h1 := (odx.own.lt b hb).1; have h2 := odx.top b hb; omega)
                      replace oxT := oxT.keptA hx375 hfx
                      refine WL.nil ?_
                      refine thn_n ?_
                      refine WF.seq ?_
                      refine WF.seq ?_
                      refine WF.region ?_
                      refine WL.va rfl rfl rfl (X.loadOA hO10 (Ext.refl _) rfl rfl Try.isAgg51 Try.sizeOf51) ?_
                      refine WL.va rfl rfl rfl (X.loadOA hO12 (Ext.refl _) rfl rfl Try.isAgg51 Try.sizeOf51) ?_
                      refine WL.c rfl rfl rfl (X.call Try.call36 (evl_cons rfl (evl_cons rfl evl_nil))) (sameDir_self (oxT.at hFx) (oyT.at hFy) rfl) ?_
                      rintro v377 w376 ⟨rfl, hx378⟩
                      have := World.grownBy.size hx378
                      refine WL.va rfl rfl rfl (X.not rfl) ?_
                      refine WL.nil ?_
                      refine thn_n ?_
                      refine WF.cond_f rfl ?_
                      refine WF.skip ?_
                      refine thn_n ?_
                      refine WF.seq ?_
                      refine WF.region ?_
                      refine WL.va rfl rfl rfl (X.loadOA hO10 hx378 rfl rfl Try.isAgg51 Try.sizeOf51) ?_
                      refine WL.c rfl rfl rfl (X.call Try.call37 (evl_cons rfl evl_nil)) (spoilDir_ok (appF now (l[k]'hk).n).1 vx ux Fx _ Bx Tx (oxT.ext hx378)) ?_
                      rintro v382 w381 hcS
                      have := hcS.size
                      replace hO6 := (hO6.ext hx378).chg hcS (by omega)
                      replace onT := (onT.ext hx378).chg hcS (by omega)
                      replace oiT := (oiT.ext hx378).chg hcS (by omega)
                      replace hO8 := (hO8.ext hx378).chg hcS (by omega)
                      replace hSo := (hSo.ext hx378).chg hcS (by omega)
                      replace hO9 := (hO9.ext hx378).chg hcS (by omega)
                      replace hO10 := (hO10.ext hx378).chg hcS (by omega)
                      replace hO11 := (hO11.ext hx378).chg hcS (by omega)
                      replace hO13 := (hO13.ext hx378).chg hcS (by omega)
                      replace oyT := (oyT.ext hx378).chg hcS (by omega)
                      replace ody := (ody.ext hx378).chg hcS (by omega)
                      replace hO12 := (hO12.ext hx378).chg hcS (by omega)
                      refine WL.nil ?_
                      refine thn_n ?_
                      refine WF.seq ?_
                      refine WF.seq ?_
                      refine WF.region ?_
                      refine WL.va rfl rfl rfl (X.loadOA hO8 (Ext.refl _) rfl rfl Try.isAgg51 Try.sizeOf51) ?_
                      refine WL.va rfl rfl rfl (X.loadOA hO6 (Ext.refl _) ((hAL1.eq 6).trans (congrFun hF43 6)) rfl Try.isAgg51 Try.sizeOf51) ?_
                      refine WL.c rfl rfl rfl (X.call Try.call36 (evl_cons rfl (evl_cons rfl evl_nil))) (sameDir_self (oiT.at hFi) (onT.at hFn) rfl) ?_
                      rintro v385 w384 ⟨rfl, hx386⟩
                      have := World.grownBy.size hx386
                      refine WL.va rfl rfl rfl (X.not rfl) ?_
                      refine WL.nil ?_
                      refine thn_n ?_
                      refine WF.cond_f rfl ?_
                      refine WF.skip ?_
                      refine thn_n ?_
                      refine WF.region ?_
                      refine WL.va rfl rfl rfl (X.loadOA hO12 hx386 rfl rfl Try.isAgg51 Try.sizeOf51) ?_
                      refine WL.op rfl (OW.storeOA (hO6.ext hx386) ((hAL1.eq 6).trans (congrFun hF43 6)) rfl rfl (Dr.c_one _ oyT.rng.rd (own_one oyT.ses.own.row)) Try.sizeOf51 ?_)
                      intro w389 hO6 hx391
                      have := World.grownBy.size hx391
                      replace hO8 := (hO8.ext hx386).keptO hx391 (by omega)
                      replace hO9 := (hO9.ext hx386).keptO hx391 (by omega)
                      replace hO10 := (hO10.ext hx386).keptO hx391 (by omega)
                      replace hO11 := (hO11.ext hx386).keptO hx391 (by omega)
                      replace hO13 := (hO13.ext hx386).keptO hx391 (by omega)
                      replace oyT := (oyT.ext hx386).keptO hx391 (by omega)
                      replace ody := (ody.ext hx386).keptO hx391 (by omega)
                      replace hO12 := (hO12.ext hx386).keptO hx391 (by omega)
                      replace hO6 : Blk _ _ _ ((appF now (l[k]'hk).n).1.c vy uy) := hO6
                      refine WL.nil ?_
                      refine blk_n ?_
                      refine thn_n ?_
                      refine WF.region ?_
                      refine WL.va rfl rfl rfl (X.moveI e7_L1) ?_
                      refine WL.va rfl rfl rfl (X.add rfl rfl (w64 (by omega))) ?_
                      refine WL.va rfl rfl rfl (X.assignI rfl) ?_
                      refine WL.nil ?_
                      exact thn_n ⟨_, (by omega), k + 1, (appF now (l[k]'hk).n).1, vy, uy, Fy, By, Ty, rfl, rfl, (by repeat (first | exact hAL1 | refine Agree.put ?_ rfl | refine Agree.sub hAL0 rfl ?_ | refine Agree.named hF43 ?_ | refine Agree.named hF22 ?_)), (Ext.store (Ext.trans (Chg.ext (Ext.trans (grown_trans (Ext.trans (Ext.trans (Ext.trans (Ext.trans (Ext.trans (Ext.trans (Ext.trans (Ext.store (Ext.trans (Ext.trans (Ext.trans (Ext.trans (Ext.trans (Ext.trans (Ext.trans hwL1 hx50) hx59) (Ext.store hx62 hx67 (by omega))) hx71) (Ext.store hx74 hx78 (by omega))) hx82) (Ext.store (Ext.trans hx85 hx89) hx93 (by omega))) hx97 (by omega)) (Ext.drew _)) (Ext.store (Ext.trans (Ext.trans hx335 hx339) (Ext.store hx342 hx346 (by omega))) hx350 (by omega))) (Ext.drew _)) hx355) hx360) hx365) hx370) hx375 (fun i hi => by have := (odx.own.lt i hi).1; omega)) hx378) hcS (by omega)) hx386) hx391 (by omega)), ⟨by omega, by omega, app_good hng _, Nat.le_trans (app_len now _) (by omega), app_data hng _ hnD, hFy, hO6, oyT, by omega, .inl (by omega)⟩⟩
                    · refine LO.go rfl rfl (OW.allocO (cs := [.slice none 0 0, i64 0, i64 0, i64 0, i64 0, i64 0, i64 0, .slice none 0 0]) Try.zeroValue51 rfl ?_ (by decide))
                      intro g12 w393 heg12 hlg12 hO12 hx395
                      have := World.grownBy.size hx395
                      refine ⟨(Ext.trans (Ext.trans (Ext.drew _) hx335) hx395), ?_⟩
                      refine WO.l ?_
                      obtain ⟨By, hBy⟩ : ∃ B, B = w393.heap.size := ⟨_, rfl⟩
                      refine LO.go rfl rfl (OW.enter rfl (by decide) (X.call Try.call46 (evl_cons rfl (evl_cons rfl evl_nil))) (applyR_ok now vn un vP vR vW vD (l[k]'hk) _ ((onT.ext (Ext.trans (Ext.trans (Ext.drew _) hx335) hx395)).at hFn) hng (by omega) (fun s hs => Nat.le_trans (hnD s hs) (by decide)) (hop.ext (Ext.trans (Ext.trans (Ext.trans (Ext.store (Ext.trans (Ext.trans (Ext.trans (Ext.trans (Ext.trans (Ext.trans (Ext.trans hwL1 hx50) hx59) (Ext.store hx62 hx67 (by omega))) hx71) (Ext.store hx74 hx78 (by omega))) hx82) (Ext.store (Ext.trans hx85 hx89) hx93 (by omega))) hx97 (by omega)) (Ext.drew _)) hx335) hx395))) ?_)
                      rintro v398 w397 ⟨⟨vy, uy, dy, Fy, rfl, hFy, oyT, ody, _⟩, hx399⟩
                      have := World.grownBy.size hx399
                      refine ⟨(Ext.trans (Ext.trans (Ext.trans (Ext.drew _) hx335) hx395) hx399), ?_⟩
                      obtain ⟨Ty, hTy⟩ : ∃ T, T = w397.heap.size := ⟨_, rfl⟩
                      rw [← hBy, ← hTy] at oyT ody
                      refine WO.q rfl rfl rfl rfl (fun w' hE99 => (X.move rfl)) ?_
                      refine WO.q rfl rfl rfl rfl (fun w' hE99 => (X.extract rfl rfl)) ?_
                      refine WO.q rfl rfl rfl rfl (fun w' hE99 => (X.extract rfl rfl)) ?_
                      refine WO.l ?_
                      refine LO.go rfl rfl (OW.storeOA (hO12.ext hx399) rfl rfl rfl (Dr.c_one _ oyT.rng.rd (own_one oyT.ses.own.row)) Try.sizeOf51 ?_)
                      intro w400 hO12 hx402
                      have := World.grownBy.size hx402
                      replace hO6 := (hO6.ext (Ext.trans (Ext.trans (Ext.trans (Ext.drew _) hx335) hx395) hx399)).keptO hx402 (by omega)
                      replace onT := (onT.ext (Ext.trans (Ext.trans (Ext.trans (Ext.drew _) hx335) hx395) hx399)).keptO hx402 (by omega)
                      replace oiT := (oiT.ext (Ext.trans (Ext.trans (Ext.trans (Ext.drew _) hx335) hx395) hx399)).keptO hx402 (by omega)
                      replace hO8 := (hO8.ext (Ext.trans (Ext.trans (Ext.trans (Ext.drew _) hx335) hx395) hx399)).keptO hx402 (by omega)
                      replace hSo := (hSo.ext (Ext.trans (Ext.trans (Ext.trans (Ext.drew _) hx335) hx395) hx399)).keptO hx402 (by omega)
                      replace hO9 := (hO9.ext (Ext.trans (Ext.trans (Ext.trans (Ext.drew _) hx335) hx395) hx399)).keptO hx402 (by omega)
                      replace oxT := (oxT.ext (Ext.trans (Ext.trans (Ext.trans (Ext.drew _) hx335) hx395) hx399)).keptO hx402 (by omega)
                      replace odx := (odx.ext (Ext.trans (Ext.trans (Ext.trans (Ext.drew _) hx335) hx395) hx399)).keptO hx402 (by omega)
                      replace hO10 := (hO10.ext (Ext.trans (Ext.trans (Ext.trans (Ext.drew _) hx335) hx395) hx399)).keptO hx402 (by omega)
                      replace hO11 := (hO11.ext (Ext.trans (Ext.trans (Ext.trans (Ext.drew _) hx335) hx395) hx399)).keptO hx402 (by omega)
                      replace hO13 := (hO13.ext (Ext.trans hx395 hx399)).keptO hx402 (by omega)
                      replace oyT := oyT.keptO hx402 (by omega)
                      replace ody := ody.keptO hx402 (by omega)
                      replace hO12 : Blk _ _ _ ((appF now (l[k]'hk).n).1.c vy uy) := hO12
                      refine ⟨(Ext.trans (Ext.trans (Ext.drew _) hx335) (Ext.store (Ext.trans hx395 hx399) hx402 (by omega))), ?_⟩
                      refine WO.nil ?_
                      refine WL.op rfl (OW.storeOA hO13 rfl rfl rfl (ones2 _ (own_one ody.own)) Try.sizeOf53 ?_)
                      intro w404 hO13 hx406
                      have := World.grownBy.size hx406
                      replace hO6 := hO6.keptO hx406 (by omega)
                      replace onT := onT.keptO hx406 (by omega)
                      replace oiT := oiT.keptO hx406 (by omega)
                      replace hO8 := hO8.keptO hx406 (by omega)
                      replace hSo := hSo.keptO hx406 (by omega)
                      replace hO9 := hO9.keptO hx406 (by omega)
                      replace oxT := oxT.keptO hx406 (by omega)
                      replace odx := odx.keptO hx406 (by omega)
                      replace hO10 := hO10.keptO hx406 (by omega)
                      replace hO11 := hO11.keptO hx406 (by omega)
                      replace hO12 := hO12.keptO hx406 (by omega)
                      replace oyT := oyT.keptO hx406 (by omega)
                      replace ody := ody.keptO hx406 (by omega)
                      refine WL.nil ?_
                      refine thn_n ?_
                      refine WF.seq ?_
                      refine WF.seq ?_
                      refine WF.drawn (.q 0 (.q 1 (.l 2 (.q 3 (.q 4 (.q 5 (.q 6 (.l 7 (.q 8 (.q 9 (.q 10 (.q 11 (.q 12 (.l 13 (.q 14 (.q 15 (.q 16 (.q 17 (.q 18 (.q 19 (.q 20 (.q 21 (.l 22 (.q 23 (.q 24 .nil))))))))))))))))))))))))) (fun w' => Ext w404 w') 25 (by kernel_rfl) (by kernel_rfl) (Ext.drew _) ?_
                      have := World.grownBy.size (Ext.drew w404)
                      refine WO.q rfl rfl rfl rfl (fun w' hE408 => (X.loadOA hO10 hE408 rfl rfl Try.isAgg51 Try.sizeOf51)) ?_
                      refine WO.q rfl rfl rfl rfl (fun w' hE408 => (X.loadOA hO12 hE408 rfl rfl Try.isAgg51 Try.sizeOf51)) ?_
                      refine WO.l ?_
                      refine LO.go rfl rfl (OW.enter rfl (by decide) (X.call Try.call36 (evl_cons rfl (evl_cons rfl evl_nil))) (sameDir_self ((oxT.ext (Ext.drew _)).at hFx) ((oyT.ext (Ext.drew _)).at hFy) rfl) ?_)
                      rintro v410 w409 ⟨rfl, hx411⟩
                      have := World.grownBy.size hx411
                      refine ⟨(Ext.trans (Ext.drew _) hx411), ?_⟩
                      refine WO.q rfl rfl rfl rfl (fun w' hE408 => (X.not rfl)) ?_
                      refine WO.q rfl rfl rfl rfl (fun w' hE408 => (X.moveB rfl)) ?_
                      refine WO.qg rfl rfl rfl rfl rfl (fun w' hE408 => (X.loadOA hO11 hE408 rfl rfl Try.isAgg53 Try.sizeOf53)) ?_
                      refine WO.qg rfl rfl rfl rfl rfl (fun w' hE408 => (X.loadOA hO13 hE408 rfl rfl Try.isAgg53 Try.sizeOf53)) ?_
                      refine WO.l ?_
                      refine LO.gog rfl rfl rfl (OW.enter rfl (by decide) (X.call Try.call47 (evl_cons rfl (evl_cons rfl evl_nil))) (sameRes_self (odx.ext (Ext.trans (Ext.drew _) hx411)).rd (ody.ext (Ext.trans (Ext.drew _) hx411)).rd ⟨rfl, rfl⟩) ?_)
                      rintro v415 w414 ⟨rfl, hx416⟩
                      have := World.grownBy.size hx416
                      refine ⟨(Ext.trans (Ext.trans (Ext.drew _) hx411) hx416), ?_⟩
                      refine WO.qg rfl rfl rfl rfl rfl (fun w' hE408 => (X.not rfl)) ?_
                      refine WO.q rfl rfl rfl rfl (fun w' hE408 => (X.pickF rfl rfl rfl)) ?_
                      refine WO.q rfl rfl rfl rfl (fun w' hE408 => (X.moveB rfl)) ?_
                      refine WO.qg rfl rfl rfl rfl rfl (fun w' hE408 => (X.loadOA hO8 hE408 rfl rfl Try.isAgg51 Try.sizeOf51)) ?_
                      refine WO.qg rfl rfl rfl rfl rfl (fun w' hE408 => (X.loadOA hO6 hE408 ((hAL1.eq 6).trans (congrFun hF43 6)) rfl Try.isAgg51 Try.sizeOf51)) ?_
                      refine WO.l ?_
                      refine LO.gog rfl rfl rfl (OW.enter rfl (by decide) (X.call Try.call36 (evl_cons rfl (evl_cons rfl evl_nil))) (sameDir_self ((oiT.ext (Ext.trans (Ext.trans (Ext.drew _) hx411) hx416)).at hFi) ((onT.ext (Ext.trans (Ext.trans (Ext.drew _) hx411) hx416)).at hFn) rfl) ?_)
                      rintro v420 w419 ⟨rfl, hx421⟩
                      have := World.grownBy.size hx421
                      refine ⟨(Ext.trans (Ext.trans (Ext.trans (Ext.drew _) hx411) hx416) hx421), ?_⟩
                      refine WO.qg rfl rfl rfl rfl rfl (fun w' hE408 => (X.not rfl)) ?_
                      refine WO.q rfl rfl rfl rfl (fun w' hE408 => (X.pickF rfl rfl rfl)) ?_
                      refine WO.q rfl rfl rfl rfl (fun w' hE408 => (X.moveB rfl)) ?_
                      refine WO.qg rfl rfl rfl rfl rfl (fun w' hE408 => (X.loadOA hO9 hE408 rfl rfl Try.isAgg72 Try.sizeOf72)) ?_
                      refine WO.qg rfl rfl rfl rfl rfl (fun w' hE408 => (X.move ((hAL1.eq 1).trans ((congrFun hF43 1).trans ((hAL0.eq 1).trans (congrFun hF22 1)))))) ?_
                      refine WO.qg rfl rfl rfl rfl rfl (fun w' hE408 => (X.moveI e7_L1)) ?_
                      refine WO.qg rfl rfl rfl rfl rfl (fun w' hE408 => (X.idx hr rfl rfl (by omega) Try.underlying67 Try.sizeOf72)) ?_
                      refine WO.qg rfl rfl rfl rfl rfl (fun w' hE408 => (X.loadEl hr (Ext.trans (Ext.trans (Ext.trans (Ext.store (Ext.trans (Ext.trans (Ext.trans (Ext.trans (Ext.trans (Ext.trans (Ext.trans hwL1 hx50) hx59) (Ext.store hx62 hx67 (by omega))) hx71) (Ext.store hx74 hx78 (by omega))) hx82) (Ext.store (Ext.trans hx85 hx89) hx93 (by omega))) hx97 (by omega)) (Ext.drew _)) (Ext.store (Ext.trans hx335 (Ext.store (Ext.trans hx395 hx399) hx402 (by omega))) hx406 (by omega))) hE408) rfl (by omega) hel Try.isAgg72 Try.sizeOf72)) ?_
                      refine WO.l ?_
                      refine LO.gog rfl rfl rfl (OW.enter rfl (by decide) (X.call Try.call48 (evl_cons rfl (evl_cons rfl evl_nil))) (sameOp_self (hAo.ext (hSo.ext (Ext.trans (Ext.trans (Ext.trans (Ext.drew _) hx411) hx416) hx421)).x) (hop.ext (Ext.trans (Ext.trans (Ext.trans (Ext.trans (Ext.trans (Ext.trans (Ext.store (Ext.trans (Ext.trans (Ext.trans (Ext.trans (Ext.trans (Ext.trans (Ext.trans hwL1 hx50) hx59) (Ext.store hx62 hx67 (by omega))) hx71) (Ext.store hx74 hx78 (by omega))) hx82) (Ext.store (Ext.trans hx85 hx89) hx93 (by omega))) hx97 (by omega)) (Ext.drew _)) (Ext.store (Ext.trans hx335 (Ext.store (Ext.trans hx395 hx399) hx402 (by omega))) hx406 (by omega))) (Ext.drew _)) hx411) hx416) hx421))) ?_)
                      rintro v425 w424 ⟨rfl, hx426⟩
                      have := World.grownBy.size hx426
                      refine ⟨(Ext.trans (Ext.trans (Ext.trans (Ext.trans (Ext.drew _) hx411) hx416) hx421) hx426), ?_⟩
                      refine WO.qg rfl rfl rfl rfl rfl (fun w' hE408 => (X.not rfl)) ?_
                      refine WO.q rfl rfl rfl rfl (fun w' hE408 => (X.pickF rfl rfl rfl)) ?_
                      refine WO.nil ?_
                      refine WL.nil ?_
                      refine thn_n ?_
                      refine WF.cond_f rfl ?_
                      refine WF.skip ?_
                      refine thn_n ?_
                      refine WF.seq ?_
                      refine WF.region ?_
                      refine WL.va rfl rfl rfl (X.fieldAddrO (off := 1) rfl Try.underlying53 rfl rfl Try.sizeOf46) ?_
                      refine WL.va rfl rfl rfl (X.loadO hO11 (Ext.trans (Ext.trans (Ext.trans (Ext.trans (Ext.drew _) hx411) hx416) hx421) hx426) rfl rfl Try.isAgg46) ?_
                      replace oxT := (oxT.ext (Ext.trans (Ext.trans (Ext.trans (Ext.trans (Ext.drew _) hx411) hx416) hx421) hx426))
                      refine WL.c rfl rfl rfl (X.call Try.call49 (evl_cons rfl evl_nil)) (spoilBytes_ok dx _ _ Bx (odx.ext (Ext.trans (Ext.trans (Ext.trans (Ext.trans (Ext.drew _) hx411) hx416) hx421) hx426)).own) ?_
                      rintro v430 w429 ⟨_, hx431⟩
                      have := World.grownBy.size hx431
                      replace hO6 := (hO6.ext (Ext.trans (Ext.trans (Ext.trans (Ext.trans (Ext.drew _) hx411) hx416) hx421) hx426)).keptR hx431 (fun b hb => by have h1 := (odx.own.lt b hb).1; have h2 := odx.top b hb; omega)
                      replace onT := (onT.ext (Ext.trans (Ext.trans (Ext.trans (Ext.trans (Ext.drew _) hx411) hx416) hx421) hx426)).kept hx431 (fun b hb => by have h1 := (odx.own.lt b hb).1; have h2 := odx.top b hb; omega)
                      replace oiT := (oiT.ext (Ext.trans (Ext.trans (Ext.trans (Ext.trans (Ext.drew _) hx411) hx416) hx421) hx426)).kept hx431 (fun b hb => by have h1 := (odx.own.lt b hb).1; have h2 := odx.top b hb; omega)
                      replace hO8 := (hO8.ext (Ext.trans (Ext.trans (Ext.trans (Ext.trans (Ext.drew _) hx411) hx416) hx421) hx426)).keptR hx431 (fun b hb => by have h1 := (odx.own.lt b hb).1; have h2 := odx.top b hb; omega)
                      replace hSo := (hSo.ext (Ext.trans (Ext.trans (Ext.trans (Ext.trans (Ext.drew _) hx411) hx416) hx421) hx426)).kept hx431 (fun b hb => by have h1 := (odx.own.lt b hb).1; have h2 := odx.top b hb; omega)
                      replace hO9 := (hO9.ext (Ext.trans (Ext.trans (Ext.trans (Ext.trans (Ext.drew _) hx411) hx416) hx421) hx426)).keptR hx431 (fun b hb => by have h1 := (odx.own.lt b hb).1; have h2 := odx.top b hb; omega)
                      replace hO10 := (hO10.ext (Ext.trans (Ext.trans (Ext.trans (Ext.trans (Ext.drew _) hx411) hx416) hx421) hx426)).keptR hx431 (fun b hb => by have h1 := (odx.own.lt b hb).1; have h2 := odx.top b hb; omega)
                      replace hO11 := (hO11.ext (Ext.trans (Ext.trans (Ext.trans (Ext.trans (Ext.drew _) hx411) hx416) hx421) hx426)).keptR hx431 (fun b hb => by have h1 := (odx.own.lt b hb).1; have h2 := odx.top b hb; omega)
                      replace hO13 := (hO13.ext (Ext.trans (Ext.trans (Ext.trans (Ext.trans (Ext.drew _) hx411) hx416) hx421) hx426)).keptR hx431 (fun b hb => by have h1 := (odx.own.lt b hb).1; have h2 := odx.top b hb; omega)
                      replace hO12 := (hO12.ext (Ext.trans (Ext.trans (Ext.trans (Ext.trans (Ext.drew _) hx411) hx416) hx421) hx426)).keptR hx431 (fun b hb => by have h1 := (odx.own.lt b hb).1; have h2 := odx.top b hb; omega)
                      replace oyT := (oyT.ext (Ext.trans (Ext.trans (Ext.trans (Ext.trans (Ext.drew _) hx411) hx416) hx421) hx426)).kept hx431 (fun b hb => by have h1 := (odx.own.lt b hb).1; have h2 := odx.top b hb; omega)
                      replace ody := (ody.ext (Ext.trans (Ext.trans (Ext.trans (Ext.trans (Ext.drew _) hx411) hx416) hx421) hx426)).kept hx431 (fun b hb => by have h1 := (odx.own.lt b hb).1; have h2 := odx.top b hb; omega)
                      replace oxT := oxT.keptA hx431 hfx
                      refine WL.nil ?_
                      refine thn_n ?_
                      refine WF.seq ?_
                      refine WF.seq ?_
                      refine WF.region ?_
                      refine WL.va rfl rfl rfl (X.loadOA hO10 (Ext.refl _) rfl rfl Try.isAgg51 Try.sizeOf51) ?_
                      refine WL.va rfl rfl rfl (X.loadOA hO12 (Ext.refl _) rfl rfl Try.isAgg51 Try.sizeOf51) ?_
                      refine WL.c rfl rfl rfl (X.call Try.call36 (evl_cons rfl (evl_cons rfl evl_nil))) (sameDir_self (oxT.at hFx) (oyT.at hFy) rfl) ?_
                      rintro v433 w432 ⟨rfl, hx434⟩
                      have := World.grownBy.size hx434
                      refine WL.va rfl rfl rfl (X.not rfl) ?_
                      refine WL.nil ?_
                      refine thn_n ?_
                      refine WF.cond_f rfl ?_
                      refine WF.skip ?_
                      refine thn_n ?_
                      refine WF.seq ?_
                      refine WF.region ?_
                      refine WL.va rfl rfl rfl (X.loadOA hO10 hx434 rfl rfl Try.isAgg51 Try.sizeOf51) ?_
                      refine WL.c rfl rfl rfl (X.call Try.call37 (evl_cons rfl evl_nil)) (spoilDir_ok (appF now (l[k]'hk).n).1 vx ux Fx _ Bx Tx (oxT.ext hx434)) ?_
                      rintro v438 w437 hcS
                      have := hcS.size
                      replace hO6 := (hO6.ext hx434).chg hcS (by omega)
                      replace onT := (onT.ext hx434).chg hcS (by omega)
                      replace oiT := (oiT.ext hx434).chg hcS (by omega)
                      replace hO8 := (hO8.ext hx434).chg hcS (by omega)
                      replace hSo := (hSo.ext hx434).chg hcS (by omega)
                      replace hO9 := (hO9.ext hx434).chg hcS (by omega)
                      replace hO10 := (hO10.ext hx434).chg hcS (by omega)
                      replace hO11 := (hO11.ext hx434).chg hcS (by omega)
                      replace hO13 := (hO13.ext hx434).chg hcS (by omega)
                      replace hO12 := (hO12.ext hx434).chg hcS (by omega)
                      replace oyT := (oyT.ext hx434).chg hcS (by omega)
                      replace ody := (ody.ext hx434).chg hcS (by omega)
                      refine WL.nil ?_
                      refine thn_n ?_
                      refine WF.seq ?_
                      refine WF.seq ?_
                      refine WF.region ?_
                      refine WL.va rfl rfl rfl (X.loadOA hO8 (Ext.refl _) rfl rfl Try.isAgg51 Try.sizeOf51) ?_
                      refine WL.va rfl rfl rfl (X.loadOA hO6 (Ext.refl _) ((hAL1.eq 6).trans (congrFun hF43 6)) rfl Try.isAgg51 Try.sizeOf51) ?_
                      refine WL.c rfl rfl rfl (X.call Try.call36 (evl_cons rfl (evl_cons rfl evl_nil))) (sameDir_self (oiT.at hFi) (onT.at hFn) rfl) ?_
                      rintro v441 w440 ⟨rfl, hx442⟩
                      have := World.grownBy.size hx442
                      refine WL.va rfl rfl rfl (X.not rfl) ?_
                      refine WL.nil ?_
                      refine thn_n ?_
                      refine WF.cond_f rfl ?_
                      refine WF.skip ?_
                      refine thn_n ?_
                      refine WF.region ?_
                      refine WL.va rfl rfl rfl (X.loadOA hO12 hx442 rfl rfl Try.isAgg51 Try.sizeOf51) ?_
                      refine WL.op rfl (OW.storeOA (hO6.ext hx442) ((hAL1.eq 6).trans (congrFun hF43 6)) rfl rfl (Dr.c_one _ oyT.rng.rd (own_one oyT.ses.own.row)) Try.sizeOf51 ?_)
                      intro w445 hO6 hx447
                      have := World.grownBy.size hx447
                      replace hO8 := (hO8.ext hx442).keptO hx447 (by omega)
                      replace hO9 := (hO9.ext hx442).keptO hx447 (by omega)
                      replace hO10 := (hO10.ext hx442).keptO hx447 (by omega)
                      replace hO11 := (hO11.ext hx442).keptO hx447 (by omega)
                      replace hO13 := (hO13.ext hx442).keptO hx447 (by omega)
                      replace hO12 := (hO12.ext hx442).keptO hx447 (by omega)
                      replace oyT := (oyT.ext hx442).keptO hx447 (by omega)
                      replace ody := (ody.ext hx442).keptO hx447 (by omega)
                      replace hO6 : Blk _ _ _ ((appF now (l[k]'hk).n).1.c vy uy) := hO6
                      refine WL.nil ?_
                      refine blk_n ?_
                      refine thn_n ?_
                      refine WF.region ?_
                      refine WL.va rfl rfl rfl (X.moveI e7_L1) ?_
                      refine WL.va rfl rfl rfl (X.add rfl rfl (w64 (by omega))) ?_
                      refine WL.va rfl rfl rfl (X.assignI rfl) ?_
                      refine WL.nil ?_
                      exact thn_n ⟨_, (by omega), k + 1, (appF now (l[k]'hk).n).1, vy, uy, Fy, By, Ty, rfl, rfl, (by repeat (first | exact hAL1 | refine Agree.put ?_ rfl | refine Agree.sub hAL0 rfl ?_ | refine Agree.named hF43 ?_ | refine Agree.named hF22 ?_)), (Ext.store (Ext.trans (Chg.ext (Ext.trans (grown_trans (Ext.trans (Ext.trans (Ext.trans (Ext.trans (Ext.trans (Ext.trans (Ext.trans (Ext.store (Ext.trans (Ext.trans (Ext.trans (Ext.trans (Ext.trans (Ext.trans (Ext.trans hwL1 hx50) hx59) (Ext.store hx62 hx67 (by omega))) hx71) (Ext.store hx74 hx78 (by omega))) hx82) (Ext.store (Ext.trans hx85 hx89) hx93 (by omega))) hx97 (by omega)) (Ext.drew _)) (Ext.store (Ext.trans hx335 (Ext.store (Ext.trans hx395 hx399) hx402 (by omega))) hx406 (by omega))) (Ext.drew _)) hx411) hx416) hx421) hx426) hx431 (fun i hi => by have := (odx.own.lt i hi).1; omega)) hx434) hcS (by omega)) hx442) hx447 (by omega)), ⟨by omega, by omega, app_good hng _, Nat.le_trans (app_len now _) (by omega), app_data hng _ hnD, hFy, hO6, oyT, by omega, .inl (by omega)⟩⟩
              · have gh3_46 := (of_decide_eq_false h3_46)
                refine WF.exit ?_
                refine thn_x ?_
                refine thn_x ?_
                refine blk_eq ?_
                refine thn_n ?_
                refine WF.seq ?_
                refine WF.region ?_
                refine WL.c rfl rfl rfl (X.call Try.call13 evl_nil) (known_ok _) ?_
                rintro v450 w449 ⟨rfl, hx451⟩
                have := World.grownBy.size hx451
                refine WL.va rfl rfl rfl (X.assignB rfl) ?_
                refine WL.nil ?_
                refine thn_n ?_
                refine WF.ret ?_
                refine fin_r ?_
                exact ⟨rfl, (Ext.trans hwL1 hx451)⟩
            · have gh45 := (of_decide_eq_false h45)
              refine WL.p rfl rfl rfl (congrArg some h45) ?_
              refine WL.p rfl rfl rfl (congrArg some h45) ?_
              refine WL.va rfl rfl rfl (X.pickF rfl h45 rfl) ?_
              refine WL.nil ?_
              refine thn_n ?_
              refine WF.cond_f rfl ?_
              refine WF.exit ?_
              refine thn_x ?_
              refine thn_x ?_
              refine blk_eq ?_
              refine thn_n ?_
              refine WF.seq ?_
              refine WF.region ?_
              refine WL.c rfl rfl rfl (X.call Try.call13 evl_nil) (known_ok _) ?_
              rintro v455 w454 ⟨rfl, hx456⟩
              have := World.grownBy.size hx456
              refine WL.va rfl rfl rfl (X.assignB rfl) ?_
              refine WL.nil ?_
              refine thn_n ?_
              refine WF.ret ?_
              refine fin_r ?_
              exact ⟨rfl, (Ext.trans hwL1 hx456)⟩

end Go.Proofs.Ytpimnlgfhpnjnaa
