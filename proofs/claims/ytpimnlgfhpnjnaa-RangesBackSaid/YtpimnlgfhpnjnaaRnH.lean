/- The walk of RangesBack. -/
import Derived.Test.YtpimnlgfhpnjnaaBak
namespace Go.Proofs.Ytpimnlgfhpnjnaa
open Go Go.RowKit Kf
set_option maxRecDepth 20000

theorem DSeg.kept {w w' : World} {B : Nat} {v u : Value} {d : Dr} {row : Option Nat} (h : DSeg w B v u d) (k : w.grownBy w' row) (hne : ∀ g, row = some g → g < B ∨ w.heap.size ≤ g) : DSeg w' B v u d := by
  cases row with
  | none => exact h.ext k
  | some g => exact h.keptO k (hne g rfl)
theorem DSeg.one {w : World} {B : Nat} {v u : Value} {d : Dr} (h : DSeg w B v u d) : ∀ x ∈ d.c v u, x.oneCell' = true := by
  obtain ⟨D, L, F, e, o, od, hs, ha⟩ := h.ses
  exact d.c_one (Row.of_own h.rng) (own_one o)
section
variable {w : World}
theorem kept_self {va vl : Value} {l : List UInt8} (ha : Bytes w va (l ++ List.replicate 5 0xA5)) (hb : Bytes w vl l) (hm : l.length ≤ 281474976710651) : FnOk Try.prog 38 [va, vl] w (fun r w' => r = .bool true ∧ Ext w w') :=
  (keptBytes_ok va vl _ l w ha hb hm).mono fun r w' ⟨e, g⟩ => ⟨by rw [e, decide_eq_true rfl], g⟩
end
theorem small_of {E : List Se.SV} {d : Dr} (hE : E.map Prod.fst = d.S) (h : ∀ j (hj : j < E.length), E[j].1.Data.length ≤ 4096) : ∀ s ∈ d.S, s.Data.length ≤ 4096 := by
  intro s hs
  rw [← hE] at hs
  obtain ⟨e, he, rfl⟩ := List.mem_map.1 hs
  obtain ⟨j, hj, rfl⟩ := List.getElem_of_mem he
  exact h j hj
section
variable {E : List Se.SV} {i : Nat}
theorem rises_take (hi : i < E.length) : risesB ((E.map Prod.fst).take (i + 1)) = (risesB ((E.map Prod.fst).take i) && (decide (i = 0) || decide ((E[i - 1]'(by omega)).1.Client < E[i].1.Client))) := by
  have hl : ((E.map Prod.fst).take i).length = i := by simp; omega
  rw [take_map hi, rises_snoc, hl]
  by_cases h0 : i = 0
  · subst h0; simp
  · have : ((E.map Prod.fst).take i).getD (i - 1) default = (E[i - 1]'(by omega)).1 := by
      simp only [List.getD_eq_getElem?_getD, List.getElem?_take, if_pos (show i - 1 < i by omega), List.getElem?_map, List.getElem?_eq_getElem (show i - 1 < E.length by omega), Option.map_some, Option.getD_some]
    rw [this]
theorem rises_A (hi : i < E.length) (h : risesB ((E.map Prod.fst).take i) = false) : Value.bool false = .bool (risesB ((E.map Prod.fst).take (i + 1))) := by
  rw [rises_take hi, h]; rfl
theorem rises_B (hi : i < E.length) (h : risesB ((E.map Prod.fst).take i) = true) (h0 : i = 0) : Value.bool true = .bool (risesB ((E.map Prod.fst).take (i + 1))) := by
  rw [rises_take hi, h, decide_eq_true h0]; rfl
theorem rises_C (hi : i < E.length) (h : risesB ((E.map Prod.fst).take i) = true) (h0 : ¬ i = 0) : Value.bool (decide ((E[i - 1]'(by omega)).1.Client < E[i].1.Client)) = .bool (risesB ((E.map Prod.fst).take (i + 1))) := by
  rw [rises_take hi, h, decide_eq_false h0]; rfl
end
theorem flat_ses_le {l : List Se.Ses} (h : ∀ s ∈ l, s.Data.length ≤ 4096) : (l.flatMap sesB).length ≤ 4128 * l.length := by
  induction l with
  | nil => exact Nat.le_refl _
  | cons a l ih =>
    have h1 := h a (by simp)
    have h2 := ih fun s hs => h s (List.mem_cons_of_mem _ hs)
    simp only [List.flatMap_cons, List.length_append, List.length_cons, sesB_len]; omega
theorem drB_le {d : Dr} (hR : d.m.R.length ≤ 4096) (hS : d.S.length ≤ 100) (hD : ∀ s ∈ d.S, s.Data.length ≤ 4096) : (drB d).length ≤ 1000000 := by
  have := flat_ses_le hD
  rw [drB_eq]
  simp only [List.length_append, mpB_len, Pk.enc_len, List.length_nil]; omega
theorem getM_e {m : Mp} (h : MpIn m) (hl : m.R.length ≤ 1000000) (hc : ¬ checkB m = true) : (getM ⟨mpB m, false⟩).2 = 4 := by rw [getM_put h hl, if_neg hc]
theorem getM_o {m : Mp} (h : MpIn m) (hl : m.R.length ≤ 1000000) (hc : checkB m = true) : getM ⟨mpB m, false⟩ = (m, 0) := by rw [getM_put h hl, if_pos hc]
set_option maxHeartbeats 16000000 in
theorem rangesBack_walk (d : Dr) (v u : Value) (vb : Value) (l : List UInt8) (cut : Int) (w : World) (h : DAt w v u d) (hI : DrIn d) (hb : Bytes w vb l) (_hz : l.length ≤ 140737488351232) (hcut : -9223372036854775808 ≤ cut ∧ cut ≤ 9223372036854775807) : FnOk Try.prog 7 [agg (d.c v u), vb, i64 cut] w (fun r w' => r = .bool true ∧ Ext w w') := by
  obtain ⟨E, hE1, rE, dE⟩ := h.S
  have hEl : d.S.length = E.length := by rw [← hE1]; simp
  have hEm : (E.length : Int) ≤ 9223372036854775807 := by obtain ⟨_, c, _, h1, h2, _⟩ := rE.shape; unfold maxLen at h2; omega
  have hE := hI.m.1
  have hpos := drB_pos d
  refine FnOk.enter (rs := [6]) Try.func7 rfl Try.ntmps7 Try.results7 rfl rfl ?_
  refine WF.seq ?_
  refine WF.region ?_
  refine WL.op rfl (OW.boxA (cs := (d.c v u)) rfl ?_ (by decide))
  intro g3 wbb heg3 hlg3 hO3 hx2
  have := World.grownBy.size hx2
  refine WL.va rfl rfl rfl (X.assignB rfl) ?_
  refine WL.nil ?_
  refine thn_n ?_
  refine WF.seq ?_
  refine WF.seq ?_
  refine WF.region ?_
  refine WL.va rfl rfl rfl (X.move rfl) ?_
  refine WL.va rfl rfl rfl (X.len hb rfl Try.underlying46) ?_
  refine WL.va rfl rfl rfl (X.gtr rfl rfl) ?_
  refine WL.va rfl rfl rfl (X.moveB rfl) ?_
  refine WL.split (j := 3) rfl (fun h6 => ?_) (fun h6 => ?_)
  · have gh6 := (of_decide_eq_true h6)
    refine WL.p rfl rfl rfl (congrArg some h6) ?_
    refine WL.p rfl rfl rfl (congrArg some h6) ?_
    refine WL.p rfl rfl rfl (congrArg some h6) ?_
    refine WL.p rfl rfl rfl (congrArg some h6) ?_
    refine WL.va rfl rfl rfl (X.pickT rfl h6 rfl) ?_
    refine WL.va rfl rfl rfl (X.moveB rfl) ?_
    refine WL.p rfl rfl rfl rfl ?_
    refine WL.p rfl rfl rfl rfl ?_
    refine WL.p rfl rfl rfl rfl ?_
    refine WL.p rfl rfl rfl rfl ?_
    refine WL.p rfl rfl rfl rfl ?_
    refine WL.va rfl rfl rfl (X.pickT rfl rfl rfl) ?_
    refine WL.nil ?_
    refine thn_n ?_
    refine WF.cond_t rfl ?_
    refine WF.seq ?_
    refine WF.region ?_
    refine WL.c rfl rfl rfl (X.call Try.call13 evl_nil) (known_ok _) ?_
    rintro v10 w9 ⟨rfl, hx11⟩
    have := World.grownBy.size hx11
    refine WL.va rfl rfl rfl (X.assignB rfl) ?_
    refine WL.nil ?_
    refine thn_n ?_
    refine WF.ret ?_
    refine thn_r ?_
    refine fin_r ?_
    exact ⟨rfl, (Ext.trans hx2 hx11)⟩
  · have gh6 := (of_decide_eq_false h6)
    have hl6 : l.length ≤ 65536 := by have := gh6; omega
    refine WL.vg rfl (congrArg some h6) rfl rfl (X.fieldAddrO (off := 7) rfl Try.underlying51 rfl rfl Try.sizeOf49) ?_
    refine WL.vg rfl (congrArg some h6) rfl rfl (X.loadO hO3 (Ext.refl _) rfl rfl Try.isAgg49) ?_
    refine WL.vg rfl (congrArg some h6) rfl rfl (X.len rE rfl Try.underlying49) ?_
    refine WL.vg rfl (congrArg some h6) rfl rfl (X.gtr rfl rfl) ?_
    refine WL.va rfl rfl rfl (X.pickF rfl h6 rfl) ?_
    refine WL.va rfl rfl rfl (X.moveB rfl) ?_
    refine WL.split (j := 9) rfl (fun h14 => ?_) (fun h14 => ?_)
    · have gh14 := (of_decide_eq_true h14)
      refine WL.p rfl rfl rfl (congrArg some h14) ?_
      refine WL.p rfl rfl rfl (congrArg some h14) ?_
      refine WL.p rfl rfl rfl (congrArg some h14) ?_
      refine WL.p rfl rfl rfl (congrArg some h14) ?_
      refine WL.p rfl rfl rfl (congrArg some h14) ?_
      refine WL.va rfl rfl rfl (X.pickT rfl h14 rfl) ?_
      refine WL.nil ?_
      refine thn_n ?_
      refine WF.cond_t rfl ?_
      refine WF.seq ?_
      refine WF.region ?_
      refine WL.c rfl rfl rfl (X.call Try.call13 evl_nil) (known_ok _) ?_
      rintro v17 w16 ⟨rfl, hx18⟩
      have := World.grownBy.size hx18
      refine WL.va rfl rfl rfl (X.assignB rfl) ?_
      refine WL.nil ?_
      refine thn_n ?_
      refine WF.ret ?_
      refine thn_r ?_
      refine fin_r ?_
      exact ⟨rfl, (Ext.trans hx2 hx18)⟩
    · have gh14 := (of_decide_eq_false h14)
      have hS : E.length ≤ 100 := by have := gh14; omega
      refine WL.vg rfl (congrArg some h14) rfl rfl (X.fieldAddrO (off := 0) rfl Try.underlying51 rfl rfl Try.sizeOf26) ?_
      refine WL.vg rfl (congrArg some h14) rfl rfl (X.fieldAddrP (off := 0) rfl Try.underlying26 rfl rfl Try.sizeOf22) ?_
      refine WL.vg rfl (congrArg some h14) rfl rfl (X.loadO hO3 (Ext.refl _) rfl rfl Try.isAgg22) ?_
      refine WL.vg rfl (congrArg some h14) rfl rfl (X.len h.R rfl Try.underlying22) ?_
      refine WL.vg rfl (congrArg some h14) rfl rfl (X.gtr rfl rfl) ?_
      refine WL.va rfl rfl rfl (X.pickF rfl h14 rfl) ?_
      refine WL.nil ?_
      refine thn_n ?_
      refine WF.cond rfl (fun h0_20 => ?_) (fun h0_20 => ?_)
      · have gh0_20 := (of_decide_eq_true h0_20)
        refine WF.seq ?_
        refine WF.region ?_
        refine WL.c rfl rfl rfl (X.call Try.call13 evl_nil) (known_ok _) ?_
        rintro v23 w22 ⟨rfl, hx24⟩
        have := World.grownBy.size hx24
        refine WL.va rfl rfl rfl (X.assignB rfl) ?_
        refine WL.nil ?_
        refine thn_n ?_
        refine WF.ret ?_
        refine thn_r ?_
        refine fin_r ?_
        exact ⟨rfl, (Ext.trans hx2 hx24)⟩
      · have gh0_20 := (of_decide_eq_false h0_20)
        have hR : d.m.R.length ≤ 4096 := by have := gh0_20; omega
        refine WF.skip ?_
        refine thn_n ?_
        refine WF.seq ?_
        refine WF.region ?_
        refine WL.va rfl rfl rfl (X.assignB rfl) ?_
        refine WL.nil ?_
        refine thn_n ?_
        refine WF.seq ?_
        refine WF.seq ?_
        refine WF.region ?_
        refine WL.va rfl rfl rfl (X.assignI rfl) ?_
        refine WL.nil ?_
        refine thn_n ?_
        refine WF.block ?_
        refine WF.named (fun F27 hF28 => ?_)
        refine WF.loopN (fun mL0 f' w' => ∃ (i : Nat), mL0 = E.length - i ∧ f' 8 = .int .i64 (i : Int) ∧ f' 7 = .bool (risesB ((E.map Prod.fst).take i)) ∧ Agree [0, 1, 2, 3, 21, 22, 23, 24, 25, 26, 27, 28, 29, 30, 31, 32, 33, 34, 35, 36] f' F27 ∧ Ext wbb w' ∧ i ≤ E.length ∧ ∀ j (hj : j < E.length), j < i → E[j].1.Data.length ≤ 4096) ?_ ?_
        · exact ⟨_, 0, rfl, (congrFun hF28 8), (congrFun hF28 7), (Agree.refl _ _), (Ext.refl _), ⟨Nat.zero_le _, fun j _ hj => by omega⟩⟩
        · rintro mL0 fL0 wL0 ⟨i, hmL0, e8_L0, e7_L0, hAL0, hwL0, ⟨hi0, hsm⟩⟩
          have := World.grownBy.size hwL0
          refine WF.seq ?_
          refine WF.seq ?_
          refine WF.region ?_
          refine WL.va rfl rfl rfl (X.moveI e8_L0) ?_
          refine WL.va rfl rfl rfl (X.fieldAddrO (off := 7) ((hAL0.eq 3).trans (congrFun hF28 3)) Try.underlying51 rfl rfl Try.sizeOf49) ?_
          refine WL.va rfl rfl rfl (X.loadO hO3 hwL0 rfl rfl Try.isAgg49) ?_
          refine WL.va rfl rfl rfl (X.len rE rfl Try.underlying49) ?_
          refine WL.va rfl rfl rfl (X.lss rfl rfl) ?_
          refine WL.nil ?_
          refine thn_n ?_
          refine WF.cond rfl (fun h1_30 => ?_) (fun h1_30 => ?_)
          · have gh1_30 := (of_decide_eq_true h1_30)
            have hi : i < E.length := by omega
            refine WF.skip ?_
            refine thn_n ?_
            refine WF.seq ?_
            refine WF.block ?_
            refine WF.seq ?_
            refine WF.seq ?_
            refine WF.region ?_
            refine WL.va rfl rfl rfl (X.fieldAddrO (off := 7) ((hAL0.eq 3).trans (congrFun hF28 3)) Try.underlying51 rfl rfl Try.sizeOf49) ?_
            refine WL.va rfl rfl rfl (X.loadO hO3 hwL0 rfl rfl Try.isAgg49) ?_
            refine WL.va rfl rfl rfl (X.moveI e8_L0) ?_
            refine WL.va rfl rfl rfl (X.idx rE rfl rfl (by omega) Try.underlying49 Try.sizeOf55) ?_
            refine WL.va rfl rfl rfl (X.fieldAddrA rfl Try.underlying55 rfl rfl Try.sizeOf53) ?_
            refine WL.va rfl rfl rfl (X.fieldAddrAA (off := 1) rfl Try.underlying53 rfl rfl Try.sizeOf46) ?_
            refine WL.va rfl rfl rfl (X.loadE rE (Ext.trans hx2 hwL0) rfl (by omega) ((Se.SRow.get hi (by decide)).trans rfl) Try.isAgg46) ?_
            refine WL.va rfl rfl rfl (X.len (dE _ (List.getElem_mem hi)) rfl Try.underlying46) ?_
            refine WL.va rfl rfl rfl (X.gtr rfl rfl) ?_
            refine WL.nil ?_
            refine thn_n ?_
            refine WF.cond rfl (fun h2_32 => ?_) (fun h2_32 => ?_)
            · have gh2_32 := (of_decide_eq_true h2_32)
              refine WF.seq ?_
              refine WF.region ?_
              refine WL.c rfl rfl rfl (X.call Try.call13 evl_nil) (known_ok _) ?_
              rintro v35 w34 ⟨rfl, hx36⟩
              have := World.grownBy.size hx36
              refine WL.va rfl rfl rfl (X.assignB rfl) ?_
              refine WL.nil ?_
              refine thn_n ?_
              refine WF.ret ?_
              refine thn_r ?_
              refine blk_r ?_
              refine thn_r ?_
              refine thn_r ?_
              refine blk_r ?_
              refine thn_r ?_
              refine fin_r ?_
              exact ⟨rfl, (Ext.trans (Ext.trans hx2 hwL0) hx36)⟩
            · have gh2_32 := (of_decide_eq_false h2_32)
              have hil : (E[i]'hi).1.Data.length ≤ 4096 := by omega
              refine WF.skip ?_
              refine thn_n ?_
              refine WF.drawn (.q 0 (.q 1 (.q 2 (.q 3 (.q 4 (.q 5 (.q 6 (.q 7 (.q 8 (.q 9 (.q 10 (.q 11 (.q 12 (.q 13 (.q 14 (.q 15 (.q 16 (.q 17 (.q 18 (.q 19 (.q 20 (.q 21 .nil)))))))))))))))))))))) (fun w' => Ext wL0 w') 22 (by kernel_rfl) (by kernel_rfl) (Ext.drew _) ?_
              have := World.grownBy.size (Ext.drew wL0)
              refine WO.q rfl rfl rfl rfl (fun w' hE38 => (X.moveB e7_L0)) ?_
              refine WO.q rfl rfl rfl rfl (fun w' hE38 => (X.moveB rfl)) ?_
              refine WO.split (j := 1) rfl (fun h39 => ?_) (fun h39 => ?_)
              · have gh39 := h39
                have hrt := gh39
                refine WO.qg rfl rfl (congrArg some h39) rfl rfl (fun w' hE38 => (X.moveI e8_L0)) ?_
                refine WO.qg rfl rfl (congrArg some h39) rfl rfl (fun w' hE38 => (X.eql rfl rfl)) ?_
                refine WO.qg rfl rfl (congrArg some h39) rfl rfl (fun w' hE38 => (X.moveB rfl)) ?_
                refine WO.split (j := 4) rfl (fun h41 => ?_) (fun h41 => ?_)
                · have gh41 := (of_decide_eq_true h41)
                  have hrs := rises_B hi hrt (by have := gh41; omega)
                  refine WO.qp rfl rfl rfl rfl (congrArg some h41) ?_
                  refine WO.qp rfl rfl rfl rfl (congrArg some h41) ?_
                  refine WO.qp rfl rfl rfl rfl (congrArg some h41) ?_
                  refine WO.qp rfl rfl rfl rfl (congrArg some h41) ?_
                  refine WO.qp rfl rfl rfl rfl (congrArg some h41) ?_
                  refine WO.qp rfl rfl rfl rfl (congrArg some h41) ?_
                  refine WO.qp rfl rfl rfl rfl (congrArg some h41) ?_
                  refine WO.qp rfl rfl rfl rfl (congrArg some h41) ?_
                  refine WO.qp rfl rfl rfl rfl (congrArg some h41) ?_
                  refine WO.qp rfl rfl rfl rfl (congrArg some h41) ?_
                  refine WO.qp rfl rfl rfl rfl (congrArg some h41) ?_
                  refine WO.qp rfl rfl rfl rfl (congrArg some h41) ?_
                  refine WO.qp rfl rfl rfl rfl (congrArg some h41) ?_
                  refine WO.qp rfl rfl rfl rfl (congrArg some h41) ?_
                  refine WO.qg rfl rfl (congrArg some h39) rfl rfl (fun w' hE38 => (X.pickT rfl h41 rfl)) ?_
                  refine WO.q rfl rfl rfl rfl (fun w' hE38 => (X.pickT rfl h39 rfl)) ?_
                  refine WO.q rfl rfl rfl rfl (fun w' hE38 => (X.assignB rfl)) ?_
                  refine WO.nil ?_
                  refine WL.nil ?_
                  refine blk_n ?_
                  refine thn_n ?_
                  refine WF.region ?_
                  refine WL.va rfl rfl rfl (X.moveI e8_L0) ?_
                  refine WL.va rfl rfl rfl (X.add rfl rfl (w64 (by omega))) ?_
                  refine WL.va rfl rfl rfl (X.assignI rfl) ?_
                  refine WL.nil ?_
                  exact thn_n ⟨_, (by omega), i + 1, rfl, rfl, (Eq.trans rfl hrs), (by repeat (first | exact hAL0 | refine Agree.put ?_ rfl | refine Agree.named hF28 ?_)), (Ext.trans hwL0 (Ext.drew _)), ⟨by omega, fun j hj hj2 => by
        rcases Nat.lt_succ_iff_lt_or_eq.1 hj2 with hq | rfl
        · exact hsm j hj hq
        · exact hil⟩⟩
                · have gh41 := (of_decide_eq_false h41)
                  have hi0 : ¬ i = 0 := by have := gh41; omega
                  have hrs := rises_C hi hrt hi0
                  refine WO.qg rfl rfl (congrArg some h41) rfl rfl (fun w' hE38 => (X.fieldAddrO (off := 7) ((hAL0.eq 3).trans (congrFun hF28 3)) Try.underlying51 rfl rfl Try.sizeOf49)) ?_
                  refine WO.qg rfl rfl (congrArg some h41) rfl rfl (fun w' hE38 => (X.loadO hO3 (Ext.trans hwL0 hE38) rfl rfl Try.isAgg49)) ?_
                  refine WO.qg rfl rfl (congrArg some h41) rfl rfl (fun w' hE38 => (X.moveI e8_L0)) ?_
                  refine WO.qg rfl rfl (congrArg some h41) rfl rfl (fun w' hE38 => (X.sub rfl rfl (show IntKind.i64.wrap ((i : Int) - 1) = ((i - 1 : Nat) : Int) from by rw [w64 (by omega)]; omega))) ?_
                  refine WO.qg rfl rfl (congrArg some h41) rfl rfl (fun w' hE38 => (X.idx rE rfl rfl (by omega) Try.underlying49 Try.sizeOf55)) ?_
                  refine WO.qg rfl rfl (congrArg some h41) rfl rfl (fun w' hE38 => (X.fieldAddrA rfl Try.underlying55 rfl rfl Try.sizeOf3)) ?_
                  refine WO.qg rfl rfl (congrArg some h41) rfl rfl (fun w' hE38 => (X.loadE rE (Ext.trans (Ext.trans hx2 hwL0) hE38) rfl (by omega) ((Se.SRow.get (k := i - 1) (by omega) (by decide)).trans rfl) Try.isAgg3)) ?_
                  refine WO.qg rfl rfl (congrArg some h41) rfl rfl (fun w' hE38 => (X.fieldAddrO (off := 7) ((hAL0.eq 3).trans (congrFun hF28 3)) Try.underlying51 rfl rfl Try.sizeOf49)) ?_
                  refine WO.qg rfl rfl (congrArg some h41) rfl rfl (fun w' hE38 => (X.loadO hO3 (Ext.trans hwL0 hE38) rfl rfl Try.isAgg49)) ?_
                  refine WO.qg rfl rfl (congrArg some h41) rfl rfl (fun w' hE38 => (X.moveI e8_L0)) ?_
                  refine WO.qg rfl rfl (congrArg some h41) rfl rfl (fun w' hE38 => (X.idx rE rfl rfl (by omega) Try.underlying49 Try.sizeOf55)) ?_
                  refine WO.qg rfl rfl (congrArg some h41) rfl rfl (fun w' hE38 => (X.fieldAddrA rfl Try.underlying55 rfl rfl Try.sizeOf3)) ?_
                  refine WO.qg rfl rfl (congrArg some h41) rfl rfl (fun w' hE38 => (X.loadE rE (Ext.trans (Ext.trans hx2 hwL0) hE38) rfl (by omega) ((Se.SRow.get hi (by decide)).trans rfl) Try.isAgg3)) ?_
                  refine WO.qg rfl rfl (congrArg some h41) rfl rfl (fun w' hE38 => (X.lss rfl rfl)) ?_
                  refine WO.qg rfl rfl (congrArg some h39) rfl rfl (fun w' hE38 => (X.pickF rfl h41 rfl)) ?_
                  refine WO.q rfl rfl rfl rfl (fun w' hE38 => (X.pickT rfl h39 rfl)) ?_
                  refine WO.q rfl rfl rfl rfl (fun w' hE38 => (X.assignB rfl)) ?_
                  refine WO.nil ?_
                  refine WL.nil ?_
                  refine blk_n ?_
                  refine thn_n ?_
                  refine WF.region ?_
                  refine WL.va rfl rfl rfl (X.moveI e8_L0) ?_
                  refine WL.va rfl rfl rfl (X.add rfl rfl (w64 (by omega))) ?_
                  refine WL.va rfl rfl rfl (X.assignI rfl) ?_
                  refine WL.nil ?_
                  exact thn_n ⟨_, (by omega), i + 1, rfl, rfl, (Eq.trans rfl hrs), (by repeat (first | exact hAL0 | refine Agree.put ?_ rfl | refine Agree.named hF28 ?_)), (Ext.trans hwL0 (Ext.drew _)), ⟨by omega, fun j hj hj2 => by
        rcases Nat.lt_succ_iff_lt_or_eq.1 hj2 with hq | rfl
        · exact hsm j hj hq
        · exact hil⟩⟩
              · have gh39 := h39
                have hrs := rises_A hi gh39
                refine WO.qp rfl rfl rfl rfl (congrArg some h39) ?_
                refine WO.qp rfl rfl rfl rfl (congrArg some h39) ?_
                refine WO.qp rfl rfl rfl rfl (congrArg some h39) ?_
                refine WO.qpn rfl rfl rfl rfl rfl ?_
                refine WO.qpn rfl rfl rfl rfl rfl ?_
                refine WO.qpn rfl rfl rfl rfl rfl ?_
                refine WO.qpn rfl rfl rfl rfl rfl ?_
                refine WO.qpn rfl rfl rfl rfl rfl ?_
                refine WO.qpn rfl rfl rfl rfl rfl ?_
                refine WO.qpn rfl rfl rfl rfl rfl ?_
                refine WO.qpn rfl rfl rfl rfl rfl ?_
                refine WO.qpn rfl rfl rfl rfl rfl ?_
                refine WO.qpn rfl rfl rfl rfl rfl ?_
                refine WO.qpn rfl rfl rfl rfl rfl ?_
                refine WO.qpn rfl rfl rfl rfl rfl ?_
                refine WO.qpn rfl rfl rfl rfl rfl ?_
                refine WO.qpn rfl rfl rfl rfl rfl ?_
                refine WO.qp rfl rfl rfl rfl (congrArg some h39) ?_
                refine WO.q rfl rfl rfl rfl (fun w' hE38 => (X.pickF rfl h39 rfl)) ?_
                refine WO.q rfl rfl rfl rfl (fun w' hE38 => (X.assignB rfl)) ?_
                refine WO.nil ?_
                refine WL.nil ?_
                refine blk_n ?_
                refine thn_n ?_
                refine WF.region ?_
                refine WL.va rfl rfl rfl (X.moveI e8_L0) ?_
                refine WL.va rfl rfl rfl (X.add rfl rfl (w64 (by omega))) ?_
                refine WL.va rfl rfl rfl (X.assignI rfl) ?_
                refine WL.nil ?_
                exact thn_n ⟨_, (by omega), i + 1, rfl, rfl, (Eq.trans rfl hrs), (by repeat (first | exact hAL0 | refine Agree.put ?_ rfl | refine Agree.named hF28 ?_)), (Ext.trans hwL0 (Ext.drew _)), ⟨by omega, fun j hj hj2 => by
        rcases Nat.lt_succ_iff_lt_or_eq.1 hj2 with hq | rfl
        · exact hsm j hj hq
        · exact hil⟩⟩
          · have gh1_30 := (of_decide_eq_false h1_30)
            have hD := small_of hE1 (fun j hj => hsm j hj (by omega))
            have hrr : (E.map Prod.fst).take i = d.S := by rw [List.take_of_length_le (by simp; omega), hE1]
            have hdl := drB_le hR (by omega) hD
            refine WF.exit ?_
            refine thn_x ?_
            refine thn_x ?_
            refine blk_eq ?_
            refine thn_n ?_
            refine WF.seq ?_
            refine WF.region ?_
            refine WL.va rfl rfl rfl (X.move ((hAL0.eq 1).trans (congrFun hF28 1))) ?_
            have hz1 := ((show Ext w wL0 from (Ext.trans hx2 hwL0))).size
            refine WL.c rfl rfl rfl (X.call Try.call32 (evl_cons rfl evl_nil)) (getMap_ok _ l _ (Row.ext hb (Ext.trans hx2 hwL0)) (by omega)) ?_
            rintro v46 w45 ⟨⟨vm, rfl, om⟩, hx47⟩
            have := World.grownBy.size hx47
            have omT := OwnT.of om
            refine WL.va rfl rfl rfl (X.move rfl) ?_
            refine WL.va rfl rfl rfl (X.extract rfl rfl) ?_
            refine WL.va rfl rfl rfl (X.extract rfl rfl) ?_
            refine WL.op rfl (OW.allocO (cs := [.slice none 0 0, i64 0, i64 0, i64 0, i64 0, i64 0, i64 0]) Try.zeroValue26 rfl ?_ (by decide))
            intro g9 w48 heg9 hlg9 hO9 hx50
            have := World.grownBy.size hx50
            refine WL.op rfl (OW.storeOA hO9 rfl rfl rfl (Mp.c_one (omT.ext hx50).rd (getM ⟨l, false⟩).1) Try.sizeOf26 ?_)
            intro w52 hO9 hx54
            have := World.grownBy.size hx54
            replace hO3 := (hO3.ext (Ext.trans (Ext.trans hwL0 hx47) hx50)).keptO hx54 (by omega)
            replace omT := (omT.ext hx50).keptO hx54 (by omega)
            replace hO9 : Blk _ _ _ ((getM ⟨l, false⟩).1.c vm) := hO9
            refine WL.va rfl rfl rfl (X.assignI rfl) ?_
            refine WL.nil ?_
            refine thn_n ?_
            refine WF.seq ?_
            refine WF.region ?_
            refine WL.va rfl rfl rfl (X.move ((hAL0.eq 1).trans (congrFun hF28 1))) ?_
            have hz2 := ((show Ext w w52 from (Ext.trans (Ext.trans (Ext.trans hx2 hwL0) hx47) (Ext.store hx50 hx54 (by omega))))).size
            refine WL.c rfl rfl rfl (X.call Try.call34 (evl_cons rfl evl_nil)) (getDir_ok _ l _ (Row.ext hb (Ext.trans (Ext.trans (Ext.trans hx2 hwL0) hx47) (Ext.store hx50 hx54 (by omega)))) (by omega)) ?_
            rintro v57 w56 ⟨⟨v2, u2, rfl, hDS⟩, hx58⟩
            have := World.grownBy.size hx58
            have sD : Since w56 w56 := ⟨Ext.refl _⟩
            refine WL.va rfl rfl rfl (X.move rfl) ?_
            refine WL.va rfl rfl rfl (X.extract rfl rfl) ?_
            refine WL.va rfl rfl rfl (X.extract rfl rfl) ?_
            refine WL.op rfl (OW.allocO (cs := [.slice none 0 0, i64 0, i64 0, i64 0, i64 0, i64 0, i64 0, .slice none 0 0]) Try.zeroValue51 rfl ?_ (by decide))
            intro g11 w59 heg11 hlg11 hO11 hx61
            have := World.grownBy.size hx61
            refine WL.op rfl (OW.storeOA hO11 rfl rfl rfl hDS.one Try.sizeOf51 ?_)
            intro w63 hO11 hx66
            have := World.grownBy.size hx66
            replace hO3 := (hO3.ext (Ext.trans hx58 hx61)).keptO hx66 (by omega)
            replace omT := (omT.ext (Ext.trans hx58 hx61)).keptO hx66 (by omega)
            replace hO9 := (hO9.ext (Ext.trans hx58 hx61)).keptO hx66 (by omega)
            replace sD := (sD.ext hx61).keptO hx66 (by omega)
            replace hO11 : Blk _ _ _ ((getD ⟨l, false⟩).1.c v2 u2) := hO11
            refine WL.va rfl rfl rfl (X.assignI rfl) ?_
            refine WL.nil ?_
            refine thn_n ?_
            refine WF.seq ?_
            refine WF.named (fun F68 hF69 => ?_)
            refine WF.cut (fun f' w' => f' 105 = .bool false ∧ Agree [0, 1, 2, 3, 7, 8, 9, 10, 11, 12, 21, 22, 23, 24, 25, 26, 27, 28, 29, 30, 31, 32, 33, 34, 35, 36, 38, 39, 40, 41, 42, 76, 77, 78, 79, 80, 81, 82, 83, 84, 85] f' F68 ∧ Ext w63 w') ?_ ?_
            · refine WF.region ?_
              refine WL.va rfl rfl rfl (X.moveI (congrFun hF69 10)) ?_
              refine WL.va rfl rfl rfl (X.eql rfl rfl) ?_
              refine WL.va rfl rfl rfl (X.moveB rfl) ?_
              refine WL.split (j := 2) rfl (fun h71 => ?_) (fun h71 => ?_)
              · have gh71 := (of_decide_eq_true h71)
                have hgm := getM_only gh71
                refine WL.vg rfl (congrArg some h71) rfl rfl (X.loadOA hO9 (Ext.refl _) (congrFun hF69 9) rfl Try.isAgg26 Try.sizeOf26) ?_
                refine WL.cg rfl (congrArg some h71) rfl rfl (X.call Try.call28 (evl_cons rfl evl_nil)) (putMap_ok _ vm _ omT.rd (Nat.le_trans (val_len hgm.2.1) (by decide))) ?_
                rintro vq w72 ⟨oq, hx73⟩
                have := World.grownBy.size hx73
                refine WL.vg rfl (congrArg some h71) rfl rfl (X.move ((congrFun hF69 1).trans ((hAL0.eq 1).trans (congrFun hF28 1)))) ?_
                refine WL.cg rfl (congrArg some h71) rfl rfl (X.call Try.call27 (evl_cons rfl (evl_cons rfl evl_nil))) (sameBytes_self (Bytes.of_own oq) (Row.ext hb (Ext.trans (Ext.trans (Ext.trans (Ext.trans (Ext.trans (Ext.trans hx2 hwL0) hx47) (Ext.store hx50 hx54 (by omega))) hx58) (Ext.store hx61 hx66 (by omega))) hx73)) hgm.1) ?_
                rintro v75 w74 ⟨rfl, hx76⟩
                have := World.grownBy.size hx76
                refine WL.vg rfl (congrArg some h71) rfl rfl (X.not rfl) ?_
                refine WL.va rfl rfl rfl (X.pickT rfl h71 rfl) ?_
                refine WL.va rfl rfl rfl (X.moveB rfl) ?_
                refine WL.vg rfl rfl rfl rfl (X.moveI (congrFun hF69 12)) ?_
                refine WL.vg rfl rfl rfl rfl (X.eql rfl rfl) ?_
                refine WL.vg rfl rfl rfl rfl (X.moveB rfl) ?_
                refine WL.split (j := 12) rfl (fun h80 => ?_) (fun h80 => ?_)
                · have gh80 := (of_decide_eq_true h80)
                  have hgd := getD_only gh80
                  refine WL.vg rfl (congrArg some h80) rfl rfl (X.loadOA hO11 (Ext.trans hx73 hx76) (congrFun hF69 11) rfl Try.isAgg51 Try.sizeOf51) ?_
                  refine WL.cg rfl (congrArg some h80) rfl rfl (X.call Try.call39 (evl_cons rfl evl_nil)) (putDir_ok _ v2 u2 _ (hDS.ext ((sD.ext (Ext.trans hx73 hx76))).x).at (Nat.le_trans (val_len hgd.2.1) (by decide)) (by have := (drB_small (getD ⟨l, false⟩).1).1; rw [hgd.1] at this; omega) (fun s hs => by have := (drB_small (getD ⟨l, false⟩).1).2 s hs; rw [hgd.1] at this; omega)) ?_
                  rintro vq w81 ⟨oq, hx82⟩
                  have := World.grownBy.size hx82
                  refine WL.vg rfl (congrArg some h80) rfl rfl (X.move ((congrFun hF69 1).trans ((hAL0.eq 1).trans (congrFun hF28 1)))) ?_
                  refine WL.cg rfl (congrArg some h80) rfl rfl (X.call Try.call27 (evl_cons rfl (evl_cons rfl evl_nil))) (sameBytes_self (Bytes.of_own oq) (Row.ext hb (Ext.trans (Ext.trans (Ext.trans (Ext.trans (Ext.trans (Ext.trans (Ext.trans (Ext.trans hx2 hwL0) hx47) (Ext.store hx50 hx54 (by omega))) hx58) (Ext.store hx61 hx66 (by omega))) hx73) hx76) hx82)) hgd.1) ?_
                  rintro v84 w83 ⟨rfl, hx85⟩
                  have := World.grownBy.size hx85
                  refine WL.vg rfl (congrArg some h80) rfl rfl (X.not rfl) ?_
                  refine WL.vg rfl rfl rfl rfl (X.pickT rfl h80 rfl) ?_
                  refine WL.va rfl rfl rfl (X.pickF rfl rfl rfl) ?_
                  refine WL.nil ?_
                  refine thn_n ?_
                  exact ⟨rfl, (by repeat (first | exact (Agree.refl _ F68) | refine Agree.put ?_ rfl | refine Agree.sub hAL0 rfl ?_ | refine Agree.named hF69 ?_ | refine Agree.named hF28 ?_)), (Ext.trans (Ext.trans (Ext.trans hx73 hx76) hx82) hx85)⟩
                · have gh80 := (of_decide_eq_false h80)
                  refine WL.p rfl rfl rfl (congrArg some h80) ?_
                  refine WL.p rfl rfl rfl (congrArg some h80) ?_
                  refine WL.p rfl rfl rfl (congrArg some h80) ?_
                  refine WL.p rfl rfl rfl (congrArg some h80) ?_
                  refine WL.p rfl rfl rfl (congrArg some h80) ?_
                  refine WL.vg rfl rfl rfl rfl (X.pickF rfl h80 rfl) ?_
                  refine WL.va rfl rfl rfl (X.pickF rfl rfl rfl) ?_
                  refine WL.nil ?_
                  refine thn_n ?_
                  exact ⟨rfl, (by repeat (first | exact (Agree.refl _ F68) | refine Agree.put ?_ rfl | refine Agree.sub hAL0 rfl ?_ | refine Agree.named hF69 ?_ | refine Agree.named hF28 ?_)), (Ext.trans hx73 hx76)⟩
              · have gh71 := (of_decide_eq_false h71)
                refine WL.p rfl rfl rfl (congrArg some h71) ?_
                refine WL.p rfl rfl rfl (congrArg some h71) ?_
                refine WL.p rfl rfl rfl (congrArg some h71) ?_
                refine WL.p rfl rfl rfl (congrArg some h71) ?_
                refine WL.p rfl rfl rfl (congrArg some h71) ?_
                refine WL.va rfl rfl rfl (X.pickF rfl h71 rfl) ?_
                refine WL.va rfl rfl rfl (X.moveB rfl) ?_
                refine WL.vg rfl rfl rfl rfl (X.moveI (congrFun hF69 12)) ?_
                refine WL.vg rfl rfl rfl rfl (X.eql rfl rfl) ?_
                refine WL.vg rfl rfl rfl rfl (X.moveB rfl) ?_
                refine WL.split (j := 12) rfl (fun h91 => ?_) (fun h91 => ?_)
                · have gh91 := (of_decide_eq_true h91)
                  have hgd := getD_only gh91
                  refine WL.vg rfl (congrArg some h91) rfl rfl (X.loadOA hO11 (Ext.refl _) (congrFun hF69 11) rfl Try.isAgg51 Try.sizeOf51) ?_
                  refine WL.cg rfl (congrArg some h91) rfl rfl (X.call Try.call39 (evl_cons rfl evl_nil)) (putDir_ok _ v2 u2 _ (hDS.ext (sD).x).at (Nat.le_trans (val_len hgd.2.1) (by decide)) (by have := (drB_small (getD ⟨l, false⟩).1).1; rw [hgd.1] at this; omega) (fun s hs => by have := (drB_small (getD ⟨l, false⟩).1).2 s hs; rw [hgd.1] at this; omega)) ?_
                  rintro vq w92 ⟨oq, hx93⟩
                  have := World.grownBy.size hx93
                  refine WL.vg rfl (congrArg some h91) rfl rfl (X.move ((congrFun hF69 1).trans ((hAL0.eq 1).trans (congrFun hF28 1)))) ?_
                  refine WL.cg rfl (congrArg some h91) rfl rfl (X.call Try.call27 (evl_cons rfl (evl_cons rfl evl_nil))) (sameBytes_self (Bytes.of_own oq) (Row.ext hb (Ext.trans (Ext.trans (Ext.trans (Ext.trans (Ext.trans (Ext.trans hx2 hwL0) hx47) (Ext.store hx50 hx54 (by omega))) hx58) (Ext.store hx61 hx66 (by omega))) hx93)) hgd.1) ?_
                  rintro v95 w94 ⟨rfl, hx96⟩
                  have := World.grownBy.size hx96
                  refine WL.vg rfl (congrArg some h91) rfl rfl (X.not rfl) ?_
                  refine WL.vg rfl rfl rfl rfl (X.pickT rfl h91 rfl) ?_
                  refine WL.va rfl rfl rfl (X.pickF rfl rfl rfl) ?_
                  refine WL.nil ?_
                  refine thn_n ?_
                  exact ⟨rfl, (by repeat (first | exact (Agree.refl _ F68) | refine Agree.put ?_ rfl | refine Agree.sub hAL0 rfl ?_ | refine Agree.named hF69 ?_ | refine Agree.named hF28 ?_)), (Ext.trans hx93 hx96)⟩
                · have gh91 := (of_decide_eq_false h91)
                  refine WL.p rfl rfl rfl (congrArg some h91) ?_
                  refine WL.p rfl rfl rfl (congrArg some h91) ?_
                  refine WL.p rfl rfl rfl (congrArg some h91) ?_
                  refine WL.p rfl rfl rfl (congrArg some h91) ?_
                  refine WL.p rfl rfl rfl (congrArg some h91) ?_
                  refine WL.vg rfl rfl rfl rfl (X.pickF rfl h91 rfl) ?_
                  refine WL.va rfl rfl rfl (X.pickF rfl rfl rfl) ?_
                  refine WL.nil ?_
                  refine thn_n ?_
                  exact ⟨rfl, (by repeat (first | exact (Agree.refl _ F68) | refine Agree.put ?_ rfl | refine Agree.sub hAL0 rfl ?_ | refine Agree.named hF69 ?_ | refine Agree.named hF28 ?_)), (Ext.refl _)⟩
            · rintro fCr12 wCr12 ⟨e105_Cr12, hACr12, hwCr12⟩
              have := World.grownBy.size hwCr12
              refine WF.cond_f e105_Cr12 ?_
              refine WF.skip ?_
              refine thn_n ?_
              refine WF.seq ?_
              refine WF.region ?_
              refine WL.va rfl rfl rfl (X.loadOA hO3 hwCr12 ((hACr12.eq 3).trans ((congrFun hF69 3).trans ((hAL0.eq 3).trans (congrFun hF28 3)))) rfl Try.isAgg51 Try.sizeOf51) ?_
              have hz3 := ((show Ext w wCr12 from (Ext.trans (Ext.trans (Ext.trans (Ext.trans (Ext.trans (Ext.trans hx2 hwL0) hx47) (Ext.store hx50 hx54 (by omega))) hx58) (Ext.store hx61 hx66 (by omega))) hwCr12))).size
              refine WL.c rfl rfl rfl (X.call Try.call39 (evl_cons rfl evl_nil)) (putDir_ok d v u _ (h.ext (Ext.trans (Ext.trans (Ext.trans (Ext.trans (Ext.trans (Ext.trans hx2 hwL0) hx47) (Ext.store hx50 hx54 (by omega))) hx58) (Ext.store hx61 hx66 (by omega))) hwCr12)) (by omega) (by omega) (fun s hs => Nat.le_trans (hD s hs) (by decide))) ?_
              rintro vc w101 ⟨oc, hx102⟩
              have := World.grownBy.size hx102
              have ocT := OwnT.of oc
              refine WL.va rfl rfl rfl (X.assign rfl) ?_
              refine WL.nil ?_
              refine thn_n ?_
              refine WF.seq ?_
              refine WF.region ?_
              refine WL.va rfl rfl rfl (X.move rfl) ?_
              have hz4 := ((show Ext w w101 from (Ext.trans (Ext.trans (Ext.trans (Ext.trans (Ext.trans (Ext.trans (Ext.trans hx2 hwL0) hx47) (Ext.store hx50 hx54 (by omega))) hx58) (Ext.store hx61 hx66 (by omega))) hwCr12) hx102))).size
              refine WL.c rfl rfl rfl (X.call Try.call34 (evl_cons rfl evl_nil)) (getDir_ok _ (drB d) _ ocT.rd hdl) ?_
              rintro v104 w103 ⟨⟨v3, u3, rfl, hDY⟩, hx105⟩
              have := World.grownBy.size hx105
              have sY : Since w103 w103 := ⟨Ext.refl _⟩
              refine WL.va rfl rfl rfl (X.move rfl) ?_
              refine WL.va rfl rfl rfl (X.extract rfl rfl) ?_
              refine WL.va rfl rfl rfl (X.extract rfl rfl) ?_
              refine WL.op rfl (OW.allocO (cs := [.slice none 0 0, i64 0, i64 0, i64 0, i64 0, i64 0, i64 0, .slice none 0 0]) Try.zeroValue51 rfl ?_ (by decide))
              intro g14 w106 heg14 hlg14 hO14 hx108
              have := World.grownBy.size hx108
              refine WL.op rfl (OW.storeOA hO14 rfl rfl rfl hDY.one Try.sizeOf51 ?_)
              intro w110 hO14 hx112
              have := World.grownBy.size hx112
              replace hO3 := (hO3.ext (Ext.trans (Ext.trans (Ext.trans hwCr12 hx102) hx105) hx108)).keptO hx112 (by omega)
              replace hO9 := (hO9.ext (Ext.trans (Ext.trans (Ext.trans hwCr12 hx102) hx105) hx108)).keptO hx112 (by omega)
              replace hO11 := (hO11.ext (Ext.trans (Ext.trans (Ext.trans hwCr12 hx102) hx105) hx108)).keptO hx112 (by omega)
              replace ocT := (ocT.ext (Ext.trans hx105 hx108)).keptO hx112 (by omega)
              replace sY := (sY.ext hx108).keptO hx112 (by omega)
              replace hO14 : Blk _ _ _ ((getD ⟨drB d, false⟩).1.c v3 u3) := hO14
              refine WL.va rfl rfl rfl (X.assignI rfl) ?_
              refine WL.nil ?_
              refine thn_n ?_
              refine WF.seq ?_
              refine WF.region ?_
              refine WL.va rfl rfl rfl (X.move rfl) ?_
              refine WL.va rfl rfl rfl (X.moveI ((hACr12.eq 2).trans ((congrFun hF69 2).trans ((hAL0.eq 2).trans (congrFun hF28 2))))) ?_
              refine WL.va rfl rfl rfl (X.move rfl) ?_
              refine WL.va rfl rfl rfl (X.len (ocT.rd) rfl Try.underlying46) ?_
              refine WL.c rfl rfl rfl (X.call Try.call42 (evl_cons rfl (evl_cons rfl evl_nil))) (pick_ok cut ((drB d).length : Int) _ hcut (by omega)) ?_
              rintro v115 w114 ⟨⟨p, rfl, hp0, hp1⟩, rfl⟩
              obtain ⟨hpa, hpb⟩ := hp1 (by omega)
              obtain ⟨k, rfl⟩ := Int.eq_ofNat_of_zero_le hpa
              have hkl : k < (drB d).length := by omega
              have hct := getD_cut hI (by omega) (by omega) (fun s hs => Nat.le_trans (hD s hs) (by decide)) hkl
              refine WL.va rfl rfl rfl (X.slH (ocT.rd) rfl rfl (by omega) Try.underlying46 Try.sizeOf5) ?_
              have hz5 := ((show Ext w w110 from (Ext.trans (Ext.trans (Ext.trans (Ext.trans (Ext.trans (Ext.trans (Ext.trans (Ext.trans (Ext.trans hx2 hwL0) hx47) (Ext.store hx50 hx54 (by omega))) hx58) (Ext.store hx61 hx66 (by omega))) hwCr12) hx102) hx105) (Ext.store hx108 hx112 (by omega))))).size
              refine WL.c rfl rfl rfl (X.call Try.call34 (evl_cons rfl evl_nil)) (getDir_ok _ ((drB d).take k) _ (show Bytes _ (Kf.part vc 0 k 1) ((drB d).take k) from by have := Bytes.part ocT.rd 0 k (Nat.zero_le _) (by omega); simpa using this) (by simp; omega)) ?_
              rintro v118 w117 ⟨⟨v4, u4, rfl, hDH⟩, hx119⟩
              have := World.grownBy.size hx119
              refine WL.va rfl rfl rfl (X.move rfl) ?_
              refine WL.va rfl rfl rfl (X.extract rfl rfl) ?_
              refine WL.va rfl rfl rfl (X.extract rfl rfl) ?_
              refine WL.op rfl (OW.allocO (cs := [.slice none 0 0, i64 0, i64 0, i64 0, i64 0, i64 0, i64 0, .slice none 0 0]) Try.zeroValue51 rfl ?_ (by decide))
              intro g16 w120 heg16 hlg16 hO16 hx122
              have := World.grownBy.size hx122
              refine WL.op rfl (OW.storeOA hO16 rfl rfl rfl hDH.one Try.sizeOf51 ?_)
              intro w124 hO16 hx126
              have := World.grownBy.size hx126
              replace hO3 := (hO3.ext (Ext.trans hx119 hx122)).keptO hx126 (by omega)
              replace hO9 := (hO9.ext (Ext.trans hx119 hx122)).keptO hx126 (by omega)
              replace hO11 := (hO11.ext (Ext.trans hx119 hx122)).keptO hx126 (by omega)
              replace ocT := (ocT.ext (Ext.trans hx119 hx122)).keptO hx126 (by omega)
              replace sY := (sY.ext (Ext.trans hx119 hx122)).keptO hx126 (by omega)
              replace hO14 := (hO14.ext (Ext.trans hx119 hx122)).keptO hx126 (by omega)
              replace hO16 : Blk _ _ _ ((getD ⟨(drB d).take k, false⟩).1.c v4 u4) := hO16
              refine WL.va rfl rfl rfl (X.assignI rfl) ?_
              refine WL.nil ?_
              refine thn_n ?_
              refine WF.seq ?_
              refine WF.region ?_
              refine WL.va rfl rfl rfl (X.fieldAddrO (off := 0) ((hACr12.eq 3).trans ((congrFun hF69 3).trans ((hAL0.eq 3).trans (congrFun hF28 3)))) Try.underlying51 rfl rfl Try.sizeOf26) ?_
              refine WL.va rfl rfl rfl (X.loadOP hO3 (Ext.refl _) rfl rfl rfl Try.isAgg26 Try.sizeOf26) ?_
              have hz6 := ((show Ext w w124 from (Ext.trans (Ext.trans (Ext.trans (Ext.trans (Ext.trans (Ext.trans (Ext.trans (Ext.trans (Ext.trans (Ext.trans (Ext.trans hx2 hwL0) hx47) (Ext.store hx50 hx54 (by omega))) hx58) (Ext.store hx61 hx66 (by omega))) hwCr12) hx102) hx105) (Ext.store hx108 hx112 (by omega))) hx119) (Ext.store hx122 hx126 (by omega))))).size
              refine WL.c rfl rfl rfl (X.call Try.call28 (evl_cons rfl evl_nil)) (putMap_ok d.m v _ (Row.ext h.R (Ext.trans (Ext.trans (Ext.trans (Ext.trans (Ext.trans (Ext.trans (Ext.trans (Ext.trans (Ext.trans (Ext.trans (Ext.trans hx2 hwL0) hx47) (Ext.store hx50 hx54 (by omega))) hx58) (Ext.store hx61 hx66 (by omega))) hwCr12) hx102) hx105) (Ext.store hx108 hx112 (by omega))) hx119) (Ext.store hx122 hx126 (by omega)))) (by omega)) ?_
              rintro vp w128 ⟨op, hx129⟩
              have := World.grownBy.size hx129
              have opT := OwnT.of op
              refine WL.va rfl rfl rfl (X.assign rfl) ?_
              refine WL.nil ?_
              refine thn_n ?_
              refine WF.seq ?_
              refine WF.region ?_
              refine WL.va rfl rfl rfl (X.move rfl) ?_
              have hz7 := ((show Ext w w128 from (Ext.trans (Ext.trans (Ext.trans (Ext.trans (Ext.trans (Ext.trans (Ext.trans (Ext.trans (Ext.trans (Ext.trans (Ext.trans (Ext.trans hx2 hwL0) hx47) (Ext.store hx50 hx54 (by omega))) hx58) (Ext.store hx61 hx66 (by omega))) hwCr12) hx102) hx105) (Ext.store hx108 hx112 (by omega))) hx119) (Ext.store hx122 hx126 (by omega))) hx129))).size
              refine WL.c rfl rfl rfl (X.call Try.call32 (evl_cons rfl evl_nil)) (getMap_ok _ (mpB d.m) _ opT.rd (by rw [mpB_len]; omega)) ?_
              rintro v131 w130 ⟨⟨vn, rfl, on⟩, hx132⟩
              have := World.grownBy.size hx132
              have onT := OwnT.of on
              refine WL.va rfl rfl rfl (X.move rfl) ?_
              refine WL.va rfl rfl rfl (X.extract rfl rfl) ?_
              refine WL.va rfl rfl rfl (X.extract rfl rfl) ?_
              refine WL.op rfl (OW.allocO (cs := [.slice none 0 0, i64 0, i64 0, i64 0, i64 0, i64 0, i64 0]) Try.zeroValue26 rfl ?_ (by decide))
              intro g19 w133 heg19 hlg19 hO19 hx135
              have := World.grownBy.size hx135
              refine WL.op rfl (OW.storeOA hO19 rfl rfl rfl (Mp.c_one (onT.ext hx135).rd (getM ⟨mpB d.m, false⟩).1) Try.sizeOf26 ?_)
              intro w137 hO19 hx139
              have := World.grownBy.size hx139
              replace hO3 := (hO3.ext (Ext.trans (Ext.trans hx129 hx132) hx135)).keptO hx139 (by omega)
              replace hO9 := (hO9.ext (Ext.trans (Ext.trans hx129 hx132) hx135)).keptO hx139 (by omega)
              replace hO11 := (hO11.ext (Ext.trans (Ext.trans hx129 hx132) hx135)).keptO hx139 (by omega)
              replace ocT := (ocT.ext (Ext.trans (Ext.trans hx129 hx132) hx135)).keptO hx139 (by omega)
              replace sY := (sY.ext (Ext.trans (Ext.trans hx129 hx132) hx135)).keptO hx139 (by omega)
              replace hO14 := (hO14.ext (Ext.trans (Ext.trans hx129 hx132) hx135)).keptO hx139 (by omega)
              replace hO16 := (hO16.ext (Ext.trans (Ext.trans hx129 hx132) hx135)).keptO hx139 (by omega)
              replace opT := (opT.ext (Ext.trans hx132 hx135)).keptO hx139 (by omega)
              replace onT := (onT.ext hx135).keptO hx139 (by omega)
              replace hO19 : Blk _ _ _ ((getM ⟨mpB d.m, false⟩).1.c vn) := hO19
              refine WL.va rfl rfl rfl (X.assignI rfl) ?_
              refine WL.nil ?_
              refine thn_n ?_
              refine WF.seq ?_
              refine WF.seq ?_
              refine WF.region ?_
              refine WL.va rfl rfl rfl (X.fieldAddrO (off := 0) ((hACr12.eq 3).trans ((congrFun hF69 3).trans ((hAL0.eq 3).trans (congrFun hF28 3)))) Try.underlying51 rfl rfl Try.sizeOf26) ?_
              refine WL.va rfl rfl rfl (X.loadOP hO3 (Ext.refl _) rfl rfl rfl Try.isAgg26 Try.sizeOf26) ?_
              refine WL.c rfl rfl rfl (X.call Try.call11 (evl_cons rfl evl_nil)) (checkC_ok d.m v _ (Row.ext h.R (Ext.trans (Ext.trans (Ext.trans (Ext.trans (Ext.trans (Ext.trans (Ext.trans (Ext.trans (Ext.trans (Ext.trans (Ext.trans (Ext.trans (Ext.trans (Ext.trans hx2 hwL0) hx47) (Ext.store hx50 hx54 (by omega))) hx58) (Ext.store hx61 hx66 (by omega))) hwCr12) hx102) hx105) (Ext.store hx108 hx112 (by omega))) hx119) (Ext.store hx122 hx126 (by omega))) hx129) hx132) (Ext.store hx135 hx139 (by omega)))) hE) ?_
              rintro v142 w141 ⟨rfl, hx143⟩
              have := World.grownBy.size hx143
              refine WL.va rfl rfl rfl (X.neq rfl rfl) ?_
              refine WL.nil ?_
              refine thn_n ?_
              refine WF.cond rfl (fun h4_144 => ?_) (fun h4_144 => ?_)
              · have gh4_144 := (of_decide_eq_true h4_144)
                have hck : ¬ checkB d.m = true := fun e => by have := gh4_144; rw [e] at this; exact this rfl
                refine WF.seq ?_
                refine WF.region ?_
                refine WL.va rfl rfl rfl (X.moveI rfl) ?_
                refine WL.va rfl rfl rfl (X.eql rfl rfl) ?_
                refine WL.va rfl rfl rfl (X.moveB rfl) ?_
                refine WL.split (j := 2) rfl (fun h147 => ?_) (fun h147 => ?_)
                · have gh147 := (of_decide_eq_true h147)
                  refine WL.vg rfl (congrArg some h147) rfl rfl (X.moveI rfl) ?_
                  refine WL.vg rfl (congrArg some h147) rfl rfl (X.eql rfl rfl) ?_
                  refine WL.va rfl rfl rfl (X.pickT rfl h147 rfl) ?_
                  refine WL.va rfl rfl rfl (X.moveB rfl) ?_
                  refine WL.split (j := 6) rfl (fun h149 => ?_) (fun h149 => ?_)
                  · have gh149 := (of_decide_eq_true h149)
                    refine WL.cg rfl (congrArg some h149) rfl rfl (X.call Try.call13 evl_nil) (known_ok _) ?_
                    rintro v151 w150 ⟨rfl, hx152⟩
                    have := World.grownBy.size hx152
                    refine WL.va rfl rfl rfl (X.pickT rfl h149 rfl) ?_
                    refine WL.va rfl rfl rfl (X.assignB rfl) ?_
                    refine WL.nil ?_
                    refine thn_n ?_
                    refine WF.ret ?_
                    refine thn_r ?_
                    refine fin_r ?_
                    exact ⟨rfl, (Ext.trans (Ext.trans (Ext.trans (Ext.trans (Ext.trans (Ext.trans (Ext.trans (Ext.trans (Ext.trans (Ext.trans (Ext.trans (Ext.trans (Ext.trans (Ext.trans (Ext.trans (Ext.trans hx2 hwL0) hx47) (Ext.store hx50 hx54 (by omega))) hx58) (Ext.store hx61 hx66 (by omega))) hwCr12) hx102) hx105) (Ext.store hx108 hx112 (by omega))) hx119) (Ext.store hx122 hx126 (by omega))) hx129) hx132) (Ext.store hx135 hx139 (by omega))) hx143) hx152)⟩
                  · have gh149 := (of_decide_eq_false h149)
                    exact absurd (getM_e hI.m (by omega) hck) gh149
                · have gh147 := (of_decide_eq_false h147)
                  exact absurd (by rw [getD_put hI (by omega) (by omega) (fun s hs => Nat.le_trans (hD s hs) (by decide)), if_neg hck]) gh147
              · have gh4_144 := (Decidable.of_not_not (of_decide_eq_false h4_144))
                have hck : checkB d.m = true := codeOf_0 gh4_144
                have hgp := getM_o hI.m (by omega) hck
                refine WF.skip ?_
                refine thn_n ?_
                refine WF.seq ?_
                refine WF.seq ?_
                refine WF.region ?_
                refine WL.va rfl rfl rfl (X.moveI rfl) ?_
                refine WL.va rfl rfl rfl (X.neq rfl rfl) ?_
                refine WL.va rfl rfl rfl (X.moveB rfl) ?_
                refine WL.split (j := 2) rfl (fun h155 => ?_) (fun h155 => ?_)
                · have gh155 := (of_decide_eq_true h155)
                  exact absurd (by rw [hgp]) gh155
                · have gh155 := (Decidable.of_not_not (of_decide_eq_false h155))
                  refine WL.vg rfl (congrArg some h155) rfl rfl (X.loadOA hO19 hx143 rfl rfl Try.isAgg26 Try.sizeOf26) ?_
                  refine WL.vg rfl (congrArg some h155) rfl rfl (X.fieldAddrO (off := 0) ((hACr12.eq 3).trans ((congrFun hF69 3).trans ((hAL0.eq 3).trans (congrFun hF28 3)))) Try.underlying51 rfl rfl Try.sizeOf26) ?_
                  refine WL.vg rfl (congrArg some h155) rfl rfl (X.loadOP hO3 hx143 rfl rfl rfl Try.isAgg26 Try.sizeOf26) ?_
                  refine WL.cg rfl (congrArg some h155) rfl rfl (X.call Try.call19 (evl_cons rfl (evl_cons rfl evl_nil))) (sameMap_self (onT.ext hx143).rd (Row.ext h.R (Ext.trans (Ext.trans (Ext.trans (Ext.trans (Ext.trans (Ext.trans (Ext.trans (Ext.trans (Ext.trans (Ext.trans (Ext.trans (Ext.trans (Ext.trans (Ext.trans (Ext.trans hx2 hwL0) hx47) (Ext.store hx50 hx54 (by omega))) hx58) (Ext.store hx61 hx66 (by omega))) hwCr12) hx102) hx105) (Ext.store hx108 hx112 (by omega))) hx119) (Ext.store hx122 hx126 (by omega))) hx129) hx132) (Ext.store hx135 hx139 (by omega))) hx143)) (by rw [hgp])) ?_
                  rintro v157 w156 ⟨rfl, hx158⟩
                  have := World.grownBy.size hx158
                  refine WL.vg rfl (congrArg some h155) rfl rfl (X.not rfl) ?_
                  refine WL.va rfl rfl rfl (X.pickF rfl h155 rfl) ?_
                  refine WL.va rfl rfl rfl (X.moveB rfl) ?_
                  refine WL.vg rfl rfl rfl rfl (X.moveI rfl) ?_
                  refine WL.vg rfl rfl rfl rfl (X.neq rfl rfl) ?_
                  refine WL.va rfl rfl rfl (X.pickF rfl rfl rfl) ?_
                  refine WL.nil ?_
                  refine thn_n ?_
                  refine WF.cond rfl (fun h5_161 => ?_) (fun h5_161 => ?_)
                  · have gh5_161 := (of_decide_eq_true h5_161)
                    exact absurd hct gh5_161
                  · have gh5_161 := (Decidable.of_not_not (of_decide_eq_false h5_161))
                    refine WF.skip ?_
                    refine thn_n ?_
                    refine WF.seq ?_
                    refine WF.seq ?_
                    refine WF.region ?_
                    refine WL.va rfl rfl rfl (X.moveB ((hACr12.eq 7).trans ((congrFun hF69 7).trans e7_L0))) ?_
                    refine WL.va rfl rfl rfl (X.not rfl) ?_
                    refine WL.nil ?_
                    refine thn_n ?_
                    refine WF.cond rfl (fun h6_163 => ?_) (fun h6_163 => ?_)
                    · have gh6_163 := (nt h6_163)
                      have hrf : risesB d.S = false := by have := gh6_163; rw [hrr] at this; simpa using this
                      refine WF.seq ?_
                      refine WF.region ?_
                      refine WL.va rfl rfl rfl (X.moveI rfl) ?_
                      refine WL.va rfl rfl rfl (X.eql rfl rfl) ?_
                      refine WL.va rfl rfl rfl (X.moveB rfl) ?_
                      refine WL.split (j := 2) rfl (fun h166 => ?_) (fun h166 => ?_)
                      · have gh166 := (of_decide_eq_true h166)
                        refine WL.cg rfl (congrArg some h166) rfl rfl (X.call Try.call13 evl_nil) (known_ok _) ?_
                        rintro v168 w167 ⟨rfl, hx169⟩
                        have := World.grownBy.size hx169
                        refine WL.va rfl rfl rfl (X.pickT rfl h166 rfl) ?_
                        refine WL.va rfl rfl rfl (X.assignB rfl) ?_
                        refine WL.nil ?_
                        refine thn_n ?_
                        refine WF.ret ?_
                        refine thn_r ?_
                        refine fin_r ?_
                        exact ⟨rfl, (Ext.trans (Ext.trans (Ext.trans (Ext.trans (Ext.trans (Ext.trans (Ext.trans (Ext.trans (Ext.trans (Ext.trans (Ext.trans (Ext.trans (Ext.trans (Ext.trans (Ext.trans (Ext.trans (Ext.trans hx2 hwL0) hx47) (Ext.store hx50 hx54 (by omega))) hx58) (Ext.store hx61 hx66 (by omega))) hwCr12) hx102) hx105) (Ext.store hx108 hx112 (by omega))) hx119) (Ext.store hx122 hx126 (by omega))) hx129) hx132) (Ext.store hx135 hx139 (by omega))) hx143) hx158) hx169)⟩
                      · have gh166 := (of_decide_eq_false h166)
                        exact absurd (by rw [getD_put hI (by omega) (by omega) (fun s hs => Nat.le_trans (hD s hs) (by decide)), if_pos hck, if_neg (by rw [hrf]; decide)]) gh166
                    · have gh6_163 := (nf h6_163)
                      have hrf : risesB d.S = true := by have := gh6_163; rw [hrr] at this; simpa using this
                      have hgy : (getD ⟨drB d, false⟩) = (d, 0) := by rw [getD_put hI (by omega) (by omega) (fun s hs => Nat.le_trans (hD s hs) (by decide)), if_pos hck, if_pos hrf]
                      refine WF.skip ?_
                      refine thn_n ?_
                      refine WF.seq ?_
                      refine WF.region ?_
                      refine WL.va rfl rfl rfl (X.moveI rfl) ?_
                      refine WL.va rfl rfl rfl (X.eql rfl rfl) ?_
                      refine WL.va rfl rfl rfl (X.moveB rfl) ?_
                      refine WL.split (j := 2) rfl (fun h172 => ?_) (fun h172 => ?_)
                      · have gh172 := (of_decide_eq_true h172)
                        refine WL.vg rfl (congrArg some h172) rfl rfl (X.loadOA hO14 (Ext.trans hx143 hx158) rfl rfl Try.isAgg51 Try.sizeOf51) ?_
                        refine WL.vg rfl (congrArg some h172) rfl rfl (X.loadOA hO3 (Ext.trans hx143 hx158) ((hACr12.eq 3).trans ((congrFun hF69 3).trans ((hAL0.eq 3).trans (congrFun hF28 3)))) rfl Try.isAgg51 Try.sizeOf51) ?_
                        refine WL.cg rfl (congrArg some h172) rfl rfl (X.call Try.call36 (evl_cons rfl (evl_cons rfl evl_nil))) (sameDir_self (hDY.ext ((sY.ext (Ext.trans hx143 hx158))).x).at (h.ext (Ext.trans (Ext.trans (Ext.trans (Ext.trans (Ext.trans (Ext.trans (Ext.trans (Ext.trans (Ext.trans (Ext.trans (Ext.trans (Ext.trans (Ext.trans (Ext.trans (Ext.trans (Ext.trans hx2 hwL0) hx47) (Ext.store hx50 hx54 (by omega))) hx58) (Ext.store hx61 hx66 (by omega))) hwCr12) hx102) hx105) (Ext.store hx108 hx112 (by omega))) hx119) (Ext.store hx122 hx126 (by omega))) hx129) hx132) (Ext.store hx135 hx139 (by omega))) hx143) hx158)) (by rw [hgy])) ?_
                        rintro v174 w173 ⟨rfl, hx175⟩
                        have := World.grownBy.size hx175
                        refine WL.va rfl rfl rfl (X.pickT rfl h172 rfl) ?_
                        refine WL.va rfl rfl rfl (X.moveB rfl) ?_
                        refine WL.cg rfl rfl rfl rfl (X.call Try.call13 evl_nil) (known_ok _) ?_
                        rintro v178 w177 ⟨rfl, hx179⟩
                        have := World.grownBy.size hx179
                        refine WL.va rfl rfl rfl (X.pickT rfl rfl rfl) ?_
                        refine WL.va rfl rfl rfl (X.assignB rfl) ?_
                        refine WL.nil ?_
                        refine thn_n ?_
                        refine WF.ret ?_
                        refine fin_r ?_
                        exact ⟨rfl, (Ext.trans (Ext.trans (Ext.trans (Ext.trans (Ext.trans (Ext.trans (Ext.trans (Ext.trans (Ext.trans (Ext.trans (Ext.trans (Ext.trans (Ext.trans (Ext.trans (Ext.trans (Ext.trans (Ext.trans (Ext.trans hx2 hwL0) hx47) (Ext.store hx50 hx54 (by omega))) hx58) (Ext.store hx61 hx66 (by omega))) hwCr12) hx102) hx105) (Ext.store hx108 hx112 (by omega))) hx119) (Ext.store hx122 hx126 (by omega))) hx129) hx132) (Ext.store hx135 hx139 (by omega))) hx143) hx158) hx175) hx179)⟩
                      · have gh172 := (of_decide_eq_false h172)
                        exact absurd (by rw [hgy]) gh172

end Go.Proofs.Ytpimnlgfhpnjnaa
