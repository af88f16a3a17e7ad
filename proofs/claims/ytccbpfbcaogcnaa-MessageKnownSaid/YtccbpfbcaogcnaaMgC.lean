/- The walks of ranged, fits and Check. -/
import Derived.Test.YtccbpfbcaogcnaaMgB
namespace Go.Proofs.Ytccbpfbcaogcnaa
open Go Go.RowKit Kf
set_option maxRecDepth 20000
theorem lh0 {q : Nat} (h : q = 0) : lowP q = 0 ∧ highP q = 4 := by subst h; decide
theorem lh10 {q : Nat} (h : q = 10) : lowP q = 0 ∧ highP q = 2 := by subst h; decide
theorem lh7 {q : Nat} (h : q = 7) : lowP q = 1 ∧ highP q = 1099511627776 := by subst h; decide
theorem lh8 {q : Nat} (h : q = 8) : lowP q = 1 ∧ highP q = 4 := by subst h; decide
theorem lhd {q : Nat} (h0 : q ≠ 0) (h1 : q ≠ 10) (h2 : q ≠ 7) (h3 : q ≠ 8) : lowP q = 0 ∧ highP q = 1099511627776 := by
  unfold lowP highP
  rw [if_neg (by omega), if_neg (by omega), if_neg h1]
  exact ⟨rfl, rfl⟩
theorem sumE_map {E : List EV} {l : List En} (h : E.map Prod.fst = l) {k : Nat} (hk : k < E.length) : sumE (l.take (k + 1)) = sumE (l.take k) + (24 + E[k].1.Data.length) := by
  subst h
  rw [sumE_take (by simpa using hk)]
  simp

set_option maxHeartbeats 4000000 in
theorem ranged_ok (vE vD : Value) (m : Mg) (w : World) (h : MgAt w vE vD m) : FnOk Try.prog 35 [agg (mc m.n m.ok vE vD)] w (fun r w' => r = .bool (decide m.rangeP) ∧ Ext w w') := by
  obtain ⟨E, hE, rE, dE⟩ := h.E
  have hEl : E.length = m.E.length := by rw [← hE]; simp
  have lE := h.E.le
  have lD := Bytes.le64 h.D
  refine FnOk.enter (rs := [2]) Try.func35 rfl Try.ntmps35 Try.results35 rfl rfl ?_
  refine WF.seq ?_
  refine WF.region ?_
  refine WL.op rfl (OW.boxA (cs := (mc m.n m.ok vE vD)) rfl ?_ (by decide))
  intro g1 w1 heg1 hlg1 hO1 hx3
  have := World.grownBy.size hx3
  refine WL.va rfl rfl rfl (X.assignB rfl) ?_
  refine WL.nil ?_
  refine thn_n ?_
  refine WF.seq ?_
  refine WF.seq ?_
  refine WF.region ?_
  refine WL.va rfl rfl rfl (X.fieldAddrO (off := 1) rfl Try.underlying25 rfl rfl Try.sizeOf3) ?_
  refine WL.va rfl rfl rfl (X.loadO hO1 (Ext.refl _) rfl rfl Try.isAgg3) ?_
  refine WL.c rfl rfl rfl (X.call Try.call64 (evl_cons rfl (evl_cons rfl (evl_cons rfl evl_nil)))) (within_ok _ _ _ _) ?_
  rintro v7 w6 ⟨rfl, hx8⟩
  have := World.grownBy.size hx8
  refine WL.va rfl rfl rfl (X.not rfl) ?_
  refine WL.va rfl rfl rfl (X.moveB rfl) ?_
  refine WL.split (j := 4) rfl (fun h11 => ?_) (fun h11 => ?_)
  · have gh11 := (of_decide_eq_false (nt h11))
    have hF : ¬ (1 ≤ m.g 1 ∧ m.g 1 ≤ 199) := gh11
    refine WL.p rfl rfl rfl (congrArg some h11) ?_
    refine WL.p rfl rfl rfl (congrArg some h11) ?_
    refine WL.p rfl rfl rfl (congrArg some h11) ?_
    refine WL.p rfl rfl rfl (congrArg some h11) ?_
    refine WL.va rfl rfl rfl (X.pickT rfl h11 rfl) ?_
    refine WL.nil ?_
    refine thn_n ?_
    refine WF.cond_t rfl ?_
    refine WF.seq ?_
    refine WF.region ?_
    refine WL.va rfl rfl rfl (X.assignB rfl) ?_
    refine WL.nil ?_
    refine thn_n ?_
    refine WF.ret ?_
    refine thn_r ?_
    refine fin_r ?_
    first | exact ⟨congrArg Value.bool (dec_f fun hr => hF hr.1), (Ext.trans hx3 hx8)⟩ | exact ⟨congrArg Value.bool (dec_f fun hr => hTo hr.2.1), (Ext.trans hx3 hx8)⟩
  · have gh11 := (of_decide_eq_true (nf h11))
    have hF : 1 ≤ m.g 1 ∧ m.g 1 ≤ 199 := gh11
    refine WL.vg rfl (congrArg some h11) rfl rfl (X.fieldAddrO (off := 2) rfl Try.underlying25 rfl rfl Try.sizeOf3) ?_
    refine WL.vg rfl (congrArg some h11) rfl rfl (X.loadO hO1 hx8 rfl rfl Try.isAgg3) ?_
    refine WL.cg rfl (congrArg some h11) rfl rfl (X.call Try.call64 (evl_cons rfl (evl_cons rfl (evl_cons rfl evl_nil)))) (within_ok _ _ _ _) ?_
    rintro v15 w14 ⟨rfl, hx16⟩
    have := World.grownBy.size hx16
    refine WL.vg rfl (congrArg some h11) rfl rfl (X.not rfl) ?_
    refine WL.va rfl rfl rfl (X.pickF rfl h11 rfl) ?_
    refine WL.nil ?_
    refine thn_n ?_
    refine WF.cond rfl (fun h0_18 => ?_) (fun h0_18 => ?_)
    · have gh0_18 := (of_decide_eq_false (nt h0_18))
      have hTo : ¬ (1 ≤ m.g 2 ∧ m.g 2 ≤ 199) := gh0_18
      refine WF.seq ?_
      refine WF.region ?_
      refine WL.va rfl rfl rfl (X.assignB rfl) ?_
      refine WL.nil ?_
      refine thn_n ?_
      refine WF.ret ?_
      refine thn_r ?_
      refine fin_r ?_
      first | exact ⟨congrArg Value.bool (dec_f fun hr => hF hr.1), (Ext.trans (Ext.trans hx3 hx8) hx16)⟩ | exact ⟨congrArg Value.bool (dec_f fun hr => hTo hr.2.1), (Ext.trans (Ext.trans hx3 hx8) hx16)⟩
    · have gh0_18 := (of_decide_eq_true (nf h0_18))
      have hTo : 1 ≤ m.g 2 ∧ m.g 2 ≤ 199 := gh0_18
      refine WF.skip ?_
      refine thn_n ?_
      refine WF.seq ?_
      refine WF.seq ?_
      refine WF.region ?_
      refine WL.va rfl rfl rfl (X.fieldAddrO (off := 0) rfl Try.underlying25 rfl rfl Try.sizeOf3) ?_
      refine WL.va rfl rfl rfl (X.loadO hO1 (Ext.trans hx8 hx16) rfl rfl Try.isAgg3) ?_
      refine WL.c rfl rfl rfl (X.call Try.call33 (evl_cons rfl evl_nil)) (fields_ok (m.g 0) _) ?_
      rintro v22 w21 ⟨rfl, hx23⟩
      have := World.grownBy.size hx23
      refine WL.op rfl (OW.range rfl Try.underlying9 ?_ (by decide))
      intro g22 w24 heg22 hlg22 hI22 hx26
      have := World.grownBy.size hx26
      refine WL.nil ?_
      refine thn_n ?_
      refine WF.block ?_
      refine WF.named (fun F28 hF29 => ?_)
      refine WF.loopN (fun mL0 f' w' => ∃ (p : Nat), mL0 = (places (m.g 0)).length - p ∧ Agree [0, 1, 9, 10, 11, 12, 13, 14, 15, 16, 17, 18, 19, 20, 21, 22] f' F28 ∧ Ext w w' ∧ It w' g22 (strL (lets (m.g 0))) p ∧ Blk w' g1 25 (mc m.n m.ok vE vD) ∧ p ≤ (places (m.g 0)).length ∧ ∀ q ∈ (places (m.g 0)).take p, q < 11 → lowP q ≤ m.g (cl q) ∧ m.g (cl q) ≤ highP q) ?_ ?_
      · exact ⟨_, 0, rfl, (Agree.refl _ _), (Ext.trans (Ext.trans (Ext.trans (Ext.trans hx3 hx8) hx16) hx23) hx26), ⟨hI22, (hO1.ext (Ext.trans (Ext.trans (Ext.trans hx8 hx16) hx23) hx26)), Nat.zero_le _, fun q hq => by cases hq⟩⟩
      · rintro mL0 fL0 wL0 ⟨p, hmL0, hAL0, hwL0, ⟨hI22, hO1, hp, hall⟩⟩
        have := World.grownBy.size hwL0
        have hO1l := hO1.lt
        refine WF.seq ?_
        refine WF.region ?_
        rcases Nat.lt_or_ge p (places (m.g 0)).length with hn4 | hn4
        · obtain ⟨q, hq, hq14, hdec, htk⟩ := next_place hn4
          have hlt := lt_num hq14
          refine WL.op rfl (OW.next hI22 ((hAL0.eq 22).trans (congrFun hF29 22)) (by rw [strL_size, lets_len]; exact hn4) hdec ?_ (by decide))
          intro w30 hI22 hx32
          have := World.grownBy.size hx32
          replace hO1 := hO1.keptO hx32 (by omega)
          refine WL.va rfl rfl rfl (X.extract rfl rfl) ?_
          refine WL.nil ?_
          refine thn_n ?_
          refine WF.seq ?_
          refine WF.cond_t rfl ?_
          refine WF.skip ?_
          refine thn_n ?_
          refine WF.block ?_
          refine WF.seq ?_
          refine WF.region ?_
          refine WL.va rfl rfl rfl (X.extract rfl rfl) ?_
          refine WL.va rfl rfl rfl (X.assignI rfl) ?_
          refine WL.nil ?_
          refine thn_n ?_
          refine WF.seq ?_
          refine WF.region ?_
          refine WL.va rfl rfl rfl (X.assignI rfl) ?_
          refine WL.va rfl rfl rfl (X.assignI rfl) ?_
          refine WL.nil ?_
          refine thn_n ?_
          refine WF.seq ?_
          refine WF.seq ?_
          refine WF.region ?_
          refine WL.va rfl rfl rfl (X.moveI rfl) ?_
          refine WL.nil ?_
          refine thn_n ?_
          refine WF.block ?_
          refine WF.seq ?_
          refine WF.seq ?_
          refine WF.region ?_
          refine WL.va rfl rfl rfl (X.eql rfl rfl) ?_
          refine WL.va rfl rfl rfl (X.assignB rfl) ?_
          refine WL.nil ?_
          refine thn_n ?_
          refine WF.cond rfl (fun h2_35 => ?_) (fun h2_35 => ?_)
          · have gh2_35 := (of_decide_eq_true h2_35)
            have hq11 : q = 11 := hlt.1.1 (by have := gh2_35; omega)
            have hstep : q < 11 → lowP q ≤ m.g (cl q) ∧ m.g (cl q) ≤ highP q := fun h => absurd h (by omega)
            refine WF.skip ?_
            refine thn_n ?_
            refine WF.cond_t ((rfl : _ = Value.bool _).trans (congrArg Value.bool h2_35)) ?_
            refine WF.exit ?_
            refine blk_ne rfl ?_
            refine thn_x ?_
            refine blk_eq ?_
            exact thn_n ⟨_, (by omega), p + 1, rfl, (by repeat (first | exact hAL0 | refine Agree.put ?_ rfl | refine Agree.named hF29 ?_)), (Ext.store hwL0 hx32 (by omega)), ⟨hI22, hO1, by omega, fun q2 hq2 => by rw [htk] at hq2; rcases List.mem_append.1 hq2 with hq2 | hq2; exact hall q2 hq2; rw [List.mem_singleton] at hq2; subst hq2; exact hstep⟩⟩
          · have gh2_35 := (of_decide_eq_false h2_35)
            have hq11 : q ≠ 11 := fun e => by have h1 := hlt.1.2 e; have h2 := gh2_35; omega
            refine WF.seq ?_
            refine WF.region ?_
            refine WL.va rfl rfl rfl (X.eql rfl rfl) ?_
            refine WL.va rfl rfl rfl (X.assignB rfl) ?_
            refine WL.nil ?_
            refine thn_n ?_
            refine WF.cond rfl (fun h3_37 => ?_) (fun h3_37 => ?_)
            · have gh3_37 := (of_decide_eq_true h3_37)
              have hq12 : q = 12 := hlt.2.1.1 (by have := gh3_37; omega)
              have hstep : q < 11 → lowP q ≤ m.g (cl q) ∧ m.g (cl q) ≤ highP q := fun h => absurd h (by omega)
              refine WF.skip ?_
              refine thn_n ?_
              refine WF.cond_t ((rfl : _ = Value.bool _).trans (congrArg Value.bool h3_37)) ?_
              refine WF.exit ?_
              refine blk_ne rfl ?_
              refine thn_x ?_
              refine blk_eq ?_
              exact thn_n ⟨_, (by omega), p + 1, rfl, (by repeat (first | exact hAL0 | refine Agree.put ?_ rfl | refine Agree.named hF29 ?_)), (Ext.store hwL0 hx32 (by omega)), ⟨hI22, hO1, by omega, fun q2 hq2 => by rw [htk] at hq2; rcases List.mem_append.1 hq2 with hq2 | hq2; exact hall q2 hq2; rw [List.mem_singleton] at hq2; subst hq2; exact hstep⟩⟩
            · have gh3_37 := (of_decide_eq_false h3_37)
              have hq12 : q ≠ 12 := fun e => by have h1 := hlt.2.1.2 e; have h2 := gh3_37; omega
              refine WF.region ?_
              refine WL.va rfl rfl rfl (X.eql rfl rfl) ?_
              refine WL.va rfl rfl rfl (X.assignB rfl) ?_
              refine WL.nil ?_
              refine thn_n ?_
              refine WF.cond rfl (fun h4_39 => ?_) (fun h4_39 => ?_)
              · have gh4_39 := (of_decide_eq_true h4_39)
                have hq13 : q = 13 := hlt.2.2.1.1 (by have := gh4_39; omega)
                have hstep : q < 11 → lowP q ≤ m.g (cl q) ∧ m.g (cl q) ≤ highP q := fun h => absurd h (by omega)
                refine WF.exit ?_
                refine blk_ne rfl ?_
                refine thn_x ?_
                refine blk_eq ?_
                exact thn_n ⟨_, (by omega), p + 1, rfl, (by repeat (first | exact hAL0 | refine Agree.put ?_ rfl | refine Agree.named hF29 ?_)), (Ext.store hwL0 hx32 (by omega)), ⟨hI22, hO1, by omega, fun q2 hq2 => by rw [htk] at hq2; rcases List.mem_append.1 hq2 with hq2 | hq2; exact hall q2 hq2; rw [List.mem_singleton] at hq2; subst hq2; exact hstep⟩⟩
              · have gh4_39 := (of_decide_eq_false h4_39)
                have hq13 : q ≠ 13 := fun e => by have h1 := hlt.2.2.1.2 e; have h2 := gh4_39; omega
                have hqn : q < 11 := by omega
                refine WF.seq ?_
                refine WF.region ?_
                refine WL.va rfl rfl rfl (X.eql rfl rfl) ?_
                refine WL.va rfl rfl rfl (X.assignB rfl) ?_
                refine WL.nil ?_
                refine thn_n ?_
                refine WF.cond rfl (fun h5_41 => ?_) (fun h5_41 => ?_)
                · have gh5_41 := (of_decide_eq_true h5_41)
                  have hq0 : q = 0 := hlt.2.2.2.1.1 (by have := gh5_41; omega)
                  have hlh := lh0 hq0
                  refine WF.region ?_
                  refine WL.va rfl rfl rfl (X.assignI rfl) ?_
                  refine WL.nil ?_
                  refine blk_n ?_
                  refine thn_n ?_
                  refine WF.seq ?_
                  refine WF.region ?_
                  refine WL.va rfl rfl rfl (X.moveI rfl) ?_
                  refine WL.c rfl rfl rfl (X.call Try.call45 (evl_cons ((hAL0.eq 1).trans (congrFun hF29 1)) (evl_cons rfl evl_nil))) (number_ok2 g1 _ _ _ hO1) ?_
                  rintro v44 w43 ⟨rfl, hx45⟩
                  have := World.grownBy.size hx45
                  refine WL.va rfl rfl rfl (X.nilCheck rfl) ?_
                  refine WL.va rfl rfl rfl (X.loadO hO1 hx45 rfl (by rw [nOff_place hqn]; exact mc_get h.len (cl_lt hqn).2) Try.isAgg3) ?_
                  refine WL.va rfl rfl rfl (X.moveI rfl) ?_
                  refine WL.va rfl rfl rfl (X.moveI rfl) ?_
                  refine WL.c rfl rfl rfl (X.call Try.call64 (evl_cons rfl (evl_cons rfl (evl_cons rfl evl_nil)))) (within_ok _ _ _ _) ?_
                  rintro v47 w46 ⟨rfl, hx48⟩
                  have := World.grownBy.size hx48
                  refine WL.va rfl rfl rfl (X.not rfl) ?_
                  refine WL.nil ?_
                  refine thn_n ?_
                  refine WF.cond rfl (fun h9_50 => ?_) (fun h9_50 => ?_)
                  · have gh9_50 := (of_decide_eq_false (nt h9_50))
                    have hbad : ¬ (lowP q ≤ m.g (cl q) ∧ m.g (cl q) ≤ highP q) := by rw [hlh.1, hlh.2]; exact gh9_50
                    refine WF.seq ?_
                    refine WF.region ?_
                    refine WL.va rfl rfl rfl (X.assignB rfl) ?_
                    refine WL.nil ?_
                    refine thn_n ?_
                    refine WF.ret ?_
                    refine blk_r ?_
                    refine thn_r ?_
                    refine blk_r ?_
                    refine thn_r ?_
                    refine fin_r ?_
                    exact ⟨congrArg Value.bool (dec_f fun hr => hbad (hr.2.2.1 q (List.mem_of_getElem? hq) hqn)), (Ext.trans (Ext.trans (Ext.store hwL0 hx32 (by omega)) hx45) hx48)⟩
                  · have gh9_50 := (of_decide_eq_true (nf h9_50))
                    have hgood : lowP q ≤ m.g (cl q) ∧ m.g (cl q) ≤ highP q := by rw [hlh.1, hlh.2]; exact gh9_50
                    have hstep : q < 11 → lowP q ≤ m.g (cl q) ∧ m.g (cl q) ≤ highP q := fun _ => hgood
                    refine WF.skip ?_
                    refine blk_n ?_
                    exact thn_n ⟨_, (by omega), p + 1, rfl, (by repeat (first | exact hAL0 | refine Agree.put ?_ rfl | refine Agree.named hF29 ?_)), (Ext.trans (Ext.trans (Ext.store hwL0 hx32 (by omega)) hx45) hx48), ⟨(hI22.ext (Ext.trans hx45 hx48)), (hO1.ext (Ext.trans hx45 hx48)), by omega, fun q2 hq2 => by rw [htk] at hq2; rcases List.mem_append.1 hq2 with hq2 | hq2; exact hall q2 hq2; rw [List.mem_singleton] at hq2; subst hq2; exact hstep⟩⟩
                · have gh5_41 := (of_decide_eq_false h5_41)
                  have hq0 : q ≠ 0 := fun e => by have h1 := hlt.2.2.2.1.2 e; have h2 := gh5_41; omega
                  refine WF.seq ?_
                  refine WF.region ?_
                  refine WL.va rfl rfl rfl (X.eql rfl rfl) ?_
                  refine WL.va rfl rfl rfl (X.assignB rfl) ?_
                  refine WL.nil ?_
                  refine thn_n ?_
                  refine WF.cond rfl (fun h6_53 => ?_) (fun h6_53 => ?_)
                  · have gh6_53 := (of_decide_eq_true h6_53)
                    have hq10 : q = 10 := hlt.2.2.2.2.1.1 (by have := gh6_53; omega)
                    have hlh := lh10 hq10
                    refine WF.region ?_
                    refine WL.va rfl rfl rfl (X.assignI rfl) ?_
                    refine WL.nil ?_
                    refine blk_n ?_
                    refine thn_n ?_
                    refine WF.seq ?_
                    refine WF.region ?_
                    refine WL.va rfl rfl rfl (X.moveI rfl) ?_
                    refine WL.c rfl rfl rfl (X.call Try.call45 (evl_cons ((hAL0.eq 1).trans (congrFun hF29 1)) (evl_cons rfl evl_nil))) (number_ok2 g1 _ _ _ hO1) ?_
                    rintro v56 w55 ⟨rfl, hx57⟩
                    have := World.grownBy.size hx57
                    refine WL.va rfl rfl rfl (X.nilCheck rfl) ?_
                    refine WL.va rfl rfl rfl (X.loadO hO1 hx57 rfl (by rw [nOff_place hqn]; exact mc_get h.len (cl_lt hqn).2) Try.isAgg3) ?_
                    refine WL.va rfl rfl rfl (X.moveI rfl) ?_
                    refine WL.va rfl rfl rfl (X.moveI rfl) ?_
                    refine WL.c rfl rfl rfl (X.call Try.call64 (evl_cons rfl (evl_cons rfl (evl_cons rfl evl_nil)))) (within_ok _ _ _ _) ?_
                    rintro v59 w58 ⟨rfl, hx60⟩
                    have := World.grownBy.size hx60
                    refine WL.va rfl rfl rfl (X.not rfl) ?_
                    refine WL.nil ?_
                    refine thn_n ?_
                    refine WF.cond rfl (fun h9_62 => ?_) (fun h9_62 => ?_)
                    · have gh9_62 := (of_decide_eq_false (nt h9_62))
                      have hbad : ¬ (lowP q ≤ m.g (cl q) ∧ m.g (cl q) ≤ highP q) := by rw [hlh.1, hlh.2]; exact gh9_62
                      refine WF.seq ?_
                      refine WF.region ?_
                      refine WL.va rfl rfl rfl (X.assignB rfl) ?_
                      refine WL.nil ?_
                      refine thn_n ?_
                      refine WF.ret ?_
                      refine blk_r ?_
                      refine thn_r ?_
                      refine blk_r ?_
                      refine thn_r ?_
                      refine fin_r ?_
                      exact ⟨congrArg Value.bool (dec_f fun hr => hbad (hr.2.2.1 q (List.mem_of_getElem? hq) hqn)), (Ext.trans (Ext.trans (Ext.store hwL0 hx32 (by omega)) hx57) hx60)⟩
                    · have gh9_62 := (of_decide_eq_true (nf h9_62))
                      have hgood : lowP q ≤ m.g (cl q) ∧ m.g (cl q) ≤ highP q := by rw [hlh.1, hlh.2]; exact gh9_62
                      have hstep : q < 11 → lowP q ≤ m.g (cl q) ∧ m.g (cl q) ≤ highP q := fun _ => hgood
                      refine WF.skip ?_
                      refine blk_n ?_
                      exact thn_n ⟨_, (by omega), p + 1, rfl, (by repeat (first | exact hAL0 | refine Agree.put ?_ rfl | refine Agree.named hF29 ?_)), (Ext.trans (Ext.trans (Ext.store hwL0 hx32 (by omega)) hx57) hx60), ⟨(hI22.ext (Ext.trans hx57 hx60)), (hO1.ext (Ext.trans hx57 hx60)), by omega, fun q2 hq2 => by rw [htk] at hq2; rcases List.mem_append.1 hq2 with hq2 | hq2; exact hall q2 hq2; rw [List.mem_singleton] at hq2; subst hq2; exact hstep⟩⟩
                  · have gh6_53 := (of_decide_eq_false h6_53)
                    have hq10 : q ≠ 10 := fun e => by have h1 := hlt.2.2.2.2.1.2 e; have h2 := gh6_53; omega
                    refine WF.seq ?_
                    refine WF.region ?_
                    refine WL.va rfl rfl rfl (X.eql rfl rfl) ?_
                    refine WL.va rfl rfl rfl (X.assignB rfl) ?_
                    refine WL.nil ?_
                    refine thn_n ?_
                    refine WF.cond rfl (fun h7_66 => ?_) (fun h7_66 => ?_)
                    · have gh7_66 := (of_decide_eq_true h7_66)
                      have hq7 : q = 7 := hlt.2.2.2.2.2.1.1 (by have := gh7_66; omega)
                      have hlh := lh7 hq7
                      refine WF.region ?_
                      refine WL.va rfl rfl rfl (X.assignI rfl) ?_
                      refine WL.nil ?_
                      refine blk_n ?_
                      refine thn_n ?_
                      refine WF.seq ?_
                      refine WF.region ?_
                      refine WL.va rfl rfl rfl (X.moveI rfl) ?_
                      refine WL.c rfl rfl rfl (X.call Try.call45 (evl_cons ((hAL0.eq 1).trans (congrFun hF29 1)) (evl_cons rfl evl_nil))) (number_ok2 g1 _ _ _ hO1) ?_
                      rintro v69 w68 ⟨rfl, hx70⟩
                      have := World.grownBy.size hx70
                      refine WL.va rfl rfl rfl (X.nilCheck rfl) ?_
                      refine WL.va rfl rfl rfl (X.loadO hO1 hx70 rfl (by rw [nOff_place hqn]; exact mc_get h.len (cl_lt hqn).2) Try.isAgg3) ?_
                      refine WL.va rfl rfl rfl (X.moveI rfl) ?_
                      refine WL.va rfl rfl rfl (X.moveI rfl) ?_
                      refine WL.c rfl rfl rfl (X.call Try.call64 (evl_cons rfl (evl_cons rfl (evl_cons rfl evl_nil)))) (within_ok _ _ _ _) ?_
                      rintro v72 w71 ⟨rfl, hx73⟩
                      have := World.grownBy.size hx73
                      refine WL.va rfl rfl rfl (X.not rfl) ?_
                      refine WL.nil ?_
                      refine thn_n ?_
                      refine WF.cond rfl (fun h9_75 => ?_) (fun h9_75 => ?_)
                      · have gh9_75 := (of_decide_eq_false (nt h9_75))
                        have hbad : ¬ (lowP q ≤ m.g (cl q) ∧ m.g (cl q) ≤ highP q) := by rw [hlh.1, hlh.2]; exact gh9_75
                        refine WF.seq ?_
                        refine WF.region ?_
                        refine WL.va rfl rfl rfl (X.assignB rfl) ?_
                        refine WL.nil ?_
                        refine thn_n ?_
                        refine WF.ret ?_
                        refine blk_r ?_
                        refine thn_r ?_
                        refine blk_r ?_
                        refine thn_r ?_
                        refine fin_r ?_
                        exact ⟨congrArg Value.bool (dec_f fun hr => hbad (hr.2.2.1 q (List.mem_of_getElem? hq) hqn)), (Ext.trans (Ext.trans (Ext.store hwL0 hx32 (by omega)) hx70) hx73)⟩
                      · have gh9_75 := (of_decide_eq_true (nf h9_75))
                        have hgood : lowP q ≤ m.g (cl q) ∧ m.g (cl q) ≤ highP q := by rw [hlh.1, hlh.2]; exact gh9_75
                        have hstep : q < 11 → lowP q ≤ m.g (cl q) ∧ m.g (cl q) ≤ highP q := fun _ => hgood
                        refine WF.skip ?_
                        refine blk_n ?_
                        exact thn_n ⟨_, (by omega), p + 1, rfl, (by repeat (first | exact hAL0 | refine Agree.put ?_ rfl | refine Agree.named hF29 ?_)), (Ext.trans (Ext.trans (Ext.store hwL0 hx32 (by omega)) hx70) hx73), ⟨(hI22.ext (Ext.trans hx70 hx73)), (hO1.ext (Ext.trans hx70 hx73)), by omega, fun q2 hq2 => by rw [htk] at hq2; rcases List.mem_append.1 hq2 with hq2 | hq2; exact hall q2 hq2; rw [List.mem_singleton] at hq2; subst hq2; exact hstep⟩⟩
                    · have gh7_66 := (of_decide_eq_false h7_66)
                      have hq7 : q ≠ 7 := fun e => by have h1 := hlt.2.2.2.2.2.1.2 e; have h2 := gh7_66; omega
                      refine WF.seq ?_
                      refine WF.region ?_
                      refine WL.va rfl rfl rfl (X.eql rfl rfl) ?_
                      refine WL.va rfl rfl rfl (X.assignB rfl) ?_
                      refine WL.nil ?_
                      refine thn_n ?_
                      refine WF.cond rfl (fun h8_78 => ?_) (fun h8_78 => ?_)
                      · have gh8_78 := (of_decide_eq_true h8_78)
                        have hq8 : q = 8 := hlt.2.2.2.2.2.2.1 (by have := gh8_78; omega)
                        have hlh := lh8 hq8
                        refine WF.region ?_
                        refine WL.va rfl rfl rfl (X.assignI rfl) ?_
                        refine WL.va rfl rfl rfl (X.assignI rfl) ?_
                        refine WL.nil ?_
                        refine blk_n ?_
                        refine thn_n ?_
                        refine WF.seq ?_
                        refine WF.region ?_
                        refine WL.va rfl rfl rfl (X.moveI rfl) ?_
                        refine WL.c rfl rfl rfl (X.call Try.call45 (evl_cons ((hAL0.eq 1).trans (congrFun hF29 1)) (evl_cons rfl evl_nil))) (number_ok2 g1 _ _ _ hO1) ?_
                        rintro v81 w80 ⟨rfl, hx82⟩
                        have := World.grownBy.size hx82
                        refine WL.va rfl rfl rfl (X.nilCheck rfl) ?_
                        refine WL.va rfl rfl rfl (X.loadO hO1 hx82 rfl (by rw [nOff_place hqn]; exact mc_get h.len (cl_lt hqn).2) Try.isAgg3) ?_
                        refine WL.va rfl rfl rfl (X.moveI rfl) ?_
                        refine WL.va rfl rfl rfl (X.moveI rfl) ?_
                        refine WL.c rfl rfl rfl (X.call Try.call64 (evl_cons rfl (evl_cons rfl (evl_cons rfl evl_nil)))) (within_ok _ _ _ _) ?_
                        rintro v84 w83 ⟨rfl, hx85⟩
                        have := World.grownBy.size hx85
                        refine WL.va rfl rfl rfl (X.not rfl) ?_
                        refine WL.nil ?_
                        refine thn_n ?_
                        refine WF.cond rfl (fun h9_87 => ?_) (fun h9_87 => ?_)
                        · have gh9_87 := (of_decide_eq_false (nt h9_87))
                          have hbad : ¬ (lowP q ≤ m.g (cl q) ∧ m.g (cl q) ≤ highP q) := by rw [hlh.1, hlh.2]; exact gh9_87
                          refine WF.seq ?_
                          refine WF.region ?_
                          refine WL.va rfl rfl rfl (X.assignB rfl) ?_
                          refine WL.nil ?_
                          refine thn_n ?_
                          refine WF.ret ?_
                          refine blk_r ?_
                          refine thn_r ?_
                          refine blk_r ?_
                          refine thn_r ?_
                          refine fin_r ?_
                          exact ⟨congrArg Value.bool (dec_f fun hr => hbad (hr.2.2.1 q (List.mem_of_getElem? hq) hqn)), (Ext.trans (Ext.trans (Ext.store hwL0 hx32 (by omega)) hx82) hx85)⟩
                        · have gh9_87 := (of_decide_eq_true (nf h9_87))
                          have hgood : lowP q ≤ m.g (cl q) ∧ m.g (cl q) ≤ highP q := by rw [hlh.1, hlh.2]; exact gh9_87
                          have hstep : q < 11 → lowP q ≤ m.g (cl q) ∧ m.g (cl q) ≤ highP q := fun _ => hgood
                          refine WF.skip ?_
                          refine blk_n ?_
                          exact thn_n ⟨_, (by omega), p + 1, rfl, (by repeat (first | exact hAL0 | refine Agree.put ?_ rfl | refine Agree.named hF29 ?_)), (Ext.trans (Ext.trans (Ext.store hwL0 hx32 (by omega)) hx82) hx85), ⟨(hI22.ext (Ext.trans hx82 hx85)), (hO1.ext (Ext.trans hx82 hx85)), by omega, fun q2 hq2 => by rw [htk] at hq2; rcases List.mem_append.1 hq2 with hq2 | hq2; exact hall q2 hq2; rw [List.mem_singleton] at hq2; subst hq2; exact hstep⟩⟩
                      · have gh8_78 := (of_decide_eq_false h8_78)
                        have hq8 : q ≠ 8 := fun e => by have h1 := hlt.2.2.2.2.2.2.2 e; have h2 := gh8_78; omega
                        have hlh := lhd hq0 hq10 hq7 hq8
                        refine WF.skip ?_
                        refine blk_n ?_
                        refine thn_n ?_
                        refine WF.seq ?_
                        refine WF.region ?_
                        refine WL.va rfl rfl rfl (X.moveI rfl) ?_
                        refine WL.c rfl rfl rfl (X.call Try.call45 (evl_cons ((hAL0.eq 1).trans (congrFun hF29 1)) (evl_cons rfl evl_nil))) (number_ok2 g1 _ _ _ hO1) ?_
                        rintro v91 w90 ⟨rfl, hx92⟩
                        have := World.grownBy.size hx92
                        refine WL.va rfl rfl rfl (X.nilCheck rfl) ?_
                        refine WL.va rfl rfl rfl (X.loadO hO1 hx92 rfl (by rw [nOff_place hqn]; exact mc_get h.len (cl_lt hqn).2) Try.isAgg3) ?_
                        refine WL.va rfl rfl rfl (X.moveI rfl) ?_
                        refine WL.va rfl rfl rfl (X.moveI rfl) ?_
                        refine WL.c rfl rfl rfl (X.call Try.call64 (evl_cons rfl (evl_cons rfl (evl_cons rfl evl_nil)))) (within_ok _ _ _ _) ?_
                        rintro v94 w93 ⟨rfl, hx95⟩
                        have := World.grownBy.size hx95
                        refine WL.va rfl rfl rfl (X.not rfl) ?_
                        refine WL.nil ?_
                        refine thn_n ?_
                        refine WF.cond rfl (fun h9_97 => ?_) (fun h9_97 => ?_)
                        · have gh9_97 := (of_decide_eq_false (nt h9_97))
                          have hbad : ¬ (lowP q ≤ m.g (cl q) ∧ m.g (cl q) ≤ highP q) := by rw [hlh.1, hlh.2]; exact gh9_97
                          refine WF.seq ?_
                          refine WF.region ?_
                          refine WL.va rfl rfl rfl (X.assignB rfl) ?_
                          refine WL.nil ?_
                          refine thn_n ?_
                          refine WF.ret ?_
                          refine blk_r ?_
                          refine thn_r ?_
                          refine blk_r ?_
                          refine thn_r ?_
                          refine fin_r ?_
                          exact ⟨congrArg Value.bool (dec_f fun hr => hbad (hr.2.2.1 q (List.mem_of_getElem? hq) hqn)), (Ext.trans (Ext.trans (Ext.store hwL0 hx32 (by omega)) hx92) hx95)⟩
                        · have gh9_97 := (of_decide_eq_true (nf h9_97))
                          have hgood : lowP q ≤ m.g (cl q) ∧ m.g (cl q) ≤ highP q := by rw [hlh.1, hlh.2]; exact gh9_97
                          have hstep : q < 11 → lowP q ≤ m.g (cl q) ∧ m.g (cl q) ≤ highP q := fun _ => hgood
                          refine WF.skip ?_
                          refine blk_n ?_
                          exact thn_n ⟨_, (by omega), p + 1, rfl, (by repeat (first | exact hAL0 | refine Agree.put ?_ rfl | refine Agree.named hF29 ?_)), (Ext.trans (Ext.trans (Ext.store hwL0 hx32 (by omega)) hx92) hx95), ⟨(hI22.ext (Ext.trans hx92 hx95)), (hO1.ext (Ext.trans hx92 hx95)), by omega, fun q2 hq2 => by rw [htk] at hq2; rcases List.mem_append.1 hq2 with hq2 | hq2; exact hall q2 hq2; rw [List.mem_singleton] at hq2; subst hq2; exact hstep⟩⟩
        · refine WL.op rfl (OW.nextEnd hI22 ((hAL0.eq 22).trans (congrFun hF29 22)) (by rw [strL_size, lets_len]; omega) ?_ (by decide))
          refine WL.va rfl rfl rfl (X.extract rfl rfl) ?_
          refine WL.nil ?_
          refine thn_n ?_
          refine WF.seq ?_
          refine WF.cond_f rfl ?_
          refine WF.exit ?_
          refine thn_x ?_
          refine thn_x ?_
          refine blk_eq ?_
          refine thn_n ?_
          refine WF.seq ?_
          refine WF.seq ?_
          refine WF.region ?_
          refine WL.va rfl rfl rfl (X.fieldAddrO (off := 15) ((hAL0.eq 1).trans (congrFun hF29 1)) Try.underlying25 rfl rfl Try.sizeOf22) ?_
          refine WL.va rfl rfl rfl (X.loadO hO1 (Ext.refl _) rfl rfl Try.isAgg22) ?_
          refine WL.va rfl rfl rfl (X.len rE rfl Try.underlying22) ?_
          refine WL.va rfl rfl rfl (X.moveI rfl) ?_
          refine WL.nil ?_
          refine thn_n ?_
          refine WF.block ?_
          refine WF.named (fun F101 hF102 => ?_)
          refine WF.loopN (fun mL1 f' w' => ∃ (k : Nat), mL1 = E.length - k ∧ f' 50 = .int .i64 (k : Int) ∧ Agree [0, 1, 9, 10, 11, 12, 13, 14, 15, 16, 17, 18, 19, 20, 21, 22, 23, 24, 47, 48, 49] f' F101 ∧ Ext w w' ∧ k ≤ E.length ∧ ∀ j (hj : j < E.length), j < k → enP E[j].1) ?_ ?_
          · exact ⟨_, 0, rfl, (congrFun hF102 50), (Agree.refl _ _), hwL0, ⟨Nat.zero_le _, fun j _ hj => by omega⟩⟩
          · rintro mL1 fL1 wL1 ⟨k, hmL1, e50_L1, hAL1, hwL1, ⟨hk0, hen⟩⟩
            have := World.grownBy.size hwL1
            refine WF.seq ?_
            refine WF.region ?_
            refine WL.va rfl rfl rfl (X.lss e50_L1 ((hAL1.eq 49).trans (congrFun hF102 49))) ?_
            refine WL.nil ?_
            refine thn_n ?_
            refine WF.seq ?_
            refine WF.cond rfl (fun h10_103 => ?_) (fun h10_103 => ?_)
            · have gh10_103 := (of_decide_eq_true h10_103)
              have hk : k < E.length := by omega
              refine WF.skip ?_
              refine thn_n ?_
              refine WF.seq ?_
              refine WF.block ?_
              refine WF.seq ?_
              refine WF.region ?_
              refine WL.va rfl rfl rfl (X.idx rE ((hAL1.eq 48).trans (congrFun hF102 48)) e50_L1 hk Try.underlying22 Try.sizeOf57) ?_
              refine WL.va rfl rfl rfl (X.loadEl rE hwL1 rfl hk (ERow.el (E := E) (k := k) hk) Try.isAgg57 Try.sizeOf57) ?_
              refine WL.op rfl (OW.allocO (cs := [i64 0, i64 0, .slice none 0 0]) Try.zeroValue57 rfl ?_ (by decide))
              intro g8 w105 heg8 hlg8 hO8 hx107
              have := World.grownBy.size hx107
              refine WL.op rfl (OW.storeOA hO8 rfl rfl rfl (dE.one1 hk) Try.sizeOf57 ?_)
              intro w109 hO8 hx111
              have := World.grownBy.size hx111
              refine WL.nil ?_
              refine thn_n ?_
              refine WF.seq ?_
              refine WF.region ?_
              refine WL.va rfl rfl rfl (X.fieldAddrO (off := 0) rfl Try.underlying57 rfl rfl Try.sizeOf3) ?_
              refine WL.va rfl rfl rfl (X.loadO hO8 (Ext.refl _) rfl rfl Try.isAgg3) ?_
              refine WL.c rfl rfl rfl (X.call Try.call64 (evl_cons rfl (evl_cons rfl (evl_cons rfl evl_nil)))) (within_ok _ _ _ _) ?_
              rintro v114 w113 ⟨rfl, hx115⟩
              have := World.grownBy.size hx115
              refine WL.va rfl rfl rfl (X.not rfl) ?_
              refine WL.va rfl rfl rfl (X.moveB rfl) ?_
              refine WL.split (j := 4) rfl (fun h118 => ?_) (fun h118 => ?_)
              · have gh118 := (of_decide_eq_false (nt h118))
                have hT : ¬ (0 ≤ E[k].1.Term ∧ E[k].1.Term ≤ 1099511627776) := gh118
                refine WL.p rfl rfl rfl (congrArg some h118) ?_
                refine WL.p rfl rfl rfl (congrArg some h118) ?_
                refine WL.p rfl rfl rfl (congrArg some h118) ?_
                refine WL.p rfl rfl rfl (congrArg some h118) ?_
                refine WL.va rfl rfl rfl (X.pickT rfl h118 rfl) ?_
                refine WL.nil ?_
                refine thn_n ?_
                refine WF.cond_t rfl ?_
                refine WF.seq ?_
                refine WF.region ?_
                refine WL.va rfl rfl rfl (X.assignB rfl) ?_
                refine WL.nil ?_
                refine thn_n ?_
                refine WF.ret ?_
                refine blk_r ?_
                refine thn_r ?_
                refine thn_r ?_
                refine blk_r ?_
                refine thn_r ?_
                refine fin_r ?_
                have hmem : E[k].1 ∈ m.E := hE ▸ List.mem_map.2 ⟨_, List.getElem_mem hk, rfl⟩
                first | exact ⟨congrArg Value.bool (dec_f fun hr => hT (hr.2.2.2 _ hmem).1), (Ext.trans (Ext.trans hwL1 (Ext.store hx107 hx111 (by omega))) hx115)⟩ | exact ⟨congrArg Value.bool (dec_f fun hr => hKd (hr.2.2.2 _ hmem).2), (Ext.trans (Ext.trans hwL1 (Ext.store hx107 hx111 (by omega))) hx115)⟩
              · have gh118 := (of_decide_eq_true (nf h118))
                have hT : 0 ≤ E[k].1.Term ∧ E[k].1.Term ≤ 1099511627776 := gh118
                refine WL.vg rfl (congrArg some h118) rfl rfl (X.fieldAddrO (off := 1) rfl Try.underlying57 rfl rfl Try.sizeOf3) ?_
                refine WL.vg rfl (congrArg some h118) rfl rfl (X.loadO hO8 hx115 rfl rfl Try.isAgg3) ?_
                refine WL.cg rfl (congrArg some h118) rfl rfl (X.call Try.call64 (evl_cons rfl (evl_cons rfl (evl_cons rfl evl_nil)))) (within_ok _ _ _ _) ?_
                rintro v122 w121 ⟨rfl, hx123⟩
                have := World.grownBy.size hx123
                refine WL.vg rfl (congrArg some h118) rfl rfl (X.not rfl) ?_
                refine WL.va rfl rfl rfl (X.pickF rfl h118 rfl) ?_
                refine WL.nil ?_
                refine thn_n ?_
                refine WF.cond rfl (fun h11_125 => ?_) (fun h11_125 => ?_)
                · have gh11_125 := (of_decide_eq_false (nt h11_125))
                  have hKd : ¬ (0 ≤ E[k].1.Kind ∧ E[k].1.Kind ≤ 2) := gh11_125
                  refine WF.seq ?_
                  refine WF.region ?_
                  refine WL.va rfl rfl rfl (X.assignB rfl) ?_
                  refine WL.nil ?_
                  refine thn_n ?_
                  refine WF.ret ?_
                  refine blk_r ?_
                  refine thn_r ?_
                  refine thn_r ?_
                  refine blk_r ?_
                  refine thn_r ?_
                  refine fin_r ?_
                  have hmem : E[k].1 ∈ m.E := hE ▸ List.mem_map.2 ⟨_, List.getElem_mem hk, rfl⟩
                  first | exact ⟨congrArg Value.bool (dec_f fun hr => hT (hr.2.2.2 _ hmem).1), (Ext.trans (Ext.trans (Ext.trans hwL1 (Ext.store hx107 hx111 (by omega))) hx115) hx123)⟩ | exact ⟨congrArg Value.bool (dec_f fun hr => hKd (hr.2.2.2 _ hmem).2), (Ext.trans (Ext.trans (Ext.trans hwL1 (Ext.store hx107 hx111 (by omega))) hx115) hx123)⟩
                · have gh11_125 := (of_decide_eq_true (nf h11_125))
                  have hKd : 0 ≤ E[k].1.Kind ∧ E[k].1.Kind ≤ 2 := gh11_125
                  refine WF.skip ?_
                  refine blk_n ?_
                  refine thn_n ?_
                  refine WF.region ?_
                  refine WL.va rfl rfl rfl (X.add e50_L1 rfl (w64 (by omega))) ?_
                  refine WL.va rfl rfl rfl (X.moveI rfl) ?_
                  refine WL.nil ?_
                  exact thn_n ⟨_, (by omega), k + 1, rfl, rfl, (by repeat (first | exact hAL1 | refine Agree.put ?_ rfl | refine Agree.sub hAL0 rfl ?_ | refine Agree.named hF102 ?_ | refine Agree.named hF29 ?_)), (Ext.trans (Ext.trans (Ext.trans hwL1 (Ext.store hx107 hx111 (by omega))) hx115) hx123), ⟨by omega, fun j hj hj2 => by rcases Nat.lt_succ_iff_lt_or_eq.1 hj2 with hj2 | rfl; exact hen j hj hj2; exact ⟨hT, hKd⟩⟩⟩
            · have gh10_103 := (of_decide_eq_false h10_103)
              refine WF.exit ?_
              refine thn_x ?_
              refine thn_x ?_
              refine blk_eq ?_
              refine thn_n ?_
              refine WF.seq ?_
              refine WF.region ?_
              refine WL.va rfl rfl rfl (X.assignB rfl) ?_
              refine WL.nil ?_
              refine thn_n ?_
              refine WF.ret ?_
              refine fin_r ?_
              refine ⟨congrArg Value.bool (dec_t ⟨hF, hTo, fun q hq h11 => ?_, fun e he => ?_⟩), hwL1⟩
              · rw [List.take_of_length_le hn4] at hall; exact hall q hq h11
              · rw [← hE] at he
                obtain ⟨e2, he2, rfl⟩ := List.mem_map.1 he
                obtain ⟨j, hj, rfl⟩ := List.getElem_of_mem he2
                exact hen j hj (by omega)

set_option maxHeartbeats 4000000 in
theorem fits_ok (vE vD : Value) (m : Mg) (w : World) (h : MgAt w vE vD m) : FnOk Try.prog 36 [agg (mc m.n m.ok vE vD)] w (fun r w' => r = .bool (decide m.fitsP) ∧ Ext w w') := by
  obtain ⟨E, hE, rE, dE⟩ := h.E
  have hEl : E.length = m.E.length := by rw [← hE]; simp
  have lE := h.E.le
  have lD := Bytes.le64 h.D
  have hpl := places_len (m.g 0)
  have rE2 : Row w vE m.E.length 3 (E.flatMap EV.c) := by rw [← hEl]; exact rE
  refine FnOk.enter (rs := [2]) Try.func36 rfl Try.ntmps36 Try.results36 rfl rfl ?_
  refine WF.seq ?_
  refine WF.region ?_
  refine WL.op rfl (OW.boxA (cs := (mc m.n m.ok vE vD)) rfl ?_ (by decide))
  intro g1 w1 heg1 hlg1 hO1 hx3
  have := World.grownBy.size hx3
  refine WL.va rfl rfl rfl (X.assignB rfl) ?_
  refine WL.nil ?_
  refine thn_n ?_
  refine WF.seq ?_
  refine WF.seq ?_
  refine WF.region ?_
  refine WL.va rfl rfl rfl (X.fieldAddrO (off := 15) rfl Try.underlying25 rfl rfl Try.sizeOf22) ?_
  refine WL.va rfl rfl rfl (X.loadO hO1 (Ext.refl _) rfl rfl Try.isAgg22) ?_
  refine WL.va rfl rfl rfl (X.len rE2 rfl Try.underlying22) ?_
  refine WL.va rfl rfl rfl (X.gtr rfl rfl) ?_
  refine WL.va rfl rfl rfl (X.moveB rfl) ?_
  refine WL.split (j := 4) rfl (fun h7 => ?_) (fun h7 => ?_)
  · have gh7 := (of_decide_eq_true h7)
    refine WL.p rfl rfl rfl (congrArg some h7) ?_
    refine WL.p rfl rfl rfl (congrArg some h7) ?_
    refine WL.p rfl rfl rfl (congrArg some h7) ?_
    refine WL.p rfl rfl rfl (congrArg some h7) ?_
    refine WL.va rfl rfl rfl (X.pickT rfl h7 rfl) ?_
    refine WL.nil ?_
    refine thn_n ?_
    refine WF.cond_t rfl ?_
    refine WF.seq ?_
    refine WF.region ?_
    refine WL.va rfl rfl rfl (X.assignB rfl) ?_
    refine WL.nil ?_
    refine thn_n ?_
    refine WF.ret ?_
    refine thn_r ?_
    refine fin_r ?_
    exact ⟨congrArg Value.bool (dec_f fun hr => by have := hr.1; have := hr.2.1; omega), hx3⟩
  · have gh7 := (of_decide_eq_false h7)
    have hE1 := gh7
    refine WL.vg rfl (congrArg some h7) rfl rfl (X.fieldAddrO (off := 16) rfl Try.underlying25 rfl rfl Try.sizeOf23) ?_
    refine WL.vg rfl (congrArg some h7) rfl rfl (X.loadO hO1 (Ext.refl _) rfl rfl Try.isAgg23) ?_
    refine WL.vg rfl (congrArg some h7) rfl rfl (X.len h.D rfl Try.underlying23) ?_
    refine WL.vg rfl (congrArg some h7) rfl rfl (X.gtr rfl rfl) ?_
    refine WL.va rfl rfl rfl (X.pickF rfl h7 rfl) ?_
    refine WL.nil ?_
    refine thn_n ?_
    refine WF.cond rfl (fun h0_10 => ?_) (fun h0_10 => ?_)
    · have gh0_10 := (of_decide_eq_true h0_10)
      refine WF.seq ?_
      refine WF.region ?_
      refine WL.va rfl rfl rfl (X.assignB rfl) ?_
      refine WL.nil ?_
      refine thn_n ?_
      refine WF.ret ?_
      refine thn_r ?_
      refine fin_r ?_
      exact ⟨congrArg Value.bool (dec_f fun hr => by have := hr.1; have := hr.2.1; omega), hx3⟩
    · have gh0_10 := (of_decide_eq_false h0_10)
      refine WF.skip ?_
      refine thn_n ?_
      refine WF.seq ?_
      refine WF.drawn (.q 0 (.q 1 (.q 6 (.q 7 (.q 8 (.l 2 (.q 3 (.q 4 (.q 5 (.q 9 (.q 10 .nil))))))))))) (fun w' => Ext w1 w') 11 (by kernel_rfl) (by kernel_rfl) (Ext.drew _) ?_
      have := World.grownBy.size (Ext.drew w1)
      refine WO.q rfl rfl rfl rfl (fun w' hE13 => (X.fieldAddrO (off := 0) rfl Try.underlying25 rfl rfl Try.sizeOf3)) ?_
      refine WO.q rfl rfl rfl rfl (fun w' hE13 => (X.loadO hO1 hE13 rfl rfl Try.isAgg3)) ?_
      refine WO.q rfl rfl rfl rfl (fun w' hE13 => (X.fieldAddrO (off := 16) rfl Try.underlying25 rfl rfl Try.sizeOf23)) ?_
      refine WO.q rfl rfl rfl rfl (fun w' hE13 => (X.loadO hO1 hE13 rfl rfl Try.isAgg23)) ?_
      refine WO.q rfl rfl rfl rfl (fun w' hE13 => (X.len h.D rfl Try.underlying23)) ?_
      refine WO.l ?_
      refine LO.go rfl rfl (OW.enter rfl (by decide) (X.call Try.call33 (evl_cons rfl evl_nil)) (fields_ok (m.g 0) _) ?_)
      rintro v15 w14 ⟨rfl, hx16⟩
      have := World.grownBy.size hx16
      refine ⟨(Ext.trans (Ext.drew _) hx16), ?_⟩
      refine WO.q rfl rfl rfl rfl (fun w' hE13 => (X.lenS rfl Try.underlying9 rfl)) ?_
      refine WO.q rfl rfl rfl rfl (fun w' hE13 => (X.add rfl rfl (w64 (by rw [lets_len]; omega)))) ?_
      refine WO.q rfl rfl rfl rfl (fun w' hE13 => (X.mul rfl rfl (w64 (by rw [lets_len]; omega)))) ?_
      refine WO.q rfl rfl rfl rfl (fun w' hE13 => (X.add rfl rfl (w64 (by rw [lets_len]; omega)))) ?_
      refine WO.q rfl rfl rfl rfl (fun w' hE13 => (X.assignI rfl)) ?_
      refine WO.nil ?_
      refine WL.nil ?_
      refine thn_n ?_
      refine WF.seq ?_
      refine WF.seq ?_
      refine WF.region ?_
      refine WL.va rfl rfl rfl (X.fieldAddrO (off := 15) rfl Try.underlying25 rfl rfl Try.sizeOf22) ?_
      refine WL.va rfl rfl rfl (X.loadO hO1 (Ext.trans (Ext.drew _) hx16) rfl rfl Try.isAgg22) ?_
      refine WL.va rfl rfl rfl (X.len rE2 rfl Try.underlying22) ?_
      refine WL.va rfl rfl rfl (X.moveI rfl) ?_
      refine WL.nil ?_
      refine thn_n ?_
      refine WF.block ?_
      refine WF.named (fun F17 hF18 => ?_)
      refine WF.loopN (fun mL0 f' w' => ∃ (k : Nat), mL0 = E.length - k ∧ f' 29 = .int .i64 (k : Int) ∧ f' 3 = .int .i64 ((8 * (3 + (places (m.g 0)).length) + m.D.length + sumE (m.E.take k) : Nat) : Int) ∧ Agree [0, 1, 6, 7, 8, 9, 10, 11, 12, 13, 14, 15, 16, 17, 18, 19, 20, 21, 22, 23, 24, 25, 26, 27, 28] f' F17 ∧ Ext w w' ∧ k ≤ E.length ∧ (k = 0 ∨ 8 * (3 + (places (m.g 0)).length) + m.D.length + sumE (m.E.take k) ≤ 65536)) ?_ ?_
      · exact ⟨_, 0, rfl, (congrFun hF18 29), (Eq.trans (congrFun hF18 3) (congrArg (Value.int .i64) (by rw [lets_len, List.take_zero]; show _ = ((_ + 0 : Nat) : Int); omega))), (Agree.refl _ _), (Ext.trans (Ext.trans hx3 (Ext.drew _)) hx16), ⟨Nat.zero_le _, .inl rfl⟩⟩
      · rintro mL0 fL0 wL0 ⟨k, hmL0, e29_L0, e3_L0, hAL0, hwL0, ⟨hk0, hkt⟩⟩
        have := World.grownBy.size hwL0
        have hs0 : sumE (m.E.take 0) = 0 := rfl
        have hkt2 : 8 * (3 + (places (m.g 0)).length) + m.D.length + sumE (m.E.take k) ≤ 200000 := by
          rcases hkt with hkt | hkt
          · subst hkt; omega
          · omega
        refine WF.seq ?_
        refine WF.region ?_
        refine WL.va rfl rfl rfl (X.lss e29_L0 ((hAL0.eq 28).trans (congrFun hF18 28))) ?_
        refine WL.nil ?_
        refine thn_n ?_
        refine WF.seq ?_
        refine WF.cond rfl (fun h1_19 => ?_) (fun h1_19 => ?_)
        · have gh1_19 := (of_decide_eq_true h1_19)
          have hk : k < E.length := by omega
          have hsm := sumE_map hE hk
          refine WF.skip ?_
          refine thn_n ?_
          refine WF.seq ?_
          refine WF.block ?_
          refine WF.seq ?_
          refine WF.region ?_
          refine WL.va rfl rfl rfl (X.idx rE2 ((hAL0.eq 27).trans (congrFun hF18 27)) e29_L0 (by omega) Try.underlying22 Try.sizeOf57) ?_
          refine WL.va rfl rfl rfl (X.loadEl rE2 hwL0 rfl (by omega) (ERow.el (E := E) (k := k) hk) Try.isAgg57 Try.sizeOf57) ?_
          refine WL.op rfl (OW.allocO (cs := [i64 0, i64 0, .slice none 0 0]) Try.zeroValue57 rfl ?_ (by decide))
          intro g5 w21 heg5 hlg5 hO5 hx23
          have := World.grownBy.size hx23
          refine WL.op rfl (OW.storeOA hO5 rfl rfl rfl (dE.one1 hk) Try.sizeOf57 ?_)
          intro w25 hO5 hx27
          have := World.grownBy.size hx27
          refine WL.nil ?_
          refine thn_n ?_
          refine WF.seq ?_
          refine WF.region ?_
          refine WL.va rfl rfl rfl (X.moveI e3_L0) ?_
          refine WL.va rfl rfl rfl (X.fieldAddrO (off := 2) rfl Try.underlying57 rfl rfl Try.sizeOf23) ?_
          refine WL.va rfl rfl rfl (X.loadO hO5 (Ext.refl _) rfl rfl Try.isAgg23) ?_
          refine WL.va rfl rfl rfl (X.len (dE _ (List.getElem_mem hk)) rfl Try.underlying23) ?_
          refine WL.va rfl rfl rfl (X.min2 rfl rfl) ?_
          refine WL.va rfl rfl rfl (X.add rfl rfl (w64 (by omega))) ?_
          refine WL.va rfl rfl rfl (X.add rfl rfl (w64 (by omega))) ?_
          refine WL.va rfl rfl rfl (X.assignI rfl) ?_
          refine WL.nil ?_
          refine thn_n ?_
          refine WF.seq ?_
          refine WF.region ?_
          refine WL.va rfl rfl rfl (X.moveI rfl) ?_
          refine WL.va rfl rfl rfl (X.gtr rfl rfl) ?_
          refine WL.nil ?_
          refine thn_n ?_
          refine WF.cond rfl (fun h2_29 => ?_) (fun h2_29 => ?_)
          · have gh2_29 := (of_decide_eq_true h2_29)
            have hbig := gh2_29
            refine WF.seq ?_
            refine WF.region ?_
            refine WL.va rfl rfl rfl (X.assignB rfl) ?_
            refine WL.nil ?_
            refine thn_n ?_
            refine WF.ret ?_
            refine blk_r ?_
            refine thn_r ?_
            refine thn_r ?_
            refine blk_r ?_
            refine thn_r ?_
            refine fin_r ?_
            exact ⟨congrArg Value.bool (dec_f fun hr => by have h1 := hr.2.2; have h2 := sumE_le (l := m.E) (k + 1); omega), (Ext.trans hwL0 (Ext.store hx23 hx27 (by omega)))⟩
          · have gh2_29 := (of_decide_eq_false h2_29)
            have hsml := gh2_29
            refine WF.skip ?_
            refine blk_n ?_
            refine thn_n ?_
            refine WF.region ?_
            refine WL.va rfl rfl rfl (X.add e29_L0 rfl (w64 (by omega))) ?_
            refine WL.va rfl rfl rfl (X.moveI rfl) ?_
            refine WL.nil ?_
            exact thn_n ⟨_, (by omega), k + 1, rfl, rfl, (Eq.trans rfl (congrArg (Value.int .i64) (by omega))), (by repeat (first | exact hAL0 | refine Agree.put ?_ rfl | refine Agree.named hF18 ?_)), (Ext.trans hwL0 (Ext.store hx23 hx27 (by omega))), ⟨by omega, .inr (by omega)⟩⟩
        · have gh1_19 := (of_decide_eq_false h1_19)
          refine WF.exit ?_
          refine thn_x ?_
          refine thn_x ?_
          refine blk_eq ?_
          refine thn_n ?_
          refine WF.seq ?_
          refine WF.region ?_
          refine WL.va rfl rfl rfl (X.moveI e3_L0) ?_
          refine WL.va rfl rfl rfl (X.leq rfl rfl) ?_
          refine WL.va rfl rfl rfl (X.assignB rfl) ?_
          refine WL.nil ?_
          refine thn_n ?_
          refine WF.ret ?_
          refine fin_r ?_
          have hke : m.E.take k = m.E := List.take_of_length_le (by omega)
          refine ⟨congrArg Value.bool (dec_iff ⟨fun hg => ⟨by omega, by omega, by rw [hke] at hg; omega⟩, fun hr => by have h1 := hr.2.2; rw [hke]; omega⟩), hwL0⟩

set_option maxHeartbeats 1600000 in
theorem check_ok (vE vD : Value) (m : Mg) (w : World) (h : MgAt w vE vD m) : FnOk Try.prog 13 [agg (mc m.n m.ok vE vD)] w (fun r w' => r = i64 (chk m) ∧ Ext w w') := by
  refine FnOk.enter (rs := [2]) Try.func13 rfl Try.ntmps13 Try.results13 rfl rfl ?_
  refine WF.seq ?_
  refine WF.region ?_
  refine WL.op rfl (OW.boxA (cs := (mc m.n m.ok vE vD)) rfl ?_ (by decide))
  intro g1 w1 heg1 hlg1 hO1 hx3
  have := World.grownBy.size hx3
  refine WL.va rfl rfl rfl (X.assignI rfl) ?_
  refine WL.nil ?_
  refine thn_n ?_
  refine WF.seq ?_
  refine WF.block ?_
  refine WF.seq ?_
  refine WF.region ?_
  refine WL.va rfl rfl rfl (X.fieldAddrO (off := 0) rfl Try.underlying25 rfl rfl Try.sizeOf3) ?_
  refine WL.va rfl rfl rfl (X.loadO hO1 (Ext.refl _) rfl rfl Try.isAgg3) ?_
  refine WL.c rfl rfl rfl (X.call Try.call33 (evl_cons rfl evl_nil)) (fields_ok (m.g 0) _) ?_
  rintro v6 w5 ⟨rfl, hx7⟩
  have := World.grownBy.size hx7
  refine WL.va rfl rfl rfl (X.eqlS rfl rfl Try.underlying9) ?_
  refine WL.va rfl rfl rfl (X.assignB rfl) ?_
  refine WL.nil ?_
  refine thn_n ?_
  refine WF.cond rfl (fun h0_8 => ?_) (fun h0_8 => ?_)
  · have gh0_8 := h0_8
    have h0 : ¬ (1 ≤ m.g 0 ∧ m.g 0 ≤ 11) := (lets_nil _).1 (of_decide_eq_true gh0_8)
    refine WF.seq ?_
    refine WF.region ?_
    refine WL.va rfl rfl rfl (X.assignI rfl) ?_
    refine WL.nil ?_
    refine thn_n ?_
    refine WF.ret ?_
    refine blk_r ?_
    refine thn_r ?_
    refine fin_r ?_
    exact ⟨congrArg (Value.int .i64) (by unfold chk; rw [if_pos h0]), (Ext.trans hx3 hx7)⟩
  · have gh0_8 := h0_8
    have h0 : ¬ ¬ (1 ≤ m.g 0 ∧ m.g 0 ≤ 11) := fun q => absurd ((lets_nil _).2 q) (of_decide_eq_false gh0_8)
    refine WF.seq ?_
    refine WF.region ?_
    refine WL.va rfl rfl rfl (X.loadOA hO1 hx7 rfl rfl Try.isAgg25 Try.sizeOf25) ?_
    refine WL.c rfl rfl rfl (X.call Try.call34 (evl_cons rfl evl_nil)) (foreign_ok _ _ m _ (h.ext (Ext.trans hx3 hx7))) ?_
    rintro v11 w10 ⟨rfl, hx12⟩
    have := World.grownBy.size hx12
    refine WL.va rfl rfl rfl (X.assignB rfl) ?_
    refine WL.nil ?_
    refine thn_n ?_
    refine WF.cond rfl (fun h1_13 => ?_) (fun h1_13 => ?_)
    · have gh1_13 := (of_decide_eq_true h1_13)
      have h1 := gh1_13
      refine WF.seq ?_
      refine WF.region ?_
      refine WL.va rfl rfl rfl (X.assignI rfl) ?_
      refine WL.nil ?_
      refine thn_n ?_
      refine WF.ret ?_
      refine blk_r ?_
      refine thn_r ?_
      refine fin_r ?_
      exact ⟨congrArg (Value.int .i64) (by unfold chk; rw [if_neg h0, if_pos h1]), (Ext.trans (Ext.trans hx3 hx7) hx12)⟩
    · have gh1_13 := (of_decide_eq_false h1_13)
      have h1 := gh1_13
      refine WF.seq ?_
      refine WF.region ?_
      refine WL.va rfl rfl rfl (X.loadOA hO1 (Ext.trans hx7 hx12) rfl rfl Try.isAgg25 Try.sizeOf25) ?_
      refine WL.c rfl rfl rfl (X.call Try.call35 (evl_cons rfl evl_nil)) (ranged_ok _ _ m _ (h.ext (Ext.trans (Ext.trans hx3 hx7) hx12))) ?_
      rintro v16 w15 ⟨rfl, hx17⟩
      have := World.grownBy.size hx17
      refine WL.va rfl rfl rfl (X.not rfl) ?_
      refine WL.va rfl rfl rfl (X.assignB rfl) ?_
      refine WL.nil ?_
      refine thn_n ?_
      refine WF.cond rfl (fun h2_19 => ?_) (fun h2_19 => ?_)
      · have gh2_19 := (of_decide_eq_false (nt h2_19))
        have h2 := gh2_19
        refine WF.seq ?_
        refine WF.region ?_
        refine WL.va rfl rfl rfl (X.assignI rfl) ?_
        refine WL.nil ?_
        refine thn_n ?_
        refine WF.ret ?_
        refine blk_r ?_
        refine thn_r ?_
        refine fin_r ?_
        exact ⟨congrArg (Value.int .i64) (by unfold chk; rw [if_neg h0, if_neg h1, if_pos h2]), (Ext.trans (Ext.trans (Ext.trans hx3 hx7) hx12) hx17)⟩
      · have gh2_19 := (of_decide_eq_true (nf h2_19))
        have h2 := gh2_19
        refine WF.seq ?_
        refine WF.region ?_
        refine WL.va rfl rfl rfl (X.loadOA hO1 (Ext.trans (Ext.trans hx7 hx12) hx17) rfl rfl Try.isAgg25 Try.sizeOf25) ?_
        refine WL.c rfl rfl rfl (X.call Try.call36 (evl_cons rfl evl_nil)) (fits_ok _ _ m _ (h.ext (Ext.trans (Ext.trans (Ext.trans hx3 hx7) hx12) hx17))) ?_
        rintro v22 w21 ⟨rfl, hx23⟩
        have := World.grownBy.size hx23
        refine WL.va rfl rfl rfl (X.not rfl) ?_
        refine WL.va rfl rfl rfl (X.assignB rfl) ?_
        refine WL.nil ?_
        refine thn_n ?_
        refine WF.cond rfl (fun h3_25 => ?_) (fun h3_25 => ?_)
        · have gh3_25 := (of_decide_eq_false (nt h3_25))
          have h3 := gh3_25
          refine WF.seq ?_
          refine WF.region ?_
          refine WL.va rfl rfl rfl (X.assignI rfl) ?_
          refine WL.nil ?_
          refine thn_n ?_
          refine WF.ret ?_
          refine blk_r ?_
          refine thn_r ?_
          refine fin_r ?_
          exact ⟨congrArg (Value.int .i64) (by unfold chk; rw [if_neg h0, if_neg h1, if_neg (fun q => q h2), if_pos h3]), (Ext.trans (Ext.trans (Ext.trans (Ext.trans hx3 hx7) hx12) hx17) hx23)⟩
        · have gh3_25 := (of_decide_eq_true (nf h3_25))
          have h3 := gh3_25
          refine WF.skip ?_
          refine blk_n ?_
          refine thn_n ?_
          refine WF.seq ?_
          refine WF.region ?_
          refine WL.va rfl rfl rfl (X.assignI rfl) ?_
          refine WL.nil ?_
          refine thn_n ?_
          refine WF.ret ?_
          refine fin_r ?_
          exact ⟨congrArg (Value.int .i64) (by unfold chk; rw [if_neg h0, if_neg h1, if_neg (fun q => q h2), if_neg (fun q => q h3)]), (Ext.trans (Ext.trans (Ext.trans (Ext.trans hx3 hx7) hx12) hx17) hx23)⟩

end Go.Proofs.Ytccbpfbcaogcnaa
