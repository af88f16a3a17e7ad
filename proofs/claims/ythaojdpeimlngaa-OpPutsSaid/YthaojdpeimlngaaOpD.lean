/- The walk of the reference's Check. -/
import Derived.Test.YthaojdpeimlngaaOpC
import Derived.Test.YthaojdpeimlngaaRef
namespace Go.Proofs.Ythaojdpeimlngaa
open Go Go.RowKit Kf
set_option maxRecDepth 20000

theorem mem_fints {L : List Nat} {f : Nat} : ((f : Nat) : Int) ∈ fints L ↔ f ∈ L := by
  rw [List.mem_map]
  constructor
  · rintro ⟨g, hg, e⟩; rw [← Int.ofNat.inj e]; exact hg
  · intro h; exact ⟨f, h, rfl⟩
theorem fints_get {L : List Nat} {i : Nat} (hi : i < L.length) : (fints L).getD i 0 = ((L[i] : Nat) : Int) := by
  simp [fints, List.getD_eq_getElem?_getD, List.getElem?_eq_getElem hi]
theorem fields_some {k : Int} (h : (fields k).isSome = true) : 1 ≤ k ∧ k ≤ 11 := by rw [fields_isSome] at h; exact of_decide_eq_true h
theorem fields_none {k : Int} (h : (fields k).isSome = false) : ¬ (1 ≤ k ∧ k ≤ 11) := by rw [fields_isSome] at h; exact of_decide_eq_false h
set_option maxHeartbeats 1600000 in
theorem fields_ok (kd : Int) (w : World) : FnOk Try.prog 39 [i64 kd] w (fun r w' => (∃ v, r = .tuple #[v, .bool (fields kd).isSome] ∧ Ints w' v (fints (fieldL kd))) ∧ Ext w w') := by
  refine FnOk.enter (rs := [2, 3]) Try.func39 rfl Try.ntmps39 Try.results39 rfl rfl ?_
  refine WF.seq ?_
  refine WF.region ?_
  refine WL.va rfl rfl rfl (X.assign rfl) ?_
  refine WL.va rfl rfl rfl (X.assignB rfl) ?_
  refine WL.nil ?_
  refine thn_n ?_
  refine WF.seq ?_
  refine WF.seq ?_
  refine WF.region ?_
  refine WL.va rfl rfl rfl (X.moveI rfl) ?_
  refine WL.nil ?_
  refine thn_n ?_
  refine WF.block ?_
  refine WF.seq ?_
  refine WF.region ?_
  refine WL.va rfl rfl rfl (X.eql rfl rfl) ?_
  refine WL.va rfl rfl rfl (X.assignB rfl) ?_
  refine WL.nil ?_
  refine thn_n ?_
  refine WF.cond rfl (fun h0_2 => ?_) (fun h0_2 => ?_)
  · have gh0_2 := (of_decide_eq_true h0_2)
    have hF : fields kd = some [0, 1, 2, 6] := by rw [gh0_2]; rfl
    refine WF.seq ?_
    refine WF.region ?_
    refine WL.op rfl (OW.lits (vs := [_, _, _, _]) (evp_cons rfl (evp_cons rfl (evp_cons rfl (evp_cons rfl evp_nil)))) Try.underlying22 Try.sizeOf3 Try.zeroValue3 ⟨rfl, rfl, rfl, rfl, trivial⟩ rfl rfl rfl ?_ (by decide))
    intro v5 w4 ho7 hx6
    have oq : Ints w4 v5 (fints [0, 1, 2, 6]) := Row.of_own ho7
    refine WL.va rfl rfl rfl (X.assign rfl) ?_
    refine WL.va rfl rfl rfl (X.assignB rfl) ?_
    refine WL.nil ?_
    refine thn_n ?_
    refine WF.ret ?_
    refine blk_r ?_
    refine thn_r ?_
    refine fin_r ?_
    exact ⟨⟨_, by rw [hF]; rfl, by (unfold fieldL; rw [hF]; exact oq)⟩, hx6⟩
  · have gh0_2 := (of_decide_eq_false h0_2)
    refine WF.seq ?_
    refine WF.region ?_
    refine WL.va rfl rfl rfl (X.eql rfl rfl) ?_
    refine WL.va rfl rfl rfl (X.assignB rfl) ?_
    refine WL.nil ?_
    refine thn_n ?_
    refine WF.cond rfl (fun h1_9 => ?_) (fun h1_9 => ?_)
    · have gh1_9 := (of_decide_eq_true h1_9)
      have hF : fields kd = some [0, 1, 2, 3, 4, 5] := by rw [gh1_9]; rfl
      refine WF.seq ?_
      refine WF.region ?_
      refine WL.op rfl (OW.lits (vs := [_, _, _, _, _, _]) (evp_cons rfl (evp_cons rfl (evp_cons rfl (evp_cons rfl (evp_cons rfl (evp_cons rfl evp_nil)))))) Try.underlying22 Try.sizeOf3 Try.zeroValue3 ⟨rfl, rfl, rfl, rfl, rfl, rfl, trivial⟩ rfl rfl rfl ?_ (by decide))
      intro v12 w11 ho14 hx13
      have oq : Ints w11 v12 (fints [0, 1, 2, 3, 4, 5]) := Row.of_own ho14
      refine WL.va rfl rfl rfl (X.assign rfl) ?_
      refine WL.va rfl rfl rfl (X.assignB rfl) ?_
      refine WL.nil ?_
      refine thn_n ?_
      refine WF.ret ?_
      refine blk_r ?_
      refine thn_r ?_
      refine fin_r ?_
      exact ⟨⟨_, by rw [hF]; rfl, by (unfold fieldL; rw [hF]; exact oq)⟩, hx13⟩
    · have gh1_9 := (of_decide_eq_false h1_9)
      refine WF.seq ?_
      refine WF.region ?_
      refine WL.va rfl rfl rfl (X.eql rfl rfl) ?_
      refine WL.va rfl rfl rfl (X.assignB rfl) ?_
      refine WL.nil ?_
      refine thn_n ?_
      refine WF.cond rfl (fun h2_16 => ?_) (fun h2_16 => ?_)
      · have gh2_16 := (of_decide_eq_true h2_16)
        have hF : fields kd = some [0, 7] := by rw [gh2_16]; rfl
        refine WF.seq ?_
        refine WF.region ?_
        refine WL.op rfl (OW.lits (vs := [_, _]) (evp_cons rfl (evp_cons rfl evp_nil)) Try.underlying22 Try.sizeOf3 Try.zeroValue3 ⟨rfl, rfl, trivial⟩ rfl rfl rfl ?_ (by decide))
        intro v19 w18 ho21 hx20
        have oq : Ints w18 v19 (fints [0, 7]) := Row.of_own ho21
        refine WL.va rfl rfl rfl (X.assign rfl) ?_
        refine WL.va rfl rfl rfl (X.assignB rfl) ?_
        refine WL.nil ?_
        refine thn_n ?_
        refine WF.ret ?_
        refine blk_r ?_
        refine thn_r ?_
        refine fin_r ?_
        exact ⟨⟨_, by rw [hF]; rfl, by (unfold fieldL; rw [hF]; exact oq)⟩, hx20⟩
      · have gh2_16 := (of_decide_eq_false h2_16)
        refine WF.seq ?_
        refine WF.region ?_
        refine WL.va rfl rfl rfl (X.eql rfl rfl) ?_
        refine WL.va rfl rfl rfl (X.assignB rfl) ?_
        refine WL.nil ?_
        refine thn_n ?_
        refine WF.cond rfl (fun h3_23 => ?_) (fun h3_23 => ?_)
        · have gh3_23 := (of_decide_eq_true h3_23)
          have hF : fields kd = some [3, 2, 6] := by rw [gh3_23]; rfl
          refine WF.seq ?_
          refine WF.region ?_
          refine WL.op rfl (OW.lits (vs := [_, _, _]) (evp_cons rfl (evp_cons rfl (evp_cons rfl evp_nil))) Try.underlying22 Try.sizeOf3 Try.zeroValue3 ⟨rfl, rfl, rfl, trivial⟩ rfl rfl rfl ?_ (by decide))
          intro v26 w25 ho28 hx27
          have oq : Ints w25 v26 (fints [3, 2, 6]) := Row.of_own ho28
          refine WL.va rfl rfl rfl (X.assign rfl) ?_
          refine WL.va rfl rfl rfl (X.assignB rfl) ?_
          refine WL.nil ?_
          refine thn_n ?_
          refine WF.ret ?_
          refine blk_r ?_
          refine thn_r ?_
          refine fin_r ?_
          exact ⟨⟨_, by rw [hF]; rfl, by (unfold fieldL; rw [hF]; exact oq)⟩, hx27⟩
        · have gh3_23 := (of_decide_eq_false h3_23)
          refine WF.seq ?_
          refine WF.seq ?_
          refine WF.region ?_
          refine WL.va rfl rfl rfl (X.eql rfl rfl) ?_
          refine WL.va rfl rfl rfl (X.assignB rfl) ?_
          refine WL.nil ?_
          refine thn_n ?_
          refine WF.cond rfl (fun h4_30 => ?_) (fun h4_30 => ?_)
          · have gh4_30 := (of_decide_eq_true h4_30)
            have hF : fields kd = some [2, 4, 5] := by rw [gh4_30]; rfl
            refine WF.skip ?_
            refine thn_n ?_
            refine WF.cond_t ((rfl : _ = Value.bool _).trans (congrArg Value.bool h4_30)) ?_
            refine WF.seq ?_
            refine WF.region ?_
            refine WL.op rfl (OW.lits (vs := [_, _, _]) (evp_cons rfl (evp_cons rfl (evp_cons rfl evp_nil))) Try.underlying22 Try.sizeOf3 Try.zeroValue3 ⟨rfl, rfl, rfl, trivial⟩ rfl rfl rfl ?_ (by decide))
            intro v33 w32 ho35 hx34
            have oq : Ints w32 v33 (fints [2, 4, 5]) := Row.of_own ho35
            refine WL.va rfl rfl rfl (X.assign rfl) ?_
            refine WL.va rfl rfl rfl (X.assignB rfl) ?_
            refine WL.nil ?_
            refine thn_n ?_
            refine WF.ret ?_
            refine blk_r ?_
            refine thn_r ?_
            refine fin_r ?_
            exact ⟨⟨_, by rw [hF]; rfl, by (unfold fieldL; rw [hF]; exact oq)⟩, hx34⟩
          · have gh4_30 := (of_decide_eq_false h4_30)
            refine WF.region ?_
            refine WL.va rfl rfl rfl (X.eql rfl rfl) ?_
            refine WL.va rfl rfl rfl (X.assignB rfl) ?_
            refine WL.nil ?_
            refine thn_n ?_
            refine WF.cond rfl (fun h5_37 => ?_) (fun h5_37 => ?_)
            · have gh5_37 := (of_decide_eq_true h5_37)
              have hF : fields kd = some [2, 4, 5] := by rw [show kd = 6 from gh5_37]; rfl
              refine WF.seq ?_
              refine WF.region ?_
              refine WL.op rfl (OW.lits (vs := [_, _, _]) (evp_cons rfl (evp_cons rfl (evp_cons rfl evp_nil))) Try.underlying22 Try.sizeOf3 Try.zeroValue3 ⟨rfl, rfl, rfl, trivial⟩ rfl rfl rfl ?_ (by decide))
              intro v40 w39 ho42 hx41
              have oq : Ints w39 v40 (fints [2, 4, 5]) := Row.of_own ho42
              refine WL.va rfl rfl rfl (X.assign rfl) ?_
              refine WL.va rfl rfl rfl (X.assignB rfl) ?_
              refine WL.nil ?_
              refine thn_n ?_
              refine WF.ret ?_
              refine blk_r ?_
              refine thn_r ?_
              refine fin_r ?_
              exact ⟨⟨_, by rw [hF]; rfl, by (unfold fieldL; rw [hF]; exact oq)⟩, hx41⟩
            · have gh5_37 := (of_decide_eq_false h5_37)
              refine WF.seq ?_
              refine WF.seq ?_
              refine WF.region ?_
              refine WL.va rfl rfl rfl (X.eql rfl rfl) ?_
              refine WL.va rfl rfl rfl (X.assignB rfl) ?_
              refine WL.nil ?_
              refine thn_n ?_
              refine WF.cond rfl (fun h6_44 => ?_) (fun h6_44 => ?_)
              · have gh6_44 := (of_decide_eq_true h6_44)
                have hF : fields kd = some [2] := by rw [gh6_44]; rfl
                refine WF.skip ?_
                refine thn_n ?_
                refine WF.cond_t ((rfl : _ = Value.bool _).trans (congrArg Value.bool h6_44)) ?_
                refine WF.seq ?_
                refine WF.region ?_
                refine WL.op rfl (OW.lits (vs := [_]) (evp_cons rfl evp_nil) Try.underlying22 Try.sizeOf3 Try.zeroValue3 ⟨rfl, trivial⟩ rfl rfl rfl ?_ (by decide))
                intro v47 w46 ho49 hx48
                have oq : Ints w46 v47 (fints [2]) := Row.of_own ho49
                refine WL.va rfl rfl rfl (X.assign rfl) ?_
                refine WL.va rfl rfl rfl (X.assignB rfl) ?_
                refine WL.nil ?_
                refine thn_n ?_
                refine WF.ret ?_
                refine blk_r ?_
                refine thn_r ?_
                refine fin_r ?_
                exact ⟨⟨_, by rw [hF]; rfl, by (unfold fieldL; rw [hF]; exact oq)⟩, hx48⟩
              · have gh6_44 := (of_decide_eq_false h6_44)
                refine WF.region ?_
                refine WL.va rfl rfl rfl (X.eql rfl rfl) ?_
                refine WL.va rfl rfl rfl (X.assignB rfl) ?_
                refine WL.nil ?_
                refine thn_n ?_
                refine WF.cond rfl (fun h7_51 => ?_) (fun h7_51 => ?_)
                · have gh7_51 := (of_decide_eq_true h7_51)
                  have hF : fields kd = some [2] := by rw [show kd = 10 from gh7_51]; rfl
                  refine WF.seq ?_
                  refine WF.region ?_
                  refine WL.op rfl (OW.lits (vs := [_]) (evp_cons rfl evp_nil) Try.underlying22 Try.sizeOf3 Try.zeroValue3 ⟨rfl, trivial⟩ rfl rfl rfl ?_ (by decide))
                  intro v54 w53 ho56 hx55
                  have oq : Ints w53 v54 (fints [2]) := Row.of_own ho56
                  refine WL.va rfl rfl rfl (X.assign rfl) ?_
                  refine WL.va rfl rfl rfl (X.assignB rfl) ?_
                  refine WL.nil ?_
                  refine thn_n ?_
                  refine WF.ret ?_
                  refine blk_r ?_
                  refine thn_r ?_
                  refine fin_r ?_
                  exact ⟨⟨_, by rw [hF]; rfl, by (unfold fieldL; rw [hF]; exact oq)⟩, hx55⟩
                · have gh7_51 := (of_decide_eq_false h7_51)
                  refine WF.seq ?_
                  refine WF.region ?_
                  refine WL.va rfl rfl rfl (X.eql rfl rfl) ?_
                  refine WL.va rfl rfl rfl (X.assignB rfl) ?_
                  refine WL.nil ?_
                  refine thn_n ?_
                  refine WF.cond rfl (fun h8_58 => ?_) (fun h8_58 => ?_)
                  · have gh8_58 := (of_decide_eq_true h8_58)
                    have hF : fields kd = some [] := by rw [gh8_58]; rfl
                    have oq : Ints w (.slice none 0 0) (fints []) := Row.nil w 1
                    refine WF.seq ?_
                    refine WF.region ?_
                    refine WL.va rfl rfl rfl (X.assign rfl) ?_
                    refine WL.va rfl rfl rfl (X.assignB rfl) ?_
                    refine WL.nil ?_
                    refine thn_n ?_
                    refine WF.ret ?_
                    refine blk_r ?_
                    refine thn_r ?_
                    refine fin_r ?_
                    exact ⟨⟨_, by rw [hF]; rfl, by (unfold fieldL; rw [hF]; exact oq)⟩, (Ext.refl _)⟩
                  · have gh8_58 := (of_decide_eq_false h8_58)
                    refine WF.seq ?_
                    refine WF.region ?_
                    refine WL.va rfl rfl rfl (X.eql rfl rfl) ?_
                    refine WL.va rfl rfl rfl (X.assignB rfl) ?_
                    refine WL.nil ?_
                    refine thn_n ?_
                    refine WF.cond rfl (fun h9_61 => ?_) (fun h9_61 => ?_)
                    · have gh9_61 := (of_decide_eq_true h9_61)
                      have hF : fields kd = some [8, 9, 4, 5] := by rw [gh9_61]; rfl
                      refine WF.seq ?_
                      refine WF.region ?_
                      refine WL.op rfl (OW.lits (vs := [_, _, _, _]) (evp_cons rfl (evp_cons rfl (evp_cons rfl (evp_cons rfl evp_nil)))) Try.underlying22 Try.sizeOf3 Try.zeroValue3 ⟨rfl, rfl, rfl, rfl, trivial⟩ rfl rfl rfl ?_ (by decide))
                      intro v65 w63 ho67 hx66
                      have oq : Ints w63 v65 (fints [8, 9, 4, 5]) := Row.of_own ho67
                      refine WL.va rfl rfl rfl (X.assign rfl) ?_
                      refine WL.va rfl rfl rfl (X.assignB rfl) ?_
                      refine WL.nil ?_
                      refine thn_n ?_
                      refine WF.ret ?_
                      refine blk_r ?_
                      refine thn_r ?_
                      refine fin_r ?_
                      exact ⟨⟨_, by rw [hF]; rfl, by (unfold fieldL; rw [hF]; exact oq)⟩, hx66⟩
                    · have gh9_61 := (of_decide_eq_false h9_61)
                      refine WF.seq ?_
                      refine WF.region ?_
                      refine WL.va rfl rfl rfl (X.eql rfl rfl) ?_
                      refine WL.va rfl rfl rfl (X.assignB rfl) ?_
                      refine WL.nil ?_
                      refine thn_n ?_
                      refine WF.cond rfl (fun h10_69 => ?_) (fun h10_69 => ?_)
                      · have gh10_69 := (of_decide_eq_true h10_69)
                        have hF : fields kd = some [9, 7] := by rw [gh10_69]; rfl
                        refine WF.seq ?_
                        refine WF.region ?_
                        refine WL.op rfl (OW.lits (vs := [_, _]) (evp_cons rfl (evp_cons rfl evp_nil)) Try.underlying22 Try.sizeOf3 Try.zeroValue3 ⟨rfl, rfl, trivial⟩ rfl rfl rfl ?_ (by decide))
                        intro v72 w71 ho74 hx73
                        have oq : Ints w71 v72 (fints [9, 7]) := Row.of_own ho74
                        refine WL.va rfl rfl rfl (X.assign rfl) ?_
                        refine WL.va rfl rfl rfl (X.assignB rfl) ?_
                        refine WL.nil ?_
                        refine thn_n ?_
                        refine WF.ret ?_
                        refine blk_r ?_
                        refine thn_r ?_
                        refine fin_r ?_
                        exact ⟨⟨_, by rw [hF]; rfl, by (unfold fieldL; rw [hF]; exact oq)⟩, hx73⟩
                      · have gh10_69 := (of_decide_eq_false h10_69)
                        have hF : fields kd = none := by
                          have hq := fields_isSome kd
                          rw [decide_eq_false (by omega)] at hq
                          cases hz : fields kd with
                          | none => rfl
                          | some L => rw [hz] at hq; cases hq
                        have oq : Ints w (.slice none 0 0) (fints []) := Row.nil w 1
                        refine WF.skip ?_
                        refine blk_n ?_
                        refine thn_n ?_
                        refine WF.seq ?_
                        refine WF.region ?_
                        refine WL.va rfl rfl rfl (X.assign rfl) ?_
                        refine WL.va rfl rfl rfl (X.assignB rfl) ?_
                        refine WL.nil ?_
                        refine thn_n ?_
                        refine WF.ret ?_
                        refine fin_r ?_
                        exact ⟨⟨_, by rw [hF]; rfl, by (unfold fieldL; rw [hF]; exact oq)⟩, (Ext.refl _)⟩

theorem row_ok (vP vR vW vD : Value) (o : Od) (w : World) (h : OpAt w vP vR vW vD o) (hm : o.small) : FnOk Try.prog 40 [agg (oc o.n vP vR vW vD)] w (fun r w' => Ints w' r (rowL o.n) ∧ Ext w w') := by
  refine FnOk.enter (rs := [2]) Try.func40 rfl Try.ntmps40 Try.results40 rfl rfl ?_
  refine WF.seq ?_
  refine WF.region ?_
  refine WL.op rfl (OW.boxA (cs := (oc o.n vP vR vW vD)) rfl ?_ (by decide))
  intro g1 w1 heg1 hlg1 hO1 hx3
  have := World.grownBy.size hx3
  refine WL.va rfl rfl rfl (X.assign rfl) ?_
  refine WL.nil ?_
  refine thn_n ?_
  refine WF.seq ?_
  refine WF.region ?_
  refine WL.va rfl rfl rfl (X.fieldAddrO (off := 3) rfl Try.underlying26 rfl rfl Try.sizeOf3) ?_
  refine WL.va rfl rfl rfl (X.loadO hO1 (Ext.refl _) rfl rfl Try.isAgg3) ?_
  refine WL.va rfl rfl rfl (X.fieldAddrO (off := 4) rfl Try.underlying26 rfl rfl Try.sizeOf3) ?_
  refine WL.va rfl rfl rfl (X.loadO hO1 (Ext.refl _) rfl rfl Try.isAgg3) ?_
  refine WL.va rfl rfl rfl (X.fieldAddrO (off := 5) rfl Try.underlying26 rfl rfl Try.sizeOf3) ?_
  refine WL.va rfl rfl rfl (X.loadO hO1 (Ext.refl _) rfl rfl Try.isAgg3) ?_
  refine WL.va rfl rfl rfl (X.fieldAddrO (off := 9) rfl Try.underlying26 rfl rfl Try.sizeOf3) ?_
  refine WL.va rfl rfl rfl (X.loadO hO1 (Ext.refl _) rfl rfl Try.isAgg3) ?_
  refine WL.va rfl rfl rfl (X.fieldAddrO (off := 6) rfl Try.underlying26 rfl rfl Try.sizeOf3) ?_
  refine WL.va rfl rfl rfl (X.loadO hO1 (Ext.refl _) rfl rfl Try.isAgg3) ?_
  refine WL.va rfl rfl rfl (X.fieldAddrO (off := 7) rfl Try.underlying26 rfl rfl Try.sizeOf3) ?_
  refine WL.va rfl rfl rfl (X.loadO hO1 (Ext.refl _) rfl rfl Try.isAgg3) ?_
  refine WL.va rfl rfl rfl (X.fieldAddrO (off := 8) rfl Try.underlying26 rfl rfl Try.sizeOf3) ?_
  refine WL.va rfl rfl rfl (X.loadO hO1 (Ext.refl _) rfl rfl Try.isAgg3) ?_
  refine WL.va rfl rfl rfl (X.fieldAddrO (off := 10) rfl Try.underlying26 rfl rfl Try.sizeOf3) ?_
  refine WL.va rfl rfl rfl (X.loadO hO1 (Ext.refl _) rfl rfl Try.isAgg3) ?_
  refine WL.va rfl rfl rfl (X.fieldAddrO (off := 11) rfl Try.underlying26 rfl rfl Try.sizeOf3) ?_
  refine WL.va rfl rfl rfl (X.loadO hO1 (Ext.refl _) rfl rfl Try.isAgg3) ?_
  refine WL.va rfl rfl rfl (X.fieldAddrO (off := 12) rfl Try.underlying26 rfl rfl Try.sizeOf3) ?_
  refine WL.va rfl rfl rfl (X.loadO hO1 (Ext.refl _) rfl rfl Try.isAgg3) ?_
  refine WL.op rfl (OW.lits (vs := [i64 (o.n.getD 3 0), i64 (o.n.getD 4 0), i64 (o.n.getD 5 0), i64 (o.n.getD 9 0), i64 (o.n.getD 6 0), i64 (o.n.getD 7 0), i64 (o.n.getD 8 0), i64 (o.n.getD 10 0), i64 (o.n.getD 11 0), i64 (o.n.getD 12 0)]) (evp_cons rfl (evp_cons rfl (evp_cons rfl (evp_cons rfl (evp_cons rfl (evp_cons rfl (evp_cons rfl (evp_cons rfl (evp_cons rfl (evp_cons rfl evp_nil)))))))))) Try.underlying22 Try.sizeOf3 Try.zeroValue3 ⟨rfl, rfl, rfl, rfl, rfl, rfl, rfl, rfl, rfl, rfl, trivial⟩ rfl rfl rfl ?_ (by decide))
  intro v6 w5 ho8 hx7
  have := World.grownBy.size hx7
  have oq : Ints w5 v6 (rowL o.n) := Row.of_own ho8
  refine WL.va rfl rfl rfl (X.assign rfl) ?_
  refine WL.nil ?_
  refine thn_n ?_
  refine WF.ret ?_
  refine fin_r ?_
  exact ⟨oq, (Ext.trans hx3 hx7)⟩

theorem has_ok (v : Value) (l : List Int) (n : Int) (w : World) (hb : Ints w v l) (hm : l.length ≤ 1000000) : FnOk Try.prog 51 [v, i64 n] w (fun r w' => r = .bool (decide (n ∈ l)) ∧ Ext w w') := by
  refine FnOk.enter (rs := [4]) Try.func51 rfl Try.ntmps51 Try.results51 rfl rfl ?_
  refine WF.seq ?_
  refine WF.region ?_
  refine WL.va rfl rfl rfl (X.assignB rfl) ?_
  refine WL.nil ?_
  refine thn_n ?_
  refine WF.seq ?_
  refine WF.seq ?_
  refine WF.region ?_
  refine WL.va rfl rfl rfl (X.assignI rfl) ?_
  refine WL.nil ?_
  refine thn_n ?_
  refine WF.block ?_
  refine WF.named (fun F2 hF3 => ?_)
  refine WF.loopN (fun mL0 f' w' => ∃ (k : Nat), mL0 = l.length - k ∧ f' 5 = .int .i64 (k : Int) ∧ Agree [0, 1] f' F2 ∧ Ext w w' ∧ k ≤ l.length ∧ ∀ j, j < k → l.getD j 0 ≠ n) ?_ ?_
  · exact ⟨_, 0, rfl, (congrFun hF3 5), (Agree.refl _ _), (Ext.refl _), ⟨Nat.zero_le _, fun j hj => by omega⟩⟩
  · rintro mL0 fL0 wL0 ⟨k, hmL0, e5_L0, hAL0, hwL0, ⟨hk, hno⟩⟩
    refine WF.seq ?_
    refine WF.seq ?_
    refine WF.region ?_
    refine WL.va rfl rfl rfl (X.moveI e5_L0) ?_
    refine WL.va rfl rfl rfl (X.move ((hAL0.eq 0).trans (congrFun hF3 0))) ?_
    refine WL.va rfl rfl rfl (X.len hb rfl Try.underlying22) ?_
    refine WL.va rfl rfl rfl (X.lss rfl rfl) ?_
    refine WL.nil ?_
    refine thn_n ?_
    refine WF.cond rfl (fun h0_4 => ?_) (fun h0_4 => ?_)
    · have gh0_4 := (of_decide_eq_true h0_4)
      refine WF.skip ?_
      refine thn_n ?_
      refine WF.seq ?_
      refine WF.block ?_
      refine WF.seq ?_
      refine WF.region ?_
      refine WL.va rfl rfl rfl (X.move ((hAL0.eq 0).trans (congrFun hF3 0))) ?_
      refine WL.va rfl rfl rfl (X.moveI e5_L0) ?_
      refine WL.va rfl rfl rfl (X.idx hb rfl rfl (by omega) Try.underlying22 Try.sizeOf3) ?_
      refine WL.va rfl rfl rfl (X.loadI hb hwL0 rfl (by omega) Try.isAgg3) ?_
      refine WL.va rfl rfl rfl (X.moveI ((hAL0.eq 1).trans (congrFun hF3 1))) ?_
      refine WL.va rfl rfl rfl (X.eql rfl rfl) ?_
      refine WL.nil ?_
      refine thn_n ?_
      refine WF.cond rfl (fun h1_6 => ?_) (fun h1_6 => ?_)
      · have gh1_6 := (of_decide_eq_true h1_6)
        have hq : l.getD k 0 = n := gh1_6
        refine WF.seq ?_
        refine WF.region ?_
        refine WL.va rfl rfl rfl (X.assignB rfl) ?_
        refine WL.nil ?_
        refine thn_n ?_
        refine WF.ret ?_
        refine blk_r ?_
        refine thn_r ?_
        refine thn_r ?_
        refine blk_r ?_
        refine thn_r ?_
        refine fin_r ?_
        exact ⟨congrArg Value.bool (dec_t (hq ▸ getD_mem (by omega))), hwL0⟩
      · have gh1_6 := (of_decide_eq_false h1_6)
        refine WF.skip ?_
        refine blk_n ?_
        refine thn_n ?_
        refine WF.region ?_
        refine WL.va rfl rfl rfl (X.moveI e5_L0) ?_
        refine WL.va rfl rfl rfl (X.add rfl rfl (w64 (by omega))) ?_
        refine WL.va rfl rfl rfl (X.assignI rfl) ?_
        refine WL.nil ?_
        exact thn_n ⟨_, (by omega), k + 1, rfl, rfl, (by repeat (first | exact hAL0 | refine Agree.put ?_ rfl | refine Agree.named hF3 ?_)), hwL0, ⟨by omega, fun j hj => by rcases Nat.lt_succ_iff_lt_or_eq.1 hj with h | rfl; exact hno j h; assumption⟩⟩
    · have gh0_4 := (of_decide_eq_false h0_4)
      refine WF.exit ?_
      refine thn_x ?_
      refine thn_x ?_
      refine blk_eq ?_
      refine thn_n ?_
      refine WF.seq ?_
      refine WF.region ?_
      refine WL.va rfl rfl rfl (X.assignB rfl) ?_
      refine WL.nil ?_
      refine thn_n ?_
      refine WF.ret ?_
      refine fin_r ?_
      exact ⟨congrArg Value.bool (dec_f fun q => by obtain ⟨j, hj, e⟩ := mem_getD q; exact hno j (by omega) e), hwL0⟩

set_option maxHeartbeats 4000000 in
theorem placedR_ok (vP vR vW vD : Value) (o : Od) (f : Nat) (hf : f < 10) (w : World) (h : OpAt w vP vR vW vD o) (hm : o.small) : FnOk Try.prog 53 [agg (oc o.n vP vR vW vD), i64 (f : Int)] w (fun r w' => r = .bool (decide (plR o f)) ∧ Ext w w') := by
  refine FnOk.enter (rs := [4]) Try.func53 rfl Try.ntmps53 Try.results53 rfl rfl ?_
  refine WF.seq ?_
  refine WF.region ?_
  refine WL.op rfl (OW.boxA (cs := (oc o.n vP vR vW vD)) rfl ?_ (by decide))
  intro g2 w1 heg2 hlg2 hO2 hx3
  have := World.grownBy.size hx3
  refine WL.va rfl rfl rfl (X.assignB rfl) ?_
  refine WL.nil ?_
  refine thn_n ?_
  refine WF.seq ?_
  refine WF.region ?_
  refine WL.va rfl rfl rfl (X.loadOA hO2 (Ext.refl _) rfl rfl Try.isAgg26 Try.sizeOf26) ?_
  refine WL.c rfl rfl rfl (X.call Try.call40 (evl_cons rfl evl_nil)) (row_ok vP vR vW vD o _ (h.ext hx3) hm) ?_
  rintro v7 w6 ⟨orow, hx8⟩
  have := World.grownBy.size hx8
  refine WL.va rfl rfl rfl (X.moveI rfl) ?_
  refine WL.va rfl rfl rfl (X.idx orow rfl rfl (by omega) Try.underlying22 Try.sizeOf3) ?_
  refine WL.va rfl rfl rfl (X.loadI orow (Ext.refl _) rfl (by omega) Try.isAgg3) ?_
  refine WL.va rfl rfl rfl (X.assignI rfl) ?_
  refine WL.nil ?_
  refine thn_n ?_
  refine WF.seq ?_
  refine WF.seq ?_
  refine WF.region ?_
  refine WL.va rfl rfl rfl (X.moveI rfl) ?_
  refine WL.nil ?_
  refine thn_n ?_
  refine WF.block ?_
  refine WF.seq ?_
  refine WF.region ?_
  refine WL.va rfl rfl rfl (X.eql rfl rfl) ?_
  refine WL.va rfl rfl rfl (X.assignB rfl) ?_
  refine WL.nil ?_
  refine thn_n ?_
  refine WF.cond rfl (fun h0_9 => ?_) (fun h0_9 => ?_)
  · have gh0_9 := (of_decide_eq_true h0_9)
    obtain rfl : f = 0 := by omega
    refine WF.seq ?_
    refine WF.region ?_
    refine WL.va rfl rfl rfl (X.moveI rfl) ?_
    refine WL.c rfl rfl rfl (X.call Try.call52 (evl_cons rfl (evl_cons rfl (evl_cons rfl evl_nil)))) (between_ok _ _ _ _) ?_
    rintro v12 w11 ⟨rfl, hx13⟩
    have := World.grownBy.size hx13
    refine WL.va rfl rfl rfl (X.assignB rfl) ?_
    refine WL.nil ?_
    refine thn_n ?_
    refine WF.ret ?_
    refine blk_r ?_
    refine thn_r ?_
    refine fin_r ?_
    refine ⟨congrArg Value.bool ?_, (Ext.trans (Ext.trans hx3 hx8) hx13)⟩
    simp only [rowL, List.getD_cons_zero, List.getD_cons_succ] at *
    first | (refine dec_iff ?_; simp +decide only [plR, false_implies, true_implies, true_and, and_true] <;> omega) | (refine dec_f ?_; simp +decide only [plR, false_implies, true_implies, true_and, and_true] <;> omega) | (refine dec_t ?_; simp +decide only [plR, false_implies, true_implies, true_and, and_true] <;> omega)
  · have gh0_9 := (of_decide_eq_false h0_9)
    refine WF.seq ?_
    refine WF.region ?_
    refine WL.va rfl rfl rfl (X.eql rfl rfl) ?_
    refine WL.va rfl rfl rfl (X.assignB rfl) ?_
    refine WL.nil ?_
    refine thn_n ?_
    refine WF.cond rfl (fun h1_15 => ?_) (fun h1_15 => ?_)
    · have gh1_15 := (of_decide_eq_true h1_15)
      obtain rfl : f = 3 := by omega
      refine WF.seq ?_
      refine WF.region ?_
      refine WL.va rfl rfl rfl (X.moveI rfl) ?_
      refine WL.c rfl rfl rfl (X.call Try.call52 (evl_cons rfl (evl_cons rfl (evl_cons rfl evl_nil)))) (between_ok _ _ _ _) ?_
      rintro v18 w17 ⟨rfl, hx19⟩
      have := World.grownBy.size hx19
      refine WL.va rfl rfl rfl (X.moveB rfl) ?_
      refine WL.split (j := 2) rfl (fun h21 => ?_) (fun h21 => ?_)
      · have gh21 := (of_decide_eq_true h21)
        refine WL.p rfl rfl rfl (congrArg some h21) ?_
        refine WL.p rfl rfl rfl (congrArg some h21) ?_
        refine WL.p rfl rfl rfl (congrArg some h21) ?_
        refine WL.p rfl rfl rfl (congrArg some h21) ?_
        refine WL.pn rfl rfl rfl rfl ?_
        refine WL.pn rfl rfl rfl rfl ?_
        refine WL.p rfl rfl rfl (congrArg some h21) ?_
        refine WL.va rfl rfl rfl (X.pickT rfl h21 rfl) ?_
        refine WL.va rfl rfl rfl (X.assignB rfl) ?_
        refine WL.nil ?_
        refine thn_n ?_
        refine WF.ret ?_
        refine blk_r ?_
        refine thn_r ?_
        refine fin_r ?_
        refine ⟨congrArg Value.bool ?_, (Ext.trans (Ext.trans hx3 hx8) hx19)⟩
        simp only [rowL, List.getD_cons_zero, List.getD_cons_succ] at *
        first | (refine dec_iff ?_; simp +decide only [plR, false_implies, true_implies, true_and, and_true] <;> omega) | (refine dec_f ?_; simp +decide only [plR, false_implies, true_implies, true_and, and_true] <;> omega) | (refine dec_t ?_; simp +decide only [plR, false_implies, true_implies, true_and, and_true] <;> omega)
      · have gh21 := (of_decide_eq_false h21)
        refine WL.vg rfl (congrArg some h21) rfl rfl (X.fieldAddrO (off := 0) rfl Try.underlying26 rfl rfl Try.sizeOf3) ?_
        refine WL.vg rfl (congrArg some h21) rfl rfl (X.loadO hO2 (Ext.trans hx8 hx19) rfl rfl Try.isAgg3) ?_
        refine WL.vg rfl (congrArg some h21) rfl rfl (X.eql rfl rfl) ?_
        refine WL.vg rfl (congrArg some h21) rfl rfl (X.moveB rfl) ?_
        refine WL.split (j := 6) rfl (fun h24 => ?_) (fun h24 => ?_)
        · have gh24 := (of_decide_eq_true h24)
          refine WL.vg rfl (congrArg some h24) rfl rfl (X.moveI rfl) ?_
          refine WL.vg rfl (congrArg some h24) rfl rfl (X.eql rfl rfl) ?_
          refine WL.vg rfl (congrArg some h21) rfl rfl (X.pickT rfl h24 rfl) ?_
          refine WL.va rfl rfl rfl (X.pickF rfl h21 rfl) ?_
          refine WL.va rfl rfl rfl (X.assignB rfl) ?_
          refine WL.nil ?_
          refine thn_n ?_
          refine WF.ret ?_
          refine blk_r ?_
          refine thn_r ?_
          refine fin_r ?_
          refine ⟨congrArg Value.bool ?_, (Ext.trans (Ext.trans hx3 hx8) hx19)⟩
          simp only [rowL, List.getD_cons_zero, List.getD_cons_succ] at *
          first | (refine dec_iff ?_; simp +decide only [plR, false_implies, true_implies, true_and, and_true] <;> omega) | (refine dec_f ?_; simp +decide only [plR, false_implies, true_implies, true_and, and_true] <;> omega) | (refine dec_t ?_; simp +decide only [plR, false_implies, true_implies, true_and, and_true] <;> omega)
        · have gh24 := (of_decide_eq_false h24)
          refine WL.p rfl rfl rfl (congrArg some h24) ?_
          refine WL.p rfl rfl rfl (congrArg some h24) ?_
          refine WL.vg rfl (congrArg some h21) rfl rfl (X.pickF rfl h24 rfl) ?_
          refine WL.va rfl rfl rfl (X.pickF rfl h21 rfl) ?_
          refine WL.va rfl rfl rfl (X.assignB rfl) ?_
          refine WL.nil ?_
          refine thn_n ?_
          refine WF.ret ?_
          refine blk_r ?_
          refine thn_r ?_
          refine fin_r ?_
          refine ⟨congrArg Value.bool ?_, (Ext.trans (Ext.trans hx3 hx8) hx19)⟩
          simp only [rowL, List.getD_cons_zero, List.getD_cons_succ] at *
          first | (refine dec_iff ?_; simp +decide only [plR, false_implies, true_implies, true_and, and_true] <;> omega) | (refine dec_f ?_; simp +decide only [plR, false_implies, true_implies, true_and, and_true] <;> omega) | (refine dec_t ?_; simp +decide only [plR, false_implies, true_implies, true_and, and_true] <;> omega)
    · have gh1_15 := (of_decide_eq_false h1_15)
      refine WF.seq ?_
      refine WF.seq ?_
      refine WF.region ?_
      refine WL.va rfl rfl rfl (X.eql rfl rfl) ?_
      refine WL.va rfl rfl rfl (X.assignB rfl) ?_
      refine WL.nil ?_
      refine thn_n ?_
      refine WF.cond rfl (fun h2_27 => ?_) (fun h2_27 => ?_)
      · have gh2_27 := (of_decide_eq_true h2_27)
        obtain rfl : f = 4 := by omega
        refine WF.skip ?_
        refine thn_n ?_
        refine WF.cond_t ((rfl : _ = Value.bool _).trans (congrArg Value.bool h2_27)) ?_
        refine WF.seq ?_
        refine WF.seq ?_
        refine WF.region ?_
        refine WL.va rfl rfl rfl (X.fieldAddrO (off := 0) rfl Try.underlying26 rfl rfl Try.sizeOf3) ?_
        refine WL.va rfl rfl rfl (X.loadO hO2 hx8 rfl rfl Try.isAgg3) ?_
        refine WL.va rfl rfl rfl (X.eql rfl rfl) ?_
        refine WL.va rfl rfl rfl (X.moveB rfl) ?_
        refine WL.split (j := 3) rfl (fun h30 => ?_) (fun h30 => ?_)
        · have gh30 := (of_decide_eq_true h30)
          refine WL.vg rfl (congrArg some h30) rfl rfl (X.fieldAddrO (off := 9) rfl Try.underlying26 rfl rfl Try.sizeOf3) ?_
          refine WL.vg rfl (congrArg some h30) rfl rfl (X.loadO hO2 hx8 rfl rfl Try.isAgg3) ?_
          refine WL.vg rfl (congrArg some h30) rfl rfl (X.eql rfl rfl) ?_
          refine WL.va rfl rfl rfl (X.pickT rfl h30 rfl) ?_
          refine WL.nil ?_
          refine thn_n ?_
          refine WF.cond rfl (fun h4_31 => ?_) (fun h4_31 => ?_)
          · have gh4_31 := (of_decide_eq_true h4_31)
            refine WF.seq ?_
            refine WF.region ?_
            refine WL.va rfl rfl rfl (X.moveI rfl) ?_
            refine WL.va rfl rfl rfl (X.eql rfl rfl) ?_
            refine WL.va rfl rfl rfl (X.assignB rfl) ?_
            refine WL.nil ?_
            refine thn_n ?_
            refine WF.ret ?_
            refine thn_r ?_
            refine blk_r ?_
            refine thn_r ?_
            refine fin_r ?_
            refine ⟨congrArg Value.bool ?_, (Ext.trans hx3 hx8)⟩
            simp only [rowL, List.getD_cons_zero, List.getD_cons_succ] at *
            first | (refine dec_iff ?_; simp +decide only [plR, false_implies, true_implies, true_and, and_true] <;> omega) | (refine dec_f ?_; simp +decide only [plR, false_implies, true_implies, true_and, and_true] <;> omega) | (refine dec_t ?_; simp +decide only [plR, false_implies, true_implies, true_and, and_true] <;> omega)
          · have gh4_31 := (of_decide_eq_false h4_31)
            refine WF.skip ?_
            refine thn_n ?_
            refine WF.seq ?_
            refine WF.region ?_
            refine WL.va rfl rfl rfl (X.fieldAddrO (off := 6) rfl Try.underlying26 rfl rfl Try.sizeOf3) ?_
            refine WL.va rfl rfl rfl (X.loadO hO2 hx8 rfl rfl Try.isAgg3) ?_
            refine WL.c rfl rfl rfl (X.call Try.call52 (evl_cons rfl (evl_cons rfl (evl_cons rfl evl_nil)))) (between_ok _ _ _ _) ?_
            rintro v35 w34 ⟨rfl, hx36⟩
            have := World.grownBy.size hx36
            refine WL.va rfl rfl rfl (X.moveB rfl) ?_
            refine WL.split (j := 3) rfl (fun h38 => ?_) (fun h38 => ?_)
            · have gh38 := (of_decide_eq_true h38)
              refine WL.vg rfl (congrArg some h38) rfl rfl (X.fieldAddrO (off := 7) rfl Try.underlying26 rfl rfl Try.sizeOf3) ?_
              refine WL.vg rfl (congrArg some h38) rfl rfl (X.loadO hO2 (Ext.trans hx8 hx36) rfl rfl Try.isAgg3) ?_
              refine WL.vg rfl (congrArg some h38) rfl rfl (X.fieldAddrO (off := 6) rfl Try.underlying26 rfl rfl Try.sizeOf3) ?_
              refine WL.vg rfl (congrArg some h38) rfl rfl (X.loadO hO2 (Ext.trans hx8 hx36) rfl rfl Try.isAgg3) ?_
              refine WL.vg rfl (congrArg some h38) rfl rfl (X.gtr rfl rfl) ?_
              refine WL.va rfl rfl rfl (X.pickT rfl h38 rfl) ?_
              refine WL.va rfl rfl rfl (X.moveB rfl) ?_
              refine WL.split (j := 10) rfl (fun h40 => ?_) (fun h40 => ?_)
              · have gh40 := (of_decide_eq_true h40)
                refine WL.vg rfl (congrArg some h40) rfl rfl (X.fieldAddrO (off := 7) rfl Try.underlying26 rfl rfl Try.sizeOf3) ?_
                refine WL.vg rfl (congrArg some h40) rfl rfl (X.loadO hO2 (Ext.trans hx8 hx36) rfl rfl Try.isAgg3) ?_
                refine WL.vg rfl (congrArg some h40) rfl rfl (X.leq rfl rfl) ?_
                refine WL.va rfl rfl rfl (X.pickT rfl h40 rfl) ?_
                refine WL.va rfl rfl rfl (X.assignB rfl) ?_
                refine WL.nil ?_
                refine thn_n ?_
                refine WF.ret ?_
                refine blk_r ?_
                refine thn_r ?_
                refine fin_r ?_
                refine ⟨congrArg Value.bool ?_, (Ext.trans (Ext.trans hx3 hx8) hx36)⟩
                simp only [rowL, List.getD_cons_zero, List.getD_cons_succ] at *
                first | (refine dec_iff ?_; simp +decide only [plR, false_implies, true_implies, true_and, and_true] <;> omega) | (refine dec_f ?_; simp +decide only [plR, false_implies, true_implies, true_and, and_true] <;> omega) | (refine dec_t ?_; simp +decide only [plR, false_implies, true_implies, true_and, and_true] <;> omega)
              · have gh40 := (of_decide_eq_false h40)
                refine WL.p rfl rfl rfl (congrArg some h40) ?_
                refine WL.p rfl rfl rfl (congrArg some h40) ?_
                refine WL.p rfl rfl rfl (congrArg some h40) ?_
                refine WL.va rfl rfl rfl (X.pickF rfl h40 rfl) ?_
                refine WL.va rfl rfl rfl (X.assignB rfl) ?_
                refine WL.nil ?_
                refine thn_n ?_
                refine WF.ret ?_
                refine blk_r ?_
                refine thn_r ?_
                refine fin_r ?_
                refine ⟨congrArg Value.bool ?_, (Ext.trans (Ext.trans hx3 hx8) hx36)⟩
                simp only [rowL, List.getD_cons_zero, List.getD_cons_succ] at *
                first | (refine dec_iff ?_; simp +decide only [plR, false_implies, true_implies, true_and, and_true] <;> omega) | (refine dec_f ?_; simp +decide only [plR, false_implies, true_implies, true_and, and_true] <;> omega) | (refine dec_t ?_; simp +decide only [plR, false_implies, true_implies, true_and, and_true] <;> omega)
            · have gh38 := (of_decide_eq_false h38)
              refine WL.p rfl rfl rfl (congrArg some h38) ?_
              refine WL.p rfl rfl rfl (congrArg some h38) ?_
              refine WL.p rfl rfl rfl (congrArg some h38) ?_
              refine WL.p rfl rfl rfl (congrArg some h38) ?_
              refine WL.p rfl rfl rfl (congrArg some h38) ?_
              refine WL.va rfl rfl rfl (X.pickF rfl h38 rfl) ?_
              refine WL.va rfl rfl rfl (X.moveB rfl) ?_
              refine WL.p rfl rfl rfl rfl ?_
              refine WL.p rfl rfl rfl rfl ?_
              refine WL.p rfl rfl rfl rfl ?_
              refine WL.va rfl rfl rfl (X.pickF rfl rfl rfl) ?_
              refine WL.va rfl rfl rfl (X.assignB rfl) ?_
              refine WL.nil ?_
              refine thn_n ?_
              refine WF.ret ?_
              refine blk_r ?_
              refine thn_r ?_
              refine fin_r ?_
              refine ⟨congrArg Value.bool ?_, (Ext.trans (Ext.trans hx3 hx8) hx36)⟩
              simp only [rowL, List.getD_cons_zero, List.getD_cons_succ] at *
              first | (refine dec_iff ?_; simp +decide only [plR, false_implies, true_implies, true_and, and_true] <;> omega) | (refine dec_f ?_; simp +decide only [plR, false_implies, true_implies, true_and, and_true] <;> omega) | (refine dec_t ?_; simp +decide only [plR, false_implies, true_implies, true_and, and_true] <;> omega)
        · have gh30 := (of_decide_eq_false h30)
          refine WL.p rfl rfl rfl (congrArg some h30) ?_
          refine WL.p rfl rfl rfl (congrArg some h30) ?_
          refine WL.p rfl rfl rfl (congrArg some h30) ?_
          refine WL.va rfl rfl rfl (X.pickF rfl h30 rfl) ?_
          refine WL.nil ?_
          refine thn_n ?_
          refine WF.cond_f rfl ?_
          refine WF.skip ?_
          refine thn_n ?_
          refine WF.seq ?_
          refine WF.region ?_
          refine WL.va rfl rfl rfl (X.fieldAddrO (off := 6) rfl Try.underlying26 rfl rfl Try.sizeOf3) ?_
          refine WL.va rfl rfl rfl (X.loadO hO2 hx8 rfl rfl Try.isAgg3) ?_
          refine WL.c rfl rfl rfl (X.call Try.call52 (evl_cons rfl (evl_cons rfl (evl_cons rfl evl_nil)))) (between_ok _ _ _ _) ?_
          rintro v47 w46 ⟨rfl, hx48⟩
          have := World.grownBy.size hx48
          refine WL.va rfl rfl rfl (X.moveB rfl) ?_
          refine WL.split (j := 3) rfl (fun h50 => ?_) (fun h50 => ?_)
          · have gh50 := (of_decide_eq_true h50)
            refine WL.vg rfl (congrArg some h50) rfl rfl (X.fieldAddrO (off := 7) rfl Try.underlying26 rfl rfl Try.sizeOf3) ?_
            refine WL.vg rfl (congrArg some h50) rfl rfl (X.loadO hO2 (Ext.trans hx8 hx48) rfl rfl Try.isAgg3) ?_
            refine WL.vg rfl (congrArg some h50) rfl rfl (X.fieldAddrO (off := 6) rfl Try.underlying26 rfl rfl Try.sizeOf3) ?_
            refine WL.vg rfl (congrArg some h50) rfl rfl (X.loadO hO2 (Ext.trans hx8 hx48) rfl rfl Try.isAgg3) ?_
            refine WL.vg rfl (congrArg some h50) rfl rfl (X.gtr rfl rfl) ?_
            refine WL.va rfl rfl rfl (X.pickT rfl h50 rfl) ?_
            refine WL.va rfl rfl rfl (X.moveB rfl) ?_
            refine WL.split (j := 10) rfl (fun h52 => ?_) (fun h52 => ?_)
            · have gh52 := (of_decide_eq_true h52)
              refine WL.vg rfl (congrArg some h52) rfl rfl (X.fieldAddrO (off := 7) rfl Try.underlying26 rfl rfl Try.sizeOf3) ?_
              refine WL.vg rfl (congrArg some h52) rfl rfl (X.loadO hO2 (Ext.trans hx8 hx48) rfl rfl Try.isAgg3) ?_
              refine WL.vg rfl (congrArg some h52) rfl rfl (X.leq rfl rfl) ?_
              refine WL.va rfl rfl rfl (X.pickT rfl h52 rfl) ?_
              refine WL.va rfl rfl rfl (X.assignB rfl) ?_
              refine WL.nil ?_
              refine thn_n ?_
              refine WF.ret ?_
              refine blk_r ?_
              refine thn_r ?_
              refine fin_r ?_
              refine ⟨congrArg Value.bool ?_, (Ext.trans (Ext.trans hx3 hx8) hx48)⟩
              simp only [rowL, List.getD_cons_zero, List.getD_cons_succ] at *
              first | (refine dec_iff ?_; simp +decide only [plR, false_implies, true_implies, true_and, and_true] <;> omega) | (refine dec_f ?_; simp +decide only [plR, false_implies, true_implies, true_and, and_true] <;> omega) | (refine dec_t ?_; simp +decide only [plR, false_implies, true_implies, true_and, and_true] <;> omega)
            · have gh52 := (of_decide_eq_false h52)
              refine WL.p rfl rfl rfl (congrArg some h52) ?_
              refine WL.p rfl rfl rfl (congrArg some h52) ?_
              refine WL.p rfl rfl rfl (congrArg some h52) ?_
              refine WL.va rfl rfl rfl (X.pickF rfl h52 rfl) ?_
              refine WL.va rfl rfl rfl (X.assignB rfl) ?_
              refine WL.nil ?_
              refine thn_n ?_
              refine WF.ret ?_
              refine blk_r ?_
              refine thn_r ?_
              refine fin_r ?_
              refine ⟨congrArg Value.bool ?_, (Ext.trans (Ext.trans hx3 hx8) hx48)⟩
              simp only [rowL, List.getD_cons_zero, List.getD_cons_succ] at *
              first | (refine dec_iff ?_; simp +decide only [plR, false_implies, true_implies, true_and, and_true] <;> omega) | (refine dec_f ?_; simp +decide only [plR, false_implies, true_implies, true_and, and_true] <;> omega) | (refine dec_t ?_; simp +decide only [plR, false_implies, true_implies, true_and, and_true] <;> omega)
          · have gh50 := (of_decide_eq_false h50)
            refine WL.p rfl rfl rfl (congrArg some h50) ?_
            refine WL.p rfl rfl rfl (congrArg some h50) ?_
            refine WL.p rfl rfl rfl (congrArg some h50) ?_
            refine WL.p rfl rfl rfl (congrArg some h50) ?_
            refine WL.p rfl rfl rfl (congrArg some h50) ?_
            refine WL.va rfl rfl rfl (X.pickF rfl h50 rfl) ?_
            refine WL.va rfl rfl rfl (X.moveB rfl) ?_
            refine WL.p rfl rfl rfl rfl ?_
            refine WL.p rfl rfl rfl rfl ?_
            refine WL.p rfl rfl rfl rfl ?_
            refine WL.va rfl rfl rfl (X.pickF rfl rfl rfl) ?_
            refine WL.va rfl rfl rfl (X.assignB rfl) ?_
            refine WL.nil ?_
            refine thn_n ?_
            refine WF.ret ?_
            refine blk_r ?_
            refine thn_r ?_
            refine fin_r ?_
            refine ⟨congrArg Value.bool ?_, (Ext.trans (Ext.trans hx3 hx8) hx48)⟩
            simp only [rowL, List.getD_cons_zero, List.getD_cons_succ] at *
            first | (refine dec_iff ?_; simp +decide only [plR, false_implies, true_implies, true_and, and_true] <;> omega) | (refine dec_f ?_; simp +decide only [plR, false_implies, true_implies, true_and, and_true] <;> omega) | (refine dec_t ?_; simp +decide only [plR, false_implies, true_implies, true_and, and_true] <;> omega)
      · have gh2_27 := (of_decide_eq_false h2_27)
        refine WF.region ?_
        refine WL.va rfl rfl rfl (X.eql rfl rfl) ?_
        refine WL.va rfl rfl rfl (X.assignB rfl) ?_
        refine WL.nil ?_
        refine thn_n ?_
        refine WF.cond rfl (fun h3_57 => ?_) (fun h3_57 => ?_)
        · have gh3_57 := (of_decide_eq_true h3_57)
          obtain rfl : f = 5 := by omega
          refine WF.seq ?_
          refine WF.seq ?_
          refine WF.region ?_
          refine WL.va rfl rfl rfl (X.fieldAddrO (off := 0) rfl Try.underlying26 rfl rfl Try.sizeOf3) ?_
          refine WL.va rfl rfl rfl (X.loadO hO2 hx8 rfl rfl Try.isAgg3) ?_
          refine WL.va rfl rfl rfl (X.eql rfl rfl) ?_
          refine WL.va rfl rfl rfl (X.moveB rfl) ?_
          refine WL.split (j := 3) rfl (fun h60 => ?_) (fun h60 => ?_)
          · have gh60 := (of_decide_eq_true h60)
            refine WL.vg rfl (congrArg some h60) rfl rfl (X.fieldAddrO (off := 9) rfl Try.underlying26 rfl rfl Try.sizeOf3) ?_
            refine WL.vg rfl (congrArg some h60) rfl rfl (X.loadO hO2 hx8 rfl rfl Try.isAgg3) ?_
            refine WL.vg rfl (congrArg some h60) rfl rfl (X.eql rfl rfl) ?_
            refine WL.va rfl rfl rfl (X.pickT rfl h60 rfl) ?_
            refine WL.nil ?_
            refine thn_n ?_
            refine WF.cond rfl (fun h4_61 => ?_) (fun h4_61 => ?_)
            · have gh4_61 := (of_decide_eq_true h4_61)
              refine WF.seq ?_
              refine WF.region ?_
              refine WL.va rfl rfl rfl (X.moveI rfl) ?_
              refine WL.va rfl rfl rfl (X.eql rfl rfl) ?_
              refine WL.va rfl rfl rfl (X.assignB rfl) ?_
              refine WL.nil ?_
              refine thn_n ?_
              refine WF.ret ?_
              refine thn_r ?_
              refine blk_r ?_
              refine thn_r ?_
              refine fin_r ?_
              refine ⟨congrArg Value.bool ?_, (Ext.trans hx3 hx8)⟩
              simp only [rowL, List.getD_cons_zero, List.getD_cons_succ] at *
              first | (refine dec_iff ?_; simp +decide only [plR, false_implies, true_implies, true_and, and_true] <;> omega) | (refine dec_f ?_; simp +decide only [plR, false_implies, true_implies, true_and, and_true] <;> omega) | (refine dec_t ?_; simp +decide only [plR, false_implies, true_implies, true_and, and_true] <;> omega)
            · have gh4_61 := (of_decide_eq_false h4_61)
              refine WF.skip ?_
              refine thn_n ?_
              refine WF.seq ?_
              refine WF.region ?_
              refine WL.va rfl rfl rfl (X.fieldAddrO (off := 6) rfl Try.underlying26 rfl rfl Try.sizeOf3) ?_
              refine WL.va rfl rfl rfl (X.loadO hO2 hx8 rfl rfl Try.isAgg3) ?_
              refine WL.c rfl rfl rfl (X.call Try.call52 (evl_cons rfl (evl_cons rfl (evl_cons rfl evl_nil)))) (between_ok _ _ _ _) ?_
              rintro v66 w65 ⟨rfl, hx67⟩
              have := World.grownBy.size hx67
              refine WL.va rfl rfl rfl (X.moveB rfl) ?_
              refine WL.split (j := 3) rfl (fun h69 => ?_) (fun h69 => ?_)
              · have gh69 := (of_decide_eq_true h69)
                refine WL.vg rfl (congrArg some h69) rfl rfl (X.fieldAddrO (off := 7) rfl Try.underlying26 rfl rfl Try.sizeOf3) ?_
                refine WL.vg rfl (congrArg some h69) rfl rfl (X.loadO hO2 (Ext.trans hx8 hx67) rfl rfl Try.isAgg3) ?_
                refine WL.vg rfl (congrArg some h69) rfl rfl (X.fieldAddrO (off := 6) rfl Try.underlying26 rfl rfl Try.sizeOf3) ?_
                refine WL.vg rfl (congrArg some h69) rfl rfl (X.loadO hO2 (Ext.trans hx8 hx67) rfl rfl Try.isAgg3) ?_
                refine WL.vg rfl (congrArg some h69) rfl rfl (X.gtr rfl rfl) ?_
                refine WL.va rfl rfl rfl (X.pickT rfl h69 rfl) ?_
                refine WL.va rfl rfl rfl (X.moveB rfl) ?_
                refine WL.split (j := 10) rfl (fun h71 => ?_) (fun h71 => ?_)
                · have gh71 := (of_decide_eq_true h71)
                  refine WL.vg rfl (congrArg some h71) rfl rfl (X.fieldAddrO (off := 7) rfl Try.underlying26 rfl rfl Try.sizeOf3) ?_
                  refine WL.vg rfl (congrArg some h71) rfl rfl (X.loadO hO2 (Ext.trans hx8 hx67) rfl rfl Try.isAgg3) ?_
                  refine WL.vg rfl (congrArg some h71) rfl rfl (X.leq rfl rfl) ?_
                  refine WL.va rfl rfl rfl (X.pickT rfl h71 rfl) ?_
                  refine WL.va rfl rfl rfl (X.assignB rfl) ?_
                  refine WL.nil ?_
                  refine thn_n ?_
                  refine WF.ret ?_
                  refine blk_r ?_
                  refine thn_r ?_
                  refine fin_r ?_
                  refine ⟨congrArg Value.bool ?_, (Ext.trans (Ext.trans hx3 hx8) hx67)⟩
                  simp only [rowL, List.getD_cons_zero, List.getD_cons_succ] at *
                  first | (refine dec_iff ?_; simp +decide only [plR, false_implies, true_implies, true_and, and_true] <;> omega) | (refine dec_f ?_; simp +decide only [plR, false_implies, true_implies, true_and, and_true] <;> omega) | (refine dec_t ?_; simp +decide only [plR, false_implies, true_implies, true_and, and_true] <;> omega)
                · have gh71 := (of_decide_eq_false h71)
                  refine WL.p rfl rfl rfl (congrArg some h71) ?_
                  refine WL.p rfl rfl rfl (congrArg some h71) ?_
                  refine WL.p rfl rfl rfl (congrArg some h71) ?_
                  refine WL.va rfl rfl rfl (X.pickF rfl h71 rfl) ?_
                  refine WL.va rfl rfl rfl (X.assignB rfl) ?_
                  refine WL.nil ?_
                  refine thn_n ?_
                  refine WF.ret ?_
                  refine blk_r ?_
                  refine thn_r ?_
                  refine fin_r ?_
                  refine ⟨congrArg Value.bool ?_, (Ext.trans (Ext.trans hx3 hx8) hx67)⟩
                  simp only [rowL, List.getD_cons_zero, List.getD_cons_succ] at *
                  first | (refine dec_iff ?_; simp +decide only [plR, false_implies, true_implies, true_and, and_true] <;> omega) | (refine dec_f ?_; simp +decide only [plR, false_implies, true_implies, true_and, and_true] <;> omega) | (refine dec_t ?_; simp +decide only [plR, false_implies, true_implies, true_and, and_true] <;> omega)
              · have gh69 := (of_decide_eq_false h69)
                refine WL.p rfl rfl rfl (congrArg some h69) ?_
                refine WL.p rfl rfl rfl (congrArg some h69) ?_
                refine WL.p rfl rfl rfl (congrArg some h69) ?_
                refine WL.p rfl rfl rfl (congrArg some h69) ?_
                refine WL.p rfl rfl rfl (congrArg some h69) ?_
                refine WL.va rfl rfl rfl (X.pickF rfl h69 rfl) ?_
                refine WL.va rfl rfl rfl (X.moveB rfl) ?_
                refine WL.p rfl rfl rfl rfl ?_
                refine WL.p rfl rfl rfl rfl ?_
                refine WL.p rfl rfl rfl rfl ?_
                refine WL.va rfl rfl rfl (X.pickF rfl rfl rfl) ?_
                refine WL.va rfl rfl rfl (X.assignB rfl) ?_
                refine WL.nil ?_
                refine thn_n ?_
                refine WF.ret ?_
                refine blk_r ?_
                refine thn_r ?_
                refine fin_r ?_
                refine ⟨congrArg Value.bool ?_, (Ext.trans (Ext.trans hx3 hx8) hx67)⟩
                simp only [rowL, List.getD_cons_zero, List.getD_cons_succ] at *
                first | (refine dec_iff ?_; simp +decide only [plR, false_implies, true_implies, true_and, and_true] <;> omega) | (refine dec_f ?_; simp +decide only [plR, false_implies, true_implies, true_and, and_true] <;> omega) | (refine dec_t ?_; simp +decide only [plR, false_implies, true_implies, true_and, and_true] <;> omega)
          · have gh60 := (of_decide_eq_false h60)
            refine WL.p rfl rfl rfl (congrArg some h60) ?_
            refine WL.p rfl rfl rfl (congrArg some h60) ?_
            refine WL.p rfl rfl rfl (congrArg some h60) ?_
            refine WL.va rfl rfl rfl (X.pickF rfl h60 rfl) ?_
            refine WL.nil ?_
            refine thn_n ?_
            refine WF.cond_f rfl ?_
            refine WF.skip ?_
            refine thn_n ?_
            refine WF.seq ?_
            refine WF.region ?_
            refine WL.va rfl rfl rfl (X.fieldAddrO (off := 6) rfl Try.underlying26 rfl rfl Try.sizeOf3) ?_
            refine WL.va rfl rfl rfl (X.loadO hO2 hx8 rfl rfl Try.isAgg3) ?_
            refine WL.c rfl rfl rfl (X.call Try.call52 (evl_cons rfl (evl_cons rfl (evl_cons rfl evl_nil)))) (between_ok _ _ _ _) ?_
            rintro v78 w77 ⟨rfl, hx79⟩
            have := World.grownBy.size hx79
            refine WL.va rfl rfl rfl (X.moveB rfl) ?_
            refine WL.split (j := 3) rfl (fun h81 => ?_) (fun h81 => ?_)
            · have gh81 := (of_decide_eq_true h81)
              refine WL.vg rfl (congrArg some h81) rfl rfl (X.fieldAddrO (off := 7) rfl Try.underlying26 rfl rfl Try.sizeOf3) ?_
              refine WL.vg rfl (congrArg some h81) rfl rfl (X.loadO hO2 (Ext.trans hx8 hx79) rfl rfl Try.isAgg3) ?_
              refine WL.vg rfl (congrArg some h81) rfl rfl (X.fieldAddrO (off := 6) rfl Try.underlying26 rfl rfl Try.sizeOf3) ?_
              refine WL.vg rfl (congrArg some h81) rfl rfl (X.loadO hO2 (Ext.trans hx8 hx79) rfl rfl Try.isAgg3) ?_
              refine WL.vg rfl (congrArg some h81) rfl rfl (X.gtr rfl rfl) ?_
              refine WL.va rfl rfl rfl (X.pickT rfl h81 rfl) ?_
              refine WL.va rfl rfl rfl (X.moveB rfl) ?_
              refine WL.split (j := 10) rfl (fun h83 => ?_) (fun h83 => ?_)
              · have gh83 := (of_decide_eq_true h83)
                refine WL.vg rfl (congrArg some h83) rfl rfl (X.fieldAddrO (off := 7) rfl Try.underlying26 rfl rfl Try.sizeOf3) ?_
                refine WL.vg rfl (congrArg some h83) rfl rfl (X.loadO hO2 (Ext.trans hx8 hx79) rfl rfl Try.isAgg3) ?_
                refine WL.vg rfl (congrArg some h83) rfl rfl (X.leq rfl rfl) ?_
                refine WL.va rfl rfl rfl (X.pickT rfl h83 rfl) ?_
                refine WL.va rfl rfl rfl (X.assignB rfl) ?_
                refine WL.nil ?_
                refine thn_n ?_
                refine WF.ret ?_
                refine blk_r ?_
                refine thn_r ?_
                refine fin_r ?_
                refine ⟨congrArg Value.bool ?_, (Ext.trans (Ext.trans hx3 hx8) hx79)⟩
                simp only [rowL, List.getD_cons_zero, List.getD_cons_succ] at *
                first | (refine dec_iff ?_; simp +decide only [plR, false_implies, true_implies, true_and, and_true] <;> omega) | (refine dec_f ?_; simp +decide only [plR, false_implies, true_implies, true_and, and_true] <;> omega) | (refine dec_t ?_; simp +decide only [plR, false_implies, true_implies, true_and, and_true] <;> omega)
              · have gh83 := (of_decide_eq_false h83)
                refine WL.p rfl rfl rfl (congrArg some h83) ?_
                refine WL.p rfl rfl rfl (congrArg some h83) ?_
                refine WL.p rfl rfl rfl (congrArg some h83) ?_
                refine WL.va rfl rfl rfl (X.pickF rfl h83 rfl) ?_
                refine WL.va rfl rfl rfl (X.assignB rfl) ?_
                refine WL.nil ?_
                refine thn_n ?_
                refine WF.ret ?_
                refine blk_r ?_
                refine thn_r ?_
                refine fin_r ?_
                refine ⟨congrArg Value.bool ?_, (Ext.trans (Ext.trans hx3 hx8) hx79)⟩
                simp only [rowL, List.getD_cons_zero, List.getD_cons_succ] at *
                first | (refine dec_iff ?_; simp +decide only [plR, false_implies, true_implies, true_and, and_true] <;> omega) | (refine dec_f ?_; simp +decide only [plR, false_implies, true_implies, true_and, and_true] <;> omega) | (refine dec_t ?_; simp +decide only [plR, false_implies, true_implies, true_and, and_true] <;> omega)
            · have gh81 := (of_decide_eq_false h81)
              refine WL.p rfl rfl rfl (congrArg some h81) ?_
              refine WL.p rfl rfl rfl (congrArg some h81) ?_
              refine WL.p rfl rfl rfl (congrArg some h81) ?_
              refine WL.p rfl rfl rfl (congrArg some h81) ?_
              refine WL.p rfl rfl rfl (congrArg some h81) ?_
              refine WL.va rfl rfl rfl (X.pickF rfl h81 rfl) ?_
              refine WL.va rfl rfl rfl (X.moveB rfl) ?_
              refine WL.p rfl rfl rfl rfl ?_
              refine WL.p rfl rfl rfl rfl ?_
              refine WL.p rfl rfl rfl rfl ?_
              refine WL.va rfl rfl rfl (X.pickF rfl rfl rfl) ?_
              refine WL.va rfl rfl rfl (X.assignB rfl) ?_
              refine WL.nil ?_
              refine thn_n ?_
              refine WF.ret ?_
              refine blk_r ?_
              refine thn_r ?_
              refine fin_r ?_
              refine ⟨congrArg Value.bool ?_, (Ext.trans (Ext.trans hx3 hx8) hx79)⟩
              simp only [rowL, List.getD_cons_zero, List.getD_cons_succ] at *
              first | (refine dec_iff ?_; simp +decide only [plR, false_implies, true_implies, true_and, and_true] <;> omega) | (refine dec_f ?_; simp +decide only [plR, false_implies, true_implies, true_and, and_true] <;> omega) | (refine dec_t ?_; simp +decide only [plR, false_implies, true_implies, true_and, and_true] <;> omega)
        · have gh3_57 := (of_decide_eq_false h3_57)
          refine WF.seq ?_
          refine WF.region ?_
          refine WL.va rfl rfl rfl (X.eql rfl rfl) ?_
          refine WL.va rfl rfl rfl (X.assignB rfl) ?_
          refine WL.nil ?_
          refine thn_n ?_
          refine WF.cond rfl (fun h5_88 => ?_) (fun h5_88 => ?_)
          · have gh5_88 := (of_decide_eq_true h5_88)
            obtain rfl : f = 6 := by omega
            refine WF.seq ?_
            refine WF.region ?_
            refine WL.va rfl rfl rfl (X.moveI rfl) ?_
            refine WL.c rfl rfl rfl (X.call Try.call52 (evl_cons rfl (evl_cons rfl (evl_cons rfl evl_nil)))) (between_ok _ _ _ _) ?_
            rintro v91 w90 ⟨rfl, hx92⟩
            have := World.grownBy.size hx92
            refine WL.va rfl rfl rfl (X.assignB rfl) ?_
            refine WL.nil ?_
            refine thn_n ?_
            refine WF.ret ?_
            refine blk_r ?_
            refine thn_r ?_
            refine fin_r ?_
            refine ⟨congrArg Value.bool ?_, (Ext.trans (Ext.trans hx3 hx8) hx92)⟩
            simp only [rowL, List.getD_cons_zero, List.getD_cons_succ] at *
            first | (refine dec_iff ?_; simp +decide only [plR, false_implies, true_implies, true_and, and_true] <;> omega) | (refine dec_f ?_; simp +decide only [plR, false_implies, true_implies, true_and, and_true] <;> omega) | (refine dec_t ?_; simp +decide only [plR, false_implies, true_implies, true_and, and_true] <;> omega)
          · have gh5_88 := (of_decide_eq_false h5_88)
            refine WF.seq ?_
            refine WF.region ?_
            refine WL.va rfl rfl rfl (X.eql rfl rfl) ?_
            refine WL.va rfl rfl rfl (X.assignB rfl) ?_
            refine WL.nil ?_
            refine thn_n ?_
            refine WF.cond rfl (fun h6_94 => ?_) (fun h6_94 => ?_)
            · have gh6_94 := (of_decide_eq_true h6_94)
              obtain rfl : f = 7 := by omega
              refine WF.seq ?_
              refine WF.region ?_
              refine WL.va rfl rfl rfl (X.moveI rfl) ?_
              refine WL.c rfl rfl rfl (X.call Try.call52 (evl_cons rfl (evl_cons rfl (evl_cons rfl evl_nil)))) (between_ok _ _ _ _) ?_
              rintro v97 w96 ⟨rfl, hx98⟩
              have := World.grownBy.size hx98
              refine WL.va rfl rfl rfl (X.assignB rfl) ?_
              refine WL.nil ?_
              refine thn_n ?_
              refine WF.ret ?_
              refine blk_r ?_
              refine thn_r ?_
              refine fin_r ?_
              refine ⟨congrArg Value.bool ?_, (Ext.trans (Ext.trans hx3 hx8) hx98)⟩
              simp only [rowL, List.getD_cons_zero, List.getD_cons_succ] at *
              first | (refine dec_iff ?_; simp +decide only [plR, false_implies, true_implies, true_and, and_true] <;> omega) | (refine dec_f ?_; simp +decide only [plR, false_implies, true_implies, true_and, and_true] <;> omega) | (refine dec_t ?_; simp +decide only [plR, false_implies, true_implies, true_and, and_true] <;> omega)
            · have gh6_94 := (of_decide_eq_false h6_94)
              refine WF.seq ?_
              refine WF.region ?_
              refine WL.va rfl rfl rfl (X.eql rfl rfl) ?_
              refine WL.va rfl rfl rfl (X.assignB rfl) ?_
              refine WL.nil ?_
              refine thn_n ?_
              refine WF.cond rfl (fun h7_100 => ?_) (fun h7_100 => ?_)
              · have gh7_100 := (of_decide_eq_true h7_100)
                obtain rfl : f = 8 := by omega
                refine WF.seq ?_
                refine WF.region ?_
                refine WL.va rfl rfl rfl (X.moveI rfl) ?_
                refine WL.c rfl rfl rfl (X.call Try.call52 (evl_cons rfl (evl_cons rfl (evl_cons rfl evl_nil)))) (between_ok _ _ _ _) ?_
                rintro v103 w102 ⟨rfl, hx104⟩
                have := World.grownBy.size hx104
                refine WL.va rfl rfl rfl (X.assignB rfl) ?_
                refine WL.nil ?_
                refine thn_n ?_
                refine WF.ret ?_
                refine blk_r ?_
                refine thn_r ?_
                refine fin_r ?_
                refine ⟨congrArg Value.bool ?_, (Ext.trans (Ext.trans hx3 hx8) hx104)⟩
                simp only [rowL, List.getD_cons_zero, List.getD_cons_succ] at *
                first | (refine dec_iff ?_; simp +decide only [plR, false_implies, true_implies, true_and, and_true] <;> omega) | (refine dec_f ?_; simp +decide only [plR, false_implies, true_implies, true_and, and_true] <;> omega) | (refine dec_t ?_; simp +decide only [plR, false_implies, true_implies, true_and, and_true] <;> omega)
              · have gh7_100 := (of_decide_eq_false h7_100)
                refine WF.seq ?_
                refine WF.region ?_
                refine WL.va rfl rfl rfl (X.eql rfl rfl) ?_
                refine WL.va rfl rfl rfl (X.assignB rfl) ?_
                refine WL.nil ?_
                refine thn_n ?_
                refine WF.cond rfl (fun h8_106 => ?_) (fun h8_106 => ?_)
                · have gh8_106 := (of_decide_eq_true h8_106)
                  obtain rfl : f = 9 := by omega
                  refine WF.seq ?_
                  refine WF.region ?_
                  refine WL.va rfl rfl rfl (X.moveI rfl) ?_
                  refine WL.c rfl rfl rfl (X.call Try.call52 (evl_cons rfl (evl_cons rfl (evl_cons rfl evl_nil)))) (between_ok _ _ _ _) ?_
                  rintro v109 w108 ⟨rfl, hx110⟩
                  have := World.grownBy.size hx110
                  refine WL.va rfl rfl rfl (X.moveB rfl) ?_
                  refine WL.split (j := 2) rfl (fun h112 => ?_) (fun h112 => ?_)
                  · have gh112 := (of_decide_eq_true h112)
                    refine WL.p rfl rfl rfl (congrArg some h112) ?_
                    refine WL.p rfl rfl rfl (congrArg some h112) ?_
                    refine WL.p rfl rfl rfl (congrArg some h112) ?_
                    refine WL.p rfl rfl rfl (congrArg some h112) ?_
                    refine WL.pn rfl rfl rfl rfl ?_
                    refine WL.pn rfl rfl rfl rfl ?_
                    refine WL.p rfl rfl rfl (congrArg some h112) ?_
                    refine WL.va rfl rfl rfl (X.pickT rfl h112 rfl) ?_
                    refine WL.va rfl rfl rfl (X.assignB rfl) ?_
                    refine WL.nil ?_
                    refine thn_n ?_
                    refine WF.ret ?_
                    refine blk_r ?_
                    refine thn_r ?_
                    refine fin_r ?_
                    refine ⟨congrArg Value.bool ?_, (Ext.trans (Ext.trans hx3 hx8) hx110)⟩
                    simp only [rowL, List.getD_cons_zero, List.getD_cons_succ] at *
                    first | (refine dec_iff ?_; simp +decide only [plR, false_implies, true_implies, true_and, and_true] <;> omega) | (refine dec_f ?_; simp +decide only [plR, false_implies, true_implies, true_and, and_true] <;> omega) | (refine dec_t ?_; simp +decide only [plR, false_implies, true_implies, true_and, and_true] <;> omega)
                  · have gh112 := (of_decide_eq_false h112)
                    refine WL.vg rfl (congrArg some h112) rfl rfl (X.fieldAddrO (off := 0) rfl Try.underlying26 rfl rfl Try.sizeOf3) ?_
                    refine WL.vg rfl (congrArg some h112) rfl rfl (X.loadO hO2 (Ext.trans hx8 hx110) rfl rfl Try.isAgg3) ?_
                    refine WL.vg rfl (congrArg some h112) rfl rfl (X.eql rfl rfl) ?_
                    refine WL.vg rfl (congrArg some h112) rfl rfl (X.moveB rfl) ?_
                    refine WL.split (j := 6) rfl (fun h115 => ?_) (fun h115 => ?_)
                    · have gh115 := (of_decide_eq_true h115)
                      refine WL.vg rfl (congrArg some h115) rfl rfl (X.moveI rfl) ?_
                      refine WL.cg rfl (congrArg some h115) rfl rfl (X.call Try.call52 (evl_cons rfl (evl_cons rfl (evl_cons rfl evl_nil)))) (between_ok _ _ _ _) ?_
                      rintro v117 w116 ⟨rfl, hx118⟩
                      have := World.grownBy.size hx118
                      refine WL.vg rfl (congrArg some h112) rfl rfl (X.pickT rfl h115 rfl) ?_
                      refine WL.va rfl rfl rfl (X.pickF rfl h112 rfl) ?_
                      refine WL.va rfl rfl rfl (X.assignB rfl) ?_
                      refine WL.nil ?_
                      refine thn_n ?_
                      refine WF.ret ?_
                      refine blk_r ?_
                      refine thn_r ?_
                      refine fin_r ?_
                      refine ⟨congrArg Value.bool ?_, (Ext.trans (Ext.trans (Ext.trans hx3 hx8) hx110) hx118)⟩
                      simp only [rowL, List.getD_cons_zero, List.getD_cons_succ] at *
                      first | (refine dec_iff ?_; simp +decide only [plR, false_implies, true_implies, true_and, and_true] <;> omega) | (refine dec_f ?_; simp +decide only [plR, false_implies, true_implies, true_and, and_true] <;> omega) | (refine dec_t ?_; simp +decide only [plR, false_implies, true_implies, true_and, and_true] <;> omega)
                    · have gh115 := (of_decide_eq_false h115)
                      refine WL.p rfl rfl rfl (congrArg some h115) ?_
                      refine WL.p rfl rfl rfl (congrArg some h115) ?_
                      refine WL.vg rfl (congrArg some h112) rfl rfl (X.pickF rfl h115 rfl) ?_
                      refine WL.va rfl rfl rfl (X.pickF rfl h112 rfl) ?_
                      refine WL.va rfl rfl rfl (X.assignB rfl) ?_
                      refine WL.nil ?_
                      refine thn_n ?_
                      refine WF.ret ?_
                      refine blk_r ?_
                      refine thn_r ?_
                      refine fin_r ?_
                      refine ⟨congrArg Value.bool ?_, (Ext.trans (Ext.trans hx3 hx8) hx110)⟩
                      simp only [rowL, List.getD_cons_zero, List.getD_cons_succ] at *
                      first | (refine dec_iff ?_; simp +decide only [plR, false_implies, true_implies, true_and, and_true] <;> omega) | (refine dec_f ?_; simp +decide only [plR, false_implies, true_implies, true_and, and_true] <;> omega) | (refine dec_t ?_; simp +decide only [plR, false_implies, true_implies, true_and, and_true] <;> omega)
                · have gh8_106 := (of_decide_eq_false h8_106)
                  have hf12 : f = 1 ∨ f = 2 := by omega
                  refine WF.skip ?_
                  refine blk_n ?_
                  refine thn_n ?_
                  refine WF.seq ?_
                  refine WF.region ?_
                  refine WL.va rfl rfl rfl (X.moveI rfl) ?_
                  refine WL.c rfl rfl rfl (X.call Try.call52 (evl_cons rfl (evl_cons rfl (evl_cons rfl evl_nil)))) (between_ok _ _ _ _) ?_
                  rintro v122 w121 ⟨rfl, hx123⟩
                  have := World.grownBy.size hx123
                  refine WL.va rfl rfl rfl (X.assignB rfl) ?_
                  refine WL.nil ?_
                  refine thn_n ?_
                  refine WF.ret ?_
                  refine fin_r ?_
                  refine ⟨congrArg Value.bool ?_, (Ext.trans (Ext.trans hx3 hx8) hx123)⟩
                  rcases hf12 with rfl | rfl <;> (simp only [rowL, List.getD_cons_zero, List.getD_cons_succ]; refine dec_iff ?_; simp +decide only [plR, false_implies, true_implies, true_and, and_true] <;> omega)

theorem all_ok (v : Value) (l : List Int) (a b : Int) (w : World) (hb : Ints w v l) (hm : l.length ≤ 1000000) : FnOk Try.prog 54 [v, i64 a, i64 b] w (fun r w' => r = .bool (decide (allP l a b)) ∧ Ext w w') := by
  refine FnOk.enter (rs := [6]) Try.func54 rfl Try.ntmps54 Try.results54 rfl rfl ?_
  refine WF.seq ?_
  refine WF.region ?_
  refine WL.va rfl rfl rfl (X.assignB rfl) ?_
  refine WL.nil ?_
  refine thn_n ?_
  refine WF.seq ?_
  refine WF.seq ?_
  refine WF.region ?_
  refine WL.va rfl rfl rfl (X.assignI rfl) ?_
  refine WL.nil ?_
  refine thn_n ?_
  refine WF.block ?_
  refine WF.named (fun F2 hF3 => ?_)
  refine WF.loopN (fun mL0 f' w' => ∃ (k : Nat), mL0 = l.length - k ∧ f' 7 = .int .i64 (k : Int) ∧ Agree [0, 1, 2] f' F2 ∧ Ext w w' ∧ k ≤ l.length ∧ ∀ j, j < k → a ≤ l.getD j 0 ∧ l.getD j 0 ≤ b) ?_ ?_
  · exact ⟨_, 0, rfl, (congrFun hF3 7), (Agree.refl _ _), (Ext.refl _), ⟨Nat.zero_le _, fun j hj => by omega⟩⟩
  · rintro mL0 fL0 wL0 ⟨k, hmL0, e7_L0, hAL0, hwL0, ⟨hk, hno⟩⟩
    refine WF.seq ?_
    refine WF.seq ?_
    refine WF.region ?_
    refine WL.va rfl rfl rfl (X.moveI e7_L0) ?_
    refine WL.va rfl rfl rfl (X.move ((hAL0.eq 0).trans (congrFun hF3 0))) ?_
    refine WL.va rfl rfl rfl (X.len hb rfl Try.underlying22) ?_
    refine WL.va rfl rfl rfl (X.lss rfl rfl) ?_
    refine WL.nil ?_
    refine thn_n ?_
    refine WF.cond rfl (fun h0_4 => ?_) (fun h0_4 => ?_)
    · have gh0_4 := (of_decide_eq_true h0_4)
      have hka : k < l.length := by omega
      refine WF.skip ?_
      refine thn_n ?_
      refine WF.seq ?_
      refine WF.block ?_
      refine WF.seq ?_
      refine WF.region ?_
      refine WL.va rfl rfl rfl (X.move ((hAL0.eq 0).trans (congrFun hF3 0))) ?_
      refine WL.va rfl rfl rfl (X.moveI e7_L0) ?_
      refine WL.va rfl rfl rfl (X.idx hb rfl rfl (by omega) Try.underlying22 Try.sizeOf3) ?_
      refine WL.va rfl rfl rfl (X.loadI hb hwL0 rfl (by omega) Try.isAgg3) ?_
      refine WL.va rfl rfl rfl (X.moveI ((hAL0.eq 1).trans (congrFun hF3 1))) ?_
      refine WL.va rfl rfl rfl (X.moveI ((hAL0.eq 2).trans (congrFun hF3 2))) ?_
      refine WL.c rfl rfl rfl (X.call Try.call52 (evl_cons rfl (evl_cons rfl (evl_cons rfl evl_nil)))) (between_ok _ _ _ _) ?_
      rintro v7 w6 ⟨rfl, hx8⟩
      refine WL.va rfl rfl rfl (X.not rfl) ?_
      refine WL.nil ?_
      refine thn_n ?_
      refine WF.cond rfl (fun h1_10 => ?_) (fun h1_10 => ?_)
      · have gh1_10 := (of_decide_eq_false (nt h1_10))
        refine WF.seq ?_
        refine WF.region ?_
        refine WL.va rfl rfl rfl (X.assignB rfl) ?_
        refine WL.nil ?_
        refine thn_n ?_
        refine WF.ret ?_
        refine blk_r ?_
        refine thn_r ?_
        refine thn_r ?_
        refine blk_r ?_
        refine thn_r ?_
        refine fin_r ?_
        exact ⟨congrArg Value.bool (dec_f fun q => absurd (q _ (getD_mem hka)) (by assumption)), (Ext.trans hwL0 hx8)⟩
      · have gh1_10 := (of_decide_eq_true (nf h1_10))
        refine WF.skip ?_
        refine blk_n ?_
        refine thn_n ?_
        refine WF.region ?_
        refine WL.va rfl rfl rfl (X.moveI e7_L0) ?_
        refine WL.va rfl rfl rfl (X.add rfl rfl (w64 (by omega))) ?_
        refine WL.va rfl rfl rfl (X.assignI rfl) ?_
        refine WL.nil ?_
        exact thn_n ⟨_, (by omega), k + 1, rfl, rfl, (by repeat (first | exact hAL0 | refine Agree.put ?_ rfl | refine Agree.named hF3 ?_)), (Ext.trans hwL0 hx8), ⟨by omega, fun j hj => by rcases Nat.lt_succ_iff_lt_or_eq.1 hj with h | rfl; exact hno j h; assumption⟩⟩
    · have gh0_4 := (of_decide_eq_false h0_4)
      refine WF.exit ?_
      refine thn_x ?_
      refine thn_x ?_
      refine blk_eq ?_
      refine thn_n ?_
      refine WF.seq ?_
      refine WF.region ?_
      refine WL.va rfl rfl rfl (X.assignB rfl) ?_
      refine WL.nil ?_
      refine thn_n ?_
      refine WF.ret ?_
      refine fin_r ?_
      exact ⟨congrArg Value.bool (dec_t fun x hx => by obtain ⟨j, hj, rfl⟩ := mem_getD hx; exact hno j (by omega)), hwL0⟩

theorem risesR_ok (v : Value) (l : List Int) (w : World) (hb : Ints w v l) (hm : l.length ≤ 1000000) : FnOk Try.prog 56 [v] w (fun r w' => r = .bool (decide (riseP l)) ∧ Ext w w') := by
  refine FnOk.enter (rs := [2]) Try.func56 rfl Try.ntmps56 Try.results56 rfl rfl ?_
  refine WF.seq ?_
  refine WF.region ?_
  refine WL.va rfl rfl rfl (X.assignB rfl) ?_
  refine WL.nil ?_
  refine thn_n ?_
  refine WF.seq ?_
  refine WF.seq ?_
  refine WF.region ?_
  refine WL.va rfl rfl rfl (X.assignI rfl) ?_
  refine WL.nil ?_
  refine thn_n ?_
  refine WF.block ?_
  refine WF.named (fun F2 hF3 => ?_)
  refine WF.loopN (fun mL0 f' w' => ∃ (k : Nat), mL0 = l.length - k ∧ f' 3 = .int .i64 ((k + 1 : Nat) : Int) ∧ Agree [0] f' F2 ∧ Ext w w' ∧ (k = 0 ∨ k + 1 ≤ l.length) ∧ ∀ j, j < k → l.getD j 0 < l.getD (j + 1) 0) ?_ ?_
  · exact ⟨_, 0, rfl, (congrFun hF3 3), (Agree.refl _ _), (Ext.refl _), ⟨.inl rfl, fun j hj => by omega⟩⟩
  · rintro mL0 fL0 wL0 ⟨k, hmL0, e3_L0, hAL0, hwL0, ⟨hk, hno⟩⟩
    refine WF.seq ?_
    refine WF.seq ?_
    refine WF.region ?_
    refine WL.va rfl rfl rfl (X.moveI e3_L0) ?_
    refine WL.va rfl rfl rfl (X.move ((hAL0.eq 0).trans (congrFun hF3 0))) ?_
    refine WL.va rfl rfl rfl (X.len hb rfl Try.underlying22) ?_
    refine WL.va rfl rfl rfl (X.lss rfl rfl) ?_
    refine WL.nil ?_
    refine thn_n ?_
    refine WF.cond rfl (fun h0_4 => ?_) (fun h0_4 => ?_)
    · have gh0_4 := (of_decide_eq_true h0_4)
      refine WF.skip ?_
      refine thn_n ?_
      refine WF.seq ?_
      refine WF.block ?_
      refine WF.seq ?_
      refine WF.drawn (.q 0 (.q 1 (.q 2 (.q 3 (.q 4 (.q 5 (.q 6 (.q 7 (.q 8 (.q 9 .nil)))))))))) (fun w' => Ext wL0 w') 10 (by kernel_rfl) (by kernel_rfl) (Ext.drew _) ?_
      refine WO.q rfl rfl rfl rfl (fun w' hE6 => (X.move ((hAL0.eq 0).trans (congrFun hF3 0)))) ?_
      refine WO.q rfl rfl rfl rfl (fun w' hE6 => (X.moveI e3_L0)) ?_
      refine WO.q rfl rfl rfl rfl (fun w' hE6 => (X.sub rfl rfl (show IntKind.i64.wrap (((k + 1 : Nat) : Int) - 1) = ((k : Nat) : Int) by rw [w64 (by omega)]; omega))) ?_
      refine WO.q rfl rfl rfl rfl (fun w' hE6 => (X.idx hb rfl rfl (by omega) Try.underlying22 Try.sizeOf3)) ?_
      refine WO.q rfl rfl rfl rfl (fun w' hE6 => (X.loadI hb (Ext.trans hwL0 hE6) rfl (by omega) Try.isAgg3)) ?_
      refine WO.q rfl rfl rfl rfl (fun w' hE6 => (X.move ((hAL0.eq 0).trans (congrFun hF3 0)))) ?_
      refine WO.q rfl rfl rfl rfl (fun w' hE6 => (X.moveI e3_L0)) ?_
      refine WO.q rfl rfl rfl rfl (fun w' hE6 => (X.idx hb rfl rfl (by omega) Try.underlying22 Try.sizeOf3)) ?_
      refine WO.q rfl rfl rfl rfl (fun w' hE6 => (X.loadI hb (Ext.trans hwL0 hE6) rfl (by omega) Try.isAgg3)) ?_
      refine WO.q rfl rfl rfl rfl (fun w' hE6 => (X.geq rfl rfl)) ?_
      refine WO.nil ?_
      refine WL.nil ?_
      refine thn_n ?_
      refine WF.cond rfl (fun h1_7 => ?_) (fun h1_7 => ?_)
      · have gh1_7 := (of_decide_eq_true h1_7)
        refine WF.seq ?_
        refine WF.region ?_
        refine WL.va rfl rfl rfl (X.assignB rfl) ?_
        refine WL.nil ?_
        refine thn_n ?_
        refine WF.ret ?_
        refine blk_r ?_
        refine thn_r ?_
        refine thn_r ?_
        refine blk_r ?_
        refine thn_r ?_
        refine fin_r ?_
        exact ⟨congrArg Value.bool (dec_f (rise_f (k := k) (by omega) (by omega))), (Ext.trans hwL0 (Ext.drew _))⟩
      · have gh1_7 := (of_decide_eq_false h1_7)
        refine WF.skip ?_
        refine blk_n ?_
        refine thn_n ?_
        refine WF.region ?_
        refine WL.va rfl rfl rfl (X.moveI e3_L0) ?_
        refine WL.va rfl rfl rfl (X.add rfl rfl (show IntKind.i64.wrap (((k + 1 : Nat) : Int) + 1) = ((k + 1 + 1 : Nat) : Int) by rw [w64 (by omega)]; omega)) ?_
        refine WL.va rfl rfl rfl (X.assignI rfl) ?_
        refine WL.nil ?_
        exact thn_n ⟨_, (by omega), k + 1, rfl, rfl, (by repeat (first | exact hAL0 | refine Agree.put ?_ rfl | refine Agree.named hF3 ?_)), (Ext.trans hwL0 (Ext.drew _)), ⟨by omega, fun j hj => by rcases Nat.lt_succ_iff_lt_or_eq.1 hj with h | rfl; exact hno j h; omega⟩⟩
    · have gh0_4 := (of_decide_eq_false h0_4)
      refine WF.exit ?_
      refine thn_x ?_
      refine thn_x ?_
      refine blk_eq ?_
      refine thn_n ?_
      refine WF.seq ?_
      refine WF.region ?_
      refine WL.va rfl rfl rfl (X.assignB rfl) ?_
      refine WL.nil ?_
      refine thn_n ?_
      refine WF.ret ?_
      refine fin_r ?_
      exact ⟨congrArg Value.bool (dec_t (fun j hj => hno j (by omega))), hwL0⟩

set_option maxHeartbeats 1600000 in
theorem written_ok (vP vR vW vD : Value) (o : Od) (w : World) (h : OpAt w vP vR vW vD o) (hm : o.small) : FnOk Try.prog 55 [agg (oc o.n vP vR vW vD)] w (fun r w' => OwnI w' w.heap.size 3 r o.bl ∧ Ext w w') := by
  obtain ⟨hmP, hmR, hmW, hmD, hmWD⟩ := hm
  obtain ⟨E, hE, rE, dE⟩ := h.W
  have hEl : E.length = o.W.length := by rw [← hE]; simp
  rw [bl_map hE]
  refine FnOk.enter (rs := [2]) Try.func55 rfl Try.ntmps55 Try.results55 rfl rfl ?_
  refine WF.seq ?_
  refine WF.region ?_
  refine WL.op rfl (OW.boxA (cs := (oc o.n vP vR vW vD)) rfl ?_ (by decide))
  intro g1 wb heg1 hlg1 hO1 hx2
  have := World.grownBy.size hx2
  refine WL.va rfl rfl rfl (X.assign rfl) ?_
  refine WL.nil ?_
  refine thn_n ?_
  refine WF.seq ?_
  refine WF.region ?_
  refine WL.va rfl rfl rfl (X.assign rfl) ?_
  refine WL.nil ?_
  refine thn_n ?_
  refine WF.seq ?_
  refine WF.seq ?_
  refine WF.region ?_
  refine WL.va rfl rfl rfl (X.assignI rfl) ?_
  refine WL.nil ?_
  refine thn_n ?_
  refine WF.block ?_
  refine WF.named (fun F4 hF5 => ?_)
  refine WF.loopN (fun mL0 f' w' => ∃ (k : Nat) (vl : Value), mL0 = E.length - k ∧ f' 4 = .int .i64 (k : Int) ∧ f' 3 = vl ∧ Agree [0, 1, 2] f' F4 ∧ Ext wb w' ∧ k ≤ E.length ∧ OwnI w' wb.heap.size 3 vl ((E.map fun e => e.1.Block).take k)) ?_ ?_
  · exact ⟨_, 0, (.slice none 0 0), rfl, (congrFun hF5 4), (congrFun hF5 3), (Agree.refl _ _), (Ext.refl _), ⟨Nat.zero_le _, World.ownsRow_nil _ _ _ _⟩⟩
  · rintro mL0 fL0 wL0 ⟨k, vl, hmL0, e4_L0, e3_L0, hAL0, hwL0, ⟨hk0, ho⟩⟩
    have := World.grownBy.size hwL0
    refine WF.seq ?_
    refine WF.seq ?_
    refine WF.region ?_
    refine WL.va rfl rfl rfl (X.moveI e4_L0) ?_
    refine WL.va rfl rfl rfl (X.fieldAddrO (off := 15) ((hAL0.eq 1).trans (congrFun hF5 1)) Try.underlying26 rfl rfl Try.sizeOf23) ?_
    refine WL.va rfl rfl rfl (X.loadO hO1 hwL0 rfl rfl Try.isAgg23) ?_
    refine WL.va rfl rfl rfl (X.len rE rfl Try.underlying23) ?_
    refine WL.va rfl rfl rfl (X.lss rfl rfl) ?_
    refine WL.nil ?_
    refine thn_n ?_
    refine WF.cond rfl (fun h0_6 => ?_) (fun h0_6 => ?_)
    · have gh0_6 := (of_decide_eq_true h0_6)
      have hk : k < E.length := by omega
      refine WF.skip ?_
      refine thn_n ?_
      refine WF.seq ?_
      refine WF.block ?_
      refine WF.region ?_
      refine WL.va rfl rfl rfl (X.move e3_L0) ?_
      refine WL.va rfl rfl rfl (X.fieldAddrO (off := 15) ((hAL0.eq 1).trans (congrFun hF5 1)) Try.underlying26 rfl rfl Try.sizeOf23) ?_
      refine WL.va rfl rfl rfl (X.loadO hO1 hwL0 rfl rfl Try.isAgg23) ?_
      refine WL.va rfl rfl rfl (X.moveI e4_L0) ?_
      refine WL.va rfl rfl rfl (X.idx rE rfl rfl hk Try.underlying23 Try.sizeOf52) ?_
      refine WL.va rfl rfl rfl (X.fieldAddrA rfl Try.underlying52 rfl rfl Try.sizeOf3) ?_
      refine WL.va rfl rfl rfl (X.loadE rE (Ext.trans hx2 hwL0) rfl hk ((WRow.get hk (by decide)).trans rfl) Try.isAgg3) ?_
      refine WL.op rfl (OW.lits (vs := [i64 (E[k]'hk).1.Block]) (evp_cons rfl evp_nil) Try.underlying22 Try.sizeOf3 Try.zeroValue3 ⟨rfl, trivial⟩ rfl rfl rfl ?_ (by decide))
      intro v9 w8 ho11 hx10
      have := World.grownBy.size hx10
      have ho1 := own_ext ho hx10
      refine WL.op rfl (OW.appendI ho1 (show Ints _ _ [(E[k]'hk).1.Block] from Row.of_own ho11) rfl rfl Try.underlying22 Try.type3 rfl rfl rfl rfl (by simp; omega) (World.grownBy.size (show Ext wb w8 from (Ext.trans hwL0 hx10))) ?_ (by decide))
      intro v13 w12 ho15 hx14 hmvhx14
      have ho2 := ho15
      refine WL.va rfl rfl rfl (X.assign rfl) ?_
      refine WL.nil ?_
      refine blk_n ?_
      refine thn_n ?_
      refine WF.region ?_
      refine WL.va rfl rfl rfl (X.moveI e4_L0) ?_
      refine WL.va rfl rfl rfl (X.add rfl rfl (w64 (by omega))) ?_
      refine WL.va rfl rfl rfl (X.assignI rfl) ?_
      refine WL.nil ?_
      exact thn_n ⟨_, (by omega), k + 1, _, rfl, rfl, rfl, (by repeat (first | exact hAL0 | refine Agree.put ?_ rfl | refine Agree.named hF5 ?_)), (Ext.own (Ext.trans hwL0 hx10) ho1 (Nat.le_refl _) hx14), ⟨by omega, by rw [take_map hk]; exact ho2⟩⟩
    · have gh0_6 := (of_decide_eq_false h0_6)
      refine WF.exit ?_
      refine thn_x ?_
      refine thn_x ?_
      refine blk_eq ?_
      refine thn_n ?_
      refine WF.seq ?_
      refine WF.region ?_
      refine WL.va rfl rfl rfl (X.move e3_L0) ?_
      refine WL.va rfl rfl rfl (X.assign rfl) ?_
      refine WL.nil ?_
      refine thn_n ?_
      refine WF.ret ?_
      refine fin_r ?_
      exact ⟨own_mono (by rw [List.take_of_length_le (by simp; omega)] at ho; exact ho) (World.grownBy.size (show Ext w wL0 from (Ext.trans hx2 hwL0)) |> fun _ => by omega), (Ext.trans hx2 hwL0)⟩

end Go.Proofs.Ythaojdpeimlngaa
