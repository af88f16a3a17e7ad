/- The walk of the reference's Put. -/
import Derived.Test.YthaojdpeimlngaaOpP
namespace Go.Proofs.Ythaojdpeimlngaa
open Go Go.RowKit Kf
set_option maxRecDepth 20000
theorem offL_flen (k : Int) : (offL k).length = (fieldL k).length := by rw [offL_fields, List.length_map]
theorem ref_snoc {o : Od} {j : Nat} (hj : j < (fieldL (o.g 0)).length) : flatN o.n ((offL (o.g 0)).take (j + 1)) = flatN o.n ((offL (o.g 0)).take j) ++ Pk.enc ((rowL o.n).getD (fieldL (o.g 0))[j] 0) := by
  rw [flatN_snoc (by rw [offL_flen]; exact hj), rowL_get _ (fieldL_lt (List.getElem_mem hj))]
  congr 3
  simp [offL_fields]

set_option maxHeartbeats 4000000 in
theorem putR_ok (vP vR vW vD : Value) (o : Od) (w : World) (h : OpAt w vP vR vW vD o) (hm : o.small) : FnOk Try.prog 13 [agg (oc o.n vP vR vW vD)] w (fun r w' => (∃ v, r = .tuple #[v, i64 (chk o)] ∧ (chk o = 0 → OwnB w' w.heap.size 5 v (obytes o)) ∧ (chk o ≠ 0 → v = .slice none 0 0)) ∧ Ext w w') := by
  have hm0 := hm
  obtain ⟨hmP, hmR, hmW, hmD, hmWD⟩ := hm
  obtain ⟨E, hE, rE, dE⟩ := h.W
  have hEl : E.length = o.W.length := by rw [← hE]; simp
  have hhl := headN_len o
  have hfl6 := fieldL_len (o.g 0)
  refine FnOk.enter (rs := [2, 3]) Try.func13 rfl Try.ntmps13 Try.results13 rfl rfl ?_
  refine WF.seq ?_
  refine WF.region ?_
  refine WL.op rfl (OW.boxA (cs := (oc o.n vP vR vW vD)) rfl ?_ (by decide))
  intro g1 w1 heg1 hlg1 hO1 hx3
  have := World.grownBy.size hx3
  refine WL.va rfl rfl rfl (X.assign rfl) ?_
  refine WL.va rfl rfl rfl (X.assignI rfl) ?_
  refine WL.nil ?_
  refine thn_n ?_
  refine WF.seq ?_
  refine WF.region ?_
  refine WL.va rfl rfl rfl (X.loadOA hO1 (Ext.refl _) rfl rfl Try.isAgg26 Try.sizeOf26) ?_
  refine WL.c rfl rfl rfl (X.call Try.call15 (evl_cons rfl evl_nil)) (checkR_ok vP vR vW vD o _ (h.ext hx3) hm0) ?_
  rintro v6 w5 ⟨rfl, hx7⟩
  have := World.grownBy.size hx7
  refine WL.va rfl rfl rfl (X.assignI rfl) ?_
  refine WL.nil ?_
  refine thn_n ?_
  refine WF.seq ?_
  refine WF.seq ?_
  refine WF.region ?_
  refine WL.va rfl rfl rfl (X.moveI rfl) ?_
  refine WL.va rfl rfl rfl (X.neq rfl rfl) ?_
  refine WL.nil ?_
  refine thn_n ?_
  refine WF.cond rfl (fun h0_8 => ?_) (fun h0_8 => ?_)
  · have gh0_8 := (of_decide_eq_true h0_8)
    refine WF.seq ?_
    refine WF.region ?_
    refine WL.va rfl rfl rfl (X.moveI rfl) ?_
    refine WL.va rfl rfl rfl (X.assign rfl) ?_
    refine WL.va rfl rfl rfl (X.assignI rfl) ?_
    refine WL.nil ?_
    refine thn_n ?_
    refine WF.ret ?_
    refine thn_r ?_
    refine fin_r ?_
    exact ⟨⟨_, rfl, fun q => absurd q (by assumption), fun _ => rfl⟩, (Ext.trans hx3 hx7)⟩
  · have gh0_8 := (Decidable.of_not_not (of_decide_eq_false h0_8))
    have hc0 : chk o = 0 := gh0_8
    obtain ⟨c0, c1, ⟨cP, cR, cW⟩, cD, c4, c5, c6⟩ := chk_ok hc0
    have hfw : ∀ k, (flatW ((E.map Prod.fst).take k)).length ≤ 160 := fun k => flatW_le k (by rw [hE]; exact c5) (by rw [hE]; exact cW)
    have hll := lists2_len o
    refine WF.skip ?_
    refine thn_n ?_
    refine WF.seq ?_
    refine WF.drawn (.q 0 (.q 1 (.q 3 (.q 4 (.q 6 (.q 7 (.l 2 (.l 5 (.l 8 (.q 9 .nil)))))))))) (fun w' => Ext w5 w') 10 (by kernel_rfl) (by kernel_rfl) (Ext.drew _) ?_
    have := World.grownBy.size (Ext.drew w5)
    refine WO.q rfl rfl rfl rfl (fun w' hE10 => (X.fieldAddrO (off := 0) rfl Try.underlying26 rfl rfl Try.sizeOf3)) ?_
    refine WO.q rfl rfl rfl rfl (fun w' hE10 => (X.loadO hO1 (Ext.trans hx7 hE10) rfl rfl Try.isAgg3)) ?_
    refine WO.q rfl rfl rfl rfl (fun w' hE10 => (X.fieldAddrO (off := 1) rfl Try.underlying26 rfl rfl Try.sizeOf3)) ?_
    refine WO.q rfl rfl rfl rfl (fun w' hE10 => (X.loadO hO1 (Ext.trans hx7 hE10) rfl rfl Try.isAgg3)) ?_
    refine WO.q rfl rfl rfl rfl (fun w' hE10 => (X.fieldAddrO (off := 2) rfl Try.underlying26 rfl rfl Try.sizeOf3)) ?_
    refine WO.q rfl rfl rfl rfl (fun w' hE10 => (X.loadO hO1 (Ext.trans hx7 hE10) rfl rfl Try.isAgg3)) ?_
    refine WO.l ?_
    refine LO.go rfl rfl (OW.enter rfl (by decide) (X.call Try.call38 (evl_cons rfl (evl_cons rfl evl_nil))) (refInt_ok _ [] _ _ (Bytes.nil _) (by decide)) ?_)
    rintro va1 wa1 ⟨oa1, hx11⟩
    have := World.grownBy.size hx11
    refine ⟨(Ext.trans (Ext.drew _) hx11), ?_⟩
    refine WO.l ?_
    refine LO.go rfl rfl (OW.enter rfl (by decide) (X.call Try.call38 (evl_cons rfl (evl_cons rfl evl_nil))) (refInt_ok _ _ _ _ (Row.ext (Row.of_own oa1) (Ext.refl wa1)) (by simp [Pk.enc_len])) ?_)
    rintro va2 wa2 ⟨oa2, hx12⟩
    have := World.grownBy.size hx12
    refine ⟨(Ext.trans (Ext.trans (Ext.drew _) hx11) hx12), ?_⟩
    refine WO.l ?_
    have hz3 := World.grownBy.size (show Ext w wa2 from (Ext.trans (Ext.trans (Ext.trans (Ext.trans hx3 hx7) (Ext.drew _)) hx11) hx12))
    refine LO.go rfl rfl (OW.enter rfl (by decide) (X.call Try.call38 (evl_cons rfl (evl_cons rfl evl_nil))) (refInt_ok _ _ _ _ (Row.ext (Row.of_own oa2) (Ext.refl wa2)) (by simp [Pk.enc_len])) ?_)
    rintro va3 wa3 ⟨oa3, hx13⟩
    have := World.grownBy.size hx13
    refine ⟨(Ext.trans (Ext.trans (Ext.trans (Ext.drew _) hx11) hx12) hx13), ?_⟩
    have ob0 : OwnB wa3 w.heap.size 5 va3 (head0 o.n) := own_mono (show OwnB wa3 _ 5 va3 (head0 o.n) from by rw [List.nil_append] at oa3; exact oa3) hz3
    refine WO.q rfl rfl rfl rfl (fun w' hE10 => (X.assign rfl)) ?_
    refine WO.nil ?_
    refine WL.nil ?_
    refine thn_n ?_
    refine WF.seq ?_
    refine WF.region ?_
    refine WL.va rfl rfl rfl (X.fieldAddrO (off := 0) rfl Try.underlying26 rfl rfl Try.sizeOf3) ?_
    refine WL.va rfl rfl rfl (X.loadO hO1 (Ext.trans (Ext.trans (Ext.trans (Ext.trans hx7 (Ext.drew _)) hx11) hx12) hx13) rfl rfl Try.isAgg3) ?_
    refine WL.c rfl rfl rfl (X.call Try.call39 (evl_cons rfl evl_nil)) (fields_ok (o.g 0) _) ?_
    rintro vf0 wf ⟨⟨vf, rfl, hvf⟩, hx14⟩
    have := World.grownBy.size hx14
    refine WL.va rfl rfl rfl (X.move rfl) ?_
    refine WL.va rfl rfl rfl (X.extract rfl rfl) ?_
    refine WL.va rfl rfl rfl (X.extract rfl rfl) ?_
    refine WL.va rfl rfl rfl (X.assign rfl) ?_
    refine WL.va rfl rfl rfl (X.assignB rfl) ?_
    refine WL.nil ?_
    refine thn_n ?_
    refine WF.seq ?_
    refine WF.seq ?_
    refine WF.region ?_
    refine WL.va rfl rfl rfl (X.assignI rfl) ?_
    refine WL.nil ?_
    refine thn_n ?_
    refine WF.block ?_
    refine WF.named (fun F16 hF17 => ?_)
    refine WF.loopN (fun mL0 f' w' => ∃ (i : Nat) (vb : Value), mL0 = (fieldL (o.g 0)).length - i ∧ f' 8 = .int .i64 (i : Int) ∧ f' 5 = vb ∧ Agree [0, 1, 2, 3, 4, 6, 10, 11, 12, 13, 15, 16, 17, 18, 19, 20, 21, 22, 23, 24, 25, 26, 27, 28, 29] f' F16 ∧ Ext wf w' ∧ i ≤ (fieldL (o.g 0)).length ∧ OwnB w' w.heap.size 5 vb (head0 o.n ++ flatN o.n ((offL (o.g 0)).take i))) ?_ ?_
    · exact ⟨_, 0, _, rfl, (congrFun hF17 8), (congrFun hF17 5), (Agree.refl _ _), (Ext.refl _), ⟨Nat.zero_le _, by rw [List.take_zero]; show OwnB _ _ _ _ (_ ++ []); rw [List.append_nil]; exact own_ext ob0 hx14⟩⟩
    · rintro mL0 fL0 wL0 ⟨i, vb, hmL0, e8_L0, e5_L0, hAL0, hwL0, ⟨hi0, ob⟩⟩
      have := World.grownBy.size hwL0
      refine WF.seq ?_
      refine WF.seq ?_
      refine WF.region ?_
      refine WL.va rfl rfl rfl (X.moveI e8_L0) ?_
      refine WL.va rfl rfl rfl (X.move ((hAL0.eq 6).trans (congrFun hF17 6))) ?_
      refine WL.va rfl rfl rfl (X.len hvf rfl Try.underlying22) ?_
      refine WL.va rfl rfl rfl (X.lss rfl rfl) ?_
      refine WL.nil ?_
      refine thn_n ?_
      refine WF.cond rfl (fun h1_18 => ?_) (fun h1_18 => ?_)
      · have gh1_18 := (of_decide_eq_true h1_18)
        have hi : i < (fieldL (o.g 0)).length := by have hq := gh1_18; simp only [List.length_map] at hq; omega
        refine WF.skip ?_
        refine thn_n ?_
        refine WF.seq ?_
        refine WF.block ?_
        refine WF.drawn (.q 0 (.q 1 (.q 3 (.q 4 (.q 5 (.q 6 (.l 2 (.q 7 (.l 8 (.l 9 (.q 10 .nil))))))))))) (fun w' => Ext wL0 w') 11 (by kernel_rfl) (by kernel_rfl) (Ext.drew _) ?_
        have := World.grownBy.size (Ext.drew wL0)
        refine WO.q rfl rfl rfl rfl (fun w' hE20 => (X.move e5_L0)) ?_
        refine WO.q rfl rfl rfl rfl (fun w' hE20 => (X.loadOA hO1 (Ext.trans (Ext.trans (Ext.trans (Ext.trans (Ext.trans (Ext.trans (Ext.trans hx7 (Ext.drew _)) hx11) hx12) hx13) hx14) hwL0) hE20) ((hAL0.eq 1).trans (congrFun hF17 1)) rfl Try.isAgg26 Try.sizeOf26)) ?_
        refine WO.q rfl rfl rfl rfl (fun w' hE20 => (X.move ((hAL0.eq 6).trans (congrFun hF17 6)))) ?_
        refine WO.q rfl rfl rfl rfl (fun w' hE20 => (X.moveI e8_L0)) ?_
        refine WO.q rfl rfl rfl rfl (fun w' hE20 => (X.idx hvf rfl rfl (by rw [List.length_map]; exact hi) Try.underlying22 Try.sizeOf3)) ?_
        refine WO.q rfl rfl rfl rfl (fun w' hE20 => (((X.loadI hvf (Ext.trans hwL0 hE20) rfl (by rw [List.length_map]; exact hi) Try.isAgg3)).trans (by rw [fints_get hi]))) ?_
        refine WO.l ?_
        refine LO.go rfl rfl (OW.enter rfl (by decide) (X.call Try.call40 (evl_cons rfl evl_nil)) (row_ok vP vR vW vD o _ (h.ext (Ext.trans (Ext.trans (Ext.trans (Ext.trans (Ext.trans (Ext.trans (Ext.trans (Ext.trans hx3 hx7) (Ext.drew _)) hx11) hx12) hx13) hx14) hwL0) (Ext.drew _))) hm0) ?_)
        rintro vrow w21 ⟨orow, hx22⟩
        have := World.grownBy.size hx22
        refine ⟨(Ext.trans (Ext.drew _) hx22), ?_⟩
        refine WO.q rfl rfl rfl rfl (fun w' hE20 => (X.idx orow rfl rfl (fieldL_lt (List.getElem_mem hi)) Try.underlying22 Try.sizeOf3)) ?_
        refine WO.l ?_
        refine LO.go rfl rfl (OW.val rfl (by decide) (X.loadI orow (Ext.refl _) rfl (fieldL_lt (List.getElem_mem hi)) Try.isAgg3) ?_)
        refine ⟨(Ext.trans (Ext.drew _) hx22), ?_⟩
        refine WO.l ?_
        have hz6 := World.grownBy.size (show Ext w w21 from (Ext.trans (Ext.trans (Ext.trans (Ext.trans (Ext.trans (Ext.trans (Ext.trans (Ext.trans (Ext.trans hx3 hx7) (Ext.drew _)) hx11) hx12) hx13) hx14) hwL0) (Ext.drew _)) hx22))
        refine LO.go rfl rfl (OW.enter rfl (by decide) (X.call Try.call38 (evl_cons rfl (evl_cons rfl evl_nil))) (refInt_ok _ _ _ _ (Row.ext (Row.of_own ob) (Ext.trans (Ext.drew _) hx22)) (by simp only [List.length_append, head0_len, flatN_len, List.length_take]; rw [offL_flen]; omega)) ?_)
        rintro vb6 w23 ⟨ob6, hx24⟩
        have := World.grownBy.size hx24
        refine ⟨(Ext.trans (Ext.trans (Ext.drew _) hx22) hx24), ?_⟩
        refine WO.q rfl rfl rfl rfl (fun w' hE20 => (X.assign rfl)) ?_
        refine WO.nil ?_
        refine WL.nil ?_
        refine blk_n ?_
        refine thn_n ?_
        refine WF.region ?_
        refine WL.va rfl rfl rfl (X.moveI e8_L0) ?_
        refine WL.va rfl rfl rfl (X.add rfl rfl (w64 (by omega))) ?_
        refine WL.va rfl rfl rfl (X.assignI rfl) ?_
        refine WL.nil ?_
        exact thn_n ⟨_, (by omega), i + 1, _, rfl, rfl, rfl, (by repeat (first | exact hAL0 | refine Agree.put ?_ rfl | refine Agree.named hF17 ?_)), (Ext.trans (Ext.trans (Ext.trans hwL0 (Ext.drew _)) hx22) hx24), ⟨by omega, by rw [ref_snoc hi, ← List.append_assoc]; exact own_mono ob6 hz6⟩⟩
      · have gh1_18 := (of_decide_eq_false h1_18)
        have obN : OwnB wL0 w.heap.size 5 vb (headN o) := by
          rw [List.take_of_length_le (by rw [offL_flen]; have hq := gh1_18; simp only [List.length_map] at hq; omega)] at ob
          exact ob
        refine WF.exit ?_
        refine thn_x ?_
        refine thn_x ?_
        refine blk_eq ?_
        refine thn_n ?_
        refine WF.named (fun F25 hF26 => ?_)
        refine WF.cut (fun f' w' => ∃ (vc : Value), f' 5 = vc ∧ Agree [0, 1, 2, 3, 4, 6, 8, 10, 11, 12, 13, 15, 16, 17, 18, 19, 20, 21, 22, 23, 24, 25, 26, 27, 28, 29, 30, 31, 32, 33] f' F25 ∧ Ext wL0 w' ∧ OwnB w' w.heap.size 5 vc (headN o ++ (if o.g 0 = 2 then lists2 o ++ flatW o.W else []))) ?_ ?_
        · refine WF.seq ?_
          refine WF.region ?_
          refine WL.va rfl rfl rfl (X.fieldAddrO (off := 0) ((congrFun hF26 1).trans ((hAL0.eq 1).trans (congrFun hF17 1))) Try.underlying26 rfl rfl Try.sizeOf3) ?_
          refine WL.va rfl rfl rfl (X.loadO hO1 (Ext.trans (Ext.trans (Ext.trans (Ext.trans (Ext.trans (Ext.trans hx7 (Ext.drew _)) hx11) hx12) hx13) hx14) hwL0) rfl rfl Try.isAgg3) ?_
          refine WL.va rfl rfl rfl (X.eql rfl rfl) ?_
          refine WL.nil ?_
          refine thn_n ?_
          refine WF.cond rfl (fun h2_27 => ?_) (fun h2_27 => ?_)
          · have gh2_27 := (of_decide_eq_true h2_27)
            have hk2 : o.g 0 = 2 := gh2_27
            refine WF.seq ?_
            refine WF.drawn (.q 0 (.q 1 (.q 2 (.q 4 (.q 5 (.q 7 (.q 8 (.q 9 (.l 3 (.l 6 (.l 10 (.q 11 .nil)))))))))))) (fun w' => Ext wL0 w') 12 (by kernel_rfl) (by kernel_rfl) (Ext.drew _) ?_
            have := World.grownBy.size (Ext.drew wL0)
            refine WO.q rfl rfl rfl rfl (fun w' hE29 => (X.move ((congrFun hF26 5).trans e5_L0))) ?_
            refine WO.q rfl rfl rfl rfl (fun w' hE29 => (X.fieldAddrO (off := 13) ((congrFun hF26 1).trans ((hAL0.eq 1).trans (congrFun hF17 1))) Try.underlying26 rfl rfl Try.sizeOf22)) ?_
            refine WO.q rfl rfl rfl rfl (fun w' hE29 => (X.loadO hO1 (Ext.trans (Ext.trans (Ext.trans (Ext.trans (Ext.trans (Ext.trans (Ext.trans hx7 (Ext.drew _)) hx11) hx12) hx13) hx14) hwL0) hE29) rfl rfl Try.isAgg22)) ?_
            refine WO.q rfl rfl rfl rfl (fun w' hE29 => (X.fieldAddrO (off := 14) ((congrFun hF26 1).trans ((hAL0.eq 1).trans (congrFun hF17 1))) Try.underlying26 rfl rfl Try.sizeOf22)) ?_
            refine WO.q rfl rfl rfl rfl (fun w' hE29 => (X.loadO hO1 (Ext.trans (Ext.trans (Ext.trans (Ext.trans (Ext.trans (Ext.trans (Ext.trans hx7 (Ext.drew _)) hx11) hx12) hx13) hx14) hwL0) hE29) rfl rfl Try.isAgg22)) ?_
            refine WO.q rfl rfl rfl rfl (fun w' hE29 => (X.fieldAddrO (off := 15) ((congrFun hF26 1).trans ((hAL0.eq 1).trans (congrFun hF17 1))) Try.underlying26 rfl rfl Try.sizeOf23)) ?_
            refine WO.q rfl rfl rfl rfl (fun w' hE29 => (X.loadO hO1 (Ext.trans (Ext.trans (Ext.trans (Ext.trans (Ext.trans (Ext.trans (Ext.trans hx7 (Ext.drew _)) hx11) hx12) hx13) hx14) hwL0) hE29) rfl rfl Try.isAgg23)) ?_
            refine WO.q rfl rfl rfl rfl (fun w' hE29 => (X.len rE rfl Try.underlying23)) ?_
            refine WO.l ?_
            refine LO.go rfl rfl (OW.enter rfl (by decide) (X.call Try.call41 (evl_cons rfl (evl_cons rfl evl_nil))) (refInts_ok _ (headN o) _ o.P _ (Row.ext (Row.of_own obN) (Ext.drew _)) (Row.ext h.P (Ext.trans (Ext.trans (Ext.trans (Ext.trans (Ext.trans (Ext.trans (Ext.trans (Ext.trans hx3 hx7) (Ext.drew _)) hx11) hx12) hx13) hx14) hwL0) (Ext.drew _))) (by omega)) ?_)
            rintro vc1 wc1 ⟨oc1, hx30⟩
            have := World.grownBy.size hx30
            refine ⟨(Ext.trans (Ext.drew _) hx30), ?_⟩
            refine WO.l ?_
            refine LO.go rfl rfl (OW.enter rfl (by decide) (X.call Try.call41 (evl_cons rfl (evl_cons rfl evl_nil))) (refInts_ok _ _ _ o.R _ (Row.ext (Row.of_own oc1) (Ext.refl wc1)) (Row.ext h.R (Ext.trans (Ext.trans (Ext.trans (Ext.trans (Ext.trans (Ext.trans (Ext.trans (Ext.trans (Ext.trans hx3 hx7) (Ext.drew _)) hx11) hx12) hx13) hx14) hwL0) (Ext.drew _)) hx30)) (by rw [List.length_append, pints_len]; omega)) ?_)
            rintro vc2 wc2 ⟨oc2, hx31⟩
            have := World.grownBy.size hx31
            refine ⟨(Ext.trans (Ext.trans (Ext.drew _) hx30) hx31), ?_⟩
            refine WO.l ?_
            have hz9 := World.grownBy.size (show Ext w wc2 from (Ext.trans (Ext.trans (Ext.trans (Ext.trans (Ext.trans (Ext.trans (Ext.trans (Ext.trans (Ext.trans (Ext.trans hx3 hx7) (Ext.drew _)) hx11) hx12) hx13) hx14) hwL0) (Ext.drew _)) hx30) hx31))
            refine LO.go rfl rfl (OW.enter rfl (by decide) (X.call Try.call38 (evl_cons rfl (evl_cons rfl evl_nil))) (refInt_ok _ _ _ _ (Row.ext (Row.of_own oc2) (Ext.refl wc2)) (by rw [List.length_append, List.length_append, pints_len, pints_len]; omega)) ?_)
            rintro vc3 wc3 ⟨oc3, hx32⟩
            have := World.grownBy.size hx32
            refine ⟨(Ext.trans (Ext.trans (Ext.trans (Ext.drew _) hx30) hx31) hx32), ?_⟩
            have obk0 : OwnB wc3 w.heap.size 5 vc3 (headN o ++ lists2 o) := own_mono (by rw [hEl, List.append_assoc, List.append_assoc, ← List.append_assoc (Pk.ints o.P)] at oc3; exact oc3) hz9
            refine WO.q rfl rfl rfl rfl (fun w' hE29 => (X.assign rfl)) ?_
            refine WO.nil ?_
            refine WL.nil ?_
            refine thn_n ?_
            refine WF.seq ?_
            refine WF.region ?_
            refine WL.va rfl rfl rfl (X.assignI rfl) ?_
            refine WL.nil ?_
            refine thn_n ?_
            refine WF.block ?_
            refine WF.named (fun F33 hF34 => ?_)
            refine WF.loopN (fun mL1 f' w' => ∃ (k : Nat) (vk : Value), mL1 = E.length - k ∧ f' 9 = .int .i64 (k : Int) ∧ f' 5 = vk ∧ Agree [0, 1, 2, 3, 4, 6, 8, 10, 11, 12, 13, 15, 16, 17, 18, 19, 20, 21, 22, 23, 24, 25, 26, 27, 28, 29, 30, 31, 32, 33, 46, 47, 48, 49, 50, 51, 52, 53, 54, 55, 56, 57, 58, 59] f' F33 ∧ Ext wc3 w' ∧ k ≤ E.length ∧ OwnB w' w.heap.size 5 vk (headN o ++ lists2 o ++ flatW ((E.map Prod.fst).take k))) ?_ ?_
            · exact ⟨_, 0, _, rfl, (congrFun hF34 9), (congrFun hF34 5), (Agree.refl _ _), (Ext.refl _), ⟨Nat.zero_le _, by rw [List.take_zero]; show OwnB _ _ _ _ (_ ++ []); rw [List.append_nil]; exact own_ext obk0 (Ext.refl wc3)⟩⟩
            · rintro mL1 fL1 wL1 ⟨k, vk, hmL1, e9_L1, e5_L1, hAL1, hwL1, ⟨hk0, obk⟩⟩
              have := World.grownBy.size hwL1
              refine WF.seq ?_
              refine WF.seq ?_
              refine WF.region ?_
              refine WL.va rfl rfl rfl (X.moveI e9_L1) ?_
              refine WL.va rfl rfl rfl (X.fieldAddrO (off := 15) ((hAL1.eq 1).trans ((congrFun hF34 1).trans ((congrFun hF26 1).trans ((hAL0.eq 1).trans (congrFun hF17 1))))) Try.underlying26 rfl rfl Try.sizeOf23) ?_
              refine WL.va rfl rfl rfl (X.loadO hO1 (Ext.trans (Ext.trans (Ext.trans (Ext.trans (Ext.trans (Ext.trans (Ext.trans (Ext.trans (Ext.trans (Ext.trans (Ext.trans hx7 (Ext.drew _)) hx11) hx12) hx13) hx14) hwL0) (Ext.drew _)) hx30) hx31) hx32) hwL1) rfl rfl Try.isAgg23) ?_
              refine WL.va rfl rfl rfl (X.len rE rfl Try.underlying23) ?_
              refine WL.va rfl rfl rfl (X.lss rfl rfl) ?_
              refine WL.nil ?_
              refine thn_n ?_
              refine WF.cond rfl (fun h3_35 => ?_) (fun h3_35 => ?_)
              · have gh3_35 := (of_decide_eq_true h3_35)
                have hk : k < E.length := by omega
                have hd4 : (E[k]'hk).1.Data.length = 4 := c5 _ (hE ▸ List.mem_map.2 ⟨_, List.getElem_mem hk, rfl⟩)
                refine WF.skip ?_
                refine thn_n ?_
                refine WF.seq ?_
                refine WF.block ?_
                refine WF.drawn (.q 0 (.q 1 (.q 2 (.q 3 (.q 4 (.q 5 (.q 6 (.q 8 (.q 9 (.q 10 (.q 11 (.q 12 (.q 13 (.l 7 (.l 14 (.q 15 .nil)))))))))))))))) (fun w' => Ext wL1 w') 16 (by kernel_rfl) (by kernel_rfl) (Ext.drew _) ?_
                have := World.grownBy.size (Ext.drew wL1)
                refine WO.q rfl rfl rfl rfl (fun w' hE37 => (X.move e5_L1)) ?_
                refine WO.q rfl rfl rfl rfl (fun w' hE37 => (X.fieldAddrO (off := 15) ((hAL1.eq 1).trans ((congrFun hF34 1).trans ((congrFun hF26 1).trans ((hAL0.eq 1).trans (congrFun hF17 1))))) Try.underlying26 rfl rfl Try.sizeOf23)) ?_
                refine WO.q rfl rfl rfl rfl (fun w' hE37 => (X.loadO hO1 (Ext.trans (Ext.trans (Ext.trans (Ext.trans (Ext.trans (Ext.trans (Ext.trans (Ext.trans (Ext.trans (Ext.trans (Ext.trans (Ext.trans hx7 (Ext.drew _)) hx11) hx12) hx13) hx14) hwL0) (Ext.drew _)) hx30) hx31) hx32) hwL1) hE37) rfl rfl Try.isAgg23)) ?_
                refine WO.q rfl rfl rfl rfl (fun w' hE37 => (X.moveI e9_L1)) ?_
                refine WO.q rfl rfl rfl rfl (fun w' hE37 => (X.idx rE rfl rfl hk Try.underlying23 Try.sizeOf52)) ?_
                refine WO.q rfl rfl rfl rfl (fun w' hE37 => (X.fieldAddrA rfl Try.underlying52 rfl rfl Try.sizeOf3)) ?_
                refine WO.q rfl rfl rfl rfl (fun w' hE37 => (X.loadE rE (Ext.trans (Ext.trans (Ext.trans (Ext.trans (Ext.trans (Ext.trans (Ext.trans (Ext.trans (Ext.trans (Ext.trans (Ext.trans (Ext.trans (Ext.trans hx3 hx7) (Ext.drew _)) hx11) hx12) hx13) hx14) hwL0) (Ext.drew _)) hx30) hx31) hx32) hwL1) hE37) rfl hk ((WRow.get hk (by decide)).trans rfl) Try.isAgg3)) ?_
                refine WO.q rfl rfl rfl rfl (fun w' hE37 => (X.fieldAddrO (off := 15) ((hAL1.eq 1).trans ((congrFun hF34 1).trans ((congrFun hF26 1).trans ((hAL0.eq 1).trans (congrFun hF17 1))))) Try.underlying26 rfl rfl Try.sizeOf23)) ?_
                refine WO.q rfl rfl rfl rfl (fun w' hE37 => (X.loadO hO1 (Ext.trans (Ext.trans (Ext.trans (Ext.trans (Ext.trans (Ext.trans (Ext.trans (Ext.trans (Ext.trans (Ext.trans (Ext.trans (Ext.trans hx7 (Ext.drew _)) hx11) hx12) hx13) hx14) hwL0) (Ext.drew _)) hx30) hx31) hx32) hwL1) hE37) rfl rfl Try.isAgg23)) ?_
                refine WO.q rfl rfl rfl rfl (fun w' hE37 => (X.moveI e9_L1)) ?_
                refine WO.q rfl rfl rfl rfl (fun w' hE37 => (X.idx rE rfl rfl hk Try.underlying23 Try.sizeOf52)) ?_
                refine WO.q rfl rfl rfl rfl (fun w' hE37 => (X.fieldAddrA rfl Try.underlying52 rfl rfl Try.sizeOf24)) ?_
                refine WO.q rfl rfl rfl rfl (fun w' hE37 => (X.loadE rE (Ext.trans (Ext.trans (Ext.trans (Ext.trans (Ext.trans (Ext.trans (Ext.trans (Ext.trans (Ext.trans (Ext.trans (Ext.trans (Ext.trans (Ext.trans hx3 hx7) (Ext.drew _)) hx11) hx12) hx13) hx14) hwL0) (Ext.drew _)) hx30) hx31) hx32) hwL1) hE37) rfl hk ((WRow.get hk (by decide)).trans rfl) Try.isAgg24)) ?_
                refine WO.l ?_
                refine LO.go rfl rfl (OW.enter rfl (by decide) (X.call Try.call38 (evl_cons rfl (evl_cons rfl evl_nil))) (refInt_ok _ _ _ _ (Row.ext (Row.of_own obk) (Ext.drew _)) (by have := hfw k; simp only [List.length_append]; omega)) ?_)
                rintro vd1 wd1 ⟨od1, hx38⟩
                have := World.grownBy.size hx38
                refine ⟨(Ext.trans (Ext.drew _) hx38), ?_⟩
                refine WO.l ?_
                have hz11 := World.grownBy.size (show Ext w wd1 from (Ext.trans (Ext.trans (Ext.trans (Ext.trans (Ext.trans (Ext.trans (Ext.trans (Ext.trans (Ext.trans (Ext.trans (Ext.trans (Ext.trans (Ext.trans (Ext.trans hx3 hx7) (Ext.drew _)) hx11) hx12) hx13) hx14) hwL0) (Ext.drew _)) hx30) hx31) hx32) hwL1) (Ext.drew _)) hx38))
                refine LO.go rfl rfl (OW.enter rfl (by decide) (X.call Try.call42 (evl_cons rfl (evl_cons rfl evl_nil))) (refBlob_ok _ _ _ (E[k]'hk).1.Data _ (Row.ext (Row.of_own od1) (Ext.refl wd1)) (Row.ext (dE _ (List.getElem_mem hk)) (Ext.trans (Ext.trans (Ext.trans (Ext.trans (Ext.trans (Ext.trans (Ext.trans (Ext.trans (Ext.trans (Ext.trans (Ext.trans (Ext.trans (Ext.trans (Ext.trans hx3 hx7) (Ext.drew _)) hx11) hx12) hx13) hx14) hwL0) (Ext.drew _)) hx30) hx31) hx32) hwL1) (Ext.drew _)) hx38)) (by have := hfw k; simp only [List.length_append, Pk.enc_len]; omega)) ?_)
                rintro vd2 wd2 ⟨od2, hx39⟩
                have := World.grownBy.size hx39
                refine ⟨(Ext.trans (Ext.trans (Ext.drew _) hx38) hx39), ?_⟩
                refine WO.q rfl rfl rfl rfl (fun w' hE37 => (X.assign rfl)) ?_
                refine WO.nil ?_
                refine WL.nil ?_
                refine blk_n ?_
                refine thn_n ?_
                refine WF.region ?_
                refine WL.va rfl rfl rfl (X.moveI e9_L1) ?_
                refine WL.va rfl rfl rfl (X.add rfl rfl (w64 (by omega))) ?_
                refine WL.va rfl rfl rfl (X.assignI rfl) ?_
                refine WL.nil ?_
                exact thn_n ⟨_, (by omega), k + 1, _, rfl, rfl, rfl, (by repeat (first | exact hAL1 | refine Agree.put ?_ rfl | refine Agree.sub hAL0 rfl ?_ | refine Agree.named hF34 ?_ | refine Agree.named hF26 ?_ | refine Agree.named hF17 ?_)), (Ext.trans (Ext.trans (Ext.trans hwL1 (Ext.drew _)) hx38) hx39), ⟨by omega, by rw [flatW_snoc hk, ← List.append_assoc, ← List.append_assoc]; exact own_mono od2 hz11⟩⟩
              · have gh3_35 := (of_decide_eq_false h3_35)
                have obX : OwnB wL1 w.heap.size 5 vk (headN o ++ (if o.g 0 = 2 then lists2 o ++ flatW o.W else [])) := by
                  rw [if_pos hk2, ← List.append_assoc]
                  rw [List.take_of_length_le (by simp; omega), hE] at obk
                  exact obk
                refine WF.exit ?_
                refine thn_x ?_
                refine thn_x ?_
                refine blk_eq ?_
                refine thn_n ?_
                exact ⟨_, e5_L1, (by repeat (first | exact (Agree.refl _ F25) | refine Agree.put ?_ rfl | refine Agree.sub hAL1 rfl ?_ | refine Agree.sub hAL0 rfl ?_ | refine Agree.named hF34 ?_ | refine Agree.named hF26 ?_ | refine Agree.named hF17 ?_)), (Ext.trans (Ext.trans (Ext.trans (Ext.trans (Ext.drew _) hx30) hx31) hx32) hwL1), obX⟩
          · have gh2_27 := (of_decide_eq_false h2_27)
            have hk2 : o.g 0 ≠ 2 := gh2_27
            have obX : OwnB wL0 w.heap.size 5 vb (headN o ++ (if o.g 0 = 2 then lists2 o ++ flatW o.W else [])) := by rw [if_neg hk2, List.append_nil]; exact obN
            refine WF.skip ?_
            refine thn_n ?_
            exact ⟨_, ((congrFun hF26 5).trans e5_L0), (by repeat (first | exact (Agree.refl _ F25) | refine Agree.put ?_ rfl | refine Agree.sub hAL0 rfl ?_ | refine Agree.named hF26 ?_ | refine Agree.named hF17 ?_)), (Ext.refl _), obX⟩
        · rintro fCs10 wCs10 ⟨vc, e5_Cs10, hACs10, hwCs10, obC⟩
          have := World.grownBy.size hwCs10
          refine WF.seq ?_
          refine WF.seq ?_
          refine WF.region ?_
          refine WL.va rfl rfl rfl (X.fieldAddrO (off := 0) ((hACs10.eq 1).trans ((congrFun hF26 1).trans ((hAL0.eq 1).trans (congrFun hF17 1)))) Try.underlying26 rfl rfl Try.sizeOf3) ?_
          refine WL.va rfl rfl rfl (X.loadO hO1 (Ext.trans (Ext.trans (Ext.trans (Ext.trans (Ext.trans (Ext.trans (Ext.trans hx7 (Ext.drew _)) hx11) hx12) hx13) hx14) hwL0) hwCs10) rfl rfl Try.isAgg3) ?_
          refine WL.va rfl rfl rfl (X.eql rfl rfl) ?_
          refine WL.nil ?_
          refine thn_n ?_
          refine WF.cond rfl (fun h4_40 => ?_) (fun h4_40 => ?_)
          · have gh4_40 := (of_decide_eq_true h4_40)
            have hk6 : o.g 0 = 6 := gh4_40
            have obQ : OwnB wCs10 w.heap.size 5 vc (headN o) := by rw [if_neg (by omega), List.append_nil] at obC; exact obC
            refine WF.region ?_
            refine WL.va rfl rfl rfl (X.move e5_Cs10) ?_
            refine WL.va rfl rfl rfl (X.fieldAddrO (off := 16) ((hACs10.eq 1).trans ((congrFun hF26 1).trans ((hAL0.eq 1).trans (congrFun hF17 1)))) Try.underlying26 rfl rfl Try.sizeOf24) ?_
            refine WL.va rfl rfl rfl (X.loadO hO1 (Ext.trans (Ext.trans (Ext.trans (Ext.trans (Ext.trans (Ext.trans (Ext.trans hx7 (Ext.drew _)) hx11) hx12) hx13) hx14) hwL0) hwCs10) rfl rfl Try.isAgg24) ?_
            have hz12 := World.grownBy.size (show Ext w wCs10 from (Ext.trans (Ext.trans (Ext.trans (Ext.trans (Ext.trans (Ext.trans (Ext.trans (Ext.trans hx3 hx7) (Ext.drew _)) hx11) hx12) hx13) hx14) hwL0) hwCs10))
            refine WL.c rfl rfl rfl (X.call Try.call42 (evl_cons rfl (evl_cons rfl evl_nil))) (refBlob_ok _ (headN o) _ o.D _ (Row.ext (Row.of_own obQ) (Ext.refl wCs10)) (Row.ext h.D (Ext.trans (Ext.trans (Ext.trans (Ext.trans (Ext.trans (Ext.trans (Ext.trans (Ext.trans hx3 hx7) (Ext.drew _)) hx11) hx12) hx13) hx14) hwL0) hwCs10)) (by omega)) ?_
            rintro ve1 w42 ⟨oe1, hx43⟩
            have := World.grownBy.size hx43
            have ofin : OwnB w42 w.heap.size 5 ve1 (obytes o) := by
              rw [obytes6 hk6]
              exact own_mono oe1 hz12
            refine WL.va rfl rfl rfl (X.assign rfl) ?_
            refine WL.nil ?_
            refine thn_n ?_
            refine WF.seq ?_
            refine WF.region ?_
            refine WL.va rfl rfl rfl (X.move rfl) ?_
            refine WL.va rfl rfl rfl (X.assign rfl) ?_
            refine WL.va rfl rfl rfl (X.assignI rfl) ?_
            refine WL.nil ?_
            refine thn_n ?_
            refine WF.ret ?_
            refine fin_r ?_
            refine ⟨?_, (Ext.trans (Ext.trans (Ext.trans (Ext.trans (Ext.trans (Ext.trans (Ext.trans (Ext.trans (Ext.trans hx3 hx7) (Ext.drew _)) hx11) hx12) hx13) hx14) hwL0) hwCs10) hx43)⟩
            rw [hc0]
            exact ⟨_, rfl, fun _ => ofin, fun q => absurd rfl q⟩
          · have gh4_40 := (of_decide_eq_false h4_40)
            have hk6 : o.g 0 ≠ 6 := gh4_40
            have ofin : OwnB wCs10 w.heap.size 5 vc (obytes o) := by unfold obytes; rw [if_neg hk6]; exact obC
            refine WF.skip ?_
            refine thn_n ?_
            refine WF.seq ?_
            refine WF.region ?_
            refine WL.va rfl rfl rfl (X.move e5_Cs10) ?_
            refine WL.va rfl rfl rfl (X.assign rfl) ?_
            refine WL.va rfl rfl rfl (X.assignI rfl) ?_
            refine WL.nil ?_
            refine thn_n ?_
            refine WF.ret ?_
            refine fin_r ?_
            refine ⟨?_, (Ext.trans (Ext.trans (Ext.trans (Ext.trans (Ext.trans (Ext.trans (Ext.trans (Ext.trans hx3 hx7) (Ext.drew _)) hx11) hx12) hx13) hx14) hwL0) hwCs10)⟩
            rw [hc0]
            exact ⟨_, rfl, fun _ => ofin, fun q => absurd rfl q⟩

end Go.Proofs.Ythaojdpeimlngaa
