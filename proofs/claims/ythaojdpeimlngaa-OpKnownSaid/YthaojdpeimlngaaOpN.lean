/- The walk of numbers: all numbers that a kind has, one by one. -/
import Derived.Test.YthaojdpeimlngaaPackQ
import Derived.Test.YthaojdpeimlngaaOp
import Derived.Test.YthaojdpeimlngaaIn
namespace Go.Proofs.Ythaojdpeimlngaa
open Go Go.RowKit Kf
set_option maxRecDepth 20000
theorem pts_getD {g : Nat} {L : List Nat} {j : Nat} (h : j < L.length) : (pts g L).getD j undef = .pointer (some ⟨g, L[j], none⟩) := by
  rw [List.getD_eq_getElem?_getD, pts_get h]; rfl
theorem chg_ext {w w' : World} {B T : Nat} (h : Ext w w') : Chg B T w w' := Chg.of h (fun g e => by cases e)

set_option maxHeartbeats 2000000 in
theorem numbers_ok (g : Nat) (cs : List Value) (kd : Int) (cv : Value) (w : World) (I : Nat → World → Prop) (hO : Blk w g 26 cs) (hk0 : cs[0]? = some (i64 kd)) (h0 : I 0 w) (hI : ∀ j w1 w2, I j w1 → Ext w1 w2 → I j w2)
    (hstep : ∀ L, offs kd = some L → ∀ j w1, (hj : j < L.length) → I j w1 → Chg 0 w.heap.size w w1 → CloOk Try.prog cv [.pointer (some ⟨g, L[j], none⟩)] w1 (fun _ w2 => I (j + 1) w2 ∧ Chg 0 w.heap.size w1 w2)) :
    FnOk Try.prog 34 [at_ g, cv] w (fun r w' => r = .bool (offs kd).isSome ∧ (∀ L, offs kd = some L → I L.length w') ∧ (offs kd = none → Ext w w') ∧ Chg 0 w.heap.size w w') := by
  refine FnOk.enter (rs := [4]) Try.func34 rfl Try.ntmps34 Try.results34 rfl rfl ?_
  refine WF.seq ?_
  refine WF.region ?_
  refine WL.va rfl rfl rfl (X.assignB rfl) ?_
  refine WL.nil ?_
  refine thn_n ?_
  refine WF.seq ?_
  refine WF.region ?_
  refine WL.va rfl rfl rfl (X.assign rfl) ?_
  refine WL.nil ?_
  refine thn_n ?_
  refine WF.named (fun F2 hF3 => ?_)
  refine WF.cut (fun f' w' => ∃ (vl : Value) (L : List Nat), f' 5 = vl ∧ Agree [0, 1] f' F2 ∧ Ext w w' ∧ offs kd = some L ∧ w'.ownsRow w.heap.size 61 1 vl L.length (pts g L)) ?_ ?_
  · refine WF.seq ?_
    refine WF.region ?_
    refine WL.va rfl rfl rfl (X.move (congrFun hF3 0)) ?_
    refine WL.va rfl rfl rfl (X.nilCheck rfl) ?_
    refine WL.va rfl rfl rfl (X.fieldAddrO (off := 0) rfl Try.underlying26 rfl rfl Try.sizeOf3) ?_
    refine WL.va rfl rfl rfl (X.loadO hO (Ext.refl _) rfl hk0 Try.isAgg3) ?_
    refine WL.nil ?_
    refine thn_n ?_
    refine WF.block ?_
    refine WF.seq ?_
    refine WF.region ?_
    refine WL.va rfl rfl rfl (X.eql rfl rfl) ?_
    refine WL.va rfl rfl rfl (X.assignB rfl) ?_
    refine WL.nil ?_
    refine thn_n ?_
    refine WF.cond rfl (fun h0_4 => ?_) (fun h0_4 => ?_)
    · have gh0_4 := (of_decide_eq_true h0_4)
      have hkd := gh0_4
      have hLk : offs kd = some [3, 4, 5, 8] := by rw [hkd]; rfl
      refine WF.drawn (.q 0 (.q 1 (.q 2 (.q 3 (.q 4 (.q 5 (.q 6 (.q 7 (.q 8 (.q 9 (.q 10 (.q 11 (.l 12 (.q 13 .nil)))))))))))))) (fun w' => Ext w w') 14 (by kernel_rfl) (by kernel_rfl) (Ext.drew _) ?_
      have := World.grownBy.size (Ext.drew w)
      refine WO.q rfl rfl rfl rfl (fun w' hE6 => (X.move (congrFun hF3 0))) ?_
      refine WO.q rfl rfl rfl rfl (fun w' hE6 => (X.nilCheck rfl)) ?_
      refine WO.q rfl rfl rfl rfl (fun w' hE6 => (X.fieldAddrO (off := 3) rfl Try.underlying26 rfl rfl Try.sizeOf3)) ?_
      refine WO.q rfl rfl rfl rfl (fun w' hE6 => (X.move (congrFun hF3 0))) ?_
      refine WO.q rfl rfl rfl rfl (fun w' hE6 => (X.nilCheck rfl)) ?_
      refine WO.q rfl rfl rfl rfl (fun w' hE6 => (X.fieldAddrO (off := 4) rfl Try.underlying26 rfl rfl Try.sizeOf3)) ?_
      refine WO.q rfl rfl rfl rfl (fun w' hE6 => (X.move (congrFun hF3 0))) ?_
      refine WO.q rfl rfl rfl rfl (fun w' hE6 => (X.nilCheck rfl)) ?_
      refine WO.q rfl rfl rfl rfl (fun w' hE6 => (X.fieldAddrO (off := 5) rfl Try.underlying26 rfl rfl Try.sizeOf3)) ?_
      refine WO.q rfl rfl rfl rfl (fun w' hE6 => (X.move (congrFun hF3 0))) ?_
      refine WO.q rfl rfl rfl rfl (fun w' hE6 => (X.nilCheck rfl)) ?_
      refine WO.q rfl rfl rfl rfl (fun w' hE6 => (X.fieldAddrO (off := 8) rfl Try.underlying26 rfl rfl Try.sizeOf3)) ?_
      refine WO.l ?_
      have hz0 := World.grownBy.size (show Ext w w.drew from (Ext.drew _))
      refine LO.go rfl rfl (OW.lits (vs := (pts g [3, 4, 5, 8])) (evp_cons rfl (evp_cons rfl (evp_cons rfl (evp_cons rfl evp_nil)))) Try.underlying90 Try.sizeOf61 Try.zeroValue61 ⟨rfl, rfl, rfl, rfl, trivial⟩ rfl rfl rfl ?_ (by decide))
      intro v8 w7 ho10 hx9
      have := World.grownBy.size hx9
      have oq : World.ownsRow w7 w.heap.size 61 1 v8 ([3, 4, 5, 8] : List Nat).length (pts g [3, 4, 5, 8]) := own_mono (show World.ownsRow w7 _ 61 1 v8 ([3, 4, 5, 8] : List Nat).length (pts g [3, 4, 5, 8]) from ho10) hz0
      refine ⟨(Ext.trans (Ext.drew _) hx9), ?_⟩
      refine WO.q rfl rfl rfl rfl (fun w' hE6 => (X.assign rfl)) ?_
      refine WO.nil ?_
      refine WL.nil ?_
      refine blk_n ?_
      refine thn_n ?_
      exact ⟨_, _, rfl, (by repeat (first | exact (Agree.refl _ F2) | refine Agree.put ?_ rfl | refine Agree.named hF3 ?_)), (Ext.trans (Ext.drew _) hx9), ⟨hLk, by first | exact oq | exact oq _⟩⟩
    · have gh0_4 := (of_decide_eq_false h0_4)
      refine WF.seq ?_
      refine WF.region ?_
      refine WL.va rfl rfl rfl (X.eql rfl rfl) ?_
      refine WL.va rfl rfl rfl (X.assignB rfl) ?_
      refine WL.nil ?_
      refine thn_n ?_
      refine WF.cond rfl (fun h1_11 => ?_) (fun h1_11 => ?_)
      · have gh1_11 := (of_decide_eq_true h1_11)
        have hkd := gh1_11
        have hLk : offs kd = some [3, 4, 5, 9, 6, 7] := by rw [hkd]; rfl
        refine WF.drawn (.q 0 (.q 1 (.q 2 (.q 3 (.q 4 (.q 5 (.q 6 (.q 7 (.q 8 (.q 9 (.q 10 (.q 11 (.q 12 (.q 13 (.q 14 (.q 15 (.q 16 (.q 17 (.l 18 (.q 19 .nil)))))))))))))))))))) (fun w' => Ext w w') 20 (by kernel_rfl) (by kernel_rfl) (Ext.drew _) ?_
        have := World.grownBy.size (Ext.drew w)
        refine WO.q rfl rfl rfl rfl (fun w' hE13 => (X.move (congrFun hF3 0))) ?_
        refine WO.q rfl rfl rfl rfl (fun w' hE13 => (X.nilCheck rfl)) ?_
        refine WO.q rfl rfl rfl rfl (fun w' hE13 => (X.fieldAddrO (off := 3) rfl Try.underlying26 rfl rfl Try.sizeOf3)) ?_
        refine WO.q rfl rfl rfl rfl (fun w' hE13 => (X.move (congrFun hF3 0))) ?_
        refine WO.q rfl rfl rfl rfl (fun w' hE13 => (X.nilCheck rfl)) ?_
        refine WO.q rfl rfl rfl rfl (fun w' hE13 => (X.fieldAddrO (off := 4) rfl Try.underlying26 rfl rfl Try.sizeOf3)) ?_
        refine WO.q rfl rfl rfl rfl (fun w' hE13 => (X.move (congrFun hF3 0))) ?_
        refine WO.q rfl rfl rfl rfl (fun w' hE13 => (X.nilCheck rfl)) ?_
        refine WO.q rfl rfl rfl rfl (fun w' hE13 => (X.fieldAddrO (off := 5) rfl Try.underlying26 rfl rfl Try.sizeOf3)) ?_
        refine WO.q rfl rfl rfl rfl (fun w' hE13 => (X.move (congrFun hF3 0))) ?_
        refine WO.q rfl rfl rfl rfl (fun w' hE13 => (X.nilCheck rfl)) ?_
        refine WO.q rfl rfl rfl rfl (fun w' hE13 => (X.fieldAddrO (off := 9) rfl Try.underlying26 rfl rfl Try.sizeOf3)) ?_
        refine WO.q rfl rfl rfl rfl (fun w' hE13 => (X.move (congrFun hF3 0))) ?_
        refine WO.q rfl rfl rfl rfl (fun w' hE13 => (X.nilCheck rfl)) ?_
        refine WO.q rfl rfl rfl rfl (fun w' hE13 => (X.fieldAddrO (off := 6) rfl Try.underlying26 rfl rfl Try.sizeOf3)) ?_
        refine WO.q rfl rfl rfl rfl (fun w' hE13 => (X.move (congrFun hF3 0))) ?_
        refine WO.q rfl rfl rfl rfl (fun w' hE13 => (X.nilCheck rfl)) ?_
        refine WO.q rfl rfl rfl rfl (fun w' hE13 => (X.fieldAddrO (off := 7) rfl Try.underlying26 rfl rfl Try.sizeOf3)) ?_
        refine WO.l ?_
        have hz0 := World.grownBy.size (show Ext w w.drew from (Ext.drew _))
        refine LO.go rfl rfl (OW.lits (vs := (pts g [3, 4, 5, 9, 6, 7])) (evp_cons rfl (evp_cons rfl (evp_cons rfl (evp_cons rfl (evp_cons rfl (evp_cons rfl evp_nil)))))) Try.underlying90 Try.sizeOf61 Try.zeroValue61 ⟨rfl, rfl, rfl, rfl, rfl, rfl, trivial⟩ rfl rfl rfl ?_ (by decide))
        intro v15 w14 ho17 hx16
        have := World.grownBy.size hx16
        have oq : World.ownsRow w14 w.heap.size 61 1 v15 ([3, 4, 5, 9, 6, 7] : List Nat).length (pts g [3, 4, 5, 9, 6, 7]) := own_mono (show World.ownsRow w14 _ 61 1 v15 ([3, 4, 5, 9, 6, 7] : List Nat).length (pts g [3, 4, 5, 9, 6, 7]) from ho17) hz0
        refine ⟨(Ext.trans (Ext.drew _) hx16), ?_⟩
        refine WO.q rfl rfl rfl rfl (fun w' hE13 => (X.assign rfl)) ?_
        refine WO.nil ?_
        refine WL.nil ?_
        refine blk_n ?_
        refine thn_n ?_
        exact ⟨_, _, rfl, (by repeat (first | exact (Agree.refl _ F2) | refine Agree.put ?_ rfl | refine Agree.named hF3 ?_)), (Ext.trans (Ext.drew _) hx16), ⟨hLk, by first | exact oq | exact oq _⟩⟩
      · have gh1_11 := (of_decide_eq_false h1_11)
        refine WF.seq ?_
        refine WF.region ?_
        refine WL.va rfl rfl rfl (X.eql rfl rfl) ?_
        refine WL.va rfl rfl rfl (X.assignB rfl) ?_
        refine WL.nil ?_
        refine thn_n ?_
        refine WF.cond rfl (fun h2_18 => ?_) (fun h2_18 => ?_)
        · have gh2_18 := (of_decide_eq_true h2_18)
          have hkd := gh2_18
          have hLk : offs kd = some [3, 10] := by rw [hkd]; rfl
          refine WF.drawn (.q 0 (.q 1 (.q 2 (.q 3 (.q 4 (.q 5 (.l 6 (.q 7 .nil)))))))) (fun w' => Ext w w') 8 (by kernel_rfl) (by kernel_rfl) (Ext.drew _) ?_
          have := World.grownBy.size (Ext.drew w)
          refine WO.q rfl rfl rfl rfl (fun w' hE20 => (X.move (congrFun hF3 0))) ?_
          refine WO.q rfl rfl rfl rfl (fun w' hE20 => (X.nilCheck rfl)) ?_
          refine WO.q rfl rfl rfl rfl (fun w' hE20 => (X.fieldAddrO (off := 3) rfl Try.underlying26 rfl rfl Try.sizeOf3)) ?_
          refine WO.q rfl rfl rfl rfl (fun w' hE20 => (X.move (congrFun hF3 0))) ?_
          refine WO.q rfl rfl rfl rfl (fun w' hE20 => (X.nilCheck rfl)) ?_
          refine WO.q rfl rfl rfl rfl (fun w' hE20 => (X.fieldAddrO (off := 10) rfl Try.underlying26 rfl rfl Try.sizeOf3)) ?_
          refine WO.l ?_
          have hz0 := World.grownBy.size (show Ext w w.drew from (Ext.drew _))
          refine LO.go rfl rfl (OW.lits (vs := (pts g [3, 10])) (evp_cons rfl (evp_cons rfl evp_nil)) Try.underlying90 Try.sizeOf61 Try.zeroValue61 ⟨rfl, rfl, trivial⟩ rfl rfl rfl ?_ (by decide))
          intro v22 w21 ho24 hx23
          have := World.grownBy.size hx23
          have oq : World.ownsRow w21 w.heap.size 61 1 v22 ([3, 10] : List Nat).length (pts g [3, 10]) := own_mono (show World.ownsRow w21 _ 61 1 v22 ([3, 10] : List Nat).length (pts g [3, 10]) from ho24) hz0
          refine ⟨(Ext.trans (Ext.drew _) hx23), ?_⟩
          refine WO.q rfl rfl rfl rfl (fun w' hE20 => (X.assign rfl)) ?_
          refine WO.nil ?_
          refine WL.nil ?_
          refine blk_n ?_
          refine thn_n ?_
          exact ⟨_, _, rfl, (by repeat (first | exact (Agree.refl _ F2) | refine Agree.put ?_ rfl | refine Agree.named hF3 ?_)), (Ext.trans (Ext.drew _) hx23), ⟨hLk, by first | exact oq | exact oq _⟩⟩
        · have gh2_18 := (of_decide_eq_false h2_18)
          refine WF.seq ?_
          refine WF.region ?_
          refine WL.va rfl rfl rfl (X.eql rfl rfl) ?_
          refine WL.va rfl rfl rfl (X.assignB rfl) ?_
          refine WL.nil ?_
          refine thn_n ?_
          refine WF.cond rfl (fun h3_25 => ?_) (fun h3_25 => ?_)
          · have gh3_25 := (of_decide_eq_true h3_25)
            have hkd := gh3_25
            have hLk : offs kd = some [9, 5, 8] := by rw [hkd]; rfl
            refine WF.drawn (.q 0 (.q 1 (.q 2 (.q 3 (.q 4 (.q 5 (.q 6 (.q 7 (.q 8 (.l 9 (.q 10 .nil))))))))))) (fun w' => Ext w w') 11 (by kernel_rfl) (by kernel_rfl) (Ext.drew _) ?_
            have := World.grownBy.size (Ext.drew w)
            refine WO.q rfl rfl rfl rfl (fun w' hE27 => (X.move (congrFun hF3 0))) ?_
            refine WO.q rfl rfl rfl rfl (fun w' hE27 => (X.nilCheck rfl)) ?_
            refine WO.q rfl rfl rfl rfl (fun w' hE27 => (X.fieldAddrO (off := 9) rfl Try.underlying26 rfl rfl Try.sizeOf3)) ?_
            refine WO.q rfl rfl rfl rfl (fun w' hE27 => (X.move (congrFun hF3 0))) ?_
            refine WO.q rfl rfl rfl rfl (fun w' hE27 => (X.nilCheck rfl)) ?_
            refine WO.q rfl rfl rfl rfl (fun w' hE27 => (X.fieldAddrO (off := 5) rfl Try.underlying26 rfl rfl Try.sizeOf3)) ?_
            refine WO.q rfl rfl rfl rfl (fun w' hE27 => (X.move (congrFun hF3 0))) ?_
            refine WO.q rfl rfl rfl rfl (fun w' hE27 => (X.nilCheck rfl)) ?_
            refine WO.q rfl rfl rfl rfl (fun w' hE27 => (X.fieldAddrO (off := 8) rfl Try.underlying26 rfl rfl Try.sizeOf3)) ?_
            refine WO.l ?_
            have hz0 := World.grownBy.size (show Ext w w.drew from (Ext.drew _))
            refine LO.go rfl rfl (OW.lits (vs := (pts g [9, 5, 8])) (evp_cons rfl (evp_cons rfl (evp_cons rfl evp_nil))) Try.underlying90 Try.sizeOf61 Try.zeroValue61 ⟨rfl, rfl, rfl, trivial⟩ rfl rfl rfl ?_ (by decide))
            intro v29 w28 ho31 hx30
            have := World.grownBy.size hx30
            have oq : World.ownsRow w28 w.heap.size 61 1 v29 ([9, 5, 8] : List Nat).length (pts g [9, 5, 8]) := own_mono (show World.ownsRow w28 _ 61 1 v29 ([9, 5, 8] : List Nat).length (pts g [9, 5, 8]) from ho31) hz0
            refine ⟨(Ext.trans (Ext.drew _) hx30), ?_⟩
            refine WO.q rfl rfl rfl rfl (fun w' hE27 => (X.assign rfl)) ?_
            refine WO.nil ?_
            refine WL.nil ?_
            refine blk_n ?_
            refine thn_n ?_
            exact ⟨_, _, rfl, (by repeat (first | exact (Agree.refl _ F2) | refine Agree.put ?_ rfl | refine Agree.named hF3 ?_)), (Ext.trans (Ext.drew _) hx30), ⟨hLk, by first | exact oq | exact oq _⟩⟩
          · have gh3_25 := (of_decide_eq_false h3_25)
            refine WF.seq ?_
            refine WF.seq ?_
            refine WF.region ?_
            refine WL.va rfl rfl rfl (X.eql rfl rfl) ?_
            refine WL.va rfl rfl rfl (X.assignB rfl) ?_
            refine WL.nil ?_
            refine thn_n ?_
            refine WF.cond rfl (fun h4_32 => ?_) (fun h4_32 => ?_)
            · have gh4_32 := (of_decide_eq_true h4_32)
              have hkd := gh4_32
              have hLk : offs kd = some [5, 6, 7] := by rw [hkd]; rfl
              refine WF.skip ?_
              refine thn_n ?_
              refine WF.cond_t ((rfl : _ = Value.bool _).trans (congrArg Value.bool h4_32)) ?_
              refine WF.drawn (.q 0 (.q 1 (.q 2 (.q 3 (.q 4 (.q 5 (.q 6 (.q 7 (.q 8 (.l 9 (.q 10 .nil))))))))))) (fun w' => Ext w w') 11 (by kernel_rfl) (by kernel_rfl) (Ext.drew _) ?_
              have := World.grownBy.size (Ext.drew w)
              refine WO.q rfl rfl rfl rfl (fun w' hE34 => (X.move (congrFun hF3 0))) ?_
              refine WO.q rfl rfl rfl rfl (fun w' hE34 => (X.nilCheck rfl)) ?_
              refine WO.q rfl rfl rfl rfl (fun w' hE34 => (X.fieldAddrO (off := 5) rfl Try.underlying26 rfl rfl Try.sizeOf3)) ?_
              refine WO.q rfl rfl rfl rfl (fun w' hE34 => (X.move (congrFun hF3 0))) ?_
              refine WO.q rfl rfl rfl rfl (fun w' hE34 => (X.nilCheck rfl)) ?_
              refine WO.q rfl rfl rfl rfl (fun w' hE34 => (X.fieldAddrO (off := 6) rfl Try.underlying26 rfl rfl Try.sizeOf3)) ?_
              refine WO.q rfl rfl rfl rfl (fun w' hE34 => (X.move (congrFun hF3 0))) ?_
              refine WO.q rfl rfl rfl rfl (fun w' hE34 => (X.nilCheck rfl)) ?_
              refine WO.q rfl rfl rfl rfl (fun w' hE34 => (X.fieldAddrO (off := 7) rfl Try.underlying26 rfl rfl Try.sizeOf3)) ?_
              refine WO.l ?_
              have hz0 := World.grownBy.size (show Ext w w.drew from (Ext.drew _))
              refine LO.go rfl rfl (OW.lits (vs := (pts g [5, 6, 7])) (evp_cons rfl (evp_cons rfl (evp_cons rfl evp_nil))) Try.underlying90 Try.sizeOf61 Try.zeroValue61 ⟨rfl, rfl, rfl, trivial⟩ rfl rfl rfl ?_ (by decide))
              intro v36 w35 ho38 hx37
              have := World.grownBy.size hx37
              have oq : World.ownsRow w35 w.heap.size 61 1 v36 ([5, 6, 7] : List Nat).length (pts g [5, 6, 7]) := own_mono (show World.ownsRow w35 _ 61 1 v36 ([5, 6, 7] : List Nat).length (pts g [5, 6, 7]) from ho38) hz0
              refine ⟨(Ext.trans (Ext.drew _) hx37), ?_⟩
              refine WO.q rfl rfl rfl rfl (fun w' hE34 => (X.assign rfl)) ?_
              refine WO.nil ?_
              refine WL.nil ?_
              refine blk_n ?_
              refine thn_n ?_
              exact ⟨_, _, rfl, (by repeat (first | exact (Agree.refl _ F2) | refine Agree.put ?_ rfl | refine Agree.named hF3 ?_)), (Ext.trans (Ext.drew _) hx37), ⟨hLk, by first | exact oq | exact oq _⟩⟩
            · have gh4_32 := (of_decide_eq_false h4_32)
              refine WF.region ?_
              refine WL.va rfl rfl rfl (X.eql rfl rfl) ?_
              refine WL.va rfl rfl rfl (X.assignB rfl) ?_
              refine WL.nil ?_
              refine thn_n ?_
              refine WF.cond rfl (fun h5_39 => ?_) (fun h5_39 => ?_)
              · have gh5_39 := (of_decide_eq_true h5_39)
                have hLk : offs kd = some [5, 6, 7] := by first | assumption | (rw [show kd = 6 from gh5_39]; rfl)
                refine WF.drawn (.q 0 (.q 1 (.q 2 (.q 3 (.q 4 (.q 5 (.q 6 (.q 7 (.q 8 (.l 9 (.q 10 .nil))))))))))) (fun w' => Ext w w') 11 (by kernel_rfl) (by kernel_rfl) (Ext.drew _) ?_
                have := World.grownBy.size (Ext.drew w)
                refine WO.q rfl rfl rfl rfl (fun w' hE41 => (X.move (congrFun hF3 0))) ?_
                refine WO.q rfl rfl rfl rfl (fun w' hE41 => (X.nilCheck rfl)) ?_
                refine WO.q rfl rfl rfl rfl (fun w' hE41 => (X.fieldAddrO (off := 5) rfl Try.underlying26 rfl rfl Try.sizeOf3)) ?_
                refine WO.q rfl rfl rfl rfl (fun w' hE41 => (X.move (congrFun hF3 0))) ?_
                refine WO.q rfl rfl rfl rfl (fun w' hE41 => (X.nilCheck rfl)) ?_
                refine WO.q rfl rfl rfl rfl (fun w' hE41 => (X.fieldAddrO (off := 6) rfl Try.underlying26 rfl rfl Try.sizeOf3)) ?_
                refine WO.q rfl rfl rfl rfl (fun w' hE41 => (X.move (congrFun hF3 0))) ?_
                refine WO.q rfl rfl rfl rfl (fun w' hE41 => (X.nilCheck rfl)) ?_
                refine WO.q rfl rfl rfl rfl (fun w' hE41 => (X.fieldAddrO (off := 7) rfl Try.underlying26 rfl rfl Try.sizeOf3)) ?_
                refine WO.l ?_
                have hz0 := World.grownBy.size (show Ext w w.drew from (Ext.drew _))
                refine LO.go rfl rfl (OW.lits (vs := (pts g [5, 6, 7])) (evp_cons rfl (evp_cons rfl (evp_cons rfl evp_nil))) Try.underlying90 Try.sizeOf61 Try.zeroValue61 ⟨rfl, rfl, rfl, trivial⟩ rfl rfl rfl ?_ (by decide))
                intro v43 w42 ho45 hx44
                have := World.grownBy.size hx44
                have oq : World.ownsRow w42 w.heap.size 61 1 v43 ([5, 6, 7] : List Nat).length (pts g [5, 6, 7]) := own_mono (show World.ownsRow w42 _ 61 1 v43 ([5, 6, 7] : List Nat).length (pts g [5, 6, 7]) from ho45) hz0
                refine ⟨(Ext.trans (Ext.drew _) hx44), ?_⟩
                refine WO.q rfl rfl rfl rfl (fun w' hE41 => (X.assign rfl)) ?_
                refine WO.nil ?_
                refine WL.nil ?_
                refine blk_n ?_
                refine thn_n ?_
                exact ⟨_, _, rfl, (by repeat (first | exact (Agree.refl _ F2) | refine Agree.put ?_ rfl | refine Agree.named hF3 ?_)), (Ext.trans (Ext.drew _) hx44), ⟨hLk, by first | exact oq | exact oq _⟩⟩
              · have gh5_39 := (of_decide_eq_false h5_39)
                refine WF.seq ?_
                refine WF.seq ?_
                refine WF.region ?_
                refine WL.va rfl rfl rfl (X.eql rfl rfl) ?_
                refine WL.va rfl rfl rfl (X.assignB rfl) ?_
                refine WL.nil ?_
                refine thn_n ?_
                refine WF.cond rfl (fun h6_46 => ?_) (fun h6_46 => ?_)
                · have gh6_46 := (of_decide_eq_true h6_46)
                  have hkd := gh6_46
                  have hLk : offs kd = some [5] := by rw [hkd]; rfl
                  refine WF.skip ?_
                  refine thn_n ?_
                  refine WF.cond_t ((rfl : _ = Value.bool _).trans (congrArg Value.bool h6_46)) ?_
                  refine WF.region ?_
                  refine WL.va rfl rfl rfl (X.move (congrFun hF3 0)) ?_
                  refine WL.va rfl rfl rfl (X.nilCheck rfl) ?_
                  refine WL.va rfl rfl rfl (X.fieldAddrO (off := 5) rfl Try.underlying26 rfl rfl Try.sizeOf3) ?_
                  have hz0 := World.grownBy.size (show Ext w w from (Ext.refl _))
                  refine WL.op rfl (OW.lits (vs := (pts g [5])) (evp_cons rfl evp_nil) Try.underlying90 Try.sizeOf61 Try.zeroValue61 ⟨rfl, trivial⟩ rfl rfl rfl ?_ (by decide))
                  intro v49 w48 ho51 hx50
                  have := World.grownBy.size hx50
                  have oq : World.ownsRow w48 w.heap.size 61 1 v49 ([5] : List Nat).length (pts g [5]) := own_mono (show World.ownsRow w48 _ 61 1 v49 ([5] : List Nat).length (pts g [5]) from ho51) hz0
                  refine WL.va rfl rfl rfl (X.assign rfl) ?_
                  refine WL.nil ?_
                  refine blk_n ?_
                  refine thn_n ?_
                  exact ⟨_, _, rfl, (by repeat (first | exact (Agree.refl _ F2) | refine Agree.put ?_ rfl | refine Agree.named hF3 ?_)), hx50, ⟨hLk, by first | exact oq | exact oq _⟩⟩
                · have gh6_46 := (of_decide_eq_false h6_46)
                  refine WF.region ?_
                  refine WL.va rfl rfl rfl (X.eql rfl rfl) ?_
                  refine WL.va rfl rfl rfl (X.assignB rfl) ?_
                  refine WL.nil ?_
                  refine thn_n ?_
                  refine WF.cond rfl (fun h7_52 => ?_) (fun h7_52 => ?_)
                  · have gh7_52 := (of_decide_eq_true h7_52)
                    have hLk : offs kd = some [5] := by first | assumption | (rw [show kd = 10 from gh7_52]; rfl)
                    refine WF.region ?_
                    refine WL.va rfl rfl rfl (X.move (congrFun hF3 0)) ?_
                    refine WL.va rfl rfl rfl (X.nilCheck rfl) ?_
                    refine WL.va rfl rfl rfl (X.fieldAddrO (off := 5) rfl Try.underlying26 rfl rfl Try.sizeOf3) ?_
                    have hz0 := World.grownBy.size (show Ext w w from (Ext.refl _))
                    refine WL.op rfl (OW.lits (vs := (pts g [5])) (evp_cons rfl evp_nil) Try.underlying90 Try.sizeOf61 Try.zeroValue61 ⟨rfl, trivial⟩ rfl rfl rfl ?_ (by decide))
                    intro v55 w54 ho57 hx56
                    have := World.grownBy.size hx56
                    have oq : World.ownsRow w54 w.heap.size 61 1 v55 ([5] : List Nat).length (pts g [5]) := own_mono (show World.ownsRow w54 _ 61 1 v55 ([5] : List Nat).length (pts g [5]) from ho57) hz0
                    refine WL.va rfl rfl rfl (X.assign rfl) ?_
                    refine WL.nil ?_
                    refine blk_n ?_
                    refine thn_n ?_
                    exact ⟨_, _, rfl, (by repeat (first | exact (Agree.refl _ F2) | refine Agree.put ?_ rfl | refine Agree.named hF3 ?_)), hx56, ⟨hLk, by first | exact oq | exact oq _⟩⟩
                  · have gh7_52 := (of_decide_eq_false h7_52)
                    refine WF.seq ?_
                    refine WF.region ?_
                    refine WL.va rfl rfl rfl (X.eql rfl rfl) ?_
                    refine WL.va rfl rfl rfl (X.assignB rfl) ?_
                    refine WL.nil ?_
                    refine thn_n ?_
                    refine WF.cond rfl (fun h8_58 => ?_) (fun h8_58 => ?_)
                    · have gh8_58 := (of_decide_eq_true h8_58)
                      have hkd := gh8_58
                      have hLk : offs kd = some [] := by rw [hkd]; rfl
                      have oq : ∀ wq : World, wq.ownsRow w.heap.size 61 1 (.slice none 0 0) ([] : List Nat).length (pts g []) := fun wq => World.ownsRow_nil _ _ _ _
                      refine WF.skip ?_
                      refine blk_n ?_
                      refine thn_n ?_
                      exact ⟨_, _, (congrFun hF3 5), (by repeat (first | exact (Agree.refl _ F2) | refine Agree.put ?_ rfl | refine Agree.named hF3 ?_)), (Ext.refl _), ⟨hLk, by first | exact oq | exact oq _⟩⟩
                    · have gh8_58 := (of_decide_eq_false h8_58)
                      refine WF.seq ?_
                      refine WF.region ?_
                      refine WL.va rfl rfl rfl (X.eql rfl rfl) ?_
                      refine WL.va rfl rfl rfl (X.assignB rfl) ?_
                      refine WL.nil ?_
                      refine thn_n ?_
                      refine WF.cond rfl (fun h9_60 => ?_) (fun h9_60 => ?_)
                      · have gh9_60 := (of_decide_eq_true h9_60)
                        have hkd := gh9_60
                        have hLk : offs kd = some [11, 12, 6, 7] := by rw [hkd]; rfl
                        refine WF.drawn (.q 0 (.q 1 (.q 2 (.q 3 (.q 4 (.q 5 (.q 6 (.q 7 (.q 8 (.q 9 (.q 10 (.q 11 (.l 12 (.q 13 .nil)))))))))))))) (fun w' => Ext w w') 14 (by kernel_rfl) (by kernel_rfl) (Ext.drew _) ?_
                        have := World.grownBy.size (Ext.drew w)
                        refine WO.q rfl rfl rfl rfl (fun w' hE62 => (X.move (congrFun hF3 0))) ?_
                        refine WO.q rfl rfl rfl rfl (fun w' hE62 => (X.nilCheck rfl)) ?_
                        refine WO.q rfl rfl rfl rfl (fun w' hE62 => (X.fieldAddrO (off := 11) rfl Try.underlying26 rfl rfl Try.sizeOf3)) ?_
                        refine WO.q rfl rfl rfl rfl (fun w' hE62 => (X.move (congrFun hF3 0))) ?_
                        refine WO.q rfl rfl rfl rfl (fun w' hE62 => (X.nilCheck rfl)) ?_
                        refine WO.q rfl rfl rfl rfl (fun w' hE62 => (X.fieldAddrO (off := 12) rfl Try.underlying26 rfl rfl Try.sizeOf3)) ?_
                        refine WO.q rfl rfl rfl rfl (fun w' hE62 => (X.move (congrFun hF3 0))) ?_
                        refine WO.q rfl rfl rfl rfl (fun w' hE62 => (X.nilCheck rfl)) ?_
                        refine WO.q rfl rfl rfl rfl (fun w' hE62 => (X.fieldAddrO (off := 6) rfl Try.underlying26 rfl rfl Try.sizeOf3)) ?_
                        refine WO.q rfl rfl rfl rfl (fun w' hE62 => (X.move (congrFun hF3 0))) ?_
                        refine WO.q rfl rfl rfl rfl (fun w' hE62 => (X.nilCheck rfl)) ?_
                        refine WO.q rfl rfl rfl rfl (fun w' hE62 => (X.fieldAddrO (off := 7) rfl Try.underlying26 rfl rfl Try.sizeOf3)) ?_
                        refine WO.l ?_
                        have hz0 := World.grownBy.size (show Ext w w.drew from (Ext.drew _))
                        refine LO.go rfl rfl (OW.lits (vs := (pts g [11, 12, 6, 7])) (evp_cons rfl (evp_cons rfl (evp_cons rfl (evp_cons rfl evp_nil)))) Try.underlying90 Try.sizeOf61 Try.zeroValue61 ⟨rfl, rfl, rfl, rfl, trivial⟩ rfl rfl rfl ?_ (by decide))
                        intro v65 w63 ho67 hx66
                        have := World.grownBy.size hx66
                        have oq : World.ownsRow w63 w.heap.size 61 1 v65 ([11, 12, 6, 7] : List Nat).length (pts g [11, 12, 6, 7]) := own_mono (show World.ownsRow w63 _ 61 1 v65 ([11, 12, 6, 7] : List Nat).length (pts g [11, 12, 6, 7]) from ho67) hz0
                        refine ⟨(Ext.trans (Ext.drew _) hx66), ?_⟩
                        refine WO.q rfl rfl rfl rfl (fun w' hE62 => (X.assign rfl)) ?_
                        refine WO.nil ?_
                        refine WL.nil ?_
                        refine blk_n ?_
                        refine thn_n ?_
                        exact ⟨_, _, rfl, (by repeat (first | exact (Agree.refl _ F2) | refine Agree.put ?_ rfl | refine Agree.named hF3 ?_)), (Ext.trans (Ext.drew _) hx66), ⟨hLk, by first | exact oq | exact oq _⟩⟩
                      · have gh9_60 := (of_decide_eq_false h9_60)
                        refine WF.seq ?_
                        refine WF.region ?_
                        refine WL.va rfl rfl rfl (X.eql rfl rfl) ?_
                        refine WL.va rfl rfl rfl (X.assignB rfl) ?_
                        refine WL.nil ?_
                        refine thn_n ?_
                        refine WF.cond rfl (fun h10_68 => ?_) (fun h10_68 => ?_)
                        · have gh10_68 := (of_decide_eq_true h10_68)
                          have hkd := gh10_68
                          have hLk : offs kd = some [12, 10] := by rw [hkd]; rfl
                          refine WF.drawn (.q 0 (.q 1 (.q 2 (.q 3 (.q 4 (.q 5 (.l 6 (.q 7 .nil)))))))) (fun w' => Ext w w') 8 (by kernel_rfl) (by kernel_rfl) (Ext.drew _) ?_
                          have := World.grownBy.size (Ext.drew w)
                          refine WO.q rfl rfl rfl rfl (fun w' hE70 => (X.move (congrFun hF3 0))) ?_
                          refine WO.q rfl rfl rfl rfl (fun w' hE70 => (X.nilCheck rfl)) ?_
                          refine WO.q rfl rfl rfl rfl (fun w' hE70 => (X.fieldAddrO (off := 12) rfl Try.underlying26 rfl rfl Try.sizeOf3)) ?_
                          refine WO.q rfl rfl rfl rfl (fun w' hE70 => (X.move (congrFun hF3 0))) ?_
                          refine WO.q rfl rfl rfl rfl (fun w' hE70 => (X.nilCheck rfl)) ?_
                          refine WO.q rfl rfl rfl rfl (fun w' hE70 => (X.fieldAddrO (off := 10) rfl Try.underlying26 rfl rfl Try.sizeOf3)) ?_
                          refine WO.l ?_
                          have hz0 := World.grownBy.size (show Ext w w.drew from (Ext.drew _))
                          refine LO.go rfl rfl (OW.lits (vs := (pts g [12, 10])) (evp_cons rfl (evp_cons rfl evp_nil)) Try.underlying90 Try.sizeOf61 Try.zeroValue61 ⟨rfl, rfl, trivial⟩ rfl rfl rfl ?_ (by decide))
                          intro v72 w71 ho74 hx73
                          have := World.grownBy.size hx73
                          have oq : World.ownsRow w71 w.heap.size 61 1 v72 ([12, 10] : List Nat).length (pts g [12, 10]) := own_mono (show World.ownsRow w71 _ 61 1 v72 ([12, 10] : List Nat).length (pts g [12, 10]) from ho74) hz0
                          refine ⟨(Ext.trans (Ext.drew _) hx73), ?_⟩
                          refine WO.q rfl rfl rfl rfl (fun w' hE70 => (X.assign rfl)) ?_
                          refine WO.nil ?_
                          refine WL.nil ?_
                          refine blk_n ?_
                          refine thn_n ?_
                          exact ⟨_, _, rfl, (by repeat (first | exact (Agree.refl _ F2) | refine Agree.put ?_ rfl | refine Agree.named hF3 ?_)), (Ext.trans (Ext.drew _) hx73), ⟨hLk, by first | exact oq | exact oq _⟩⟩
                        · have gh10_68 := (of_decide_eq_false h10_68)
                          refine WF.seq ?_
                          refine WF.region ?_
                          refine WL.va rfl rfl rfl (X.assignB rfl) ?_
                          refine WL.nil ?_
                          refine thn_n ?_
                          refine WF.ret ?_
                          refine blk_r ?_
                          refine thn_r ?_
                          refine fin_r ?_
                          have hn : offs kd = none := by
                            cases h : offs kd with
                            | none => rfl
                            | some L => rcases offs_cases h with h | h | h | h | h | h | h | h | h | h | h <;> omega
                          exact ⟨by rw [hn]; rfl, fun L h => by (rw [hn] at h; cases h), fun _ => (Ext.refl _), chg_ext (Ext.refl _)⟩
  · rintro fCs2 wCs2 ⟨vl, L, e5_Cs2, hACs2, hwCs2, ⟨hL, ol⟩⟩
    have := World.grownBy.size hwCs2
    have hL6 := offs_len hL
    refine WF.seq ?_
    refine WF.seq ?_
    refine WF.region ?_
    refine WL.va rfl rfl rfl (X.move e5_Cs2) ?_
    refine WL.va rfl rfl rfl (X.len (Row.of_own ol) rfl Try.underlying90) ?_
    refine WL.va rfl rfl rfl (X.moveI rfl) ?_
    refine WL.nil ?_
    refine thn_n ?_
    refine WF.block ?_
    refine WF.named (fun F76 hF77 => ?_)
    refine WF.loopN (fun mL0 f' w' => ∃ (j : Nat), mL0 = L.length - j ∧ f' 117 = .int .i64 (j : Int) ∧ Agree [0, 1, 5, 115, 116] f' F76 ∧ Chg 0 w.heap.size w w' ∧ j ≤ L.length ∧ I j w' ∧ w'.ownsRow w.heap.size 61 1 vl L.length (pts g L)) ?_ ?_
    · exact ⟨_, 0, rfl, (congrFun hF77 117), (Agree.refl _ _), (chg_ext hwCs2), ⟨Nat.zero_le _, hI _ _ _ h0 hwCs2, ol⟩⟩
    · rintro mL0 fL0 wL0 ⟨j, hmL0, e117_L0, hAL0, hwL0, ⟨hj, hIj, olj⟩⟩
      refine WF.seq ?_
      refine WF.region ?_
      refine WL.va rfl rfl rfl (X.lss e117_L0 ((hAL0.eq 116).trans (congrFun hF77 116))) ?_
      refine WL.nil ?_
      refine thn_n ?_
      refine WF.seq ?_
      refine WF.cond rfl (fun h11_78 => ?_) (fun h11_78 => ?_)
      · have gh11_78 := (of_decide_eq_true h11_78)
        have hja : j < L.length := by omega
        refine WF.skip ?_
        refine thn_n ?_
        refine WF.seq ?_
        refine WF.block ?_
        refine WF.seq ?_
        refine WF.region ?_
        refine WL.va rfl rfl rfl (X.idx (Row.of_own olj) ((hAL0.eq 115).trans (congrFun hF77 115)) e117_L0 (by omega) Try.underlying90 Try.sizeOf61) ?_
        refine WL.va rfl rfl rfl (X.load1 (Row.of_own olj) (Ext.refl _) rfl (by omega) Try.isAgg61) ?_
        refine WL.va rfl rfl rfl (X.assign rfl) ?_
        refine WL.nil ?_
        refine thn_n ?_
        refine WF.region ?_
        refine WL.va rfl rfl rfl (X.move ((hAL0.eq 1).trans ((congrFun hF77 1).trans ((hACs2.eq 1).trans (congrFun hF3 1))))) ?_
        refine WL.va rfl rfl rfl (X.move rfl) ?_
        refine WL.op rfl (OW.callV rfl (evl_cons rfl evl_nil) (by rw [pts_getD hja]; exact hstep L hL j _ hja hIj hwL0) ?_ (by decide))
        rintro _ w80 ⟨hI1, hc1⟩
        refine WL.nil ?_
        refine blk_n ?_
        refine thn_n ?_
        refine WF.region ?_
        refine WL.va rfl rfl rfl (X.add e117_L0 rfl (w64 (by omega))) ?_
        refine WL.va rfl rfl rfl (X.moveI rfl) ?_
        refine WL.nil ?_
        exact thn_n ⟨_, (by omega), j + 1, rfl, rfl, (by repeat (first | exact hAL0 | refine Agree.put ?_ rfl | refine Agree.sub hACs2 rfl ?_ | refine Agree.named hF77 ?_ | refine Agree.named hF3 ?_)), (Chg.trans hwL0 hc1), ⟨by omega, hI1, own_chg olj hc1 (fun b hb => by have := (olj.lt b hb).1; omega)⟩⟩
      · have gh11_78 := (of_decide_eq_false h11_78)
        refine WF.exit ?_
        refine thn_x ?_
        refine thn_x ?_
        refine blk_eq ?_
        refine thn_n ?_
        refine WF.seq ?_
        refine WF.region ?_
        refine WL.va rfl rfl rfl (X.assignB rfl) ?_
        refine WL.nil ?_
        refine thn_n ?_
        refine WF.ret ?_
        refine fin_r ?_
        obtain rfl : j = L.length := by omega
        exact ⟨by rw [hL]; rfl, fun L2 h => by (rw [hL] at h; injection h with h; subst h; exact hIj), fun h => by (rw [hL] at h; cases h), hwL0⟩

end Go.Proofs.Ythaojdpeimlngaa
