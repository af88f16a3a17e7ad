/- The walks of AcceptorApart and AcceptorRises. -/
import Derived.Test.YtgbkgkicgaikdaaAccL
import Derived.Test.YtgbkgkicgaikdaaAccLaw
namespace Go.Proofs.Ytgbkgkicgaikdaa
open Go Go.RowKit Kf

set_option maxHeartbeats 4000000 in
theorem acceptorApart_walk (id : Int) (vl : Value) (l : List Msg) (t p : Int) (w : World) (_hid : -9223372036854775808 ≤ id ∧ id ≤ 9223372036854775807) (hM : Msgs w vl l) (h64 : ∀ m ∈ l, In64 m.ints) (_ht : -9223372036854775808 ≤ t ∧ t ≤ 9223372036854775807) (_hp : -9223372036854775808 ≤ p ∧ p ≤ 9223372036854775807) : FnOk Try.prog 7 [i64 id, vl, i64 t, i64 p] w (fun r w' => r = .bool true ∧ Ext w w') := by
  have hlv := hM.le
  obtain ⟨cs, hr, hT⟩ := hM
  refine FnOk.enter (rs := [8]) Try.func7 rfl Try.ntmps7 Try.results7 rfl rfl ?_
  refine WF.seq ?_
  refine WF.region ?_
  refine WL.va rfl rfl rfl (X.assignB rfl) ?_
  refine WL.nil ?_
  refine thn_n ?_
  refine WF.seq ?_
  refine WF.seq ?_
  refine WF.region ?_
  refine WL.va rfl rfl rfl (X.move rfl) ?_
  refine WL.va rfl rfl rfl (X.len hr rfl Try.underlying30) ?_
  refine WL.va rfl rfl rfl (X.gtr rfl rfl) ?_
  refine WL.nil ?_
  refine thn_n ?_
  refine WF.cond rfl (fun h0_2 => ?_) (fun h0_2 => ?_)
  · have gh0_2 := (of_decide_eq_true h0_2)
    refine WF.seq ?_
    refine WF.region ?_
    refine WL.c rfl rfl rfl (X.call Try.call9 evl_nil) (works_ok _) ?_
    rintro v5 w4 ⟨rfl, hx6⟩
    refine WL.va rfl rfl rfl (X.assignB rfl) ?_
    refine WL.nil ?_
    refine thn_n ?_
    refine WF.ret ?_
    refine thn_r ?_
    refine fin_r ?_
    exact ⟨rfl, hx6⟩
  · have gh0_2 := (of_decide_eq_false h0_2)
    refine WF.skip ?_
    refine thn_n ?_
    refine WF.seq ?_
    refine WF.region ?_
    refine WL.va rfl rfl rfl (X.assign rfl) ?_
    refine WL.va rfl rfl rfl (X.assign rfl) ?_
    refine WL.nil ?_
    refine thn_n ?_
    refine WF.seq ?_
    refine WF.seq ?_
    refine WF.region ?_
    refine WL.va rfl rfl rfl (X.assignI rfl) ?_
    refine WL.nil ?_
    refine thn_n ?_
    refine WF.block ?_
    refine WF.named (fun F8 hF9 => ?_)
    refine WF.loopN (fun mL0 f' w' => ∃ (k : Nat) (va vo : Value) (A O : List Acc), mL0 = l.length - k ∧ f' 11 = .int .i64 (k : Int) ∧ f' 9 = va ∧ f' 10 = vo ∧ Agree [0, 1, 2, 3, 23, 24, 25] f' F8 ∧ Ext w w' ∧ k ≤ l.length ∧ Votes w' va A ∧ Votes w' vo O ∧ A.length ≤ k ∧ OneOf t p O ∧ findA A t p = findA O t p) ?_ ?_
    · exact ⟨_, 0, _, _, [], [], rfl, (congrFun hF9 11), (congrFun hF9 9), (congrFun hF9 10), (Agree.refl _ _), (Ext.refl _), ⟨Nat.zero_le _, Row.nil _ _, Row.nil _ _, Nat.le_refl _, ⟨by simp, fun x hx => by cases hx⟩, rfl⟩⟩
    · rintro mL0 fL0 wL0 ⟨k, va, vo, A, O, hmL0, e11_L0, e9_L0, e10_L0, hAL0, hwL0, ⟨hk, hA, hO, hAl, hone, hfo⟩⟩
      refine WF.seq ?_
      refine WF.seq ?_
      refine WF.region ?_
      refine WL.va rfl rfl rfl (X.moveI e11_L0) ?_
      refine WL.va rfl rfl rfl (X.move ((hAL0.eq 1).trans (congrFun hF9 1))) ?_
      refine WL.va rfl rfl rfl (X.len hr rfl Try.underlying30) ?_
      refine WL.va rfl rfl rfl (X.lss rfl rfl) ?_
      refine WL.nil ?_
      refine thn_n ?_
      refine WF.cond rfl (fun h1_10 => ?_) (fun h1_10 => ?_)
      · have gh1_10 := (of_decide_eq_true h1_10)
        have hkl : k < l.length := by omega
        obtain ⟨em, dm, hel, he, hd⟩ := hT k hkl
        have hm64 := h64 _ (List.getElem_mem hkl)
        refine WF.skip ?_
        refine thn_n ?_
        refine WF.seq ?_
        refine WF.block ?_
        refine WF.seq ?_
        refine WF.region ?_
        refine WL.va rfl rfl rfl (X.move ((hAL0.eq 1).trans (congrFun hF9 1))) ?_
        refine WL.va rfl rfl rfl (X.moveI e11_L0) ?_
        refine WL.va rfl rfl rfl (X.idx hr rfl rfl (by omega) Try.underlying30 Try.sizeOf26) ?_
        refine WL.va rfl rfl rfl (X.loadEl hr hwL0 rfl (by omega) hel Try.isAgg26 Try.sizeOf26) ?_
        refine WL.op rfl (OW.allocO (cs := [i64 0, i64 0, i64 0, i64 0, i64 0, i64 0, i64 0, i64 0, i64 0, i64 0, i64 0, i64 0, i64 0, i64 0, .bool false, .slice none 0 0, .slice none 0 0]) Try.zeroValue26 rfl ?_ (by decide))
        intro g12 w12 heg12 hlg12 hO12 hx14
        have := World.grownBy.size hx14
        refine WL.op rfl (OW.storeOA hO12 rfl rfl rfl (msg_one he hd) Try.sizeOf26 ?_)
        intro w16 hO12 hx18
        have := World.grownBy.size hx18
        replace hO12 : Blk _ _ _ ((l[k]'hkl).c em dm) := hO12
        refine WL.nil ?_
        refine thn_n ?_
        refine WF.seq ?_
        refine WF.seq ?_
        refine WF.region ?_
        refine WL.va rfl rfl rfl (X.loadOA hO12 (Ext.refl _) rfl rfl Try.isAgg26 Try.sizeOf26) ?_
        refine WL.c rfl rfl rfl (X.call Try.call8 (evl_cons rfl (evl_cons rfl (evl_cons rfl evl_nil)))) (bigMsg_ok (l[k]'hkl) em dm 1024 1024 _ (he.ext (Ext.trans hwL0 (Ext.store hx14 hx18 (by omega)))) (Row.ext hd (Ext.trans hwL0 (Ext.store hx14 hx18 (by omega)))) (by decide) (by decide)) ?_
        rintro v21 w20 ⟨rfl, hx22⟩
        have := World.grownBy.size hx22
        refine WL.nil ?_
        refine thn_n ?_
        refine WF.cond rfl (fun h2_23 => ?_) (fun h2_23 => ?_)
        · have gh2_23 := h2_23
          refine WF.seq ?_
          refine WF.region ?_
          refine WL.c rfl rfl rfl (X.call Try.call9 evl_nil) (works_ok _) ?_
          rintro v26 w25 ⟨rfl, hx27⟩
          have := World.grownBy.size hx27
          refine WL.va rfl rfl rfl (X.assignB rfl) ?_
          refine WL.nil ?_
          refine thn_n ?_
          refine WF.ret ?_
          refine thn_r ?_
          refine blk_r ?_
          refine thn_r ?_
          refine thn_r ?_
          refine blk_r ?_
          refine thn_r ?_
          refine fin_r ?_
          exact ⟨rfl, (Ext.trans (Ext.trans (Ext.trans hwL0 (Ext.store hx14 hx18 (by omega))) hx22) hx27)⟩
        · have gh2_23 := h2_23
          refine WF.skip ?_
          refine thn_n ?_
          refine WF.seq ?_
          refine WF.region ?_
          refine WL.va rfl rfl rfl (X.move e9_L0) ?_
          refine WL.va rfl rfl rfl (X.moveI ((hAL0.eq 0).trans (congrFun hF9 0))) ?_
          refine WL.va rfl rfl rfl (X.loadOA hO12 hx22 rfl rfl Try.isAgg26 Try.sizeOf26) ?_
          refine WL.c rfl rfl rfl (X.call Try.call11 (evl_cons rfl (evl_cons rfl (evl_cons rfl evl_nil)))) (take_ok _ A id (l[k]'hkl) em dm _ (Row.ext hA (Ext.trans (Ext.store hx14 hx18 (by omega)) hx22)) (by omega) hm64) ?_
          rintro v30 w29 ⟨⟨va2, vm2, rfl, oa, om, _⟩, hx31⟩
          have := World.grownBy.size hx31
          refine WL.va rfl rfl rfl (X.move rfl) ?_
          refine WL.va rfl rfl rfl (X.extract rfl rfl) ?_
          refine WL.va rfl rfl rfl (X.extract rfl rfl) ?_
          refine WL.va rfl rfl rfl (X.extract rfl rfl) ?_
          refine WL.va rfl rfl rfl (X.assign rfl) ?_
          refine WL.va rfl rfl rfl (X.assign rfl) ?_
          refine WL.va rfl rfl rfl (X.assignB rfl) ?_
          refine WL.nil ?_
          refine thn_n ?_
          refine WF.seq ?_
          refine WF.region ?_
          refine WL.va rfl rfl rfl (X.move rfl) ?_
          refine WL.va rfl rfl rfl (X.assign rfl) ?_
          refine WL.nil ?_
          refine thn_n ?_
          refine WF.seq ?_
          refine WF.region ?_
          refine WL.va rfl rfl rfl (X.fieldAddrO (off := 9) rfl Try.underlying26 rfl rfl Try.sizeOf3) ?_
          refine WL.va rfl rfl rfl (X.loadO hO12 (Ext.trans hx22 hx31) rfl rfl Try.isAgg3) ?_
          refine WL.va rfl rfl rfl (X.moveI ((hAL0.eq 2).trans (congrFun hF9 2))) ?_
          refine WL.va rfl rfl rfl (X.eql rfl rfl) ?_
          refine WL.va rfl rfl rfl (X.moveB rfl) ?_
          refine WL.split (j := 4) rfl (fun h34 => ?_) (fun h34 => ?_)
          · have gh34 := (of_decide_eq_true h34)
            have hkt := gh34
            refine WL.vg rfl (congrArg some h34) rfl rfl (X.fieldAddrO (off := 10) rfl Try.underlying26 rfl rfl Try.sizeOf3) ?_
            refine WL.vg rfl (congrArg some h34) rfl rfl (X.loadO hO12 (Ext.trans hx22 hx31) rfl rfl Try.isAgg3) ?_
            refine WL.vg rfl (congrArg some h34) rfl rfl (X.moveI ((hAL0.eq 3).trans (congrFun hF9 3))) ?_
            refine WL.vg rfl (congrArg some h34) rfl rfl (X.eql rfl rfl) ?_
            refine WL.va rfl rfl rfl (X.pickT rfl h34 rfl) ?_
            refine WL.nil ?_
            refine thn_n ?_
            refine WF.cond rfl (fun h3_35 => ?_) (fun h3_35 => ?_)
            · have gh3_35 := (of_decide_eq_true h3_35)
              have hkp := gh3_35
              have hfa2 : findA A (l[k]'hkl).Txn (l[k]'hkl).Part = findA O (l[k]'hkl).Txn (l[k]'hkl).Part := by rw [hkt, hkp]; exact hfo
              have hout := take_out (id := id) (m := (l[k]'hkl)) (by omega) (by have := hone.1; omega) hfa2
              refine WF.seq ?_
              refine WF.region ?_
              refine WL.va rfl rfl rfl (X.move e10_L0) ?_
              refine WL.va rfl rfl rfl (X.moveI ((hAL0.eq 0).trans (congrFun hF9 0))) ?_
              refine WL.va rfl rfl rfl (X.loadOA hO12 (Ext.trans hx22 hx31) rfl rfl Try.isAgg26 Try.sizeOf26) ?_
              refine WL.c rfl rfl rfl (X.call Try.call11 (evl_cons rfl (evl_cons rfl (evl_cons rfl evl_nil)))) (take_ok _ O id (l[k]'hkl) em dm _ (Row.ext hO (Ext.trans (Ext.trans (Ext.store hx14 hx18 (by omega)) hx22) hx31)) (by have := hone.1; omega) hm64) ?_
              rintro v38 w37 ⟨⟨vb2, vm3, rfl, ob, on, _⟩, hx39⟩
              have := World.grownBy.size hx39
              refine WL.va rfl rfl rfl (X.move rfl) ?_
              refine WL.va rfl rfl rfl (X.extract rfl rfl) ?_
              refine WL.va rfl rfl rfl (X.extract rfl rfl) ?_
              refine WL.va rfl rfl rfl (X.extract rfl rfl) ?_
              refine WL.va rfl rfl rfl (X.assign rfl) ?_
              refine WL.va rfl rfl rfl (X.assign rfl) ?_
              refine WL.va rfl rfl rfl (X.assignB rfl) ?_
              refine WL.nil ?_
              refine thn_n ?_
              refine WF.seq ?_
              refine WF.region ?_
              refine WL.va rfl rfl rfl (X.move rfl) ?_
              refine WL.va rfl rfl rfl (X.assign rfl) ?_
              refine WL.nil ?_
              refine thn_n ?_
              refine WF.seq ?_
              refine WF.region ?_
              refine WL.va rfl rfl rfl (X.move rfl) ?_
              refine WL.va rfl rfl rfl (X.move rfl) ?_
              refine WL.c rfl rfl rfl (X.call Try.call14 (evl_cons rfl (evl_cons rfl evl_nil))) (sameMsgs_ok _ _ _ _ _ (msgs_of_row (Row.ext (Row.of_own om) hx39) (takeA_bare _ _ _)) (msgs_of_row (Row.of_own on) (takeA_bare _ _ _))) ?_
              rintro v42 w41 ⟨rfl, hx43⟩
              have := World.grownBy.size hx43
              refine WL.va rfl rfl rfl (X.not rfl) ?_
              refine WL.nil ?_
              refine thn_n ?_
              refine WF.cond rfl (fun h4_45 => ?_) (fun h4_45 => ?_)
              · have gh4_45 := (of_decide_eq_false (nt h4_45))
                exact absurd (congrArg Prod.fst hout) gh4_45
              · have gh4_45 := (of_decide_eq_true (nf h4_45))
                refine WF.skip ?_
                refine blk_n ?_
                refine thn_n ?_
                refine WF.region ?_
                refine WL.va rfl rfl rfl (X.moveI e11_L0) ?_
                refine WL.va rfl rfl rfl (X.add rfl rfl (w64 (by omega))) ?_
                refine WL.va rfl rfl rfl (X.assignI rfl) ?_
                refine WL.nil ?_
                first | exact thn_n ⟨_, (by omega), k + 1, _, _, _, _, rfl, rfl, rfl, rfl, (by repeat (first | exact hAL0 | refine Agree.put ?_ rfl | refine Agree.named hF9 ?_)), (Ext.trans (Ext.trans (Ext.trans (Ext.trans (Ext.trans hwL0 (Ext.store hx14 hx18 (by omega))) hx22) hx31) hx39) hx43), ⟨by omega, (Row.ext (Row.of_own oa) (Ext.trans hx39 hx43)), (Row.ext (Row.of_own ob) hx43), (by have := take_len A id (l[k]'hkl); omega), hone, (by rw [take_other hoth]; exact hfo)⟩⟩ | exact thn_n ⟨_, (by omega), k + 1, _, _, _, _, rfl, rfl, rfl, rfl, (by repeat (first | exact hAL0 | refine Agree.put ?_ rfl | refine Agree.named hF9 ?_)), (Ext.trans (Ext.trans (Ext.trans (Ext.trans (Ext.trans hwL0 (Ext.store hx14 hx18 (by omega))) hx22) hx31) hx39) hx43), ⟨by omega, (Row.ext (Row.of_own oa) (Ext.trans hx39 hx43)), (Row.ext (Row.of_own ob) hx43), (by have := take_len A id (l[k]'hkl); omega), (by have h := hone; rw [← hkt, ← hkp] at h ⊢; exact h.take), (by rw [← hkt, ← hkp, take_find (by omega), take_find (by have := hone.1; omega), hfa2])⟩⟩
            · have gh3_35 := (of_decide_eq_false h3_35)
              have hoth : ¬ (t = (l[k]'hkl).Txn ∧ p = (l[k]'hkl).Part) := fun e => gh3_35 e.2.symm
              refine WF.skip ?_
              refine blk_n ?_
              refine thn_n ?_
              refine WF.region ?_
              refine WL.va rfl rfl rfl (X.moveI e11_L0) ?_
              refine WL.va rfl rfl rfl (X.add rfl rfl (w64 (by omega))) ?_
              refine WL.va rfl rfl rfl (X.assignI rfl) ?_
              refine WL.nil ?_
              first | exact thn_n ⟨_, (by omega), k + 1, _, _, _, _, rfl, rfl, rfl, e10_L0, (by repeat (first | exact hAL0 | refine Agree.put ?_ rfl | refine Agree.named hF9 ?_)), (Ext.trans (Ext.trans (Ext.trans hwL0 (Ext.store hx14 hx18 (by omega))) hx22) hx31), ⟨by omega, (Row.of_own oa), (Row.ext hO (Ext.trans (Ext.trans (Ext.store hx14 hx18 (by omega)) hx22) hx31)), (by have := take_len A id (l[k]'hkl); omega), hone, (by rw [take_other hoth]; exact hfo)⟩⟩ | exact thn_n ⟨_, (by omega), k + 1, _, _, _, _, rfl, rfl, rfl, e10_L0, (by repeat (first | exact hAL0 | refine Agree.put ?_ rfl | refine Agree.named hF9 ?_)), (Ext.trans (Ext.trans (Ext.trans hwL0 (Ext.store hx14 hx18 (by omega))) hx22) hx31), ⟨by omega, (Row.of_own oa), (Row.ext hO (Ext.trans (Ext.trans (Ext.store hx14 hx18 (by omega)) hx22) hx31)), (by have := take_len A id (l[k]'hkl); omega), (by have h := hone; rw [← hkt, ← hkp] at h ⊢; exact h.take), (by rw [← hkt, ← hkp, take_find (by omega), take_find (by have := hone.1; omega), hfa2])⟩⟩
          · have gh34 := (of_decide_eq_false h34)
            have hoth : ¬ (t = (l[k]'hkl).Txn ∧ p = (l[k]'hkl).Part) := fun e => gh34 e.1.symm
            refine WL.p rfl rfl rfl (congrArg some h34) ?_
            refine WL.p rfl rfl rfl (congrArg some h34) ?_
            refine WL.p rfl rfl rfl (congrArg some h34) ?_
            refine WL.p rfl rfl rfl (congrArg some h34) ?_
            refine WL.va rfl rfl rfl (X.pickF rfl h34 rfl) ?_
            refine WL.nil ?_
            refine thn_n ?_
            refine WF.cond_f rfl ?_
            refine WF.skip ?_
            refine blk_n ?_
            refine thn_n ?_
            refine WF.region ?_
            refine WL.va rfl rfl rfl (X.moveI e11_L0) ?_
            refine WL.va rfl rfl rfl (X.add rfl rfl (w64 (by omega))) ?_
            refine WL.va rfl rfl rfl (X.assignI rfl) ?_
            refine WL.nil ?_
            first | exact thn_n ⟨_, (by omega), k + 1, _, _, _, _, rfl, rfl, rfl, e10_L0, (by repeat (first | exact hAL0 | refine Agree.put ?_ rfl | refine Agree.named hF9 ?_)), (Ext.trans (Ext.trans (Ext.trans hwL0 (Ext.store hx14 hx18 (by omega))) hx22) hx31), ⟨by omega, (Row.of_own oa), (Row.ext hO (Ext.trans (Ext.trans (Ext.store hx14 hx18 (by omega)) hx22) hx31)), (by have := take_len A id (l[k]'hkl); omega), hone, (by rw [take_other hoth]; exact hfo)⟩⟩ | exact thn_n ⟨_, (by omega), k + 1, _, _, _, _, rfl, rfl, rfl, e10_L0, (by repeat (first | exact hAL0 | refine Agree.put ?_ rfl | refine Agree.named hF9 ?_)), (Ext.trans (Ext.trans (Ext.trans hwL0 (Ext.store hx14 hx18 (by omega))) hx22) hx31), ⟨by omega, (Row.of_own oa), (Row.ext hO (Ext.trans (Ext.trans (Ext.store hx14 hx18 (by omega)) hx22) hx31)), (by have := take_len A id (l[k]'hkl); omega), (by have h := hone; rw [← hkt, ← hkp] at h ⊢; exact h.take), (by rw [← hkt, ← hkp, take_find (by omega), take_find (by have := hone.1; omega), hfa2])⟩⟩
      · have gh1_10 := (of_decide_eq_false h1_10)
        refine WF.exit ?_
        refine thn_x ?_
        refine thn_x ?_
        refine blk_eq ?_
        refine thn_n ?_
        refine WF.seq ?_
        refine WF.region ?_
        refine WL.va rfl rfl rfl (X.move e9_L0) ?_
        refine WL.va rfl rfl rfl (X.moveI ((hAL0.eq 2).trans (congrFun hF9 2))) ?_
        refine WL.va rfl rfl rfl (X.moveI ((hAL0.eq 3).trans (congrFun hF9 3))) ?_
        refine WL.c rfl rfl rfl (X.call Try.call16 (evl_cons rfl (evl_cons rfl (evl_cons rfl evl_nil)))) ((findA_ok _ _ _ _ _ hA).mono (fun r wq h => (show r = .tuple #[agg (findA A t p).1.c, .bool (findA A t p).2] ∧ Ext wL0 wq from h))) ?_
        rintro v49 w48 ⟨rfl, hx50⟩
        refine WL.va rfl rfl rfl (X.move rfl) ?_
        refine WL.va rfl rfl rfl (X.extract rfl rfl) ?_
        refine WL.va rfl rfl rfl (X.extract rfl rfl) ?_
        refine WL.op rfl (OW.allocO (cs := [i64 0, i64 0, i64 0, i64 0, i64 0]) Try.zeroValue37 rfl ?_ (by decide))
        intro g19 w52 heg19 hlg19 hO19 hx54
        have := World.grownBy.size hx54
        refine WL.op rfl (OW.storeOA hO19 rfl rfl rfl (Acc.c_one _) Try.sizeOf37 ?_)
        intro w56 hO19 hx58
        have := World.grownBy.size hx58
        refine WL.va rfl rfl rfl (X.assignB rfl) ?_
        refine WL.nil ?_
        refine thn_n ?_
        refine WF.seq ?_
        refine WF.region ?_
        refine WL.va rfl rfl rfl (X.move e10_L0) ?_
        refine WL.va rfl rfl rfl (X.moveI ((hAL0.eq 2).trans (congrFun hF9 2))) ?_
        refine WL.va rfl rfl rfl (X.moveI ((hAL0.eq 3).trans (congrFun hF9 3))) ?_
        refine WL.c rfl rfl rfl (X.call Try.call16 (evl_cons rfl (evl_cons rfl (evl_cons rfl evl_nil)))) ((findA_ok _ _ _ _ _ (Row.ext hO (Ext.trans hx50 (Ext.store hx54 hx58 (by omega))))).mono (fun r wq h => (show r = .tuple #[agg (findA A t p).1.c, .bool (findA A t p).2] ∧ Ext w56 wq from (by rw [hfo]; exact h)))) ?_
        rintro v61 w60 ⟨rfl, hx62⟩
        have := World.grownBy.size hx62
        refine WL.va rfl rfl rfl (X.move rfl) ?_
        refine WL.va rfl rfl rfl (X.extract rfl rfl) ?_
        refine WL.va rfl rfl rfl (X.extract rfl rfl) ?_
        refine WL.op rfl (OW.allocO (cs := [i64 0, i64 0, i64 0, i64 0, i64 0]) Try.zeroValue37 rfl ?_ (by decide))
        intro g21 w64 heg21 hlg21 hO21 hx66
        have := World.grownBy.size hx66
        refine WL.op rfl (OW.storeOA hO21 rfl rfl rfl (Acc.c_one _) Try.sizeOf37 ?_)
        intro w68 hO21 hx70
        have := World.grownBy.size hx70
        replace hO19 := (hO19.ext (Ext.trans hx62 hx66)).keptO hx70 (by omega)
        refine WL.va rfl rfl rfl (X.assignB rfl) ?_
        refine WL.nil ?_
        refine thn_n ?_
        refine WF.seq ?_
        refine WF.region ?_
        refine WL.va rfl rfl rfl (X.loadOA hO19 (Ext.refl _) rfl rfl Try.isAgg37 Try.sizeOf37) ?_
        refine WL.va rfl rfl rfl (X.loadOA hO21 (Ext.refl _) rfl rfl Try.isAgg37 Try.sizeOf37) ?_
        refine WL.va rfl rfl rfl (X.eqlA (na := (findA A t p).1.ints) (nb := (findA A t p).1.ints) flatV fieldsV offsV rfl rfl rfl rfl (Acc.eqB _ _)) ?_
        refine WL.va rfl rfl rfl (X.moveB rfl) ?_
        refine WL.split (j := 3) rfl (fun h73 => ?_) (fun h73 => ?_)
        · have gh73 := h73
          refine WL.vg rfl (congrArg some h73) rfl rfl (X.moveB rfl) ?_
          refine WL.vg rfl (congrArg some h73) rfl rfl (X.moveB rfl) ?_
          refine WL.vg rfl (congrArg some h73) rfl rfl (X.eqlB rfl rfl Try.underlying4) ?_
          refine WL.va rfl rfl rfl (X.pickT rfl h73 rfl) ?_
          refine WL.va rfl rfl rfl (X.moveB rfl) ?_
          refine WL.split (j := 8) rfl (fun h75 => ?_) (fun h75 => ?_)
          · have gh75 := h75
            refine WL.vg rfl (congrArg some h75) rfl rfl (X.move e10_L0) ?_
            refine WL.vg rfl (congrArg some h75) rfl rfl (X.len hO rfl Try.underlying22) ?_
            refine WL.vg rfl (congrArg some h75) rfl rfl (X.leq rfl rfl) ?_
            refine WL.va rfl rfl rfl (X.pickT rfl h75 rfl) ?_
            refine WL.va rfl rfl rfl (X.moveB rfl) ?_
            refine WL.split (j := 13) rfl (fun h77 => ?_) (fun h77 => ?_)
            · have gh77 := (of_decide_eq_true h77)
              refine WL.cg rfl (congrArg some h77) rfl rfl (X.call Try.call9 evl_nil) (works_ok _) ?_
              rintro v79 w78 ⟨rfl, hx80⟩
              have := World.grownBy.size hx80
              refine WL.va rfl rfl rfl (X.pickT rfl h77 rfl) ?_
              refine WL.va rfl rfl rfl (X.assignB rfl) ?_
              refine WL.nil ?_
              refine thn_n ?_
              refine WF.ret ?_
              refine fin_r ?_
              exact ⟨rfl, (Ext.trans (Ext.trans (Ext.trans (Ext.trans (Ext.trans hwL0 hx50) (Ext.store hx54 hx58 (by omega))) hx62) (Ext.store hx66 hx70 (by omega))) hx80)⟩
            · have gh77 := (of_decide_eq_false h77)
              exact absurd (by have := hone.1; omega) gh77
          · have gh75 := h75
            first | exact absurd rfl gh75 | exact absurd gh75 (by simp)
        · have gh73 := h73
          first | exact absurd rfl gh73 | exact absurd gh73 (by simp)

set_option maxHeartbeats 8000000 in
theorem acceptorRises_walk (id : Int) (vl : Value) (l : List Msg) (w : World) (_hid : -9223372036854775808 ≤ id ∧ id ≤ 9223372036854775807) (hM : Msgs w vl l) (h64 : ∀ m ∈ l, In64 m.ints) : FnOk Try.prog 4 [i64 id, vl] w (fun r w' => r = .bool true ∧ Ext w w') := by
  have hlv := hM.le
  obtain ⟨cs, hr, hT⟩ := hM
  refine FnOk.enter (rs := [4]) Try.func4 rfl Try.ntmps4 Try.results4 rfl rfl ?_
  refine WF.seq ?_
  refine WF.region ?_
  refine WL.va rfl rfl rfl (X.assignB rfl) ?_
  refine WL.nil ?_
  refine thn_n ?_
  refine WF.seq ?_
  refine WF.seq ?_
  refine WF.region ?_
  refine WL.va rfl rfl rfl (X.move rfl) ?_
  refine WL.va rfl rfl rfl (X.len hr rfl Try.underlying30) ?_
  refine WL.va rfl rfl rfl (X.gtr rfl rfl) ?_
  refine WL.nil ?_
  refine thn_n ?_
  refine WF.cond rfl (fun h0_2 => ?_) (fun h0_2 => ?_)
  · have gh0_2 := (of_decide_eq_true h0_2)
    refine WF.seq ?_
    refine WF.region ?_
    refine WL.c rfl rfl rfl (X.call Try.call9 evl_nil) (works_ok _) ?_
    rintro v5 w4 ⟨rfl, hx6⟩
    refine WL.va rfl rfl rfl (X.assignB rfl) ?_
    refine WL.nil ?_
    refine thn_n ?_
    refine WF.ret ?_
    refine thn_r ?_
    refine fin_r ?_
    exact ⟨rfl, hx6⟩
  · have gh0_2 := (of_decide_eq_false h0_2)
    refine WF.skip ?_
    refine thn_n ?_
    refine WF.seq ?_
    refine WF.region ?_
    refine WL.va rfl rfl rfl (X.assign rfl) ?_
    refine WL.nil ?_
    refine thn_n ?_
    refine WF.seq ?_
    refine WF.seq ?_
    refine WF.region ?_
    refine WL.va rfl rfl rfl (X.assignI rfl) ?_
    refine WL.nil ?_
    refine thn_n ?_
    refine WF.block ?_
    refine WF.named (fun F8 hF9 => ?_)
    refine WF.loopN (fun mL0 f' w' => ∃ (k : Nat) (vv : Value) (V : List Acc), mL0 = l.length - k ∧ f' 6 = .int .i64 (k : Int) ∧ f' 5 = vv ∧ Agree [0, 1, 18, 19, 20] f' F8 ∧ Ext w w' ∧ k ≤ l.length ∧ Votes w' vv V ∧ V.length ≤ k ∧ Uniq V ∧ ∀ x ∈ V, Low x) ?_ ?_
    · exact ⟨_, 0, _, [], rfl, (congrFun hF9 6), (congrFun hF9 5), (Agree.refl _ _), (Ext.refl _), ⟨Nat.zero_le _, Row.nil _ _, Nat.le_refl _, List.Pairwise.nil, fun x hx => by cases hx⟩⟩
    · rintro mL0 fL0 wL0 ⟨k, vv, V, hmL0, e6_L0, e5_L0, hAL0, hwL0, ⟨hk, hV, hVl, huq, hlow⟩⟩
      refine WF.seq ?_
      refine WF.seq ?_
      refine WF.region ?_
      refine WL.va rfl rfl rfl (X.moveI e6_L0) ?_
      refine WL.va rfl rfl rfl (X.move ((hAL0.eq 1).trans (congrFun hF9 1))) ?_
      refine WL.va rfl rfl rfl (X.len hr rfl Try.underlying30) ?_
      refine WL.va rfl rfl rfl (X.lss rfl rfl) ?_
      refine WL.nil ?_
      refine thn_n ?_
      refine WF.cond rfl (fun h1_10 => ?_) (fun h1_10 => ?_)
      · have gh1_10 := (of_decide_eq_true h1_10)
        have hkl : k < l.length := by omega
        obtain ⟨em, dm, hel, he, hd⟩ := hT k hkl
        have hm64 := h64 _ (List.getElem_mem hkl)
        obtain ⟨m, hm⟩ : ∃ m, m = l[k] := ⟨_, rfl⟩
        rw [← hm] at hel he hd hm64
        obtain ⟨was, wh, hf⟩ : ∃ a b, findA V m.Txn m.Part = (a, b) := ⟨_, _, rfl⟩
        obtain ⟨X1, M, ch, hTk⟩ : ∃ a b c, takeA V id m = (a, b, c) := ⟨_, _, _, rfl⟩
        obtain ⟨is, ih, hi⟩ : ∃ a b, findA X1 m.Txn m.Part = (a, b) := ⟨_, _, rfl⟩
        obtain ⟨c1, c2, c3, c4, c4b, c5, c6, c7⟩ := take_says (by omega) hlow hf hTk hi
        have hbare : ∀ x ∈ M, Bare x := by have := takeA_bare V id m; rwa [hTk] at this
        refine WF.skip ?_
        refine thn_n ?_
        refine WF.seq ?_
        refine WF.block ?_
        refine WF.seq ?_
        refine WF.region ?_
        refine WL.va rfl rfl rfl (X.move ((hAL0.eq 1).trans (congrFun hF9 1))) ?_
        refine WL.va rfl rfl rfl (X.moveI e6_L0) ?_
        refine WL.va rfl rfl rfl (X.idx hr rfl rfl (by omega) Try.underlying30 Try.sizeOf26) ?_
        refine WL.va rfl rfl rfl (X.loadEl hr hwL0 rfl (by omega) hel Try.isAgg26 Try.sizeOf26) ?_
        refine WL.op rfl (OW.allocO (cs := [i64 0, i64 0, i64 0, i64 0, i64 0, i64 0, i64 0, i64 0, i64 0, i64 0, i64 0, i64 0, i64 0, i64 0, .bool false, .slice none 0 0, .slice none 0 0]) Try.zeroValue26 rfl ?_ (by decide))
        intro g7 w12 heg7 hlg7 hO7 hx14
        have := World.grownBy.size hx14
        refine WL.op rfl (OW.storeOA hO7 rfl rfl rfl (msg_one he hd) Try.sizeOf26 ?_)
        intro w16 hO7 hx18
        have := World.grownBy.size hx18
        replace hO7 : Blk _ _ _ (m.c em dm) := hO7
        refine WL.nil ?_
        refine thn_n ?_
        refine WF.seq ?_
        refine WF.seq ?_
        refine WF.region ?_
        refine WL.va rfl rfl rfl (X.loadOA hO7 (Ext.refl _) rfl rfl Try.isAgg26 Try.sizeOf26) ?_
        refine WL.c rfl rfl rfl (X.call Try.call8 (evl_cons rfl (evl_cons rfl (evl_cons rfl evl_nil)))) (bigMsg_ok m em dm 1024 1024 _ (he.ext (Ext.trans hwL0 (Ext.store hx14 hx18 (by omega)))) (Row.ext hd (Ext.trans hwL0 (Ext.store hx14 hx18 (by omega)))) (by decide) (by decide)) ?_
        rintro v21 w20 ⟨rfl, hx22⟩
        have := World.grownBy.size hx22
        refine WL.va rfl rfl rfl (X.moveB rfl) ?_
        refine WL.split (j := 2) rfl (fun h24 => ?_) (fun h24 => ?_)
        · have gh24 := h24
          refine WL.p rfl rfl rfl (congrArg some h24) ?_
          refine WL.p rfl rfl rfl (congrArg some h24) ?_
          refine WL.p rfl rfl rfl (congrArg some h24) ?_
          refine WL.va rfl rfl rfl (X.pickT rfl h24 rfl) ?_
          refine WL.nil ?_
          refine thn_n ?_
          refine WF.cond_t rfl ?_
          refine WF.seq ?_
          refine WF.region ?_
          refine WL.c rfl rfl rfl (X.call Try.call9 evl_nil) (works_ok _) ?_
          rintro v27 w26 ⟨rfl, hx28⟩
          have := World.grownBy.size hx28
          refine WL.va rfl rfl rfl (X.assignB rfl) ?_
          refine WL.nil ?_
          refine thn_n ?_
          refine WF.ret ?_
          refine thn_r ?_
          refine blk_r ?_
          refine thn_r ?_
          refine thn_r ?_
          refine blk_r ?_
          refine thn_r ?_
          refine fin_r ?_
          exact ⟨rfl, (Ext.trans (Ext.trans (Ext.trans hwL0 (Ext.store hx14 hx18 (by omega))) hx22) hx28)⟩
        · have gh24 := h24
          refine WL.vg rfl (congrArg some h24) rfl rfl (X.fieldAddrO (off := 11) rfl Try.underlying26 rfl rfl Try.sizeOf3) ?_
          refine WL.vg rfl (congrArg some h24) rfl rfl (X.loadO hO7 hx22 rfl rfl Try.isAgg3) ?_
          refine WL.vg rfl (congrArg some h24) rfl rfl (X.lss rfl rfl) ?_
          refine WL.va rfl rfl rfl (X.pickF rfl h24 rfl) ?_
          refine WL.nil ?_
          refine thn_n ?_
          refine WF.cond rfl (fun h2_30 => ?_) (fun h2_30 => ?_)
          · have gh2_30 := (of_decide_eq_true h2_30)
            refine WF.seq ?_
            refine WF.region ?_
            refine WL.c rfl rfl rfl (X.call Try.call9 evl_nil) (works_ok _) ?_
            rintro v33 w32 ⟨rfl, hx34⟩
            have := World.grownBy.size hx34
            refine WL.va rfl rfl rfl (X.assignB rfl) ?_
            refine WL.nil ?_
            refine thn_n ?_
            refine WF.ret ?_
            refine thn_r ?_
            refine blk_r ?_
            refine thn_r ?_
            refine thn_r ?_
            refine blk_r ?_
            refine thn_r ?_
            refine fin_r ?_
            exact ⟨rfl, (Ext.trans (Ext.trans (Ext.trans hwL0 (Ext.store hx14 hx18 (by omega))) hx22) hx34)⟩
          · have gh2_30 := (of_decide_eq_false h2_30)
            refine WF.skip ?_
            refine thn_n ?_
            refine WF.seq ?_
            refine WF.region ?_
            refine WL.va rfl rfl rfl (X.move e5_L0) ?_
            refine WL.va rfl rfl rfl (X.moveI ((hAL0.eq 0).trans (congrFun hF9 0))) ?_
            refine WL.va rfl rfl rfl (X.loadOA hO7 hx22 rfl rfl Try.isAgg26 Try.sizeOf26) ?_
            refine WL.c rfl rfl rfl (X.call Try.call11 (evl_cons rfl (evl_cons rfl (evl_cons rfl evl_nil)))) ((take_ok _ V id m em dm _ (Row.ext hV (Ext.trans (Ext.store hx14 hx18 (by omega)) hx22)) (by omega) hm64).mono (fun r wq h => (show (∃ vv vm, r = .tuple #[vv, vm, .bool ch] ∧ OwnV wq w20.heap.size 37 vv X1 ∧ OwnM wq w20.heap.size 26 vm M ∧ Apart vv vm) ∧ Ext w20 wq from by rw [hTk] at h; exact h))) ?_
            rintro v37 w36 ⟨⟨va2, vm2, rfl, oa, om, _⟩, hx38⟩
            have := World.grownBy.size hx38
            refine WL.va rfl rfl rfl (X.move rfl) ?_
            refine WL.va rfl rfl rfl (X.extract rfl rfl) ?_
            refine WL.va rfl rfl rfl (X.extract rfl rfl) ?_
            refine WL.va rfl rfl rfl (X.extract rfl rfl) ?_
            refine WL.va rfl rfl rfl (X.assign rfl) ?_
            refine WL.va rfl rfl rfl (X.assign rfl) ?_
            refine WL.va rfl rfl rfl (X.assignB rfl) ?_
            refine WL.nil ?_
            refine thn_n ?_
            refine WF.seq ?_
            refine WF.region ?_
            refine WL.va rfl rfl rfl (X.move e5_L0) ?_
            refine WL.va rfl rfl rfl (X.fieldAddrO (off := 9) rfl Try.underlying26 rfl rfl Try.sizeOf3) ?_
            refine WL.va rfl rfl rfl (X.loadO hO7 (Ext.trans hx22 hx38) rfl rfl Try.isAgg3) ?_
            refine WL.va rfl rfl rfl (X.fieldAddrO (off := 10) rfl Try.underlying26 rfl rfl Try.sizeOf3) ?_
            refine WL.va rfl rfl rfl (X.loadO hO7 (Ext.trans hx22 hx38) rfl rfl Try.isAgg3) ?_
            refine WL.c rfl rfl rfl (X.call Try.call16 (evl_cons rfl (evl_cons rfl (evl_cons rfl evl_nil)))) ((findA_ok _ V _ _ _ (Row.ext hV (Ext.trans (Ext.trans (Ext.store hx14 hx18 (by omega)) hx22) hx38))).mono (fun r wq h => (show r = .tuple #[agg was.c, .bool wh] ∧ Ext w36 wq from by rw [hf] at h; exact h))) ?_
            rintro v41 w40 ⟨rfl, hx42⟩
            have := World.grownBy.size hx42
            refine WL.va rfl rfl rfl (X.move rfl) ?_
            refine WL.va rfl rfl rfl (X.extract rfl rfl) ?_
            refine WL.va rfl rfl rfl (X.extract rfl rfl) ?_
            refine WL.op rfl (OW.allocO (cs := [i64 0, i64 0, i64 0, i64 0, i64 0]) Try.zeroValue37 rfl ?_ (by decide))
            intro g11 w44 heg11 hlg11 hO11 hx46
            have := World.grownBy.size hx46
            refine WL.op rfl (OW.storeOA hO11 rfl rfl rfl (Acc.c_one _) Try.sizeOf37 ?_)
            intro w48 hO11 hx50
            have := World.grownBy.size hx50
            replace hO7 := (hO7.ext (Ext.trans (Ext.trans (Ext.trans hx22 hx38) hx42) hx46)).keptO hx50 (by omega)
            replace hO11 : Blk _ _ _ was.c := hO11
            refine WL.va rfl rfl rfl (X.assignB rfl) ?_
            refine WL.nil ?_
            refine thn_n ?_
            refine WF.seq ?_
            refine WF.region ?_
            refine WL.va rfl rfl rfl (X.move rfl) ?_
            refine WL.va rfl rfl rfl (X.fieldAddrO (off := 9) rfl Try.underlying26 rfl rfl Try.sizeOf3) ?_
            refine WL.va rfl rfl rfl (X.loadO hO7 (Ext.refl _) rfl rfl Try.isAgg3) ?_
            refine WL.va rfl rfl rfl (X.fieldAddrO (off := 10) rfl Try.underlying26 rfl rfl Try.sizeOf3) ?_
            refine WL.va rfl rfl rfl (X.loadO hO7 (Ext.refl _) rfl rfl Try.isAgg3) ?_
            refine WL.c rfl rfl rfl (X.call Try.call16 (evl_cons rfl (evl_cons rfl (evl_cons rfl evl_nil)))) ((findA_ok _ X1 _ _ _ (Row.ext (Row.of_own oa) (Ext.trans hx42 (Ext.store hx46 hx50 (by omega))))).mono (fun r wq h => (show r = .tuple #[agg is.c, .bool ih] ∧ Ext w48 wq from by rw [hi] at h; exact h))) ?_
            rintro v53 w52 ⟨rfl, hx54⟩
            have := World.grownBy.size hx54
            refine WL.va rfl rfl rfl (X.move rfl) ?_
            refine WL.va rfl rfl rfl (X.extract rfl rfl) ?_
            refine WL.va rfl rfl rfl (X.extract rfl rfl) ?_
            refine WL.op rfl (OW.allocO (cs := [i64 0, i64 0, i64 0, i64 0, i64 0]) Try.zeroValue37 rfl ?_ (by decide))
            intro g13 w56 heg13 hlg13 hO13 hx58
            have := World.grownBy.size hx58
            refine WL.op rfl (OW.storeOA hO13 rfl rfl rfl (Acc.c_one _) Try.sizeOf37 ?_)
            intro ws hO13 hx61
            have := World.grownBy.size hx61
            replace hO7 := (hO7.ext (Ext.trans hx54 hx58)).keptO hx61 (by omega)
            replace hO11 := (hO11.ext (Ext.trans hx54 hx58)).keptO hx61 (by omega)
            replace hO13 : Blk _ _ _ is.c := hO13
            refine WL.va rfl rfl rfl (X.assignB rfl) ?_
            refine WL.nil ?_
            refine thn_n ?_
            refine WF.seq ?_
            refine WF.named (fun F63 hF64 => ?_)
            refine WF.cut (fun f' w' => f' 96 = .bool false ∧ Agree [0, 1, 5, 6, 7, 8, 9, 10, 11, 13, 14, 18, 19, 20, 22, 23, 24, 25, 28, 29, 30, 31, 32, 33, 34, 35, 36, 37, 38, 40, 41, 42, 43, 44, 45, 46, 47, 48, 49, 50, 51, 52, 53, 54, 55, 56, 57, 58, 59, 60, 61, 62, 63, 64, 65] f' F63 ∧ ws = w') ?_ ?_
            · refine WF.region ?_
              refine WL.va rfl rfl rfl (X.fieldAddrO (off := 2) (congrFun hF64 13) Try.underlying37 rfl rfl Try.sizeOf3) ?_
              refine WL.va rfl rfl rfl (X.loadO hO13 (Ext.refl _) rfl rfl Try.isAgg3) ?_
              refine WL.va rfl rfl rfl (X.fieldAddrO (off := 2) (congrFun hF64 11) Try.underlying37 rfl rfl Try.sizeOf3) ?_
              refine WL.va rfl rfl rfl (X.loadO hO11 (Ext.refl _) rfl rfl Try.isAgg3) ?_
              refine WL.va rfl rfl rfl (X.lss rfl rfl) ?_
              refine WL.va rfl rfl rfl (X.moveB rfl) ?_
              refine WL.split (j := 5) rfl (fun h66 => ?_) (fun h66 => ?_)
              · have gh66 := (of_decide_eq_true h66)
                exact absurd gh66 (by omega)
              · have gh66 := (of_decide_eq_false h66)
                refine WL.vg rfl (congrArg some h66) rfl rfl (X.fieldAddrO (off := 3) (congrFun hF64 13) Try.underlying37 rfl rfl Try.sizeOf3) ?_
                refine WL.vg rfl (congrArg some h66) rfl rfl (X.loadO hO13 (Ext.refl _) rfl rfl Try.isAgg3) ?_
                refine WL.vg rfl (congrArg some h66) rfl rfl (X.fieldAddrO (off := 2) (congrFun hF64 13) Try.underlying37 rfl rfl Try.sizeOf3) ?_
                refine WL.vg rfl (congrArg some h66) rfl rfl (X.loadO hO13 (Ext.refl _) rfl rfl Try.isAgg3) ?_
                refine WL.vg rfl (congrArg some h66) rfl rfl (X.gtr rfl rfl) ?_
                refine WL.va rfl rfl rfl (X.pickF rfl h66 rfl) ?_
                refine WL.va rfl rfl rfl (X.moveB rfl) ?_
                refine WL.split (j := 12) rfl (fun h68 => ?_) (fun h68 => ?_)
                · have gh68 := (of_decide_eq_true h68)
                  exact absurd gh68 (by omega)
                · have gh68 := (of_decide_eq_false h68)
                  refine WL.vg rfl (congrArg some h68) rfl rfl (X.moveB (congrFun hF64 10)) ?_
                  refine WL.vg rfl (congrArg some h68) rfl rfl (X.loadOA hO13 (Ext.refl _) (congrFun hF64 13) rfl Try.isAgg37 Try.sizeOf37) ?_
                  refine WL.vg rfl (congrArg some h68) rfl rfl (X.loadOA hO11 (Ext.refl _) (congrFun hF64 11) rfl Try.isAgg37 Try.sizeOf37) ?_
                  refine WL.vg rfl (congrArg some h68) rfl rfl (X.neqA (na := is.ints) (nb := was.ints) flatV fieldsV offsV rfl rfl rfl rfl (Acc.eqB _ _)) ?_
                  refine WL.vg rfl (congrArg some h68) rfl rfl (X.neqB rfl rfl Try.underlying4) ?_
                  refine WL.va rfl rfl rfl (X.pickF rfl h68 rfl) ?_
                  refine WL.va rfl rfl rfl (X.moveB rfl) ?_
                  refine WL.split (j := 19) rfl (fun h71 => ?_) (fun h71 => ?_)
                  · have gh71 := h71
                    exact absurd gh71 (by rw [c3]; simp)
                  · have gh71 := h71
                    refine WL.vg rfl (congrArg some h71) rfl rfl (X.moveB (congrFun hF64 10)) ?_
                    refine WL.vg rfl (congrArg some h71) rfl rfl (X.moveB rfl) ?_
                    refine WL.split (j := 21) rfl (fun h72 => ?_) (fun h72 => ?_)
                    · have gh72 := h72
                      have hch : ch = true := gh72
                      refine WL.vg rfl (congrArg some h72) rfl rfl (X.moveB (congrFun hF64 14)) ?_
                      refine WL.vg rfl (congrArg some h72) rfl rfl (X.not rfl) ?_
                      refine WL.vg rfl (congrArg some h71) rfl rfl (X.pickT rfl h72 rfl) ?_
                      refine WL.va rfl rfl rfl (X.pickF rfl h71 rfl) ?_
                      refine WL.va rfl rfl rfl (X.moveB rfl) ?_
                      refine WL.split (j := 26) rfl (fun h74 => ?_) (fun h74 => ?_)
                      · have gh74 := (nt h74)
                        exact absurd (c4 hch) (by rw [gh74]; simp)
                      · have gh74 := (nf h74)
                        refine WL.vg rfl (congrArg some h74) rfl rfl (X.move (congrFun hF64 9)) ?_
                        refine WL.vg rfl (congrArg some h74) rfl rfl (X.len (Row.of_own om) rfl Try.underlying30) ?_
                        refine WL.vg rfl (congrArg some h74) rfl rfl (X.gtr rfl rfl) ?_
                        refine WL.va rfl rfl rfl (X.pickF rfl h74 rfl) ?_
                        refine WL.nil ?_
                        refine thn_n ?_
                        exact ⟨(by first | rfl | exact congrArg Value.bool (decide_eq_false (by omega))), (by repeat (first | exact (Agree.refl _ F63) | refine Agree.put ?_ rfl | refine Agree.sub hAL0 rfl ?_ | refine Agree.named hF64 ?_ | refine Agree.named hF9 ?_)), rfl⟩
                    · have gh72 := h72
                      refine WL.p rfl rfl rfl (congrArg some h72) ?_
                      refine WL.p rfl rfl rfl (congrArg some h72) ?_
                      refine WL.vg rfl (congrArg some h71) rfl rfl (X.pickF rfl h72 rfl) ?_
                      refine WL.va rfl rfl rfl (X.pickF rfl h71 rfl) ?_
                      refine WL.va rfl rfl rfl (X.moveB rfl) ?_
                      refine WL.vg rfl rfl rfl rfl (X.move (congrFun hF64 9)) ?_
                      refine WL.vg rfl rfl rfl rfl (X.len (Row.of_own om) rfl Try.underlying30) ?_
                      refine WL.vg rfl rfl rfl rfl (X.gtr rfl rfl) ?_
                      refine WL.va rfl rfl rfl (X.pickF rfl rfl rfl) ?_
                      refine WL.nil ?_
                      refine thn_n ?_
                      exact ⟨(by first | rfl | exact congrArg Value.bool (decide_eq_false (by omega))), (by repeat (first | exact (Agree.refl _ F63) | refine Agree.put ?_ rfl | refine Agree.sub hAL0 rfl ?_ | refine Agree.named hF64 ?_ | refine Agree.named hF9 ?_)), rfl⟩
            · rintro fCr13 wCr13 ⟨e96_Cr13, hACr13, rfl⟩
              refine WF.cond_f e96_Cr13 ?_
              refine WF.skip ?_
              refine thn_n ?_
              refine WF.seq ?_
              refine WF.named (fun F79 hF80 => ?_)
              refine WF.cut (fun f' w' => f' 127 = .bool false ∧ Agree [0, 1, 5, 6, 7, 8, 9, 10, 11, 13, 14, 18, 19, 20, 22, 23, 24, 25, 28, 29, 30, 31, 32, 33, 34, 35, 36, 37, 38, 40, 41, 42, 43, 44, 45, 46, 47, 48, 49, 50, 51, 52, 53, 54, 55, 56, 57, 58, 59, 60, 61, 62, 63, 64, 65, 96] f' F79 ∧ ws = w') ?_ ?_
              · refine WF.region ?_
                refine WL.va rfl rfl rfl (X.fieldAddrO (off := 4) ((congrFun hF80 13).trans ((hACr13.eq 13).trans (congrFun hF64 13))) Try.underlying37 rfl rfl Try.sizeOf3) ?_
                refine WL.va rfl rfl rfl (X.loadO hO13 (Ext.refl _) rfl rfl Try.isAgg3) ?_
                refine WL.va rfl rfl rfl (X.fieldAddrO (off := 4) ((congrFun hF80 11).trans ((hACr13.eq 11).trans (congrFun hF64 11))) Try.underlying37 rfl rfl Try.sizeOf3) ?_
                refine WL.va rfl rfl rfl (X.loadO hO11 (Ext.refl _) rfl rfl Try.isAgg3) ?_
                refine WL.va rfl rfl rfl (X.neq rfl rfl) ?_
                refine WL.va rfl rfl rfl (X.moveB rfl) ?_
                refine WL.split (j := 5) rfl (fun h82 => ?_) (fun h82 => ?_)
                · have gh82 := (of_decide_eq_true h82)
                  have d6 := c6 gh82
                  refine WL.vg rfl (congrArg some h82) rfl rfl (X.fieldAddrO (off := 0) ((congrFun hF80 7).trans ((hACr13.eq 7).trans (congrFun hF64 7))) Try.underlying26 rfl rfl Try.sizeOf3) ?_
                  refine WL.vg rfl (congrArg some h82) rfl rfl (X.loadO hO7 (Ext.refl _) rfl rfl Try.isAgg3) ?_
                  refine WL.vg rfl (congrArg some h82) rfl rfl (X.neq rfl rfl) ?_
                  refine WL.vg rfl (congrArg some h82) rfl rfl (X.moveB rfl) ?_
                  refine WL.split (j := 9) rfl (fun h84 => ?_) (fun h84 => ?_)
                  · have gh84 := (of_decide_eq_true h84)
                    exact absurd d6.1 gh84
                  · have gh84 := (Decidable.of_not_not (of_decide_eq_false h84))
                    refine WL.vg rfl (congrArg some h84) rfl rfl (X.fieldAddrO (off := 11) ((congrFun hF80 7).trans ((hACr13.eq 7).trans (congrFun hF64 7))) Try.underlying26 rfl rfl Try.sizeOf3) ?_
                    refine WL.vg rfl (congrArg some h84) rfl rfl (X.loadO hO7 (Ext.refl _) rfl rfl Try.isAgg3) ?_
                    refine WL.vg rfl (congrArg some h84) rfl rfl (X.fieldAddrO (off := 2) ((congrFun hF80 11).trans ((hACr13.eq 11).trans (congrFun hF64 11))) Try.underlying37 rfl rfl Try.sizeOf3) ?_
                    refine WL.vg rfl (congrArg some h84) rfl rfl (X.loadO hO11 (Ext.refl _) rfl rfl Try.isAgg3) ?_
                    refine WL.vg rfl (congrArg some h84) rfl rfl (X.lss rfl rfl) ?_
                    refine WL.vg rfl (congrArg some h82) rfl rfl (X.pickF rfl h84 rfl) ?_
                    refine WL.vg rfl (congrArg some h82) rfl rfl (X.moveB rfl) ?_
                    refine WL.split (j := 16) rfl (fun h86 => ?_) (fun h86 => ?_)
                    · have gh86 := (of_decide_eq_true h86)
                      exact absurd gh86 (by omega)
                    · have gh86 := (of_decide_eq_false h86)
                      refine WL.vg rfl (congrArg some h86) rfl rfl (X.fieldAddrO (off := 3) ((congrFun hF80 13).trans ((hACr13.eq 13).trans (congrFun hF64 13))) Try.underlying37 rfl rfl Try.sizeOf3) ?_
                      refine WL.vg rfl (congrArg some h86) rfl rfl (X.loadO hO13 (Ext.refl _) rfl rfl Try.isAgg3) ?_
                      refine WL.vg rfl (congrArg some h86) rfl rfl (X.fieldAddrO (off := 11) ((congrFun hF80 7).trans ((hACr13.eq 7).trans (congrFun hF64 7))) Try.underlying26 rfl rfl Try.sizeOf3) ?_
                      refine WL.vg rfl (congrArg some h86) rfl rfl (X.loadO hO7 (Ext.refl _) rfl rfl Try.isAgg3) ?_
                      refine WL.vg rfl (congrArg some h86) rfl rfl (X.neq rfl rfl) ?_
                      refine WL.vg rfl (congrArg some h82) rfl rfl (X.pickF rfl h86 rfl) ?_
                      refine WL.vg rfl (congrArg some h82) rfl rfl (X.moveB rfl) ?_
                      refine WL.split (j := 23) rfl (fun h88 => ?_) (fun h88 => ?_)
                      · have gh88 := (of_decide_eq_true h88)
                        exact absurd d6.2.2.1 gh88
                      · have gh88 := (Decidable.of_not_not (of_decide_eq_false h88))
                        refine WL.vg rfl (congrArg some h88) rfl rfl (X.fieldAddrO (off := 4) ((congrFun hF80 13).trans ((hACr13.eq 13).trans (congrFun hF64 13))) Try.underlying37 rfl rfl Try.sizeOf3) ?_
                        refine WL.vg rfl (congrArg some h88) rfl rfl (X.loadO hO13 (Ext.refl _) rfl rfl Try.isAgg3) ?_
                        refine WL.vg rfl (congrArg some h88) rfl rfl (X.fieldAddrO (off := 12) ((congrFun hF80 7).trans ((hACr13.eq 7).trans (congrFun hF64 7))) Try.underlying26 rfl rfl Try.sizeOf3) ?_
                        refine WL.vg rfl (congrArg some h88) rfl rfl (X.loadO hO7 (Ext.refl _) rfl rfl Try.isAgg3) ?_
                        refine WL.vg rfl (congrArg some h88) rfl rfl (X.neq rfl rfl) ?_
                        refine WL.vg rfl (congrArg some h82) rfl rfl (X.pickF rfl h88 rfl) ?_
                        refine WL.va rfl rfl rfl (X.pickT rfl h82 rfl) ?_
                        refine WL.nil ?_
                        refine thn_n ?_
                        exact ⟨(by first | rfl | exact congrArg Value.bool (decide_eq_false (fun e => e d6.2.2.2))), (by repeat (first | exact (Agree.refl _ F79) | refine Agree.put ?_ rfl | refine Agree.sub hACr13 rfl ?_ | refine Agree.sub hAL0 rfl ?_ | refine Agree.named hF80 ?_ | refine Agree.named hF64 ?_ | refine Agree.named hF9 ?_)), rfl⟩
                · have gh82 := (Decidable.of_not_not (of_decide_eq_false h82))
                  refine WL.p rfl rfl rfl (congrArg some h82) ?_
                  refine WL.p rfl rfl rfl (congrArg some h82) ?_
                  refine WL.p rfl rfl rfl (congrArg some h82) ?_
                  refine WL.p rfl rfl rfl (congrArg some h82) ?_
                  refine WL.pn rfl rfl rfl rfl ?_
                  refine WL.pn rfl rfl rfl rfl ?_
                  refine WL.pn rfl rfl rfl rfl ?_
                  refine WL.pn rfl rfl rfl rfl ?_
                  refine WL.pn rfl rfl rfl rfl ?_
                  refine WL.p rfl rfl rfl (congrArg some h82) ?_
                  refine WL.p rfl rfl rfl (congrArg some h82) ?_
                  refine WL.pn rfl rfl rfl rfl ?_
                  refine WL.pn rfl rfl rfl rfl ?_
                  refine WL.pn rfl rfl rfl rfl ?_
                  refine WL.pn rfl rfl rfl rfl ?_
                  refine WL.pn rfl rfl rfl rfl ?_
                  refine WL.p rfl rfl rfl (congrArg some h82) ?_
                  refine WL.p rfl rfl rfl (congrArg some h82) ?_
                  refine WL.pn rfl rfl rfl rfl ?_
                  refine WL.pn rfl rfl rfl rfl ?_
                  refine WL.pn rfl rfl rfl rfl ?_
                  refine WL.pn rfl rfl rfl rfl ?_
                  refine WL.pn rfl rfl rfl rfl ?_
                  refine WL.p rfl rfl rfl (congrArg some h82) ?_
                  refine WL.va rfl rfl rfl (X.pickF rfl h82 rfl) ?_
                  refine WL.nil ?_
                  refine thn_n ?_
                  exact ⟨(by first | rfl | exact congrArg Value.bool (decide_eq_false (fun e => e d6.2.2.2))), (by repeat (first | exact (Agree.refl _ F79) | refine Agree.put ?_ rfl | refine Agree.sub hACr13 rfl ?_ | refine Agree.sub hAL0 rfl ?_ | refine Agree.named hF80 ?_ | refine Agree.named hF64 ?_ | refine Agree.named hF9 ?_)), rfl⟩
              · rintro fCr15 wCr15 ⟨e127_Cr15, hACr15, rfl⟩
                refine WF.cond_f e127_Cr15 ?_
                refine WF.skip ?_
                refine thn_n ?_
                refine WF.seq ?_
                refine WF.named (fun F92 hF93 => ?_)
                refine WF.cut (fun f' w' => f' 191 = .bool false ∧ Agree [0, 1, 5, 6, 7, 8, 9, 10, 11, 13, 14, 18, 19, 20, 22, 23, 24, 25, 28, 29, 30, 31, 32, 33, 34, 35, 36, 37, 38, 40, 41, 42, 43, 44, 45, 46, 47, 48, 49, 50, 51, 52, 53, 54, 55, 56, 57, 58, 59, 60, 61, 62, 63, 64, 65, 96, 127] f' F92 ∧ Ext ws w') ?_ ?_
                · refine WF.drawn (.q 0 (.q 1 (.q 2 (.q 3 (.q 4 (.q 5 (.q 6 (.q 7 (.q 8 (.q 9 (.q 10 (.q 11 (.q 12 (.q 13 (.q 14 (.q 15 (.q 16 (.q 17 (.q 18 (.q 19 (.q 20 (.q 21 (.q 22 (.q 23 (.q 24 (.q 25 (.q 26 (.q 27 (.q 28 (.q 29 (.q 30 (.q 31 (.q 32 (.q 33 (.q 34 (.q 35 (.q 36 (.q 37 (.q 38 (.q 39 (.q 40 (.q 41 (.q 42 (.q 43 (.q 44 (.q 45 (.q 46 (.q 47 (.q 48 (.q 49 (.q 50 (.q 51 (.q 52 (.q 53 (.q 54 (.q 55 (.q 56 (.q 57 (.q 58 (.q 59 (.q 60 (.q 61 (.q 62 (.q 63 .nil)))))))))))))))))))))))))))))))))))))))))))))))))))))))))))))))) (fun w' => Ext ws w') 64 (by kernel_rfl) (by kernel_rfl) (Ext.drew _) ?_
                  have := World.grownBy.size (Ext.drew ws)
                  refine WO.q rfl rfl rfl rfl (fun w' hE94 => (X.move ((congrFun hF93 9).trans ((hACr15.eq 9).trans ((congrFun hF80 9).trans ((hACr13.eq 9).trans (congrFun hF64 9))))))) ?_
                  refine WO.q rfl rfl rfl rfl (fun w' hE94 => (X.len (Row.of_own om) rfl Try.underlying30)) ?_
                  refine WO.q rfl rfl rfl rfl (fun w' hE94 => (X.eql rfl rfl)) ?_
                  refine WO.q rfl rfl rfl rfl (fun w' hE94 => (X.moveB rfl)) ?_
                  refine WO.split (j := 3) rfl (fun h96 => ?_) (fun h96 => ?_)
                  · have gh96 := (of_decide_eq_true h96)
                    have hM1 : 0 < M.length := by omega
                    refine WO.qg rfl rfl (congrArg some h96) rfl rfl (fun w' hE94 => (X.move ((congrFun hF93 9).trans ((hACr15.eq 9).trans ((congrFun hF80 9).trans ((hACr13.eq 9).trans (congrFun hF64 9))))))) ?_
                    refine WO.qg rfl rfl (congrArg some h96) rfl rfl (fun w' hE94 => (X.idx (k := 0) (Row.of_own om) rfl rfl hM1 Try.underlying30 Try.sizeOf26)) ?_
                    refine WO.qg rfl rfl (congrArg some h96) rfl rfl (fun w' hE94 => (X.fieldAddrA rfl Try.underlying26 rfl rfl Try.sizeOf4)) ?_
                    refine WO.qg rfl rfl (congrArg some h96) rfl rfl (fun w' hE94 => (X.loadE (Row.of_own om) (Ext.trans (Ext.trans (Ext.trans (Ext.trans hx42 (Ext.store hx46 hx50 (by omega))) hx54) (Ext.store hx58 hx61 (by omega))) hE94) rfl hM1 ((Msg.get hM1 (by decide)).trans rfl) Try.isAgg4)) ?_
                    refine WO.q rfl rfl rfl rfl (fun w' hE94 => (X.pickT rfl h96 rfl)) ?_
                    refine WO.q rfl rfl rfl rfl (fun w' hE94 => (X.moveB rfl)) ?_
                    refine WO.split (j := 9) rfl (fun h98 => ?_) (fun h98 => ?_)
                    · have gh98 := h98
                      have d7 := c7 hM1 gh98
                      refine WO.qg rfl rfl (congrArg some h98) rfl rfl (fun w' hE94 => (X.fieldAddrO (off := 2) ((congrFun hF93 13).trans ((hACr15.eq 13).trans ((congrFun hF80 13).trans ((hACr13.eq 13).trans (congrFun hF64 13))))) Try.underlying37 rfl rfl Try.sizeOf3)) ?_
                      refine WO.qg rfl rfl (congrArg some h98) rfl rfl (fun w' hE94 => (X.loadO hO13 hE94 rfl rfl Try.isAgg3)) ?_
                      refine WO.qg rfl rfl (congrArg some h98) rfl rfl (fun w' hE94 => (X.fieldAddrO (off := 11) ((congrFun hF93 7).trans ((hACr15.eq 7).trans ((congrFun hF80 7).trans ((hACr13.eq 7).trans (congrFun hF64 7))))) Try.underlying26 rfl rfl Try.sizeOf3)) ?_
                      refine WO.qg rfl rfl (congrArg some h98) rfl rfl (fun w' hE94 => (X.loadO hO7 hE94 rfl rfl Try.isAgg3)) ?_
                      refine WO.qg rfl rfl (congrArg some h98) rfl rfl (fun w' hE94 => (X.neq rfl rfl)) ?_
                      refine WO.qg rfl rfl (congrArg some h98) rfl rfl (fun w' hE94 => (X.moveB rfl)) ?_
                      refine WO.split (j := 15) rfl (fun h100 => ?_) (fun h100 => ?_)
                      · have gh100 := (of_decide_eq_true h100)
                        exact absurd d7.1 gh100
                      · have gh100 := (Decidable.of_not_not (of_decide_eq_false h100))
                        refine WO.qg rfl rfl (congrArg some h100) rfl rfl (fun w' hE94 => (X.move ((congrFun hF93 9).trans ((hACr15.eq 9).trans ((congrFun hF80 9).trans ((hACr13.eq 9).trans (congrFun hF64 9))))))) ?_
                        refine WO.qg rfl rfl (congrArg some h100) rfl rfl (fun w' hE94 => (X.idx (k := 0) (Row.of_own om) rfl rfl hM1 Try.underlying30 Try.sizeOf26)) ?_
                        refine WO.qg rfl rfl (congrArg some h100) rfl rfl (fun w' hE94 => (X.fieldAddrA rfl Try.underlying26 rfl rfl Try.sizeOf3)) ?_
                        refine WO.qg rfl rfl (congrArg some h100) rfl rfl (fun w' hE94 => (X.loadE (Row.of_own om) (Ext.trans (Ext.trans (Ext.trans (Ext.trans hx42 (Ext.store hx46 hx50 (by omega))) hx54) (Ext.store hx58 hx61 (by omega))) hE94) rfl hM1 ((Msg.get hM1 (by decide)).trans rfl) Try.isAgg3)) ?_
                        refine WO.qg rfl rfl (congrArg some h100) rfl rfl (fun w' hE94 => (X.eql rfl rfl)) ?_
                        refine WO.qg rfl rfl (congrArg some h100) rfl rfl (fun w' hE94 => (X.moveB rfl)) ?_
                        refine WO.split (j := 21) rfl (fun h102 => ?_) (fun h102 => ?_)
                        · have gh102 := (of_decide_eq_true h102)
                          have d11 := d7.2.1 gh102
                          refine WO.qg rfl rfl (congrArg some h102) rfl rfl (fun w' hE94 => (X.fieldAddrO (off := 3) ((congrFun hF93 13).trans ((hACr15.eq 13).trans ((congrFun hF80 13).trans ((hACr13.eq 13).trans (congrFun hF64 13))))) Try.underlying37 rfl rfl Try.sizeOf3)) ?_
                          refine WO.qg rfl rfl (congrArg some h102) rfl rfl (fun w' hE94 => (X.loadO hO13 hE94 rfl rfl Try.isAgg3)) ?_
                          refine WO.qg rfl rfl (congrArg some h102) rfl rfl (fun w' hE94 => (X.fieldAddrO (off := 11) ((congrFun hF93 7).trans ((hACr15.eq 7).trans ((congrFun hF80 7).trans ((hACr13.eq 7).trans (congrFun hF64 7))))) Try.underlying26 rfl rfl Try.sizeOf3)) ?_
                          refine WO.qg rfl rfl (congrArg some h102) rfl rfl (fun w' hE94 => (X.loadO hO7 hE94 rfl rfl Try.isAgg3)) ?_
                          refine WO.qg rfl rfl (congrArg some h102) rfl rfl (fun w' hE94 => (X.neq rfl rfl)) ?_
                          refine WO.qg rfl rfl (congrArg some h102) rfl rfl (fun w' hE94 => (X.moveB rfl)) ?_
                          refine WO.split (j := 27) rfl (fun h104 => ?_) (fun h104 => ?_)
                          · have gh104 := (of_decide_eq_true h104)
                            exact absurd d11.1 gh104
                          · have gh104 := (Decidable.of_not_not (of_decide_eq_false h104))
                            refine WO.qg rfl rfl (congrArg some h104) rfl rfl (fun w' hE94 => (X.fieldAddrO (off := 4) ((congrFun hF93 13).trans ((hACr15.eq 13).trans ((congrFun hF80 13).trans ((hACr13.eq 13).trans (congrFun hF64 13))))) Try.underlying37 rfl rfl Try.sizeOf3)) ?_
                            refine WO.qg rfl rfl (congrArg some h104) rfl rfl (fun w' hE94 => (X.loadO hO13 hE94 rfl rfl Try.isAgg3)) ?_
                            refine WO.qg rfl rfl (congrArg some h104) rfl rfl (fun w' hE94 => (X.move ((congrFun hF93 9).trans ((hACr15.eq 9).trans ((congrFun hF80 9).trans ((hACr13.eq 9).trans (congrFun hF64 9))))))) ?_
                            refine WO.qg rfl rfl (congrArg some h104) rfl rfl (fun w' hE94 => (X.idx (k := 0) (Row.of_own om) rfl rfl hM1 Try.underlying30 Try.sizeOf26)) ?_
                            refine WO.qg rfl rfl (congrArg some h104) rfl rfl (fun w' hE94 => (X.fieldAddrA rfl Try.underlying26 rfl rfl Try.sizeOf3)) ?_
                            refine WO.qg rfl rfl (congrArg some h104) rfl rfl (fun w' hE94 => (X.loadE (Row.of_own om) (Ext.trans (Ext.trans (Ext.trans (Ext.trans hx42 (Ext.store hx46 hx50 (by omega))) hx54) (Ext.store hx58 hx61 (by omega))) hE94) rfl hM1 ((Msg.get hM1 (by decide)).trans rfl) Try.isAgg3)) ?_
                            refine WO.qg rfl rfl (congrArg some h104) rfl rfl (fun w' hE94 => (X.neq rfl rfl)) ?_
                            refine WO.qg rfl rfl (congrArg some h102) rfl rfl (fun w' hE94 => (X.pickF rfl h104 rfl)) ?_
                            refine WO.qg rfl rfl (congrArg some h100) rfl rfl (fun w' hE94 => (X.pickT rfl h102 rfl)) ?_
                            refine WO.qg rfl rfl (congrArg some h98) rfl rfl (fun w' hE94 => (X.pickF rfl h100 rfl)) ?_
                            refine WO.qg rfl rfl (congrArg some h98) rfl rfl (fun w' hE94 => (X.moveB rfl)) ?_
                            refine WO.split (j := 38) rfl (fun h106 => ?_) (fun h106 => ?_)
                            · have gh106 := (of_decide_eq_true h106)
                              exact absurd d11.2 gh106
                            · have gh106 := (Decidable.of_not_not (of_decide_eq_false h106))
                              refine WO.qg rfl rfl (congrArg some h106) rfl rfl (fun w' hE94 => (X.move ((congrFun hF93 9).trans ((hACr15.eq 9).trans ((congrFun hF80 9).trans ((hACr13.eq 9).trans (congrFun hF64 9))))))) ?_
                              refine WO.qg rfl rfl (congrArg some h106) rfl rfl (fun w' hE94 => (X.idx (k := 0) (Row.of_own om) rfl rfl hM1 Try.underlying30 Try.sizeOf26)) ?_
                              refine WO.qg rfl rfl (congrArg some h106) rfl rfl (fun w' hE94 => (X.fieldAddrA rfl Try.underlying26 rfl rfl Try.sizeOf3)) ?_
                              refine WO.qg rfl rfl (congrArg some h106) rfl rfl (fun w' hE94 => (X.loadE (Row.of_own om) (Ext.trans (Ext.trans (Ext.trans (Ext.trans hx42 (Ext.store hx46 hx50 (by omega))) hx54) (Ext.store hx58 hx61 (by omega))) hE94) rfl hM1 ((Msg.get hM1 (by decide)).trans rfl) Try.isAgg3)) ?_
                              refine WO.qg rfl rfl (congrArg some h106) rfl rfl (fun w' hE94 => (X.eql rfl rfl)) ?_
                              refine WO.qg rfl rfl (congrArg some h106) rfl rfl (fun w' hE94 => (X.moveB rfl)) ?_
                              refine WO.split (j := 44) rfl (fun h108 => ?_) (fun h108 => ?_)
                              · have gh108 := (of_decide_eq_true h108)
                                have d9 := d7.2.2 gh108
                                refine WO.qg rfl rfl (congrArg some h108) rfl rfl (fun w' hE94 => (X.move ((congrFun hF93 9).trans ((hACr15.eq 9).trans ((congrFun hF80 9).trans ((hACr13.eq 9).trans (congrFun hF64 9))))))) ?_
                                refine WO.qg rfl rfl (congrArg some h108) rfl rfl (fun w' hE94 => (X.idx (k := 0) (Row.of_own om) rfl rfl hM1 Try.underlying30 Try.sizeOf26)) ?_
                                refine WO.qg rfl rfl (congrArg some h108) rfl rfl (fun w' hE94 => (X.fieldAddrA rfl Try.underlying26 rfl rfl Try.sizeOf3)) ?_
                                refine WO.qg rfl rfl (congrArg some h108) rfl rfl (fun w' hE94 => (X.loadE (Row.of_own om) (Ext.trans (Ext.trans (Ext.trans (Ext.trans hx42 (Ext.store hx46 hx50 (by omega))) hx54) (Ext.store hx58 hx61 (by omega))) hE94) rfl hM1 ((Msg.get hM1 (by decide)).trans rfl) Try.isAgg3)) ?_
                                refine WO.qg rfl rfl (congrArg some h108) rfl rfl (fun w' hE94 => (X.fieldAddrO (off := 3) ((congrFun hF93 11).trans ((hACr15.eq 11).trans ((congrFun hF80 11).trans ((hACr13.eq 11).trans (congrFun hF64 11))))) Try.underlying37 rfl rfl Try.sizeOf3)) ?_
                                refine WO.qg rfl rfl (congrArg some h108) rfl rfl (fun w' hE94 => (X.loadO hO11 hE94 rfl rfl Try.isAgg3)) ?_
                                refine WO.qg rfl rfl (congrArg some h108) rfl rfl (fun w' hE94 => (X.neq rfl rfl)) ?_
                                refine WO.qg rfl rfl (congrArg some h108) rfl rfl (fun w' hE94 => (X.moveB rfl)) ?_
                                refine WO.split (j := 52) rfl (fun h110 => ?_) (fun h110 => ?_)
                                · have gh110 := (of_decide_eq_true h110)
                                  exact absurd d9.1 gh110
                                · have gh110 := (Decidable.of_not_not (of_decide_eq_false h110))
                                  refine WO.qg rfl rfl (congrArg some h110) rfl rfl (fun w' hE94 => (X.move ((congrFun hF93 9).trans ((hACr15.eq 9).trans ((congrFun hF80 9).trans ((hACr13.eq 9).trans (congrFun hF64 9))))))) ?_
                                  refine WO.qg rfl rfl (congrArg some h110) rfl rfl (fun w' hE94 => (X.idx (k := 0) (Row.of_own om) rfl rfl hM1 Try.underlying30 Try.sizeOf26)) ?_
                                  refine WO.qg rfl rfl (congrArg some h110) rfl rfl (fun w' hE94 => (X.fieldAddrA rfl Try.underlying26 rfl rfl Try.sizeOf3)) ?_
                                  refine WO.qg rfl rfl (congrArg some h110) rfl rfl (fun w' hE94 => (X.loadE (Row.of_own om) (Ext.trans (Ext.trans (Ext.trans (Ext.trans hx42 (Ext.store hx46 hx50 (by omega))) hx54) (Ext.store hx58 hx61 (by omega))) hE94) rfl hM1 ((Msg.get hM1 (by decide)).trans rfl) Try.isAgg3)) ?_
                                  refine WO.qg rfl rfl (congrArg some h110) rfl rfl (fun w' hE94 => (X.fieldAddrO (off := 4) ((congrFun hF93 11).trans ((hACr15.eq 11).trans ((congrFun hF80 11).trans ((hACr13.eq 11).trans (congrFun hF64 11))))) Try.underlying37 rfl rfl Try.sizeOf3)) ?_
                                  refine WO.qg rfl rfl (congrArg some h110) rfl rfl (fun w' hE94 => (X.loadO hO11 hE94 rfl rfl Try.isAgg3)) ?_
                                  refine WO.qg rfl rfl (congrArg some h110) rfl rfl (fun w' hE94 => (X.neq rfl rfl)) ?_
                                  refine WO.qg rfl rfl (congrArg some h108) rfl rfl (fun w' hE94 => (X.pickF rfl h110 rfl)) ?_
                                  refine WO.qg rfl rfl (congrArg some h106) rfl rfl (fun w' hE94 => (X.pickT rfl h108 rfl)) ?_
                                  refine WO.qg rfl rfl (congrArg some h98) rfl rfl (fun w' hE94 => (X.pickF rfl h106 rfl)) ?_
                                  refine WO.q rfl rfl rfl rfl (fun w' hE94 => (X.pickT rfl h98 rfl)) ?_
                                  refine WO.nil ?_
                                  refine WL.nil ?_
                                  refine thn_n ?_
                                  exact ⟨(by first | rfl | exact congrArg Value.bool (decide_eq_false (fun e => e d9.2))), (by repeat (first | exact (Agree.refl _ F92) | refine Agree.put ?_ rfl | refine Agree.sub hACr15 rfl ?_ | refine Agree.sub hACr13 rfl ?_ | refine Agree.sub hAL0 rfl ?_ | refine Agree.named hF93 ?_ | refine Agree.named hF80 ?_ | refine Agree.named hF64 ?_ | refine Agree.named hF9 ?_)), (Ext.drew _)⟩
                              · have gh108 := (of_decide_eq_false h108)
                                refine WO.qp rfl rfl rfl rfl (congrArg some h108) ?_
                                refine WO.qp rfl rfl rfl rfl (congrArg some h108) ?_
                                refine WO.qp rfl rfl rfl rfl (congrArg some h108) ?_
                                refine WO.qp rfl rfl rfl rfl (congrArg some h108) ?_
                                refine WO.qp rfl rfl rfl rfl (congrArg some h108) ?_
                                refine WO.qp rfl rfl rfl rfl (congrArg some h108) ?_
                                refine WO.qp rfl rfl rfl rfl (congrArg some h108) ?_
                                refine WO.qp rfl rfl rfl rfl (congrArg some h108) ?_
                                refine WO.qpn rfl rfl rfl rfl rfl ?_
                                refine WO.qpn rfl rfl rfl rfl rfl ?_
                                refine WO.qpn rfl rfl rfl rfl rfl ?_
                                refine WO.qpn rfl rfl rfl rfl rfl ?_
                                refine WO.qpn rfl rfl rfl rfl rfl ?_
                                refine WO.qpn rfl rfl rfl rfl rfl ?_
                                refine WO.qpn rfl rfl rfl rfl rfl ?_
                                refine WO.qp rfl rfl rfl rfl (congrArg some h108) ?_
                                refine WO.qg rfl rfl (congrArg some h106) rfl rfl (fun w' hE94 => (X.pickF rfl h108 rfl)) ?_
                                refine WO.qg rfl rfl (congrArg some h98) rfl rfl (fun w' hE94 => (X.pickF rfl h106 rfl)) ?_
                                refine WO.q rfl rfl rfl rfl (fun w' hE94 => (X.pickT rfl h98 rfl)) ?_
                                refine WO.nil ?_
                                refine WL.nil ?_
                                refine thn_n ?_
                                exact ⟨(by first | rfl | exact congrArg Value.bool (decide_eq_false (fun e => e d9.2))), (by repeat (first | exact (Agree.refl _ F92) | refine Agree.put ?_ rfl | refine Agree.sub hACr15 rfl ?_ | refine Agree.sub hACr13 rfl ?_ | refine Agree.sub hAL0 rfl ?_ | refine Agree.named hF93 ?_ | refine Agree.named hF80 ?_ | refine Agree.named hF64 ?_ | refine Agree.named hF9 ?_)), (Ext.drew _)⟩
                        · have gh102 := (of_decide_eq_false h102)
                          refine WO.qp rfl rfl rfl rfl (congrArg some h102) ?_
                          refine WO.qp rfl rfl rfl rfl (congrArg some h102) ?_
                          refine WO.qp rfl rfl rfl rfl (congrArg some h102) ?_
                          refine WO.qp rfl rfl rfl rfl (congrArg some h102) ?_
                          refine WO.qp rfl rfl rfl rfl (congrArg some h102) ?_
                          refine WO.qp rfl rfl rfl rfl (congrArg some h102) ?_
                          refine WO.qpn rfl rfl rfl rfl rfl ?_
                          refine WO.qpn rfl rfl rfl rfl rfl ?_
                          refine WO.qpn rfl rfl rfl rfl rfl ?_
                          refine WO.qpn rfl rfl rfl rfl rfl ?_
                          refine WO.qpn rfl rfl rfl rfl rfl ?_
                          refine WO.qpn rfl rfl rfl rfl rfl ?_
                          refine WO.qpn rfl rfl rfl rfl rfl ?_
                          refine WO.qp rfl rfl rfl rfl (congrArg some h102) ?_
                          refine WO.qg rfl rfl (congrArg some h100) rfl rfl (fun w' hE94 => (X.pickF rfl h102 rfl)) ?_
                          refine WO.qg rfl rfl (congrArg some h98) rfl rfl (fun w' hE94 => (X.pickF rfl h100 rfl)) ?_
                          refine WO.qg rfl rfl (congrArg some h98) rfl rfl (fun w' hE94 => (X.moveB rfl)) ?_
                          refine WO.qg rfl rfl rfl rfl rfl (fun w' hE94 => (X.move ((congrFun hF93 9).trans ((hACr15.eq 9).trans ((congrFun hF80 9).trans ((hACr13.eq 9).trans (congrFun hF64 9))))))) ?_
                          refine WO.qg rfl rfl rfl rfl rfl (fun w' hE94 => (X.idx (k := 0) (Row.of_own om) rfl rfl hM1 Try.underlying30 Try.sizeOf26)) ?_
                          refine WO.qg rfl rfl rfl rfl rfl (fun w' hE94 => (X.fieldAddrA rfl Try.underlying26 rfl rfl Try.sizeOf3)) ?_
                          refine WO.qg rfl rfl rfl rfl rfl (fun w' hE94 => (X.loadE (Row.of_own om) (Ext.trans (Ext.trans (Ext.trans (Ext.trans hx42 (Ext.store hx46 hx50 (by omega))) hx54) (Ext.store hx58 hx61 (by omega))) hE94) rfl hM1 ((Msg.get hM1 (by decide)).trans rfl) Try.isAgg3)) ?_
                          refine WO.qg rfl rfl rfl rfl rfl (fun w' hE94 => (X.eql rfl rfl)) ?_
                          refine WO.qg rfl rfl rfl rfl rfl (fun w' hE94 => (X.moveB rfl)) ?_
                          refine WO.split (j := 44) rfl (fun h115 => ?_) (fun h115 => ?_)
                          · have gh115 := (of_decide_eq_true h115)
                            have d9 := d7.2.2 gh115
                            refine WO.qg rfl rfl (congrArg some h115) rfl rfl (fun w' hE94 => (X.move ((congrFun hF93 9).trans ((hACr15.eq 9).trans ((congrFun hF80 9).trans ((hACr13.eq 9).trans (congrFun hF64 9))))))) ?_
                            refine WO.qg rfl rfl (congrArg some h115) rfl rfl (fun w' hE94 => (X.idx (k := 0) (Row.of_own om) rfl rfl hM1 Try.underlying30 Try.sizeOf26)) ?_
                            refine WO.qg rfl rfl (congrArg some h115) rfl rfl (fun w' hE94 => (X.fieldAddrA rfl Try.underlying26 rfl rfl Try.sizeOf3)) ?_
                            refine WO.qg rfl rfl (congrArg some h115) rfl rfl (fun w' hE94 => (X.loadE (Row.of_own om) (Ext.trans (Ext.trans (Ext.trans (Ext.trans hx42 (Ext.store hx46 hx50 (by omega))) hx54) (Ext.store hx58 hx61 (by omega))) hE94) rfl hM1 ((Msg.get hM1 (by decide)).trans rfl) Try.isAgg3)) ?_
                            refine WO.qg rfl rfl (congrArg some h115) rfl rfl (fun w' hE94 => (X.fieldAddrO (off := 3) ((congrFun hF93 11).trans ((hACr15.eq 11).trans ((congrFun hF80 11).trans ((hACr13.eq 11).trans (congrFun hF64 11))))) Try.underlying37 rfl rfl Try.sizeOf3)) ?_
                            refine WO.qg rfl rfl (congrArg some h115) rfl rfl (fun w' hE94 => (X.loadO hO11 hE94 rfl rfl Try.isAgg3)) ?_
                            refine WO.qg rfl rfl (congrArg some h115) rfl rfl (fun w' hE94 => (X.neq rfl rfl)) ?_
                            refine WO.qg rfl rfl (congrArg some h115) rfl rfl (fun w' hE94 => (X.moveB rfl)) ?_
                            refine WO.split (j := 52) rfl (fun h117 => ?_) (fun h117 => ?_)
                            · have gh117 := (of_decide_eq_true h117)
                              exact absurd d9.1 gh117
                            · have gh117 := (Decidable.of_not_not (of_decide_eq_false h117))
                              refine WO.qg rfl rfl (congrArg some h117) rfl rfl (fun w' hE94 => (X.move ((congrFun hF93 9).trans ((hACr15.eq 9).trans ((congrFun hF80 9).trans ((hACr13.eq 9).trans (congrFun hF64 9))))))) ?_
                              refine WO.qg rfl rfl (congrArg some h117) rfl rfl (fun w' hE94 => (X.idx (k := 0) (Row.of_own om) rfl rfl hM1 Try.underlying30 Try.sizeOf26)) ?_
                              refine WO.qg rfl rfl (congrArg some h117) rfl rfl (fun w' hE94 => (X.fieldAddrA rfl Try.underlying26 rfl rfl Try.sizeOf3)) ?_
                              refine WO.qg rfl rfl (congrArg some h117) rfl rfl (fun w' hE94 => (X.loadE (Row.of_own om) (Ext.trans (Ext.trans (Ext.trans (Ext.trans hx42 (Ext.store hx46 hx50 (by omega))) hx54) (Ext.store hx58 hx61 (by omega))) hE94) rfl hM1 ((Msg.get hM1 (by decide)).trans rfl) Try.isAgg3)) ?_
                              refine WO.qg rfl rfl (congrArg some h117) rfl rfl (fun w' hE94 => (X.fieldAddrO (off := 4) ((congrFun hF93 11).trans ((hACr15.eq 11).trans ((congrFun hF80 11).trans ((hACr13.eq 11).trans (congrFun hF64 11))))) Try.underlying37 rfl rfl Try.sizeOf3)) ?_
                              refine WO.qg rfl rfl (congrArg some h117) rfl rfl (fun w' hE94 => (X.loadO hO11 hE94 rfl rfl Try.isAgg3)) ?_
                              refine WO.qg rfl rfl (congrArg some h117) rfl rfl (fun w' hE94 => (X.neq rfl rfl)) ?_
                              refine WO.qg rfl rfl (congrArg some h115) rfl rfl (fun w' hE94 => (X.pickF rfl h117 rfl)) ?_
                              refine WO.qg rfl rfl rfl rfl rfl (fun w' hE94 => (X.pickT rfl h115 rfl)) ?_
                              refine WO.qg rfl rfl (congrArg some h98) rfl rfl (fun w' hE94 => (X.pickF rfl rfl rfl)) ?_
                              refine WO.q rfl rfl rfl rfl (fun w' hE94 => (X.pickT rfl h98 rfl)) ?_
                              refine WO.nil ?_
                              refine WL.nil ?_
                              refine thn_n ?_
                              exact ⟨(by first | rfl | exact congrArg Value.bool (decide_eq_false (fun e => e d9.2))), (by repeat (first | exact (Agree.refl _ F92) | refine Agree.put ?_ rfl | refine Agree.sub hACr15 rfl ?_ | refine Agree.sub hACr13 rfl ?_ | refine Agree.sub hAL0 rfl ?_ | refine Agree.named hF93 ?_ | refine Agree.named hF80 ?_ | refine Agree.named hF64 ?_ | refine Agree.named hF9 ?_)), (Ext.drew _)⟩
                          · have gh115 := (of_decide_eq_false h115)
                            refine WO.qp rfl rfl rfl rfl (congrArg some h115) ?_
                            refine WO.qp rfl rfl rfl rfl (congrArg some h115) ?_
                            refine WO.qp rfl rfl rfl rfl (congrArg some h115) ?_
                            refine WO.qp rfl rfl rfl rfl (congrArg some h115) ?_
                            refine WO.qp rfl rfl rfl rfl (congrArg some h115) ?_
                            refine WO.qp rfl rfl rfl rfl (congrArg some h115) ?_
                            refine WO.qp rfl rfl rfl rfl (congrArg some h115) ?_
                            refine WO.qp rfl rfl rfl rfl (congrArg some h115) ?_
                            refine WO.qpn rfl rfl rfl rfl rfl ?_
                            refine WO.qpn rfl rfl rfl rfl rfl ?_
                            refine WO.qpn rfl rfl rfl rfl rfl ?_
                            refine WO.qpn rfl rfl rfl rfl rfl ?_
                            refine WO.qpn rfl rfl rfl rfl rfl ?_
                            refine WO.qpn rfl rfl rfl rfl rfl ?_
                            refine WO.qpn rfl rfl rfl rfl rfl ?_
                            refine WO.qp rfl rfl rfl rfl (congrArg some h115) ?_
                            refine WO.qg rfl rfl rfl rfl rfl (fun w' hE94 => (X.pickF rfl h115 rfl)) ?_
                            refine WO.qg rfl rfl (congrArg some h98) rfl rfl (fun w' hE94 => (X.pickF rfl rfl rfl)) ?_
                            refine WO.q rfl rfl rfl rfl (fun w' hE94 => (X.pickT rfl h98 rfl)) ?_
                            refine WO.nil ?_
                            refine WL.nil ?_
                            refine thn_n ?_
                            exact ⟨(by first | rfl | exact congrArg Value.bool (decide_eq_false (fun e => e d9.2))), (by repeat (first | exact (Agree.refl _ F92) | refine Agree.put ?_ rfl | refine Agree.sub hACr15 rfl ?_ | refine Agree.sub hACr13 rfl ?_ | refine Agree.sub hAL0 rfl ?_ | refine Agree.named hF93 ?_ | refine Agree.named hF80 ?_ | refine Agree.named hF64 ?_ | refine Agree.named hF9 ?_)), (Ext.drew _)⟩
                    · have gh98 := h98
                      refine WO.qp rfl rfl rfl rfl (congrArg some h98) ?_
                      refine WO.qp rfl rfl rfl rfl (congrArg some h98) ?_
                      refine WO.qp rfl rfl rfl rfl (congrArg some h98) ?_
                      refine WO.qp rfl rfl rfl rfl (congrArg some h98) ?_
                      refine WO.qp rfl rfl rfl rfl (congrArg some h98) ?_
                      refine WO.qp rfl rfl rfl rfl (congrArg some h98) ?_
                      refine WO.qpn rfl rfl rfl rfl rfl ?_
                      refine WO.qpn rfl rfl rfl rfl rfl ?_
                      refine WO.qpn rfl rfl rfl rfl rfl ?_
                      refine WO.qpn rfl rfl rfl rfl rfl ?_
                      refine WO.qpn rfl rfl rfl rfl rfl ?_
                      refine WO.qpn rfl rfl rfl rfl rfl ?_
                      refine WO.qpn rfl rfl rfl rfl rfl ?_
                      refine WO.qpn rfl rfl rfl rfl rfl ?_
                      refine WO.qpn rfl rfl rfl rfl rfl ?_
                      refine WO.qpn rfl rfl rfl rfl rfl ?_
                      refine WO.qpn rfl rfl rfl rfl rfl ?_
                      refine WO.qpn rfl rfl rfl rfl rfl ?_
                      refine WO.qpn rfl rfl rfl rfl rfl ?_
                      refine WO.qpn rfl rfl rfl rfl rfl ?_
                      refine WO.qpn rfl rfl rfl rfl rfl ?_
                      refine WO.qpn rfl rfl rfl rfl rfl ?_
                      refine WO.qpn rfl rfl rfl rfl rfl ?_
                      refine WO.qpn rfl rfl rfl rfl rfl ?_
                      refine WO.qpn rfl rfl rfl rfl rfl ?_
                      refine WO.qpn rfl rfl rfl rfl rfl ?_
                      refine WO.qpn rfl rfl rfl rfl rfl ?_
                      refine WO.qp rfl rfl rfl rfl (congrArg some h98) ?_
                      refine WO.qp rfl rfl rfl rfl (congrArg some h98) ?_
                      refine WO.qpn rfl rfl rfl rfl rfl ?_
                      refine WO.qpn rfl rfl rfl rfl rfl ?_
                      refine WO.qpn rfl rfl rfl rfl rfl ?_
                      refine WO.qpn rfl rfl rfl rfl rfl ?_
                      refine WO.qpn rfl rfl rfl rfl rfl ?_
                      refine WO.qpn rfl rfl rfl rfl rfl ?_
                      refine WO.qpn rfl rfl rfl rfl rfl ?_
                      refine WO.qpn rfl rfl rfl rfl rfl ?_
                      refine WO.qpn rfl rfl rfl rfl rfl ?_
                      refine WO.qpn rfl rfl rfl rfl rfl ?_
                      refine WO.qpn rfl rfl rfl rfl rfl ?_
                      refine WO.qpn rfl rfl rfl rfl rfl ?_
                      refine WO.qpn rfl rfl rfl rfl rfl ?_
                      refine WO.qpn rfl rfl rfl rfl rfl ?_
                      refine WO.qpn rfl rfl rfl rfl rfl ?_
                      refine WO.qpn rfl rfl rfl rfl rfl ?_
                      refine WO.qpn rfl rfl rfl rfl rfl ?_
                      refine WO.qpn rfl rfl rfl rfl rfl ?_
                      refine WO.qpn rfl rfl rfl rfl rfl ?_
                      refine WO.qpn rfl rfl rfl rfl rfl ?_
                      refine WO.qpn rfl rfl rfl rfl rfl ?_
                      refine WO.qpn rfl rfl rfl rfl rfl ?_
                      refine WO.qpn rfl rfl rfl rfl rfl ?_
                      refine WO.qp rfl rfl rfl rfl (congrArg some h98) ?_
                      refine WO.q rfl rfl rfl rfl (fun w' hE94 => (X.pickF rfl h98 rfl)) ?_
                      refine WO.nil ?_
                      refine WL.nil ?_
                      refine thn_n ?_
                      exact ⟨(by first | rfl | exact congrArg Value.bool (decide_eq_false (fun e => e d9.2))), (by repeat (first | exact (Agree.refl _ F92) | refine Agree.put ?_ rfl | refine Agree.sub hACr15 rfl ?_ | refine Agree.sub hACr13 rfl ?_ | refine Agree.sub hAL0 rfl ?_ | refine Agree.named hF93 ?_ | refine Agree.named hF80 ?_ | refine Agree.named hF64 ?_ | refine Agree.named hF9 ?_)), (Ext.drew _)⟩
                  · have gh96 := (of_decide_eq_false h96)
                    refine WO.qp rfl rfl rfl rfl (congrArg some h96) ?_
                    refine WO.qp rfl rfl rfl rfl (congrArg some h96) ?_
                    refine WO.qp rfl rfl rfl rfl (congrArg some h96) ?_
                    refine WO.qp rfl rfl rfl rfl (congrArg some h96) ?_
                    refine WO.q rfl rfl rfl rfl (fun w' hE94 => (X.pickF rfl h96 rfl)) ?_
                    refine WO.q rfl rfl rfl rfl (fun w' hE94 => (X.moveB rfl)) ?_
                    refine WO.qp rfl rfl rfl rfl rfl ?_
                    refine WO.qp rfl rfl rfl rfl rfl ?_
                    refine WO.qp rfl rfl rfl rfl rfl ?_
                    refine WO.qp rfl rfl rfl rfl rfl ?_
                    refine WO.qp rfl rfl rfl rfl rfl ?_
                    refine WO.qp rfl rfl rfl rfl rfl ?_
                    refine WO.qpn rfl rfl rfl rfl rfl ?_
                    refine WO.qpn rfl rfl rfl rfl rfl ?_
                    refine WO.qpn rfl rfl rfl rfl rfl ?_
                    refine WO.qpn rfl rfl rfl rfl rfl ?_
                    refine WO.qpn rfl rfl rfl rfl rfl ?_
                    refine WO.qpn rfl rfl rfl rfl rfl ?_
                    refine WO.qpn rfl rfl rfl rfl rfl ?_
                    refine WO.qpn rfl rfl rfl rfl rfl ?_
                    refine WO.qpn rfl rfl rfl rfl rfl ?_
                    refine WO.qpn rfl rfl rfl rfl rfl ?_
                    refine WO.qpn rfl rfl rfl rfl rfl ?_
                    refine WO.qpn rfl rfl rfl rfl rfl ?_
                    refine WO.qpn rfl rfl rfl rfl rfl ?_
                    refine WO.qpn rfl rfl rfl rfl rfl ?_
                    refine WO.qpn rfl rfl rfl rfl rfl ?_
                    refine WO.qpn rfl rfl rfl rfl rfl ?_
                    refine WO.qpn rfl rfl rfl rfl rfl ?_
                    refine WO.qpn rfl rfl rfl rfl rfl ?_
                    refine WO.qpn rfl rfl rfl rfl rfl ?_
                    refine WO.qpn rfl rfl rfl rfl rfl ?_
                    refine WO.qpn rfl rfl rfl rfl rfl ?_
                    refine WO.qp rfl rfl rfl rfl rfl ?_
                    refine WO.qp rfl rfl rfl rfl rfl ?_
                    refine WO.qpn rfl rfl rfl rfl rfl ?_
                    refine WO.qpn rfl rfl rfl rfl rfl ?_
                    refine WO.qpn rfl rfl rfl rfl rfl ?_
                    refine WO.qpn rfl rfl rfl rfl rfl ?_
                    refine WO.qpn rfl rfl rfl rfl rfl ?_
                    refine WO.qpn rfl rfl rfl rfl rfl ?_
                    refine WO.qpn rfl rfl rfl rfl rfl ?_
                    refine WO.qpn rfl rfl rfl rfl rfl ?_
                    refine WO.qpn rfl rfl rfl rfl rfl ?_
                    refine WO.qpn rfl rfl rfl rfl rfl ?_
                    refine WO.qpn rfl rfl rfl rfl rfl ?_
                    refine WO.qpn rfl rfl rfl rfl rfl ?_
                    refine WO.qpn rfl rfl rfl rfl rfl ?_
                    refine WO.qpn rfl rfl rfl rfl rfl ?_
                    refine WO.qpn rfl rfl rfl rfl rfl ?_
                    refine WO.qpn rfl rfl rfl rfl rfl ?_
                    refine WO.qpn rfl rfl rfl rfl rfl ?_
                    refine WO.qpn rfl rfl rfl rfl rfl ?_
                    refine WO.qpn rfl rfl rfl rfl rfl ?_
                    refine WO.qpn rfl rfl rfl rfl rfl ?_
                    refine WO.qpn rfl rfl rfl rfl rfl ?_
                    refine WO.qpn rfl rfl rfl rfl rfl ?_
                    refine WO.qpn rfl rfl rfl rfl rfl ?_
                    refine WO.qp rfl rfl rfl rfl rfl ?_
                    refine WO.q rfl rfl rfl rfl (fun w' hE94 => (X.pickF rfl rfl rfl)) ?_
                    refine WO.nil ?_
                    refine WL.nil ?_
                    refine thn_n ?_
                    exact ⟨(by first | rfl | exact congrArg Value.bool (decide_eq_false (fun e => e d9.2))), (by repeat (first | exact (Agree.refl _ F92) | refine Agree.put ?_ rfl | refine Agree.sub hACr15 rfl ?_ | refine Agree.sub hACr13 rfl ?_ | refine Agree.sub hAL0 rfl ?_ | refine Agree.named hF93 ?_ | refine Agree.named hF80 ?_ | refine Agree.named hF64 ?_ | refine Agree.named hF9 ?_)), (Ext.drew _)⟩
                · rintro fCr17 wCr17 ⟨e191_Cr17, hACr17, hwCr17⟩
                  have := World.grownBy.size hwCr17
                  refine WF.cond_f e191_Cr17 ?_
                  refine WF.skip ?_
                  refine thn_n ?_
                  refine WF.seq ?_
                  refine WF.seq ?_
                  refine WF.region ?_
                  refine WL.va rfl rfl rfl (X.assignI rfl) ?_
                  refine WL.nil ?_
                  refine thn_n ?_
                  refine WF.block ?_
                  refine WF.named (fun F124 hF125 => ?_)
                  refine WF.loopN (fun mL1 f' w' => ∃ (j : Nat), mL1 = V.length - j ∧ f' 15 = .int .i64 (j : Int) ∧ Agree [0, 1, 5, 6, 7, 8, 9, 10, 11, 13, 14, 18, 19, 20, 22, 23, 24, 25, 28, 29, 30, 31, 32, 33, 34, 35, 36, 37, 38, 40, 41, 42, 43, 44, 45, 46, 47, 48, 49, 50, 51, 52, 53, 54, 55, 56, 57, 58, 59, 60, 61, 62, 63, 64, 65, 96, 127, 191] f' F124 ∧ Ext wCr17 w' ∧ j ≤ V.length) ?_ ?_
                  · exact ⟨_, 0, rfl, (congrFun hF125 15), (Agree.refl _ _), (Ext.refl _), (Nat.zero_le _)⟩
                  · rintro mL1 fL1 wL1 ⟨j, hmL1, e15_L1, hAL1, hwL1, hjV⟩
                    have := World.grownBy.size hwL1
                    refine WF.seq ?_
                    refine WF.seq ?_
                    refine WF.region ?_
                    refine WL.va rfl rfl rfl (X.moveI e15_L1) ?_
                    refine WL.va rfl rfl rfl (X.move ((hAL1.eq 5).trans ((congrFun hF125 5).trans ((hACr17.eq 5).trans ((congrFun hF93 5).trans ((hACr15.eq 5).trans ((congrFun hF80 5).trans ((hACr13.eq 5).trans ((congrFun hF64 5).trans e5_L0))))))))) ?_
                    refine WL.va rfl rfl rfl (X.len hV rfl Try.underlying22) ?_
                    refine WL.va rfl rfl rfl (X.lss rfl rfl) ?_
                    refine WL.nil ?_
                    refine thn_n ?_
                    refine WF.cond rfl (fun h6_126 => ?_) (fun h6_126 => ?_)
                    · have gh6_126 := (of_decide_eq_true h6_126)
                      have hj : j < V.length := by omega
                      have hst := take_stays (id := id) (m := m) (by omega) huq (List.getElem_mem hj)
                      rw [hTk] at hst
                      obtain ⟨y, yh, hY⟩ : ∃ a b, findA X1 V[j].Txn V[j].Part = (a, b) := ⟨_, _, rfl⟩
                      rw [hY] at hst
                      refine WF.skip ?_
                      refine thn_n ?_
                      refine WF.seq ?_
                      refine WF.block ?_
                      refine WF.named (fun F128 hF129 => ?_)
                      refine WF.cut (fun f' w' => ∃ (g16 : Nat), f' 16 = at_ g16 ∧ f' 17 = .bool yh ∧ Agree [0, 1, 5, 6, 7, 8, 9, 10, 11, 13, 14, 15, 18, 19, 20, 22, 23, 24, 25, 28, 29, 30, 31, 32, 33, 34, 35, 36, 37, 38, 40, 41, 42, 43, 44, 45, 46, 47, 48, 49, 50, 51, 52, 53, 54, 55, 56, 57, 58, 59, 60, 61, 62, 63, 64, 65, 96, 127, 191, 192, 193, 194, 195] f' F128 ∧ Ext wL1 w' ∧ Blk w' g16 37 y.c) ?_ ?_
                      · refine WF.drawn (.q 0 (.q 1 (.q 2 (.q 3 (.q 4 (.q 5 (.q 6 (.q 7 (.q 8 (.q 9 (.q 10 (.b 11 15 (.q 12 (.q 13 (.q 14 (.l 15 (.l 16 (.q 17 .nil)))))) (.l 11 (.q 12 (.q 13 (.q 14 (.l 16 (.q 17 .nil)))))))))))))))))) (fun w' => Ext wL1 w') 18 (by kernel_rfl) (by kernel_rfl) (Ext.drew _) ?_
                        have := World.grownBy.size (Ext.drew wL1)
                        refine WO.q rfl rfl rfl rfl (fun w' hE130 => (X.move ((congrFun hF129 8).trans ((hAL1.eq 8).trans ((congrFun hF125 8).trans ((hACr17.eq 8).trans ((congrFun hF93 8).trans ((hACr15.eq 8).trans ((congrFun hF80 8).trans ((hACr13.eq 8).trans (congrFun hF64 8))))))))))) ?_
                        refine WO.q rfl rfl rfl rfl (fun w' hE130 => (X.move ((congrFun hF129 5).trans ((hAL1.eq 5).trans ((congrFun hF125 5).trans ((hACr17.eq 5).trans ((congrFun hF93 5).trans ((hACr15.eq 5).trans ((congrFun hF80 5).trans ((hACr13.eq 5).trans ((congrFun hF64 5).trans e5_L0))))))))))) ?_
                        refine WO.q rfl rfl rfl rfl (fun w' hE130 => (X.moveI ((congrFun hF129 15).trans e15_L1))) ?_
                        refine WO.q rfl rfl rfl rfl (fun w' hE130 => (X.idx hV rfl rfl (by omega) Try.underlying22 Try.sizeOf37)) ?_
                        refine WO.q rfl rfl rfl rfl (fun w' hE130 => (X.fieldAddrA rfl Try.underlying37 rfl rfl Try.sizeOf3)) ?_
                        refine WO.q rfl rfl rfl rfl (fun w' hE130 => (X.loadE hV (Ext.trans (Ext.trans (Ext.trans (Ext.trans (Ext.trans (Ext.trans (Ext.trans (Ext.trans (Ext.trans (Ext.store hx14 hx18 (by omega)) hx22) hx38) hx42) (Ext.store hx46 hx50 (by omega))) hx54) (Ext.store hx58 hx61 (by omega))) hwCr17) hwL1) hE130) rfl (by omega) ((Votes.get hj (by decide)).trans rfl) Try.isAgg3)) ?_
                        refine WO.q rfl rfl rfl rfl (fun w' hE130 => (X.move ((congrFun hF129 5).trans ((hAL1.eq 5).trans ((congrFun hF125 5).trans ((hACr17.eq 5).trans ((congrFun hF93 5).trans ((hACr15.eq 5).trans ((congrFun hF80 5).trans ((hACr13.eq 5).trans ((congrFun hF64 5).trans e5_L0))))))))))) ?_
                        refine WO.q rfl rfl rfl rfl (fun w' hE130 => (X.moveI ((congrFun hF129 15).trans e15_L1))) ?_
                        refine WO.q rfl rfl rfl rfl (fun w' hE130 => (X.idx hV rfl rfl (by omega) Try.underlying22 Try.sizeOf37)) ?_
                        refine WO.q rfl rfl rfl rfl (fun w' hE130 => (X.fieldAddrA rfl Try.underlying37 rfl rfl Try.sizeOf3)) ?_
                        refine WO.q rfl rfl rfl rfl (fun w' hE130 => (X.loadE hV (Ext.trans (Ext.trans (Ext.trans (Ext.trans (Ext.trans (Ext.trans (Ext.trans (Ext.trans (Ext.trans (Ext.store hx14 hx18 (by omega)) hx22) hx38) hx42) (Ext.store hx46 hx50 (by omega))) hx54) (Ext.store hx58 hx61 (by omega))) hwCr17) hwL1) hE130) rfl (by omega) ((Votes.get hj (by decide)).trans rfl) Try.isAgg3)) ?_
                        refine WO.b2 ?_ ?_
                        · refine LO.go rfl rfl (OW.enter rfl (by decide) (X.call Try.call16 (evl_cons rfl (evl_cons rfl (evl_cons rfl evl_nil)))) ((findA_ok _ X1 _ _ _ (Row.ext (Row.of_own oa) (Ext.trans (Ext.trans (Ext.trans (Ext.trans (Ext.trans (Ext.trans hx42 (Ext.store hx46 hx50 (by omega))) hx54) (Ext.store hx58 hx61 (by omega))) hwCr17) hwL1) (Ext.drew _)))).mono (fun r wq h => (show r = .tuple #[agg y.c, .bool yh] ∧ Ext wL1.drew wq from by rw [hY] at h; exact h))) ?_)
                          rintro v132 w131 ⟨rfl, hx133⟩
                          have := World.grownBy.size hx133
                          refine ⟨(Ext.trans (Ext.drew _) hx133), ?_⟩
                          refine WO.q rfl rfl rfl rfl (fun w' hE130 => (X.move rfl)) ?_
                          refine WO.q rfl rfl rfl rfl (fun w' hE130 => (X.extract rfl rfl)) ?_
                          refine WO.q rfl rfl rfl rfl (fun w' hE130 => (X.extract rfl rfl)) ?_
                          refine WO.l ?_
                          refine LO.go rfl rfl (OW.allocO (cs := [i64 0, i64 0, i64 0, i64 0, i64 0]) Try.zeroValue37 rfl ?_ (by decide))
                          intro g16 w135 heg16 hlg16 hO16 hx137
                          have := World.grownBy.size hx137
                          refine ⟨(Ext.trans (Ext.trans (Ext.drew _) hx133) hx137), ?_⟩
                          refine WO.l ?_
                          refine LO.go rfl rfl (OW.storeOA hO16 rfl rfl rfl (Acc.c_one _) Try.sizeOf37 ?_)
                          intro w139 hO16 hx141
                          have := World.grownBy.size hx141
                          replace hO7 := (hO7.ext (Ext.trans (Ext.trans (Ext.trans (Ext.trans hwCr17 hwL1) (Ext.drew _)) hx133) hx137)).keptO hx141 (by omega)
                          replace hO11 := (hO11.ext (Ext.trans (Ext.trans (Ext.trans (Ext.trans hwCr17 hwL1) (Ext.drew _)) hx133) hx137)).keptO hx141 (by omega)
                          replace hO13 := (hO13.ext (Ext.trans (Ext.trans (Ext.trans (Ext.trans hwCr17 hwL1) (Ext.drew _)) hx133) hx137)).keptO hx141 (by omega)
                          replace hO16 : Blk _ _ _ y.c := hO16
                          refine ⟨(Ext.trans (Ext.trans (Ext.drew _) hx133) (Ext.store hx137 hx141 (by omega))), ?_⟩
                          refine WO.q rfl rfl rfl rfl (fun w' hE130 => (X.assignB rfl)) ?_
                          refine WO.nil ?_
                          refine WL.nil ?_
                          refine thn_n ?_
                          exact ⟨_, rfl, rfl, (by repeat (first | exact (Agree.refl _ F128) | refine Agree.put ?_ rfl | refine Agree.sub hAL1 rfl ?_ | refine Agree.sub hACr17 rfl ?_ | refine Agree.sub hACr15 rfl ?_ | refine Agree.sub hACr13 rfl ?_ | refine Agree.sub hAL0 rfl ?_ | refine Agree.named hF129 ?_ | refine Agree.named hF125 ?_ | refine Agree.named hF93 ?_ | refine Agree.named hF80 ?_ | refine Agree.named hF64 ?_ | refine Agree.named hF9 ?_)), (Ext.trans (Ext.trans (Ext.drew _) hx133) (Ext.store hx137 hx141 (by omega))), hO16⟩
                        · refine LO.go rfl rfl (OW.allocO (cs := [i64 0, i64 0, i64 0, i64 0, i64 0]) Try.zeroValue37 rfl ?_ (by decide))
                          intro g16 w143 heg16 hlg16 hO16 hx145
                          have := World.grownBy.size hx145
                          refine ⟨(Ext.trans (Ext.drew _) hx145), ?_⟩
                          refine WO.l ?_
                          refine LO.go rfl rfl (OW.enter rfl (by decide) (X.call Try.call16 (evl_cons rfl (evl_cons rfl (evl_cons rfl evl_nil)))) ((findA_ok _ X1 _ _ _ (Row.ext (Row.of_own oa) (Ext.trans (Ext.trans (Ext.trans (Ext.trans (Ext.trans (Ext.trans (Ext.trans hx42 (Ext.store hx46 hx50 (by omega))) hx54) (Ext.store hx58 hx61 (by omega))) hwCr17) hwL1) (Ext.drew _)) hx145))).mono (fun r wq h => (show r = .tuple #[agg y.c, .bool yh] ∧ Ext w143 wq from by rw [hY] at h; exact h))) ?_)
                          rintro v148 w147 ⟨rfl, hx149⟩
                          have := World.grownBy.size hx149
                          refine ⟨(Ext.trans (Ext.trans (Ext.drew _) hx145) hx149), ?_⟩
                          refine WO.q rfl rfl rfl rfl (fun w' hE130 => (X.move rfl)) ?_
                          refine WO.q rfl rfl rfl rfl (fun w' hE130 => (X.extract rfl rfl)) ?_
                          refine WO.q rfl rfl rfl rfl (fun w' hE130 => (X.extract rfl rfl)) ?_
                          refine WO.l ?_
                          refine LO.go rfl rfl (OW.storeOA (hO16.ext hx149) rfl rfl rfl (Acc.c_one _) Try.sizeOf37 ?_)
                          intro w151 hO16 hx153
                          have := World.grownBy.size hx153
                          replace hO7 := (hO7.ext (Ext.trans (Ext.trans (Ext.trans (Ext.trans hwCr17 hwL1) (Ext.drew _)) hx145) hx149)).keptO hx153 (by omega)
                          replace hO11 := (hO11.ext (Ext.trans (Ext.trans (Ext.trans (Ext.trans hwCr17 hwL1) (Ext.drew _)) hx145) hx149)).keptO hx153 (by omega)
                          replace hO13 := (hO13.ext (Ext.trans (Ext.trans (Ext.trans (Ext.trans hwCr17 hwL1) (Ext.drew _)) hx145) hx149)).keptO hx153 (by omega)
                          replace hO16 : Blk _ _ _ y.c := hO16
                          refine ⟨(Ext.trans (Ext.drew _) (Ext.store (Ext.trans hx145 hx149) hx153 (by omega))), ?_⟩
                          refine WO.q rfl rfl rfl rfl (fun w' hE130 => (X.assignB rfl)) ?_
                          refine WO.nil ?_
                          refine WL.nil ?_
                          refine thn_n ?_
                          exact ⟨_, rfl, rfl, (by repeat (first | exact (Agree.refl _ F128) | refine Agree.put ?_ rfl | refine Agree.sub hAL1 rfl ?_ | refine Agree.sub hACr17 rfl ?_ | refine Agree.sub hACr15 rfl ?_ | refine Agree.sub hACr13 rfl ?_ | refine Agree.sub hAL0 rfl ?_ | refine Agree.named hF129 ?_ | refine Agree.named hF125 ?_ | refine Agree.named hF93 ?_ | refine Agree.named hF80 ?_ | refine Agree.named hF64 ?_ | refine Agree.named hF9 ?_)), (Ext.trans (Ext.drew _) (Ext.store (Ext.trans hx145 hx149) hx153 (by omega))), hO16⟩
                      · rintro fCr22 wCr22 ⟨g16, e16_Cr22, e17_Cr22, hACr22, hwCr22, hO16⟩
                        have := World.grownBy.size hwCr22
                        refine WF.named (fun F156 hF157 => ?_)
                        refine WF.cut (fun f' w' => f' 242 = .bool false ∧ Agree [0, 1, 5, 6, 7, 8, 9, 10, 11, 13, 14, 15, 16, 17, 18, 19, 20, 22, 23, 24, 25, 28, 29, 30, 31, 32, 33, 34, 35, 36, 37, 38, 40, 41, 42, 43, 44, 45, 46, 47, 48, 49, 50, 51, 52, 53, 54, 55, 56, 57, 58, 59, 60, 61, 62, 63, 64, 65, 96, 127, 191, 192, 193, 194, 195] f' F156 ∧ Ext wCr22 w') ?_ ?_
                        · refine WF.drawn (.q 0 (.q 1 (.q 2 (.q 3 (.q 4 (.q 5 (.q 6 (.q 7 (.q 8 (.q 9 (.q 10 (.q 11 (.q 12 (.q 13 (.q 14 (.q 15 (.q 16 (.q 17 (.q 18 (.q 19 (.q 20 (.q 21 (.q 22 (.q 23 (.q 24 (.q 25 (.q 26 (.q 27 (.q 28 (.q 29 .nil)))))))))))))))))))))))))))))) (fun w' => Ext wCr22 w') 30 (by kernel_rfl) (by kernel_rfl) (Ext.drew _) ?_
                          have := World.grownBy.size (Ext.drew wCr22)
                          refine WO.q rfl rfl rfl rfl (fun w' hE158 => (X.moveB ((congrFun hF157 17).trans e17_Cr22))) ?_
                          refine WO.q rfl rfl rfl rfl (fun w' hE158 => (X.not rfl)) ?_
                          refine WO.q rfl rfl rfl rfl (fun w' hE158 => (X.moveB rfl)) ?_
                          refine WO.split (j := 2) rfl (fun h160 => ?_) (fun h160 => ?_)
                          · have gh160 := (nt h160)
                            exact absurd hst.1 (by rw [gh160]; simp)
                          · have gh160 := (nf h160)
                            refine WO.qg rfl rfl (congrArg some h160) rfl rfl (fun w' hE158 => (X.move ((congrFun hF157 5).trans ((hACr22.eq 5).trans ((congrFun hF129 5).trans ((hAL1.eq 5).trans ((congrFun hF125 5).trans ((hACr17.eq 5).trans ((congrFun hF93 5).trans ((hACr15.eq 5).trans ((congrFun hF80 5).trans ((hACr13.eq 5).trans ((congrFun hF64 5).trans e5_L0))))))))))))) ?_
                            refine WO.qg rfl rfl (congrArg some h160) rfl rfl (fun w' hE158 => (X.moveI ((congrFun hF157 15).trans ((hACr22.eq 15).trans ((congrFun hF129 15).trans e15_L1))))) ?_
                            refine WO.qg rfl rfl (congrArg some h160) rfl rfl (fun w' hE158 => (X.idx hV rfl rfl (by omega) Try.underlying22 Try.sizeOf37)) ?_
                            refine WO.qg rfl rfl (congrArg some h160) rfl rfl (fun w' hE158 => (X.fieldAddrA rfl Try.underlying37 rfl rfl Try.sizeOf3)) ?_
                            refine WO.qg rfl rfl (congrArg some h160) rfl rfl (fun w' hE158 => (X.loadE hV (Ext.trans (Ext.trans (Ext.trans (Ext.trans (Ext.trans (Ext.trans (Ext.trans (Ext.trans (Ext.trans (Ext.trans (Ext.store hx14 hx18 (by omega)) hx22) hx38) hx42) (Ext.store hx46 hx50 (by omega))) hx54) (Ext.store hx58 hx61 (by omega))) hwCr17) hwL1) hwCr22) hE158) rfl (by omega) ((Votes.get hj (by decide)).trans rfl) Try.isAgg3)) ?_
                            refine WO.qg rfl rfl (congrArg some h160) rfl rfl (fun w' hE158 => (X.fieldAddrO (off := 9) ((congrFun hF157 7).trans ((hACr22.eq 7).trans ((congrFun hF129 7).trans ((hAL1.eq 7).trans ((congrFun hF125 7).trans ((hACr17.eq 7).trans ((congrFun hF93 7).trans ((hACr15.eq 7).trans ((congrFun hF80 7).trans ((hACr13.eq 7).trans (congrFun hF64 7))))))))))) Try.underlying26 rfl rfl Try.sizeOf3)) ?_
                            refine WO.qg rfl rfl (congrArg some h160) rfl rfl (fun w' hE158 => (X.loadO hO7 (Ext.trans (Ext.trans (Ext.trans hwCr17 hwL1) hwCr22) hE158) rfl rfl Try.isAgg3)) ?_
                            refine WO.qg rfl rfl (congrArg some h160) rfl rfl (fun w' hE158 => (X.neq rfl rfl)) ?_
                            refine WO.qg rfl rfl (congrArg some h160) rfl rfl (fun w' hE158 => (X.moveB rfl)) ?_
                            refine WO.split (j := 11) rfl (fun h162 => ?_) (fun h162 => ?_)
                            · have gh162 := (of_decide_eq_true h162)
                              have hkk : ¬ ((V[j]'hj).Txn = m.Txn ∧ (V[j]'hj).Part = m.Part) := fun e => gh162 e.1
                              refine WO.qp rfl rfl rfl rfl (congrArg some h162) ?_
                              refine WO.qp rfl rfl rfl rfl (congrArg some h162) ?_
                              refine WO.qp rfl rfl rfl rfl (congrArg some h162) ?_
                              refine WO.qp rfl rfl rfl rfl (congrArg some h162) ?_
                              refine WO.qp rfl rfl rfl rfl (congrArg some h162) ?_
                              refine WO.qp rfl rfl rfl rfl (congrArg some h162) ?_
                              refine WO.qp rfl rfl rfl rfl (congrArg some h162) ?_
                              refine WO.qp rfl rfl rfl rfl (congrArg some h162) ?_
                              refine WO.qg rfl rfl (congrArg some h160) rfl rfl (fun w' hE158 => (X.pickT rfl h162 rfl)) ?_
                              refine WO.qg rfl rfl (congrArg some h160) rfl rfl (fun w' hE158 => (X.moveB rfl)) ?_
                              refine WO.qg rfl rfl rfl rfl rfl (fun w' hE158 => (X.loadOA hO16 hE158 ((congrFun hF157 16).trans e16_Cr22) rfl Try.isAgg37 Try.sizeOf37)) ?_
                              refine WO.qg rfl rfl rfl rfl rfl (fun w' hE158 => (X.move ((congrFun hF157 5).trans ((hACr22.eq 5).trans ((congrFun hF129 5).trans ((hAL1.eq 5).trans ((congrFun hF125 5).trans ((hACr17.eq 5).trans ((congrFun hF93 5).trans ((hACr15.eq 5).trans ((congrFun hF80 5).trans ((hACr13.eq 5).trans ((congrFun hF64 5).trans e5_L0))))))))))))) ?_
                              refine WO.qg rfl rfl rfl rfl rfl (fun w' hE158 => (X.moveI ((congrFun hF157 15).trans ((hACr22.eq 15).trans ((congrFun hF129 15).trans e15_L1))))) ?_
                              refine WO.qg rfl rfl rfl rfl rfl (fun w' hE158 => (X.idx hV rfl rfl (by omega) Try.underlying22 Try.sizeOf37)) ?_
                              refine WO.qg rfl rfl rfl rfl rfl (fun w' hE158 => (X.loadEl hV (Ext.trans (Ext.trans (Ext.trans (Ext.trans (Ext.trans (Ext.trans (Ext.trans (Ext.trans (Ext.trans (Ext.trans (Ext.store hx14 hx18 (by omega)) hx22) hx38) hx42) (Ext.store hx46 hx50 (by omega))) hx54) (Ext.store hx58 hx61 (by omega))) hwCr17) hwL1) hwCr22) hE158) rfl (by omega) (Votes.el (l := V) (k := j) hj) Try.isAgg37 Try.sizeOf37)) ?_
                              refine WO.qg rfl rfl rfl rfl rfl (fun w' hE158 => (X.neqA (na := y.ints) (nb := (V[j]'hj).ints) flatV fieldsV offsV rfl rfl rfl rfl (Acc.eqB _ _))) ?_
                              refine WO.qg rfl rfl (congrArg some h160) rfl rfl (fun w' hE158 => (X.pickT rfl rfl rfl)) ?_
                              refine WO.q rfl rfl rfl rfl (fun w' hE158 => (X.pickF rfl h160 rfl)) ?_
                              refine WO.nil ?_
                              refine WL.nil ?_
                              refine thn_n ?_
                              exact ⟨(by first | rfl | exact congrArg Value.bool (by rw [decide_eq_true (hst.2 hkk)]; rfl)), (by repeat (first | exact (Agree.refl _ F156) | refine Agree.put ?_ rfl | refine Agree.sub hACr22 rfl ?_ | refine Agree.sub hAL1 rfl ?_ | refine Agree.sub hACr17 rfl ?_ | refine Agree.sub hACr15 rfl ?_ | refine Agree.sub hACr13 rfl ?_ | refine Agree.sub hAL0 rfl ?_ | refine Agree.named hF157 ?_ | refine Agree.named hF129 ?_ | refine Agree.named hF125 ?_ | refine Agree.named hF93 ?_ | refine Agree.named hF80 ?_ | refine Agree.named hF64 ?_ | refine Agree.named hF9 ?_)), (Ext.drew _)⟩
                            · have gh162 := (Decidable.of_not_not (of_decide_eq_false h162))
                              have hk1 := gh162
                              refine WO.qg rfl rfl (congrArg some h162) rfl rfl (fun w' hE158 => (X.move ((congrFun hF157 5).trans ((hACr22.eq 5).trans ((congrFun hF129 5).trans ((hAL1.eq 5).trans ((congrFun hF125 5).trans ((hACr17.eq 5).trans ((congrFun hF93 5).trans ((hACr15.eq 5).trans ((congrFun hF80 5).trans ((hACr13.eq 5).trans ((congrFun hF64 5).trans e5_L0))))))))))))) ?_
                              refine WO.qg rfl rfl (congrArg some h162) rfl rfl (fun w' hE158 => (X.moveI ((congrFun hF157 15).trans ((hACr22.eq 15).trans ((congrFun hF129 15).trans e15_L1))))) ?_
                              refine WO.qg rfl rfl (congrArg some h162) rfl rfl (fun w' hE158 => (X.idx hV rfl rfl (by omega) Try.underlying22 Try.sizeOf37)) ?_
                              refine WO.qg rfl rfl (congrArg some h162) rfl rfl (fun w' hE158 => (X.fieldAddrA rfl Try.underlying37 rfl rfl Try.sizeOf3)) ?_
                              refine WO.qg rfl rfl (congrArg some h162) rfl rfl (fun w' hE158 => (X.loadE hV (Ext.trans (Ext.trans (Ext.trans (Ext.trans (Ext.trans (Ext.trans (Ext.trans (Ext.trans (Ext.trans (Ext.trans (Ext.store hx14 hx18 (by omega)) hx22) hx38) hx42) (Ext.store hx46 hx50 (by omega))) hx54) (Ext.store hx58 hx61 (by omega))) hwCr17) hwL1) hwCr22) hE158) rfl (by omega) ((Votes.get hj (by decide)).trans rfl) Try.isAgg3)) ?_
                              refine WO.qg rfl rfl (congrArg some h162) rfl rfl (fun w' hE158 => (X.fieldAddrO (off := 10) ((congrFun hF157 7).trans ((hACr22.eq 7).trans ((congrFun hF129 7).trans ((hAL1.eq 7).trans ((congrFun hF125 7).trans ((hACr17.eq 7).trans ((congrFun hF93 7).trans ((hACr15.eq 7).trans ((congrFun hF80 7).trans ((hACr13.eq 7).trans (congrFun hF64 7))))))))))) Try.underlying26 rfl rfl Try.sizeOf3)) ?_
                              refine WO.qg rfl rfl (congrArg some h162) rfl rfl (fun w' hE158 => (X.loadO hO7 (Ext.trans (Ext.trans (Ext.trans hwCr17 hwL1) hwCr22) hE158) rfl rfl Try.isAgg3)) ?_
                              refine WO.qg rfl rfl (congrArg some h162) rfl rfl (fun w' hE158 => (X.neq rfl rfl)) ?_
                              refine WO.qg rfl rfl (congrArg some h160) rfl rfl (fun w' hE158 => (X.pickF rfl h162 rfl)) ?_
                              refine WO.qg rfl rfl (congrArg some h160) rfl rfl (fun w' hE158 => (X.moveB rfl)) ?_
                              refine WO.split (j := 21) rfl (fun h166 => ?_) (fun h166 => ?_)
                              · have gh166 := (of_decide_eq_true h166)
                                have hkk : ¬ ((V[j]'hj).Txn = m.Txn ∧ (V[j]'hj).Part = m.Part) := fun e => gh166 e.2
                                refine WO.qg rfl rfl (congrArg some h166) rfl rfl (fun w' hE158 => (X.loadOA hO16 hE158 ((congrFun hF157 16).trans e16_Cr22) rfl Try.isAgg37 Try.sizeOf37)) ?_
                                refine WO.qg rfl rfl (congrArg some h166) rfl rfl (fun w' hE158 => (X.move ((congrFun hF157 5).trans ((hACr22.eq 5).trans ((congrFun hF129 5).trans ((hAL1.eq 5).trans ((congrFun hF125 5).trans ((hACr17.eq 5).trans ((congrFun hF93 5).trans ((hACr15.eq 5).trans ((congrFun hF80 5).trans ((hACr13.eq 5).trans ((congrFun hF64 5).trans e5_L0))))))))))))) ?_
                                refine WO.qg rfl rfl (congrArg some h166) rfl rfl (fun w' hE158 => (X.moveI ((congrFun hF157 15).trans ((hACr22.eq 15).trans ((congrFun hF129 15).trans e15_L1))))) ?_
                                refine WO.qg rfl rfl (congrArg some h166) rfl rfl (fun w' hE158 => (X.idx hV rfl rfl (by omega) Try.underlying22 Try.sizeOf37)) ?_
                                refine WO.qg rfl rfl (congrArg some h166) rfl rfl (fun w' hE158 => (X.loadEl hV (Ext.trans (Ext.trans (Ext.trans (Ext.trans (Ext.trans (Ext.trans (Ext.trans (Ext.trans (Ext.trans (Ext.trans (Ext.store hx14 hx18 (by omega)) hx22) hx38) hx42) (Ext.store hx46 hx50 (by omega))) hx54) (Ext.store hx58 hx61 (by omega))) hwCr17) hwL1) hwCr22) hE158) rfl (by omega) (Votes.el (l := V) (k := j) hj) Try.isAgg37 Try.sizeOf37)) ?_
                                refine WO.qg rfl rfl (congrArg some h166) rfl rfl (fun w' hE158 => (X.neqA (na := y.ints) (nb := (V[j]'hj).ints) flatV fieldsV offsV rfl rfl rfl rfl (Acc.eqB _ _))) ?_
                                refine WO.qg rfl rfl (congrArg some h160) rfl rfl (fun w' hE158 => (X.pickT rfl h166 rfl)) ?_
                                refine WO.q rfl rfl rfl rfl (fun w' hE158 => (X.pickF rfl h160 rfl)) ?_
                                refine WO.nil ?_
                                refine WL.nil ?_
                                refine thn_n ?_
                                exact ⟨(by first | rfl | exact congrArg Value.bool (by rw [decide_eq_true (hst.2 hkk)]; rfl)), (by repeat (first | exact (Agree.refl _ F156) | refine Agree.put ?_ rfl | refine Agree.sub hACr22 rfl ?_ | refine Agree.sub hAL1 rfl ?_ | refine Agree.sub hACr17 rfl ?_ | refine Agree.sub hACr15 rfl ?_ | refine Agree.sub hACr13 rfl ?_ | refine Agree.sub hAL0 rfl ?_ | refine Agree.named hF157 ?_ | refine Agree.named hF129 ?_ | refine Agree.named hF125 ?_ | refine Agree.named hF93 ?_ | refine Agree.named hF80 ?_ | refine Agree.named hF64 ?_ | refine Agree.named hF9 ?_)), (Ext.drew _)⟩
                              · have gh166 := (Decidable.of_not_not (of_decide_eq_false h166))
                                refine WO.qp rfl rfl rfl rfl (congrArg some h166) ?_
                                refine WO.qp rfl rfl rfl rfl (congrArg some h166) ?_
                                refine WO.qp rfl rfl rfl rfl (congrArg some h166) ?_
                                refine WO.qp rfl rfl rfl rfl (congrArg some h166) ?_
                                refine WO.qp rfl rfl rfl rfl (congrArg some h166) ?_
                                refine WO.qp rfl rfl rfl rfl (congrArg some h166) ?_
                                refine WO.qg rfl rfl (congrArg some h160) rfl rfl (fun w' hE158 => (X.pickF rfl h166 rfl)) ?_
                                refine WO.q rfl rfl rfl rfl (fun w' hE158 => (X.pickF rfl h160 rfl)) ?_
                                refine WO.nil ?_
                                refine WL.nil ?_
                                refine thn_n ?_
                                exact ⟨(by first | rfl | exact congrArg Value.bool (by rw [decide_eq_true (hst.2 hkk)]; rfl)), (by repeat (first | exact (Agree.refl _ F156) | refine Agree.put ?_ rfl | refine Agree.sub hACr22 rfl ?_ | refine Agree.sub hAL1 rfl ?_ | refine Agree.sub hACr17 rfl ?_ | refine Agree.sub hACr15 rfl ?_ | refine Agree.sub hACr13 rfl ?_ | refine Agree.sub hAL0 rfl ?_ | refine Agree.named hF157 ?_ | refine Agree.named hF129 ?_ | refine Agree.named hF125 ?_ | refine Agree.named hF93 ?_ | refine Agree.named hF80 ?_ | refine Agree.named hF64 ?_ | refine Agree.named hF9 ?_)), (Ext.drew _)⟩
                        · rintro fCr23 wCr23 ⟨e242_Cr23, hACr23, hwCr23⟩
                          have := World.grownBy.size hwCr23
                          refine WF.cond_f e242_Cr23 ?_
                          refine WF.skip ?_
                          refine blk_n ?_
                          refine thn_n ?_
                          refine WF.region ?_
                          refine WL.va rfl rfl rfl (X.moveI ((hACr23.eq 15).trans ((congrFun hF157 15).trans ((hACr22.eq 15).trans ((congrFun hF129 15).trans e15_L1))))) ?_
                          refine WL.va rfl rfl rfl (X.add rfl rfl (w64 (by omega))) ?_
                          refine WL.va rfl rfl rfl (X.assignI rfl) ?_
                          refine WL.nil ?_
                          exact thn_n ⟨_, (by omega), j + 1, rfl, rfl, (by repeat (first | exact hAL1 | refine Agree.put ?_ rfl | refine Agree.sub hACr23 rfl ?_ | refine Agree.sub hACr22 rfl ?_ | refine Agree.sub hACr17 rfl ?_ | refine Agree.sub hACr15 rfl ?_ | refine Agree.sub hACr13 rfl ?_ | refine Agree.sub hAL0 rfl ?_ | refine Agree.named hF157 ?_ | refine Agree.named hF129 ?_ | refine Agree.named hF125 ?_ | refine Agree.named hF93 ?_ | refine Agree.named hF80 ?_ | refine Agree.named hF64 ?_ | refine Agree.named hF9 ?_)), (Ext.trans (Ext.trans hwL1 hwCr22) hwCr23), (by omega)⟩
                    · have gh6_126 := (of_decide_eq_false h6_126)
                      refine WF.exit ?_
                      refine thn_x ?_
                      refine thn_x ?_
                      refine blk_eq ?_
                      refine thn_n ?_
                      refine WF.region ?_
                      refine WL.va rfl rfl rfl (X.move ((hAL1.eq 8).trans ((congrFun hF125 8).trans ((hACr17.eq 8).trans ((congrFun hF93 8).trans ((hACr15.eq 8).trans ((congrFun hF80 8).trans ((hACr13.eq 8).trans (congrFun hF64 8))))))))) ?_
                      refine WL.va rfl rfl rfl (X.assign rfl) ?_
                      refine WL.nil ?_
                      refine blk_n ?_
                      refine thn_n ?_
                      refine WF.region ?_
                      refine WL.va rfl rfl rfl (X.moveI ((hAL1.eq 6).trans ((congrFun hF125 6).trans ((hACr17.eq 6).trans ((congrFun hF93 6).trans ((hACr15.eq 6).trans ((congrFun hF80 6).trans ((hACr13.eq 6).trans ((congrFun hF64 6).trans e6_L0))))))))) ?_
                      refine WL.va rfl rfl rfl (X.add rfl rfl (w64 (by omega))) ?_
                      refine WL.va rfl rfl rfl (X.assignI rfl) ?_
                      refine WL.nil ?_
                      exact thn_n ⟨_, (by omega), k + 1, _, _, rfl, rfl, rfl, (by repeat (first | exact hAL0 | refine Agree.put ?_ rfl | refine Agree.sub hAL1 rfl ?_ | refine Agree.sub hACr17 rfl ?_ | refine Agree.sub hACr15 rfl ?_ | refine Agree.sub hACr13 rfl ?_ | refine Agree.named hF125 ?_ | refine Agree.named hF93 ?_ | refine Agree.named hF80 ?_ | refine Agree.named hF64 ?_ | refine Agree.named hF9 ?_)), (Ext.trans (Ext.trans (Ext.trans (Ext.trans (Ext.trans (Ext.trans (Ext.trans (Ext.trans (Ext.trans hwL0 (Ext.store hx14 hx18 (by omega))) hx22) hx38) hx42) (Ext.store hx46 hx50 (by omega))) hx54) (Ext.store hx58 hx61 (by omega))) hwCr17) hwL1), ⟨by omega, (Row.ext (Row.of_own oa) (Ext.trans (Ext.trans (Ext.trans (Ext.trans (Ext.trans hx42 (Ext.store hx46 hx50 (by omega))) hx54) (Ext.store hx58 hx61 (by omega))) hwCr17) hwL1)), (by have := take_len V id m; rw [hTk] at this; dsimp only at this; omega), (by have := huq.take id m; rwa [hTk] at this), (by have := take_low hlow id m; rwa [hTk] at this)⟩⟩
      · have gh1_10 := (of_decide_eq_false h1_10)
        refine WF.exit ?_
        refine thn_x ?_
        refine thn_x ?_
        refine blk_eq ?_
        refine thn_n ?_
        refine WF.seq ?_
        refine WF.region ?_
        refine WL.c rfl rfl rfl (X.call Try.call9 evl_nil) (works_ok _) ?_
        rintro v171 w170 ⟨rfl, hx172⟩
        refine WL.va rfl rfl rfl (X.assignB rfl) ?_
        refine WL.nil ?_
        refine thn_n ?_
        refine WF.ret ?_
        refine fin_r ?_
        exact ⟨rfl, (Ext.trans hwL0 hx172)⟩

end Go.Proofs.Ytgbkgkicgaikdaa
