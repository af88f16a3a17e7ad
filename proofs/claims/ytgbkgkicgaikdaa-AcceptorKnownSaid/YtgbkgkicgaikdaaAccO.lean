/- The walks of bit, send and ask. -/
import Derived.Test.YtgbkgkicgaikdaaVv
namespace Go.Proofs.Ytgbkgkicgaikdaa
open Go Go.RowKit Kf

theorem bit_ok (x : Int) (i : Nat) (w : World) (hi : i < 100) : FnOk Try.prog 36 [.int .u8 x, i64 (i : Int)] w (fun r w' => r = .bool (bitB x i) ∧ w = w') := by
  refine FnOk.enter (rs := [4]) Try.func36 rfl Try.ntmps36 Try.results36 rfl rfl ?_
  refine WF.seq ?_
  refine WF.region ?_
  refine WL.va rfl rfl rfl (X.assignB rfl) ?_
  refine WL.nil ?_
  refine thn_n ?_
  refine WF.seq ?_
  refine WF.region ?_
  refine WL.va rfl rfl rfl (X.moveI rfl) ?_
  refine WL.va rfl rfl rfl (X.moveI rfl) ?_
  refine WL.va rfl rfl rfl (X.conv rfl (congrArg Option.isSome Try.underlying3) Try.underlying61 (wu64 (by omega))) ?_
  refine WL.va rfl rfl rfl (X.shr rfl rfl (by omega) rfl) ?_
  refine WL.va rfl rfl rfl (X.and rfl rfl rfl) ?_
  refine WL.va rfl rfl rfl (X.eql rfl rfl) ?_
  refine WL.va rfl rfl rfl (X.assignB rfl) ?_
  refine WL.nil ?_
  refine thn_n ?_
  refine WF.ret ?_
  refine fin_r ?_
  exact ⟨rfl, rfl⟩

set_option maxHeartbeats 1000000 in
theorem send_ok (v : Value) (cs : List Value) (L : List (List Acc)) (n : Nat) (to ballot value : Int) (B T : Nat) (p : Option Nat) (w : World) (h : VV w B T v p cs L) (hT : T ≤ w.heap.size) (hp : ∀ q, p = some q → q < w.heap.size) (hn : n ≤ 7) (hb : 0 ≤ ballot ∧ ballot ≤ 1000) (hv : value = 1 ∨ value = 2) : FnOk Try.prog 20 [v, i64 (n : Int), .int .u8 to, i64 ballot, i64 value] w (fun r w' => ∃ cs' L', VV w' B T v p cs' L' ∧ Served (propS ballot value) (bitB to) n L L' ∧ r = .bool (decide (n < 2 * cnt (qSend to ballot L) n)) ∧ w.grownBy w' v.ownBlock) := by
  have hin : In64 (voteM 10 9 ballot value).ints := by intro x hx; simp [Msg.ints] at hx; omega
  refine FnOk.enter (rs := [10]) Try.func20 rfl Try.ntmps20 Try.results20 rfl rfl ?_
  refine WF.seq ?_
  refine WF.region ?_
  refine WL.va rfl rfl rfl (X.assignB rfl) ?_
  refine WL.nil ?_
  refine thn_n ?_
  refine WF.seq ?_
  refine WF.region ?_
  refine WL.va rfl rfl rfl (X.assignI rfl) ?_
  refine WL.nil ?_
  refine thn_n ?_
  refine WF.seq ?_
  refine WF.seq ?_
  refine WF.region ?_
  refine WL.va rfl rfl rfl (X.assignI rfl) ?_
  refine WL.nil ?_
  refine thn_n ?_
  refine WF.block ?_
  refine WF.named (fun F2 hF3 => ?_)
  refine WF.loopN (fun mL0 f' w' => ∃ (k : Nat) (cs1 : List Value) (L1 : List (List Acc)) (c : Nat), mL0 = n - k ∧ f' 12 = .int .i64 (k : Int) ∧ f' 11 = .int .i64 (c : Int) ∧ Agree [0, 1, 2, 3, 4, 10] f' F2 ∧ w.grownBy w' v.ownBlock ∧ k ≤ n ∧ VV w' B T v p cs1 L1 ∧ Served (propS ballot value) (bitB to) k L L1 ∧ c = cnt (qSend to ballot L) k ∧ c ≤ k) ?_ ?_
  · exact ⟨_, 0, _, _, 0, rfl, (congrFun hF3 12), (congrFun hF3 11), (Agree.refl _ _), (World.grownBy.refl _ _), ⟨Nat.zero_le _, h, Served.zero, rfl, Nat.le_refl _⟩⟩
  · rintro mL0 fL0 wL0 ⟨k, cs1, L1, c, hmL0, e12_L0, e11_L0, hAL0, hwL0, ⟨hk, hV, hS, hc, hck⟩⟩
    refine WF.seq ?_
    refine WF.seq ?_
    refine WF.region ?_
    refine WL.va rfl rfl rfl (X.moveI e12_L0) ?_
    refine WL.va rfl rfl rfl (X.moveI ((hAL0.eq 1).trans (congrFun hF3 1))) ?_
    refine WL.va rfl rfl rfl (X.lss rfl rfl) ?_
    refine WL.nil ?_
    refine thn_n ?_
    refine WF.cond rfl (fun h0_4 => ?_) (fun h0_4 => ?_)
    · have gh0_4 := (of_decide_eq_true h0_4)
      have hkn : k < n := by omega
      refine WF.skip ?_
      refine thn_n ?_
      refine WF.seq ?_
      refine WF.block ?_
      refine WF.seq ?_
      refine WF.seq ?_
      refine WF.region ?_
      refine WL.va rfl rfl rfl (X.moveI ((hAL0.eq 2).trans (congrFun hF3 2))) ?_
      refine WL.va rfl rfl rfl (X.moveI e12_L0) ?_
      refine WL.c rfl rfl rfl (X.call Try.call36 (evl_cons rfl (evl_cons rfl evl_nil))) (bit_ok _ k _ (by omega)) ?_
      rintro v7 w6 ⟨rfl, rfl⟩
      refine WL.va rfl rfl rfl (X.not rfl) ?_
      refine WL.nil ?_
      refine thn_n ?_
      refine WF.cond rfl (fun h1_10 => ?_) (fun h1_10 => ?_)
      · have gh1_10 := (nt h1_10)
        have hbit : bitB to k = false := gh1_10
        refine WF.exit ?_
        refine thn_x ?_
        refine blk_eq ?_
        refine thn_n ?_
        refine WF.region ?_
        refine WL.va rfl rfl rfl (X.moveI e12_L0) ?_
        refine WL.va rfl rfl rfl (X.add rfl rfl (w64 (by omega))) ?_
        refine WL.va rfl rfl rfl (X.assignI rfl) ?_
        refine WL.nil ?_
        first | exact thn_n ⟨_, (by omega), k + 1, _, _, c, rfl, rfl, e11_L0, (by repeat (first | exact hAL0 | refine Agree.put ?_ rfl | refine Agree.named hF3 ?_)), (by first | exact hgr | exact grown_ext hwL0 (Ext.refl _)), ⟨by omega, hV, hS.skip hbit, (by rw [cnt_no (qSend_no hbit)]; exact hc), by omega⟩⟩ | exact thn_n ⟨_, (by omega), k + 1, _, _, c + 1, rfl, rfl, e11_L0, (by repeat (first | exact hAL0 | refine Agree.put ?_ rfl | refine Agree.named hF3 ?_)), (by first | exact hgr | exact grown_ext hwL0 (Ext.refl _)), ⟨by omega, hV2, hS.put hV.len (by omega) hbit hX, (by rw [cnt_yes (hqk.trans hOk), hc]), by omega⟩⟩ | exact thn_n ⟨_, (by omega), k + 1, _, _, c, rfl, rfl, e11_L0, (by repeat (first | exact hAL0 | refine Agree.put ?_ rfl | refine Agree.named hF3 ?_)), (by first | exact hgr | exact grown_ext hwL0 (Ext.refl _)), ⟨by omega, hV2, hS.put hV.len (by omega) hbit hX, (by rw [cnt_no (hqk.trans hOk)]; exact hc), by omega⟩⟩
      · have gh1_10 := (nf h1_10)
        have hbit : bitB to k = true := gh1_10
        refine WF.skip ?_
        refine thn_n ?_
        refine WF.seq ?_
        refine WF.drawn (.q 0 (.q 1 (.q 2 (.q 3 (.q 4 (.q 5 (.q 6 (.q 7 (.l 8 (.l 9 (.q 10 (.q 11 (.q 12 (.q 13 (.q 14 (.q 15 (.q 16 .nil))))))))))))))))) (fun w' => Ext wL0 w') 17 (by kernel_rfl) (by kernel_rfl) (Ext.drew _) ?_
        refine WO.q rfl rfl rfl rfl (fun w' hE12 => (X.move ((hAL0.eq 0).trans (congrFun hF3 0)))) ?_
        refine WO.q rfl rfl rfl rfl (fun w' hE12 => (X.moveI e12_L0)) ?_
        refine WO.q rfl rfl rfl rfl (fun w' hE12 => (X.idx hV.own.rd rfl rfl (by omega) Try.underlying44 Try.sizeOf22)) ?_
        refine WO.q rfl rfl rfl rfl (fun w' hE12 => (X.load1 hV.own.rd hE12 rfl (by omega) Try.isAgg22)) ?_
        refine WO.q rfl rfl rfl rfl (fun w' hE12 => (X.moveI e12_L0)) ?_
        refine WO.q rfl rfl rfl rfl (fun w' hE12 => (X.add rfl rfl (w64 (by omega)))) ?_
        refine WO.q rfl rfl rfl rfl (fun w' hE12 => (X.moveI ((hAL0.eq 3).trans (congrFun hF3 3)))) ?_
        refine WO.q rfl rfl rfl rfl (fun w' hE12 => (X.moveI ((hAL0.eq 4).trans (congrFun hF3 4)))) ?_
        refine WO.l ?_
        refine LO.go rfl rfl (OW.enter rfl (by decide) (X.call Try.call22 (evl_cons rfl (evl_cons rfl (evl_cons rfl (evl_cons rfl evl_nil))))) (vote_ok _ _ _ _ _) ?_)
        rintro v14 w13 ⟨rfl, hx15⟩
        refine ⟨(Ext.trans (Ext.drew _) hx15), ?_⟩
        refine WO.l ?_
        have szq1 := World.grownBy.size hwL0
        have szq2 := World.grownBy.size (Ext.trans (Ext.drew _) hx15)
        obtain ⟨B2, hB2e⟩ : ∃ B2, B2 = w13.heap.size := ⟨_, rfl⟩
        have hB2 : T ≤ B2 := by omega
        have hp2 : ∀ q, p = some q → q < B2 := fun q hq => by have := hp q hq; omega
        have h1k := (hV.one (j := k) (by omega)).1
        obtain ⟨X1, o, ch, hTk, hX, hok, hone⟩ := send_take (id := (k : Int) + 1) (b := ballot) (hV.one (j := k) (by omega)) hv
        have hqk : qSend to ballot L k = o.Ok := by unfold qSend; rw [hbit, hok, ← hS.cur (by omega)]; rfl
        refine LO.go rfl rfl (OW.enter rfl (by decide) (X.call Try.call11 (evl_cons rfl (evl_cons rfl (evl_cons rfl evl_nil)))) ((take_ok _ (L1.getD k []) ((k : Int) + 1) (voteM 10 9 ballot value) nilS nilS _ (Row.ext (hV.votes (by omega)) (Ext.trans (Ext.drew _) hx15)) (by omega) hin).mono (fun r wq h => (show (∃ vv vm, r = .tuple #[vv, vm, .bool ch] ∧ OwnV wq B2 37 vv X1 ∧ OwnM wq B2 26 vm [o] ∧ Apart vv vm) ∧ Ext w13 wq from by rw [hTk] at h; rw [hB2e]; exact h))) ?_)
        rintro v17 w16 ⟨⟨vv, vm, rfl, oa, om, _⟩, hx18⟩
        refine ⟨(Ext.trans (Ext.trans (Ext.drew _) hx15) hx18), ?_⟩
        refine WO.q rfl rfl rfl rfl (fun w' hE12 => (X.move rfl)) ?_
        refine WO.q rfl rfl rfl rfl (fun w' hE12 => (X.extract rfl rfl)) ?_
        refine WO.q rfl rfl rfl rfl (fun w' hE12 => (X.extract rfl rfl)) ?_
        refine WO.q rfl rfl rfl rfl (fun w' hE12 => (X.extract rfl rfl)) ?_
        refine WO.q rfl rfl rfl rfl (fun w' hE12 => (X.assign rfl)) ?_
        refine WO.q rfl rfl rfl rfl (fun w' hE12 => (X.assign rfl)) ?_
        refine WO.q rfl rfl rfl rfl (fun w' hE12 => (X.assignB rfl)) ?_
        refine WO.nil ?_
        refine WL.nil ?_
        refine thn_n ?_
        refine WF.seq ?_
        refine WF.region ?_
        refine WL.va rfl rfl rfl (X.move ((hAL0.eq 0).trans (congrFun hF3 0))) ?_
        refine WL.va rfl rfl rfl (X.moveI e12_L0) ?_
        refine WL.va rfl rfl rfl (X.move rfl) ?_
        refine WL.va rfl rfl rfl (X.idx hV.own.rd rfl rfl (by omega) Try.underlying44 Try.sizeOf22) ?_
        have hway := (Ext.trans (Ext.trans (Ext.drew _) hx15) hx18)
        have hVs := hV.ext hway
        refine WL.op rfl (OW.storeOwn hVs.own.own (by omega) rfl rfl (own_one oa) Try.sizeOf22 ?_)
        intro w20 ho23 hx22
        rw [Nat.mul_one] at ho23
        have hV2 := VV.store hVs (by omega) oa hB2 hp2 hone ho23 hx22
        have om2 := VV.others hVs om hB2 hx22
        have hgr := grown2 (grown_ext hwL0 hway) hx22
        refine WL.nil ?_
        refine thn_n ?_
        refine WF.seq ?_
        refine WF.region ?_
        refine WL.va rfl rfl rfl (X.move rfl) ?_
        refine WL.va rfl rfl rfl (X.len (Row.of_own om2) rfl Try.underlying30) ?_
        refine WL.va rfl rfl rfl (X.eql rfl rfl) ?_
        refine WL.va rfl rfl rfl (X.moveB rfl) ?_
        refine WL.split (j := 3) rfl (fun h25 => ?_) (fun h25 => ?_)
        · have gh25 := (of_decide_eq_true h25)
          refine WL.vg rfl (congrArg some h25) rfl rfl (X.move rfl) ?_
          refine WL.vg rfl (congrArg some h25) rfl rfl (X.idx (k := 0) (Row.of_own om2) rfl rfl Nat.zero_lt_one Try.underlying30 Try.sizeOf26) ?_
          refine WL.vg rfl (congrArg some h25) rfl rfl (X.fieldAddrA rfl Try.underlying26 rfl rfl Try.sizeOf4) ?_
          refine WL.vg rfl (congrArg some h25) rfl rfl (X.loadE (Row.of_own om2) (Ext.refl _) rfl Nat.zero_lt_one ((Msg.get (l := [o]) Nat.zero_lt_one (by decide)).trans rfl) Try.isAgg4) ?_
          refine WL.va rfl rfl rfl (X.pickT rfl h25 rfl) ?_
          refine WL.nil ?_
          refine thn_n ?_
          refine WF.cond rfl (fun h2_26 => ?_) (fun h2_26 => ?_)
          · have gh2_26 := h2_26
            have hOk : o.Ok = true := gh2_26
            refine WF.region ?_
            refine WL.va rfl rfl rfl (X.moveI e11_L0) ?_
            refine WL.va rfl rfl rfl (X.add rfl rfl (w64 (by omega))) ?_
            refine WL.va rfl rfl rfl (X.assignI rfl) ?_
            refine WL.nil ?_
            refine blk_n ?_
            refine thn_n ?_
            refine WF.region ?_
            refine WL.va rfl rfl rfl (X.moveI e12_L0) ?_
            refine WL.va rfl rfl rfl (X.add rfl rfl (w64 (by omega))) ?_
            refine WL.va rfl rfl rfl (X.assignI rfl) ?_
            refine WL.nil ?_
            first | exact thn_n ⟨_, (by omega), k + 1, _, _, c, rfl, rfl, rfl, (by repeat (first | exact hAL0 | refine Agree.put ?_ rfl | refine Agree.named hF3 ?_)), (by first | exact hgr | exact grown_ext hwL0 (Ext.trans (Ext.trans (Ext.trans (Ext.drew _) hx15) hx18) hx22)), ⟨by omega, hV, hS.skip hbit, (by rw [cnt_no (qSend_no hbit)]; exact hc), by omega⟩⟩ | exact thn_n ⟨_, (by omega), k + 1, _, _, c + 1, rfl, rfl, rfl, (by repeat (first | exact hAL0 | refine Agree.put ?_ rfl | refine Agree.named hF3 ?_)), (by first | exact hgr | exact grown_ext hwL0 (Ext.trans (Ext.trans (Ext.trans (Ext.drew _) hx15) hx18) hx22)), ⟨by omega, hV2, hS.put hV.len (by omega) hbit hX, (by rw [cnt_yes (hqk.trans hOk), hc]), by omega⟩⟩ | exact thn_n ⟨_, (by omega), k + 1, _, _, c, rfl, rfl, rfl, (by repeat (first | exact hAL0 | refine Agree.put ?_ rfl | refine Agree.named hF3 ?_)), (by first | exact hgr | exact grown_ext hwL0 (Ext.trans (Ext.trans (Ext.trans (Ext.drew _) hx15) hx18) hx22)), ⟨by omega, hV2, hS.put hV.len (by omega) hbit hX, (by rw [cnt_no (hqk.trans hOk)]; exact hc), by omega⟩⟩
          · have gh2_26 := h2_26
            have hOk : o.Ok = false := gh2_26
            refine WF.skip ?_
            refine blk_n ?_
            refine thn_n ?_
            refine WF.region ?_
            refine WL.va rfl rfl rfl (X.moveI e12_L0) ?_
            refine WL.va rfl rfl rfl (X.add rfl rfl (w64 (by omega))) ?_
            refine WL.va rfl rfl rfl (X.assignI rfl) ?_
            refine WL.nil ?_
            first | exact thn_n ⟨_, (by omega), k + 1, _, _, c, rfl, rfl, e11_L0, (by repeat (first | exact hAL0 | refine Agree.put ?_ rfl | refine Agree.named hF3 ?_)), (by first | exact hgr | exact grown_ext hwL0 (Ext.trans (Ext.trans (Ext.trans (Ext.drew _) hx15) hx18) hx22)), ⟨by omega, hV, hS.skip hbit, (by rw [cnt_no (qSend_no hbit)]; exact hc), by omega⟩⟩ | exact thn_n ⟨_, (by omega), k + 1, _, _, c + 1, rfl, rfl, e11_L0, (by repeat (first | exact hAL0 | refine Agree.put ?_ rfl | refine Agree.named hF3 ?_)), (by first | exact hgr | exact grown_ext hwL0 (Ext.trans (Ext.trans (Ext.trans (Ext.drew _) hx15) hx18) hx22)), ⟨by omega, hV2, hS.put hV.len (by omega) hbit hX, (by rw [cnt_yes (hqk.trans hOk), hc]), by omega⟩⟩ | exact thn_n ⟨_, (by omega), k + 1, _, _, c, rfl, rfl, e11_L0, (by repeat (first | exact hAL0 | refine Agree.put ?_ rfl | refine Agree.named hF3 ?_)), (by first | exact hgr | exact grown_ext hwL0 (Ext.trans (Ext.trans (Ext.trans (Ext.drew _) hx15) hx18) hx22)), ⟨by omega, hV2, hS.put hV.len (by omega) hbit hX, (by rw [cnt_no (hqk.trans hOk)]; exact hc), by omega⟩⟩
        · have gh25 := (of_decide_eq_false h25)
          exact absurd rfl gh25
    · have gh0_4 := (of_decide_eq_false h0_4)
      refine WF.exit ?_
      refine thn_x ?_
      refine thn_x ?_
      refine blk_eq ?_
      refine thn_n ?_
      refine WF.seq ?_
      refine WF.region ?_
      refine WL.va rfl rfl rfl (X.moveI e11_L0) ?_
      refine WL.va rfl rfl rfl (X.mul rfl rfl (w64 (by omega))) ?_
      refine WL.va rfl rfl rfl (X.moveI ((hAL0.eq 1).trans (congrFun hF3 1))) ?_
      refine WL.va rfl rfl rfl (X.gtr rfl rfl) ?_
      refine WL.va rfl rfl rfl (X.assignB rfl) ?_
      refine WL.nil ?_
      refine thn_n ?_
      refine WF.ret ?_
      refine fin_r ?_
      obtain rfl : k = n := by omega
      exact ⟨_, _, hV, hS, congrArg Value.bool (decide_eq_decide.2 (by omega)), hwL0⟩

set_option maxHeartbeats 1000000 in
theorem ask_ok (v : Value) (cs : List Value) (L : List (List Acc)) (n : Nat) (ra rs : Int) (rf : Bool) (ballot : Int) (B T : Nat) (p : Option Nat) (w : World) (h : VV w B T v p cs L) (hT : T ≤ w.heap.size) (hp : ∀ q, p = some q → q < w.heap.size) (hn : n ≤ 7) (hb : 0 ≤ ballot ∧ ballot ≤ 1000) (h0 : ∀ j, j < n → 0 ≤ (stA L j).Ballot) : FnOk Try.prog 21 [v, i64 (n : Int), agg [.int .u8 ra, .int .u8 rs, .bool rf], i64 ballot] w (fun r w' => ∃ cs' L' vl, VV w' B T v p cs' L' ∧ Served (prepS ballot) (bitB ra) n L L' ∧ r = i64 vl ∧ (if n < 2 * cnt (qAsk ra ballot L) n then ∃ free best, (free = 1 ∨ free = 2) ∧ BestV (stA L) (qAsk ra ballot L) n free best vl else vl = 0) ∧ w.grownBy w' v.ownBlock) := by
  have hin : In64 (voteM 8 9 ballot 0).ints := by intro x hx; simp [Msg.ints] at hx; omega
  refine FnOk.enter (rs := [8]) Try.func21 rfl Try.ntmps21 Try.results21 rfl rfl ?_
  refine WF.seq ?_
  refine WF.region ?_
  refine WL.op rfl (OW.boxA (cs := [.int .u8 ra, .int .u8 rs, .bool rf]) rfl ?_ (by decide))
  intro g6 wb heg6 hlg6 hO6 hx2
  have := World.grownBy.size hx2
  have hxb := hx2
  refine WL.va rfl rfl rfl (X.assignI rfl) ?_
  refine WL.nil ?_
  refine thn_n ?_
  refine WF.seq ?_
  refine WF.region ?_
  refine WL.va rfl rfl rfl (X.assignI rfl) ?_
  refine WL.nil ?_
  refine thn_n ?_
  refine WF.seq ?_
  refine WF.region ?_
  refine WL.va rfl rfl rfl (X.assignI rfl) ?_
  refine WL.nil ?_
  refine thn_n ?_
  refine WF.seq ?_
  refine WF.region ?_
  refine WL.va rfl rfl rfl (X.assignI rfl) ?_
  refine WL.nil ?_
  refine thn_n ?_
  refine WF.named (fun F4 hF5 => ?_)
  refine WF.cut (fun f' w' => f' 11 = .int .i64 (freeV rf) ∧ Agree [0, 1, 2, 3, 6, 8, 9, 10] f' F4 ∧ wb = w') ?_ ?_
  · refine WF.seq ?_
    refine WF.region ?_
    refine WL.va rfl rfl rfl (X.fieldAddrO (off := 2) (congrFun hF5 6) Try.underlying49 rfl rfl Try.sizeOf4) ?_
    refine WL.va rfl rfl rfl (X.loadO hO6 (Ext.refl _) rfl rfl Try.isAgg4) ?_
    refine WL.nil ?_
    refine thn_n ?_
    refine WF.cond rfl (fun h0_6 => ?_) (fun h0_6 => ?_)
    · have gh0_6 := h0_6
      have hfr : rf = true := gh0_6
      refine WF.region ?_
      refine WL.va rfl rfl rfl (X.assignI rfl) ?_
      refine WL.nil ?_
      refine thn_n ?_
      exact ⟨(by first | exact (rfl).trans (congrArg i64 (freeV_t hfr)) | exact (rfl).trans (congrArg i64 (freeV_f hfr))), (by repeat (first | exact (Agree.refl _ F4) | refine Agree.put ?_ rfl | refine Agree.named hF5 ?_)), rfl⟩
    · have gh0_6 := h0_6
      have hfr : ¬ rf = true := by rw [gh0_6]; simp
      refine WF.skip ?_
      refine thn_n ?_
      exact ⟨(by first | exact ((congrFun hF5 11)).trans (congrArg i64 (freeV_t hfr)) | exact ((congrFun hF5 11)).trans (congrArg i64 (freeV_f hfr))), (by repeat (first | exact (Agree.refl _ F4) | refine Agree.put ?_ rfl | refine Agree.named hF5 ?_)), rfl⟩
  · rintro fCs4 wCs4 ⟨e11_Cs4, hACs4, rfl⟩
    refine WF.seq ?_
    refine WF.seq ?_
    refine WF.region ?_
    refine WL.va rfl rfl rfl (X.assignI rfl) ?_
    refine WL.nil ?_
    refine thn_n ?_
    refine WF.block ?_
    refine WF.named (fun F8 hF9 => ?_)
    refine WF.loopN (fun mL0 f' w' => ∃ (k : Nat) (cs1 : List Value) (L1 : List (List Acc)) (c : Nat) (best vl : Int), mL0 = n - k ∧ f' 12 = .int .i64 (k : Int) ∧ f' 9 = .int .i64 (c : Int) ∧ f' 10 = .int .i64 best ∧ f' 11 = .int .i64 vl ∧ Agree [0, 1, 2, 3, 6, 8] f' F8 ∧ w.grownBy w' v.ownBlock ∧ Blk w' g6 49 [.int .u8 ra, .int .u8 rs, .bool rf] ∧ k ≤ n ∧ VV w' B T v p cs1 L1 ∧ Served (prepS ballot) (bitB ra) k L L1 ∧ c = cnt (qAsk ra ballot L) k ∧ c ≤ k ∧ BestV (stA L) (qAsk ra ballot L) k (freeV rf) best vl) ?_ ?_
    · exact ⟨_, 0, _, _, 0, _, _, rfl, (congrFun hF9 12), ((congrFun hF9 9).trans ((hACs4.eq 9).trans (congrFun hF5 9))), ((congrFun hF9 10).trans ((hACs4.eq 10).trans (congrFun hF5 10))), ((congrFun hF9 11).trans e11_Cs4), (Agree.refl _ _), (grown_of_ext hxb), ⟨hO6, Nat.zero_le _, h.ext hxb, Served.zero, rfl, Nat.le_refl _, BestV.zero⟩⟩
    · rintro mL0 fL0 wL0 ⟨k, cs1, L1, c, best, vl, hmL0, e12_L0, e9_L0, e10_L0, e11_L0, hAL0, hwL0, ⟨hO6, hk, hV, hS, hc, hck, hB⟩⟩
      refine WF.seq ?_
      refine WF.seq ?_
      refine WF.region ?_
      refine WL.va rfl rfl rfl (X.moveI e12_L0) ?_
      refine WL.va rfl rfl rfl (X.moveI ((hAL0.eq 1).trans ((congrFun hF9 1).trans ((hACs4.eq 1).trans (congrFun hF5 1))))) ?_
      refine WL.va rfl rfl rfl (X.lss rfl rfl) ?_
      refine WL.nil ?_
      refine thn_n ?_
      refine WF.cond rfl (fun h1_10 => ?_) (fun h1_10 => ?_)
      · have gh1_10 := (of_decide_eq_true h1_10)
        have hkn : k < n := by omega
        refine WF.skip ?_
        refine thn_n ?_
        refine WF.seq ?_
        refine WF.block ?_
        refine WF.seq ?_
        refine WF.seq ?_
        refine WF.region ?_
        refine WL.va rfl rfl rfl (X.fieldAddrO (off := 0) ((hAL0.eq 6).trans ((congrFun hF9 6).trans ((hACs4.eq 6).trans (congrFun hF5 6)))) Try.underlying49 rfl rfl Try.sizeOf5) ?_
        refine WL.va rfl rfl rfl (X.loadO hO6 (Ext.refl _) rfl rfl Try.isAgg5) ?_
        refine WL.va rfl rfl rfl (X.moveI e12_L0) ?_
        refine WL.c rfl rfl rfl (X.call Try.call36 (evl_cons rfl (evl_cons rfl evl_nil))) (bit_ok _ k _ (by omega)) ?_
        rintro v13 w12 ⟨rfl, rfl⟩
        refine WL.va rfl rfl rfl (X.not rfl) ?_
        refine WL.nil ?_
        refine thn_n ?_
        refine WF.cond rfl (fun h2_16 => ?_) (fun h2_16 => ?_)
        · have gh2_16 := (nt h2_16)
          have hbit : bitB ra k = false := gh2_16
          refine WF.exit ?_
          refine thn_x ?_
          refine blk_eq ?_
          refine thn_n ?_
          refine WF.region ?_
          refine WL.va rfl rfl rfl (X.moveI e12_L0) ?_
          refine WL.va rfl rfl rfl (X.add rfl rfl (w64 (by omega))) ?_
          refine WL.va rfl rfl rfl (X.assignI rfl) ?_
          refine WL.nil ?_
          first | exact thn_n ⟨_, (by omega), k + 1, _, _, c, _, _, rfl, rfl, e9_L0, e10_L0, e11_L0, (by repeat (first | exact hAL0 | refine Agree.put ?_ rfl | refine Agree.sub hACs4 rfl ?_ | refine Agree.named hF9 ?_ | refine Agree.named hF5 ?_)), (by first | exact hgr | exact grown_ext hwL0 (Ext.refl _)), ⟨hO6, by omega, hV, hS.skip hbit, (by rw [cnt_no (qAsk_no hbit)]; exact hc), by omega, hB.skip (.inl (qAsk_no hbit)) (h0 k (by omega))⟩⟩ | exact thn_n ⟨_, (by omega), k + 1, _, _, c, _, _, rfl, rfl, e9_L0, e10_L0, e11_L0, (by repeat (first | exact hAL0 | refine Agree.put ?_ rfl | refine Agree.sub hACs4 rfl ?_ | refine Agree.named hF9 ?_ | refine Agree.named hF5 ?_)), (by first | exact hgr | exact grown_ext hwL0 (Ext.refl _)), ⟨hO6, by omega, hV2, hS.put hV.len (by omega) hbit hX, (by rw [cnt_no (hqk.trans hOk)]; exact hc), by omega, hB.skip (.inl (hqk.trans hOk)) (h0 k (by omega))⟩⟩ | exact thn_n ⟨_, (by omega), k + 1, _, _, c + 1, o.Index, o.Value, rfl, rfl, e9_L0, e10_L0, e11_L0, (by repeat (first | exact hAL0 | refine Agree.put ?_ rfl | refine Agree.sub hACs4 rfl ?_ | refine Agree.named hF9 ?_ | refine Agree.named hF5 ?_)), (by first | exact hgr | exact grown_ext hwL0 (Ext.refl _)), ⟨hO6, by omega, hV2, hS.put hV.len (by omega) hbit hX, (by rw [cnt_yes (hqk.trans hOk), hc]), by omega, (by rw [(hIV hOk).1, (hIV hOk).2]; exact BestV.take hB (hqk.trans hOk) (by rw [← (hIV hOk).2]; exact hV0) (by rw [← (hIV hOk).1]; exact hgt))⟩⟩ | exact thn_n ⟨_, (by omega), k + 1, _, _, c + 1, _, _, rfl, rfl, e9_L0, e10_L0, e11_L0, (by repeat (first | exact hAL0 | refine Agree.put ?_ rfl | refine Agree.sub hACs4 rfl ?_ | refine Agree.named hF9 ?_ | refine Agree.named hF5 ?_)), (by first | exact hgr | exact grown_ext hwL0 (Ext.refl _)), ⟨hO6, by omega, hV2, hS.put hV.len (by omega) hbit hX, (by rw [cnt_yes (hqk.trans hOk), hc]), by omega, hB.skip (by first | exact .inr (.inl ((hIV hOk).2.symm.trans hV0)) | exact .inr (.inr (by have := (hIV hOk).1; omega))) (h0 k (by omega))⟩⟩
        · have gh2_16 := (nf h2_16)
          have hbit : bitB ra k = true := gh2_16
          refine WF.skip ?_
          refine thn_n ?_
          refine WF.seq ?_
          refine WF.drawn (.q 0 (.q 1 (.q 2 (.q 3 (.q 4 (.q 5 (.q 6 (.l 7 (.l 8 (.q 9 (.q 10 (.q 11 (.q 12 (.q 13 (.q 14 (.q 15 .nil)))))))))))))))) (fun w' => Ext wL0 w') 16 (by kernel_rfl) (by kernel_rfl) (Ext.drew _) ?_
          have := World.grownBy.size (Ext.drew wL0)
          refine WO.q rfl rfl rfl rfl (fun w' hE18 => (X.move ((hAL0.eq 0).trans ((congrFun hF9 0).trans ((hACs4.eq 0).trans (congrFun hF5 0)))))) ?_
          refine WO.q rfl rfl rfl rfl (fun w' hE18 => (X.moveI e12_L0)) ?_
          refine WO.q rfl rfl rfl rfl (fun w' hE18 => (X.idx hV.own.rd rfl rfl (by omega) Try.underlying44 Try.sizeOf22)) ?_
          refine WO.q rfl rfl rfl rfl (fun w' hE18 => (X.load1 hV.own.rd hE18 rfl (by omega) Try.isAgg22)) ?_
          refine WO.q rfl rfl rfl rfl (fun w' hE18 => (X.moveI e12_L0)) ?_
          refine WO.q rfl rfl rfl rfl (fun w' hE18 => (X.add rfl rfl (w64 (by omega)))) ?_
          refine WO.q rfl rfl rfl rfl (fun w' hE18 => (X.moveI ((hAL0.eq 3).trans ((congrFun hF9 3).trans ((hACs4.eq 3).trans (congrFun hF5 3)))))) ?_
          refine WO.l ?_
          refine LO.go rfl rfl (OW.enter rfl (by decide) (X.call Try.call22 (evl_cons rfl (evl_cons rfl (evl_cons rfl (evl_cons rfl evl_nil))))) (vote_ok _ _ _ _ _) ?_)
          rintro v20 w19 ⟨rfl, hx21⟩
          have := World.grownBy.size hx21
          refine ⟨(Ext.trans (Ext.drew _) hx21), ?_⟩
          refine WO.l ?_
          have szq1 := World.grownBy.size hwL0
          have szq2 := World.grownBy.size (Ext.trans (Ext.drew _) hx21)
          obtain ⟨B2, hB2e⟩ : ∃ B2, B2 = w19.heap.size := ⟨_, rfl⟩
          have hB2 : T ≤ B2 := by omega
          have hp2 : ∀ q, p = some q → q < B2 := fun q hq => by have := hp q hq; omega
          have h1k := (hV.one (j := k) (by omega)).1
          obtain ⟨X1, o, ch, hTk, hX, hok, hiv, hone⟩ := ask_take (id := (k : Int) + 1) (b := ballot) (hV.one (j := k) (by omega))
          have hqk : qAsk ra ballot L k = o.Ok := by unfold qAsk; rw [hbit, hok, ← hS.cur (by omega)]; rfl
          have hIV : o.Ok = true → o.Index = (stA L k).Ballot ∧ o.Value = (stA L k).Value := by rw [← hS.cur (by omega)]; exact hiv
          refine LO.go rfl rfl (OW.enter rfl (by decide) (X.call Try.call11 (evl_cons rfl (evl_cons rfl (evl_cons rfl evl_nil)))) ((take_ok _ (L1.getD k []) ((k : Int) + 1) (voteM 8 9 ballot 0) nilS nilS _ (Row.ext (hV.votes (by omega)) (Ext.trans (Ext.drew _) hx21)) (by omega) hin).mono (fun r wq h => (show (∃ vv vm, r = .tuple #[vv, vm, .bool ch] ∧ OwnV wq B2 37 vv X1 ∧ OwnM wq B2 26 vm [o] ∧ Apart vv vm) ∧ Ext w19 wq from by rw [hTk] at h; rw [hB2e]; exact h))) ?_)
          rintro v23 w22 ⟨⟨vv, vm, rfl, oa, om, _⟩, hx24⟩
          have := World.grownBy.size hx24
          refine ⟨(Ext.trans (Ext.trans (Ext.drew _) hx21) hx24), ?_⟩
          refine WO.q rfl rfl rfl rfl (fun w' hE18 => (X.move rfl)) ?_
          refine WO.q rfl rfl rfl rfl (fun w' hE18 => (X.extract rfl rfl)) ?_
          refine WO.q rfl rfl rfl rfl (fun w' hE18 => (X.extract rfl rfl)) ?_
          refine WO.q rfl rfl rfl rfl (fun w' hE18 => (X.extract rfl rfl)) ?_
          refine WO.q rfl rfl rfl rfl (fun w' hE18 => (X.assign rfl)) ?_
          refine WO.q rfl rfl rfl rfl (fun w' hE18 => (X.assign rfl)) ?_
          refine WO.q rfl rfl rfl rfl (fun w' hE18 => (X.assignB rfl)) ?_
          refine WO.nil ?_
          refine WL.nil ?_
          refine thn_n ?_
          refine WF.seq ?_
          refine WF.region ?_
          refine WL.va rfl rfl rfl (X.move ((hAL0.eq 0).trans ((congrFun hF9 0).trans ((hACs4.eq 0).trans (congrFun hF5 0))))) ?_
          refine WL.va rfl rfl rfl (X.moveI e12_L0) ?_
          refine WL.va rfl rfl rfl (X.move rfl) ?_
          refine WL.va rfl rfl rfl (X.idx hV.own.rd rfl rfl (by omega) Try.underlying44 Try.sizeOf22) ?_
          have hway := (Ext.trans (Ext.trans (Ext.drew _) hx21) hx24)
          have hVs := hV.ext hway
          refine WL.op rfl (OW.storeOwn hVs.own.own (by omega) rfl rfl (own_one oa) Try.sizeOf22 ?_)
          intro w26 ho29 hx28
          have := World.grownBy.size hx28
          replace hO6 := (hO6.ext (Ext.trans (Ext.trans (Ext.drew _) hx21) hx24)).keptR hx28 (fun b hb => by have h1 := hV.own.top b hb; omega)
          rw [Nat.mul_one] at ho29
          have hV2 := VV.store hVs (by omega) oa hB2 hp2 hone ho29 hx28
          have om2 := VV.others hVs om hB2 hx28
          have hgr := grown2 (grown_ext hwL0 hway) hx28
          refine WL.nil ?_
          refine thn_n ?_
          refine WF.seq ?_
          refine WF.seq ?_
          refine WF.region ?_
          refine WL.va rfl rfl rfl (X.move rfl) ?_
          refine WL.va rfl rfl rfl (X.len (Row.of_own om2) rfl Try.underlying30) ?_
          refine WL.va rfl rfl rfl (X.neq rfl rfl) ?_
          refine WL.va rfl rfl rfl (X.moveB rfl) ?_
          refine WL.split (j := 3) rfl (fun h31 => ?_) (fun h31 => ?_)
          · have gh31 := (of_decide_eq_true h31)
            exact absurd rfl gh31
          · have gh31 := (Decidable.of_not_not (of_decide_eq_false h31))
            refine WL.vg rfl (congrArg some h31) rfl rfl (X.move rfl) ?_
            refine WL.vg rfl (congrArg some h31) rfl rfl (X.idx (k := 0) (Row.of_own om2) rfl rfl Nat.zero_lt_one Try.underlying30 Try.sizeOf26) ?_
            refine WL.vg rfl (congrArg some h31) rfl rfl (X.fieldAddrA rfl Try.underlying26 rfl rfl Try.sizeOf4) ?_
            refine WL.vg rfl (congrArg some h31) rfl rfl (X.loadE (Row.of_own om2) (Ext.refl _) rfl Nat.zero_lt_one ((Msg.get (l := [o]) Nat.zero_lt_one (by decide)).trans rfl) Try.isAgg4) ?_
            refine WL.vg rfl (congrArg some h31) rfl rfl (X.not rfl) ?_
            refine WL.va rfl rfl rfl (X.pickF rfl h31 rfl) ?_
            refine WL.nil ?_
            refine thn_n ?_
            refine WF.cond rfl (fun h3_33 => ?_) (fun h3_33 => ?_)
            · have gh3_33 := (nt h3_33)
              have hOk : o.Ok = false := gh3_33
              refine WF.exit ?_
              refine thn_x ?_
              refine blk_eq ?_
              refine thn_n ?_
              refine WF.region ?_
              refine WL.va rfl rfl rfl (X.moveI e12_L0) ?_
              refine WL.va rfl rfl rfl (X.add rfl rfl (w64 (by omega))) ?_
              refine WL.va rfl rfl rfl (X.assignI rfl) ?_
              refine WL.nil ?_
              first | exact thn_n ⟨_, (by omega), k + 1, _, _, c, _, _, rfl, rfl, e9_L0, e10_L0, e11_L0, (by repeat (first | exact hAL0 | refine Agree.put ?_ rfl | refine Agree.sub hACs4 rfl ?_ | refine Agree.named hF9 ?_ | refine Agree.named hF5 ?_)), (by first | exact hgr | exact grown_ext hwL0 (Ext.trans (Ext.trans (Ext.trans (Ext.drew _) hx21) hx24) hx28)), ⟨hO6, by omega, hV, hS.skip hbit, (by rw [cnt_no (qAsk_no hbit)]; exact hc), by omega, hB.skip (.inl (qAsk_no hbit)) (h0 k (by omega))⟩⟩ | exact thn_n ⟨_, (by omega), k + 1, _, _, c, _, _, rfl, rfl, e9_L0, e10_L0, e11_L0, (by repeat (first | exact hAL0 | refine Agree.put ?_ rfl | refine Agree.sub hACs4 rfl ?_ | refine Agree.named hF9 ?_ | refine Agree.named hF5 ?_)), (by first | exact hgr | exact grown_ext hwL0 (Ext.trans (Ext.trans (Ext.trans (Ext.drew _) hx21) hx24) hx28)), ⟨hO6, by omega, hV2, hS.put hV.len (by omega) hbit hX, (by rw [cnt_no (hqk.trans hOk)]; exact hc), by omega, hB.skip (.inl (hqk.trans hOk)) (h0 k (by omega))⟩⟩ | exact thn_n ⟨_, (by omega), k + 1, _, _, c + 1, o.Index, o.Value, rfl, rfl, e9_L0, e10_L0, e11_L0, (by repeat (first | exact hAL0 | refine Agree.put ?_ rfl | refine Agree.sub hACs4 rfl ?_ | refine Agree.named hF9 ?_ | refine Agree.named hF5 ?_)), (by first | exact hgr | exact grown_ext hwL0 (Ext.trans (Ext.trans (Ext.trans (Ext.drew _) hx21) hx24) hx28)), ⟨hO6, by omega, hV2, hS.put hV.len (by omega) hbit hX, (by rw [cnt_yes (hqk.trans hOk), hc]), by omega, (by rw [(hIV hOk).1, (hIV hOk).2]; exact BestV.take hB (hqk.trans hOk) (by rw [← (hIV hOk).2]; exact hV0) (by rw [← (hIV hOk).1]; exact hgt))⟩⟩ | exact thn_n ⟨_, (by omega), k + 1, _, _, c + 1, _, _, rfl, rfl, e9_L0, e10_L0, e11_L0, (by repeat (first | exact hAL0 | refine Agree.put ?_ rfl | refine Agree.sub hACs4 rfl ?_ | refine Agree.named hF9 ?_ | refine Agree.named hF5 ?_)), (by first | exact hgr | exact grown_ext hwL0 (Ext.trans (Ext.trans (Ext.trans (Ext.drew _) hx21) hx24) hx28)), ⟨hO6, by omega, hV2, hS.put hV.len (by omega) hbit hX, (by rw [cnt_yes (hqk.trans hOk), hc]), by omega, hB.skip (by first | exact .inr (.inl ((hIV hOk).2.symm.trans hV0)) | exact .inr (.inr (by have := (hIV hOk).1; omega))) (h0 k (by omega))⟩⟩
            · have gh3_33 := (nf h3_33)
              have hOk : o.Ok = true := gh3_33
              refine WF.skip ?_
              refine thn_n ?_
              refine WF.seq ?_
              refine WF.region ?_
              refine WL.va rfl rfl rfl (X.moveI e9_L0) ?_
              refine WL.va rfl rfl rfl (X.add rfl rfl (w64 (by omega))) ?_
              refine WL.va rfl rfl rfl (X.assignI rfl) ?_
              refine WL.nil ?_
              refine thn_n ?_
              refine WF.seq ?_
              refine WF.region ?_
              refine WL.va rfl rfl rfl (X.move rfl) ?_
              refine WL.va rfl rfl rfl (X.idx (k := 0) (Row.of_own om2) rfl rfl Nat.zero_lt_one Try.underlying30 Try.sizeOf26) ?_
              refine WL.va rfl rfl rfl (X.fieldAddrA rfl Try.underlying26 rfl rfl Try.sizeOf3) ?_
              refine WL.va rfl rfl rfl (X.loadE (Row.of_own om2) (Ext.refl _) rfl Nat.zero_lt_one ((Msg.get (l := [o]) Nat.zero_lt_one (by decide)).trans rfl) Try.isAgg3) ?_
              refine WL.va rfl rfl rfl (X.neq rfl rfl) ?_
              refine WL.va rfl rfl rfl (X.moveB rfl) ?_
              refine WL.split (j := 5) rfl (fun h36 => ?_) (fun h36 => ?_)
              · have gh36 := (of_decide_eq_true h36)
                have hV0 : o.Value ≠ 0 := gh36
                refine WL.vg rfl (congrArg some h36) rfl rfl (X.move rfl) ?_
                refine WL.vg rfl (congrArg some h36) rfl rfl (X.idx (k := 0) (Row.of_own om2) rfl rfl Nat.zero_lt_one Try.underlying30 Try.sizeOf26) ?_
                refine WL.vg rfl (congrArg some h36) rfl rfl (X.fieldAddrA rfl Try.underlying26 rfl rfl Try.sizeOf3) ?_
                refine WL.vg rfl (congrArg some h36) rfl rfl (X.loadE (Row.of_own om2) (Ext.refl _) rfl Nat.zero_lt_one ((Msg.get (l := [o]) Nat.zero_lt_one (by decide)).trans rfl) Try.isAgg3) ?_
                refine WL.vg rfl (congrArg some h36) rfl rfl (X.moveI e10_L0) ?_
                refine WL.vg rfl (congrArg some h36) rfl rfl (X.gtr rfl rfl) ?_
                refine WL.va rfl rfl rfl (X.pickT rfl h36 rfl) ?_
                refine WL.nil ?_
                refine thn_n ?_
                refine WF.cond rfl (fun h4_37 => ?_) (fun h4_37 => ?_)
                · have gh4_37 := (of_decide_eq_true h4_37)
                  have hgt : best < o.Index := gh4_37
                  refine WF.seq ?_
                  refine WF.region ?_
                  refine WL.va rfl rfl rfl (X.move rfl) ?_
                  refine WL.va rfl rfl rfl (X.idx (k := 0) (Row.of_own om2) rfl rfl Nat.zero_lt_one Try.underlying30 Try.sizeOf26) ?_
                  refine WL.va rfl rfl rfl (X.fieldAddrA rfl Try.underlying26 rfl rfl Try.sizeOf3) ?_
                  refine WL.va rfl rfl rfl (X.loadE (Row.of_own om2) (Ext.refl _) rfl Nat.zero_lt_one ((Msg.get (l := [o]) Nat.zero_lt_one (by decide)).trans rfl) Try.isAgg3) ?_
                  refine WL.va rfl rfl rfl (X.assignI rfl) ?_
                  refine WL.nil ?_
                  refine thn_n ?_
                  refine WF.region ?_
                  refine WL.va rfl rfl rfl (X.move rfl) ?_
                  refine WL.va rfl rfl rfl (X.idx (k := 0) (Row.of_own om2) rfl rfl Nat.zero_lt_one Try.underlying30 Try.sizeOf26) ?_
                  refine WL.va rfl rfl rfl (X.fieldAddrA rfl Try.underlying26 rfl rfl Try.sizeOf3) ?_
                  refine WL.va rfl rfl rfl (X.loadE (Row.of_own om2) (Ext.refl _) rfl Nat.zero_lt_one ((Msg.get (l := [o]) Nat.zero_lt_one (by decide)).trans rfl) Try.isAgg3) ?_
                  refine WL.va rfl rfl rfl (X.assignI rfl) ?_
                  refine WL.nil ?_
                  refine blk_n ?_
                  refine thn_n ?_
                  refine WF.region ?_
                  refine WL.va rfl rfl rfl (X.moveI e12_L0) ?_
                  refine WL.va rfl rfl rfl (X.add rfl rfl (w64 (by omega))) ?_
                  refine WL.va rfl rfl rfl (X.assignI rfl) ?_
                  refine WL.nil ?_
                  first | exact thn_n ⟨_, (by omega), k + 1, _, _, c, _, _, rfl, rfl, rfl, rfl, rfl, (by repeat (first | exact hAL0 | refine Agree.put ?_ rfl | refine Agree.sub hACs4 rfl ?_ | refine Agree.named hF9 ?_ | refine Agree.named hF5 ?_)), (by first | exact hgr | exact grown_ext hwL0 (Ext.trans (Ext.trans (Ext.trans (Ext.drew _) hx21) hx24) hx28)), ⟨hO6, by omega, hV, hS.skip hbit, (by rw [cnt_no (qAsk_no hbit)]; exact hc), by omega, hB.skip (.inl (qAsk_no hbit)) (h0 k (by omega))⟩⟩ | exact thn_n ⟨_, (by omega), k + 1, _, _, c, _, _, rfl, rfl, rfl, rfl, rfl, (by repeat (first | exact hAL0 | refine Agree.put ?_ rfl | refine Agree.sub hACs4 rfl ?_ | refine Agree.named hF9 ?_ | refine Agree.named hF5 ?_)), (by first | exact hgr | exact grown_ext hwL0 (Ext.trans (Ext.trans (Ext.trans (Ext.drew _) hx21) hx24) hx28)), ⟨hO6, by omega, hV2, hS.put hV.len (by omega) hbit hX, (by rw [cnt_no (hqk.trans hOk)]; exact hc), by omega, hB.skip (.inl (hqk.trans hOk)) (h0 k (by omega))⟩⟩ | exact thn_n ⟨_, (by omega), k + 1, _, _, c + 1, o.Index, o.Value, rfl, rfl, rfl, rfl, rfl, (by repeat (first | exact hAL0 | refine Agree.put ?_ rfl | refine Agree.sub hACs4 rfl ?_ | refine Agree.named hF9 ?_ | refine Agree.named hF5 ?_)), (by first | exact hgr | exact grown_ext hwL0 (Ext.trans (Ext.trans (Ext.trans (Ext.drew _) hx21) hx24) hx28)), ⟨hO6, by omega, hV2, hS.put hV.len (by omega) hbit hX, (by rw [cnt_yes (hqk.trans hOk), hc]), by omega, (by rw [(hIV hOk).1, (hIV hOk).2]; exact BestV.take hB (hqk.trans hOk) (by rw [← (hIV hOk).2]; exact hV0) (by rw [← (hIV hOk).1]; exact hgt))⟩⟩ | exact thn_n ⟨_, (by omega), k + 1, _, _, c + 1, _, _, rfl, rfl, rfl, rfl, rfl, (by repeat (first | exact hAL0 | refine Agree.put ?_ rfl | refine Agree.sub hACs4 rfl ?_ | refine Agree.named hF9 ?_ | refine Agree.named hF5 ?_)), (by first | exact hgr | exact grown_ext hwL0 (Ext.trans (Ext.trans (Ext.trans (Ext.drew _) hx21) hx24) hx28)), ⟨hO6, by omega, hV2, hS.put hV.len (by omega) hbit hX, (by rw [cnt_yes (hqk.trans hOk), hc]), by omega, hB.skip (by first | exact .inr (.inl ((hIV hOk).2.symm.trans hV0)) | exact .inr (.inr (by have := (hIV hOk).1; omega))) (h0 k (by omega))⟩⟩
                · have gh4_37 := (of_decide_eq_false h4_37)
                  have hle : ¬ best < o.Index := gh4_37
                  refine WF.skip ?_
                  refine blk_n ?_
                  refine thn_n ?_
                  refine WF.region ?_
                  refine WL.va rfl rfl rfl (X.moveI e12_L0) ?_
                  refine WL.va rfl rfl rfl (X.add rfl rfl (w64 (by omega))) ?_
                  refine WL.va rfl rfl rfl (X.assignI rfl) ?_
                  refine WL.nil ?_
                  first | exact thn_n ⟨_, (by omega), k + 1, _, _, c, _, _, rfl, rfl, rfl, e10_L0, e11_L0, (by repeat (first | exact hAL0 | refine Agree.put ?_ rfl | refine Agree.sub hACs4 rfl ?_ | refine Agree.named hF9 ?_ | refine Agree.named hF5 ?_)), (by first | exact hgr | exact grown_ext hwL0 (Ext.trans (Ext.trans (Ext.trans (Ext.drew _) hx21) hx24) hx28)), ⟨hO6, by omega, hV, hS.skip hbit, (by rw [cnt_no (qAsk_no hbit)]; exact hc), by omega, hB.skip (.inl (qAsk_no hbit)) (h0 k (by omega))⟩⟩ | exact thn_n ⟨_, (by omega), k + 1, _, _, c, _, _, rfl, rfl, rfl, e10_L0, e11_L0, (by repeat (first | exact hAL0 | refine Agree.put ?_ rfl | refine Agree.sub hACs4 rfl ?_ | refine Agree.named hF9 ?_ | refine Agree.named hF5 ?_)), (by first | exact hgr | exact grown_ext hwL0 (Ext.trans (Ext.trans (Ext.trans (Ext.drew _) hx21) hx24) hx28)), ⟨hO6, by omega, hV2, hS.put hV.len (by omega) hbit hX, (by rw [cnt_no (hqk.trans hOk)]; exact hc), by omega, hB.skip (.inl (hqk.trans hOk)) (h0 k (by omega))⟩⟩ | exact thn_n ⟨_, (by omega), k + 1, _, _, c + 1, o.Index, o.Value, rfl, rfl, rfl, e10_L0, e11_L0, (by repeat (first | exact hAL0 | refine Agree.put ?_ rfl | refine Agree.sub hACs4 rfl ?_ | refine Agree.named hF9 ?_ | refine Agree.named hF5 ?_)), (by first | exact hgr | exact grown_ext hwL0 (Ext.trans (Ext.trans (Ext.trans (Ext.drew _) hx21) hx24) hx28)), ⟨hO6, by omega, hV2, hS.put hV.len (by omega) hbit hX, (by rw [cnt_yes (hqk.trans hOk), hc]), by omega, (by rw [(hIV hOk).1, (hIV hOk).2]; exact BestV.take hB (hqk.trans hOk) (by rw [← (hIV hOk).2]; exact hV0) (by rw [← (hIV hOk).1]; exact hgt))⟩⟩ | exact thn_n ⟨_, (by omega), k + 1, _, _, c + 1, _, _, rfl, rfl, rfl, e10_L0, e11_L0, (by repeat (first | exact hAL0 | refine Agree.put ?_ rfl | refine Agree.sub hACs4 rfl ?_ | refine Agree.named hF9 ?_ | refine Agree.named hF5 ?_)), (by first | exact hgr | exact grown_ext hwL0 (Ext.trans (Ext.trans (Ext.trans (Ext.drew _) hx21) hx24) hx28)), ⟨hO6, by omega, hV2, hS.put hV.len (by omega) hbit hX, (by rw [cnt_yes (hqk.trans hOk), hc]), by omega, hB.skip (by first | exact .inr (.inl ((hIV hOk).2.symm.trans hV0)) | exact .inr (.inr (by have := (hIV hOk).1; omega))) (h0 k (by omega))⟩⟩
              · have gh36 := (Decidable.of_not_not (of_decide_eq_false h36))
                have hV0 : o.Value = 0 := gh36
                refine WL.p rfl rfl rfl (congrArg some h36) ?_
                refine WL.p rfl rfl rfl (congrArg some h36) ?_
                refine WL.p rfl rfl rfl (congrArg some h36) ?_
                refine WL.p rfl rfl rfl (congrArg some h36) ?_
                refine WL.p rfl rfl rfl (congrArg some h36) ?_
                refine WL.p rfl rfl rfl (congrArg some h36) ?_
                refine WL.va rfl rfl rfl (X.pickF rfl h36 rfl) ?_
                refine WL.nil ?_
                refine thn_n ?_
                refine WF.cond_f rfl ?_
                refine WF.skip ?_
                refine blk_n ?_
                refine thn_n ?_
                refine WF.region ?_
                refine WL.va rfl rfl rfl (X.moveI e12_L0) ?_
                refine WL.va rfl rfl rfl (X.add rfl rfl (w64 (by omega))) ?_
                refine WL.va rfl rfl rfl (X.assignI rfl) ?_
                refine WL.nil ?_
                first | exact thn_n ⟨_, (by omega), k + 1, _, _, c, _, _, rfl, rfl, rfl, e10_L0, e11_L0, (by repeat (first | exact hAL0 | refine Agree.put ?_ rfl | refine Agree.sub hACs4 rfl ?_ | refine Agree.named hF9 ?_ | refine Agree.named hF5 ?_)), (by first | exact hgr | exact grown_ext hwL0 (Ext.trans (Ext.trans (Ext.trans (Ext.drew _) hx21) hx24) hx28)), ⟨hO6, by omega, hV, hS.skip hbit, (by rw [cnt_no (qAsk_no hbit)]; exact hc), by omega, hB.skip (.inl (qAsk_no hbit)) (h0 k (by omega))⟩⟩ | exact thn_n ⟨_, (by omega), k + 1, _, _, c, _, _, rfl, rfl, rfl, e10_L0, e11_L0, (by repeat (first | exact hAL0 | refine Agree.put ?_ rfl | refine Agree.sub hACs4 rfl ?_ | refine Agree.named hF9 ?_ | refine Agree.named hF5 ?_)), (by first | exact hgr | exact grown_ext hwL0 (Ext.trans (Ext.trans (Ext.trans (Ext.drew _) hx21) hx24) hx28)), ⟨hO6, by omega, hV2, hS.put hV.len (by omega) hbit hX, (by rw [cnt_no (hqk.trans hOk)]; exact hc), by omega, hB.skip (.inl (hqk.trans hOk)) (h0 k (by omega))⟩⟩ | exact thn_n ⟨_, (by omega), k + 1, _, _, c + 1, o.Index, o.Value, rfl, rfl, rfl, e10_L0, e11_L0, (by repeat (first | exact hAL0 | refine Agree.put ?_ rfl | refine Agree.sub hACs4 rfl ?_ | refine Agree.named hF9 ?_ | refine Agree.named hF5 ?_)), (by first | exact hgr | exact grown_ext hwL0 (Ext.trans (Ext.trans (Ext.trans (Ext.drew _) hx21) hx24) hx28)), ⟨hO6, by omega, hV2, hS.put hV.len (by omega) hbit hX, (by rw [cnt_yes (hqk.trans hOk), hc]), by omega, (by rw [(hIV hOk).1, (hIV hOk).2]; exact BestV.take hB (hqk.trans hOk) (by rw [← (hIV hOk).2]; exact hV0) (by rw [← (hIV hOk).1]; exact hgt))⟩⟩ | exact thn_n ⟨_, (by omega), k + 1, _, _, c + 1, _, _, rfl, rfl, rfl, e10_L0, e11_L0, (by repeat (first | exact hAL0 | refine Agree.put ?_ rfl | refine Agree.sub hACs4 rfl ?_ | refine Agree.named hF9 ?_ | refine Agree.named hF5 ?_)), (by first | exact hgr | exact grown_ext hwL0 (Ext.trans (Ext.trans (Ext.trans (Ext.drew _) hx21) hx24) hx28)), ⟨hO6, by omega, hV2, hS.put hV.len (by omega) hbit hX, (by rw [cnt_yes (hqk.trans hOk), hc]), by omega, hB.skip (by first | exact .inr (.inl ((hIV hOk).2.symm.trans hV0)) | exact .inr (.inr (by have := (hIV hOk).1; omega))) (h0 k (by omega))⟩⟩
      · have gh1_10 := (of_decide_eq_false h1_10)
        refine WF.exit ?_
        refine thn_x ?_
        refine thn_x ?_
        refine blk_eq ?_
        refine thn_n ?_
        refine WF.seq ?_
        refine WF.seq ?_
        refine WF.region ?_
        refine WL.va rfl rfl rfl (X.moveI e9_L0) ?_
        refine WL.va rfl rfl rfl (X.mul rfl rfl (w64 (by omega))) ?_
        refine WL.va rfl rfl rfl (X.moveI ((hAL0.eq 1).trans ((congrFun hF9 1).trans ((hACs4.eq 1).trans (congrFun hF5 1))))) ?_
        refine WL.va rfl rfl rfl (X.leq rfl rfl) ?_
        refine WL.nil ?_
        refine thn_n ?_
        refine WF.cond rfl (fun h5_40 => ?_) (fun h5_40 => ?_)
        · have gh5_40 := (of_decide_eq_true h5_40)
          refine WF.seq ?_
          refine WF.region ?_
          refine WL.va rfl rfl rfl (X.assignI rfl) ?_
          refine WL.nil ?_
          refine thn_n ?_
          refine WF.ret ?_
          refine thn_r ?_
          refine fin_r ?_
          obtain rfl : k = n := by omega
          exact ⟨_, _, 0, hV, hS, rfl, (by rw [if_neg (by omega)]), hwL0⟩
        · have gh5_40 := (of_decide_eq_false h5_40)
          refine WF.skip ?_
          refine thn_n ?_
          refine WF.seq ?_
          refine WF.region ?_
          refine WL.va rfl rfl rfl (X.moveI e11_L0) ?_
          refine WL.va rfl rfl rfl (X.assignI rfl) ?_
          refine WL.nil ?_
          refine thn_n ?_
          refine WF.ret ?_
          refine fin_r ?_
          obtain rfl : k = n := by omega
          exact ⟨_, _, vl, hV, hS, rfl, (by rw [if_pos (by omega)]; exact ⟨_, best, freeV_12 rf, hB⟩), hwL0⟩

end Go.Proofs.Ytgbkgkicgaikdaa
