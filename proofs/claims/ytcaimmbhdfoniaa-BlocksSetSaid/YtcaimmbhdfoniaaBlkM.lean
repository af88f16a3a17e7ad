/- The walks of the reference's Join, Kept and Keep; of Right, RightKept and known. -/
import Derived.Test.YtcaimmbhdfoniaaRight
namespace Go.Proofs.Ytcaimmbhdfoniaa
open Go Go.RowKit Kf

set_option maxHeartbeats 800000 in
theorem refKept_ok (v : Value) (l : List Kp) (s n : Int) (w : World) (h : Kps w v l) (hd : ∀ x ∈ l, x.Data.length ≤ 1000000) : FnOk Try.prog 18 [v, i64 s, i64 n] w (fun r w' => (∃ dv, r = .tuple #[dv, .bool (kepO l s n).isSome] ∧ OwnB w' w.heap.size 5 dv ((kepO l s n).getD [])) ∧ Ext w w') := by
  obtain ⟨E, rfl, re, de⟩ := h
  have hle : (E.length : Int) ≤ 9223372036854775807 := by obtain ⟨_, c, _, h1, h2, _⟩ := re.shape; unfold maxLen at h2; omega
  refine FnOk.enter (rs := [6, 7]) Try.func18 rfl Try.ntmps18 Try.results18 rfl rfl ?_
  refine WF.seq ?_
  refine WF.region ?_
  refine WL.va rfl rfl rfl (X.assign rfl) ?_
  refine WL.va rfl rfl rfl (X.assignB rfl) ?_
  refine WL.nil ?_
  refine thn_n ?_
  refine WF.seq ?_
  refine WF.seq ?_
  refine WF.region ?_
  refine WL.va rfl rfl rfl (X.assignI rfl) ?_
  refine WL.nil ?_
  refine thn_n ?_
  refine WF.block ?_
  refine WF.named (fun F2 hF3 => ?_)
  refine WF.loopN (fun mL0 f' w' => ∃ (k : Nat), mL0 = E.length - k ∧ f' 8 = .int .i64 (k : Int) ∧ Agree [0, 1, 2] f' F2 ∧ Ext w w' ∧ k ≤ E.length ∧ kepO (E.map Prod.fst) s n = kepO ((E.map Prod.fst).drop k) s n) ?_ ?_
  · exact ⟨_, 0, rfl, (congrFun hF3 8), (Agree.refl _ _), (Ext.refl _), ⟨Nat.zero_le _, rfl⟩⟩
  · rintro mL0 fL0 wL0 ⟨k, hmL0, e8_L0, hAL0, hwL0, ⟨hk0, hno⟩⟩
    refine WF.seq ?_
    refine WF.seq ?_
    refine WF.region ?_
    refine WL.va rfl rfl rfl (X.moveI e8_L0) ?_
    refine WL.va rfl rfl rfl (X.move ((hAL0.eq 0).trans (congrFun hF3 0))) ?_
    refine WL.va rfl rfl rfl (X.len re rfl Try.underlying22) ?_
    refine WL.va rfl rfl rfl (X.lss rfl rfl) ?_
    refine WL.nil ?_
    refine thn_n ?_
    refine WF.cond rfl (fun h0_4 => ?_) (fun h0_4 => ?_)
    · have gh0_4 := (of_decide_eq_true h0_4)
      have hk : k < E.length := by omega
      have hdr := kepO_drop (l := (E.map Prod.fst)) (s := s) (n := n) (k := k) (by simpa using hk)
      rw [List.getElem_map] at hdr
      refine WF.skip ?_
      refine thn_n ?_
      refine WF.seq ?_
      refine WF.block ?_
      refine WF.seq ?_
      refine WF.region ?_
      refine WL.va rfl rfl rfl (X.move ((hAL0.eq 0).trans (congrFun hF3 0))) ?_
      refine WL.va rfl rfl rfl (X.moveI e8_L0) ?_
      refine WL.va rfl rfl rfl (X.idx re rfl rfl (by omega) Try.underlying22 Try.sizeOf61) ?_
      refine WL.va rfl rfl rfl (X.fieldAddrA rfl Try.underlying61 rfl rfl Try.sizeOf3) ?_
      refine WL.va rfl rfl rfl (X.loadE re hwL0 rfl (by omega) ((KRow.get hk (by decide)).trans rfl) Try.isAgg3) ?_
      refine WL.va rfl rfl rfl (X.moveI ((hAL0.eq 1).trans (congrFun hF3 1))) ?_
      refine WL.va rfl rfl rfl (X.eql rfl rfl) ?_
      refine WL.va rfl rfl rfl (X.moveB rfl) ?_
      refine WL.split (j := 7) rfl (fun h7 => ?_) (fun h7 => ?_)
      · have gh7 := (of_decide_eq_true h7)
        have hsn := gh7
        refine WL.vg rfl (congrArg some h7) rfl rfl (X.move ((hAL0.eq 0).trans (congrFun hF3 0))) ?_
        refine WL.vg rfl (congrArg some h7) rfl rfl (X.moveI e8_L0) ?_
        refine WL.vg rfl (congrArg some h7) rfl rfl (X.idx re rfl rfl (by omega) Try.underlying22 Try.sizeOf61) ?_
        refine WL.vg rfl (congrArg some h7) rfl rfl (X.fieldAddrA rfl Try.underlying61 rfl rfl Try.sizeOf3) ?_
        refine WL.vg rfl (congrArg some h7) rfl rfl (X.loadE re hwL0 rfl (by omega) ((KRow.get hk (by decide)).trans rfl) Try.isAgg3) ?_
        refine WL.vg rfl (congrArg some h7) rfl rfl (X.moveI ((hAL0.eq 2).trans (congrFun hF3 2))) ?_
        refine WL.vg rfl (congrArg some h7) rfl rfl (X.eql rfl rfl) ?_
        refine WL.va rfl rfl rfl (X.pickT rfl h7 rfl) ?_
        refine WL.nil ?_
        refine thn_n ?_
        refine WF.cond rfl (fun h1_8 => ?_) (fun h1_8 => ?_)
        · have gh1_8 := (of_decide_eq_true h1_8)
          have hyes : kepO (E.map Prod.fst) s n = some (E[k]'hk).1.Data := by rw [hno, hdr, if_pos (show isK s n _ = true from decide_eq_true ⟨hsn, gh1_8⟩)]
          refine WF.seq ?_
          refine WF.region ?_
          refine WL.va rfl rfl rfl (X.move ((hAL0.eq 0).trans (congrFun hF3 0))) ?_
          refine WL.va rfl rfl rfl (X.moveI e8_L0) ?_
          refine WL.va rfl rfl rfl (X.idx re rfl rfl (by omega) Try.underlying22 Try.sizeOf61) ?_
          refine WL.va rfl rfl rfl (X.fieldAddrA rfl Try.underlying61 rfl rfl Try.sizeOf34) ?_
          refine WL.va rfl rfl rfl (X.loadE re hwL0 rfl (by omega) ((KRow.get hk (by decide)).trans rfl) Try.isAgg34) ?_
          have szq := World.grownBy.size (show Ext w wL0 from hwL0)
          refine WL.c rfl rfl rfl (X.call Try.call37 (evl_cons rfl evl_nil)) (copyBytes_ok _ (E[k]'hk).1.Data _ (Row.ext (de _ (List.getElem_mem hk)) hwL0) (Nat.le_trans (hd _ (List.mem_map.2 ⟨_, List.getElem_mem hk, rfl⟩)) (by decide))) ?_
          rintro dv w10 ⟨od, hx11⟩
          refine WL.va rfl rfl rfl (X.assign rfl) ?_
          refine WL.va rfl rfl rfl (X.assignB rfl) ?_
          refine WL.nil ?_
          refine thn_n ?_
          refine WF.ret ?_
          refine blk_r ?_
          refine thn_r ?_
          refine thn_r ?_
          refine blk_r ?_
          refine thn_r ?_
          refine fin_r ?_
          exact ⟨⟨dv, by rw [hyes]; rfl, by rw [hyes]; exact own_mono od szq⟩, (Ext.trans hwL0 hx11)⟩
        · have gh1_8 := (of_decide_eq_false h1_8)
          have hnx : kepO (E.map Prod.fst) s n = kepO ((E.map Prod.fst).drop (k + 1)) s n := by rw [hno, hdr, if_neg (fun e => gh1_8 (of_decide_eq_true e).2)]
          refine WF.skip ?_
          refine blk_n ?_
          refine thn_n ?_
          refine WF.region ?_
          refine WL.va rfl rfl rfl (X.moveI e8_L0) ?_
          refine WL.va rfl rfl rfl (X.add rfl rfl (w64 (by omega))) ?_
          refine WL.va rfl rfl rfl (X.assignI rfl) ?_
          refine WL.nil ?_
          exact thn_n ⟨_, (by omega), k + 1, rfl, rfl, (by repeat (first | exact hAL0 | refine Agree.put ?_ rfl | refine Agree.named hF3 ?_)), hwL0, ⟨by omega, hnx⟩⟩
      · have gh7 := (of_decide_eq_false h7)
        have hnx : kepO (E.map Prod.fst) s n = kepO ((E.map Prod.fst).drop (k + 1)) s n := by rw [hno, hdr, if_neg (fun e => gh7 (of_decide_eq_true e).1)]
        refine WL.p rfl rfl rfl (congrArg some h7) ?_
        refine WL.p rfl rfl rfl (congrArg some h7) ?_
        refine WL.p rfl rfl rfl (congrArg some h7) ?_
        refine WL.p rfl rfl rfl (congrArg some h7) ?_
        refine WL.p rfl rfl rfl (congrArg some h7) ?_
        refine WL.p rfl rfl rfl (congrArg some h7) ?_
        refine WL.p rfl rfl rfl (congrArg some h7) ?_
        refine WL.va rfl rfl rfl (X.pickF rfl h7 rfl) ?_
        refine WL.nil ?_
        refine thn_n ?_
        refine WF.cond_f rfl ?_
        refine WF.skip ?_
        refine blk_n ?_
        refine thn_n ?_
        refine WF.region ?_
        refine WL.va rfl rfl rfl (X.moveI e8_L0) ?_
        refine WL.va rfl rfl rfl (X.add rfl rfl (w64 (by omega))) ?_
        refine WL.va rfl rfl rfl (X.assignI rfl) ?_
        refine WL.nil ?_
        exact thn_n ⟨_, (by omega), k + 1, rfl, rfl, (by repeat (first | exact hAL0 | refine Agree.put ?_ rfl | refine Agree.named hF3 ?_)), hwL0, ⟨by omega, hnx⟩⟩
    · have gh0_4 := (of_decide_eq_false h0_4)
      refine WF.exit ?_
      refine thn_x ?_
      refine thn_x ?_
      refine blk_eq ?_
      refine thn_n ?_
      refine WF.seq ?_
      refine WF.region ?_
      refine WL.va rfl rfl rfl (X.assign rfl) ?_
      refine WL.va rfl rfl rfl (X.assignB rfl) ?_
      refine WL.nil ?_
      refine thn_n ?_
      refine WF.ret ?_
      refine fin_r ?_
      have hend : kepO (E.map Prod.fst) s n = none := by rw [hno, List.drop_of_length_le (by simp; omega)]; rfl
      exact ⟨⟨_, by rw [hend]; rfl, by rw [hend]; exact nil_own _ _ _⟩, hwL0⟩

theorem join_step1 {f : Nat → List UInt8} {a b : List Bl} {k : Nat} (hf : ∀ n, f n = (fun n : Nat => if n < k then (if rowsF b n = zero4 then rowsF a n else rowsF b n) else rowsF a n) n) (hp : ¬ rowsF b k = zero4) (n : Nat) : (fun n => if n = k then rowsF b k else f n) n = (fun n : Nat => if n < k + 1 then (if rowsF b n = zero4 then rowsF a n else rowsF b n) else rowsF a n) n := by
  dsimp only
  by_cases h : n = k
  · subst h; rw [if_pos rfl, if_pos (show n < n + 1 by omega), if_neg hp]
  · rw [if_neg h, hf n]
    dsimp only
    by_cases h2 : n < k
    · rw [if_pos h2, if_pos (show n < k + 1 by omega)]
    · rw [if_neg h2, if_neg (show ¬ n < k + 1 by omega)]
theorem join_step2 {f : Nat → List UInt8} {a b : List Bl} {k : Nat} (hf : ∀ n, f n = (fun n : Nat => if n < k then (if rowsF b n = zero4 then rowsF a n else rowsF b n) else rowsF a n) n) (hp : rowsF b k = zero4) (n : Nat) : f n = (fun n : Nat => if n < k + 1 then (if rowsF b n = zero4 then rowsF a n else rowsF b n) else rowsF a n) n := by
  rw [hf n]
  dsimp only
  by_cases h : n = k
  · subst h; rw [if_neg (show ¬ n < n by omega), if_pos (show n < n + 1 by omega), if_pos hp]
  · by_cases h2 : n < k
    · rw [if_pos h2, if_pos (show n < k + 1 by omega)]
    · rw [if_neg h2, if_neg (show ¬ n < k + 1 by omega)]
set_option maxHeartbeats 1600000 in
theorem refJoin_ok (va vb : Value) (a b : List Bl) (w : World) (ha : Bls w va a) (hb : Bls w vb b) (hra : RightB a) (hrb : RightB b) : FnOk Try.prog 27 [va, vb] w (fun r w' => Bls w' r (joinB a b) ∧ Ext w w') := by
  refine FnOk.enter (rs := [4]) Try.func27 rfl Try.ntmps27 Try.results27 rfl rfl ?_
  refine WF.seq ?_
  refine WF.region ?_
  refine WL.va rfl rfl rfl (X.assign rfl) ?_
  refine WL.nil ?_
  refine thn_n ?_
  refine WF.seq ?_
  refine WF.region ?_
  refine WL.va rfl rfl rfl (X.move rfl) ?_
  refine WL.c rfl rfl rfl (X.call Try.call49 (evl_cons rfl evl_nil)) (rows_ok _ a _ ha (fun s hs => by have := (hra.each s hs).2.2.1; omega)) ?_
  rintro vx wx ⟨⟨C0, hC0, oX0⟩, hx1⟩
  have hszx := World.grownBy.size hx1
  have hvx := fun b hb => (oX0.row.lt b hb).2
  refine WL.va rfl rfl rfl (X.assign rfl) ?_
  refine WL.nil ?_
  refine thn_n ?_
  refine WF.seq ?_
  refine WF.region ?_
  refine WL.va rfl rfl rfl (X.move rfl) ?_
  refine WL.c rfl rfl rfl (X.call Try.call49 (evl_cons rfl evl_nil)) (rows_ok _ b _ (hb.ext hx1) (fun s hs => by have := (hrb.each s hs).2.2.1; omega)) ?_
  rintro vy wy ⟨⟨D, hD, oY0⟩, hx2⟩
  have oX1 := oX0.ext hx2
  refine WL.va rfl rfl rfl (X.assign rfl) ?_
  refine WL.nil ?_
  refine thn_n ?_
  refine WF.seq ?_
  refine WF.seq ?_
  refine WF.region ?_
  refine WL.va rfl rfl rfl (X.assignI rfl) ?_
  refine WL.nil ?_
  refine thn_n ?_
  refine WF.block ?_
  refine WF.named (fun F3 hF4 => ?_)
  refine WF.loopN (fun mL0 f' w' => ∃ (k : Nat) (C : List Value) (f : Nat → List UInt8), mL0 = 64 - k ∧ f' 7 = .int .i64 (k : Int) ∧ Agree [0, 1, 4, 5, 6, 8, 9, 10, 11] f' F3 ∧ Ext w w' ∧ k ≤ 64 ∧ C.length = 64 ∧ RowsO w' w.heap.size vx C f ∧ RowsO w' wx.heap.size vy D (rowsF b) ∧ ∀ n, f n = (fun n : Nat => if n < k then (if rowsF b n = zero4 then rowsF a n else rowsF b n) else rowsF a n) n) ?_ ?_
  · exact ⟨_, 0, C0, _, rfl, (congrFun hF4 7), (Agree.refl _ _), (Ext.trans hx1 hx2), ⟨Nat.zero_le _, hC0, oX1, oY0, fun n => by simp⟩⟩
  · rintro mL0 fL0 wL0 ⟨k, C, f, hmL0, e7_L0, hAL0, hwL0, ⟨hk0, hC, oX, oY, hf⟩⟩
    refine WF.seq ?_
    refine WF.seq ?_
    refine WF.region ?_
    refine WL.va rfl rfl rfl (X.moveI e7_L0) ?_
    refine WL.va rfl rfl rfl (X.lss rfl rfl) ?_
    refine WL.nil ?_
    refine thn_n ?_
    refine WF.cond rfl (fun h0_5 => ?_) (fun h0_5 => ?_)
    · have gh0_5 := (of_decide_eq_true h0_5)
      have hk : k < 64 := by omega
      refine WF.skip ?_
      refine thn_n ?_
      refine WF.seq ?_
      refine WF.block ?_
      refine WF.seq ?_
      refine WF.region ?_
      refine WL.va rfl rfl rfl (X.move ((hAL0.eq 6).trans (congrFun hF4 6))) ?_
      refine WL.va rfl rfl rfl (X.moveI e7_L0) ?_
      refine WL.va rfl rfl rfl (X.idx (Row.of_own oY.row) rfl rfl (by omega) Try.underlying74 Try.sizeOf34) ?_
      refine WL.va rfl rfl rfl (X.load1 (Row.of_own oY.row) (Ext.refl _) rfl (by omega) Try.isAgg34) ?_
      refine WL.c rfl rfl rfl (X.call Try.call50 (evl_cons rfl evl_nil)) (nought_ok _ (rowsF b k) _ (Row.ext (Bytes.of_own (oY.data k (by omega))) (Ext.refl wL0))) ?_
      rintro v8 w7 ⟨rfl, hx9⟩
      refine WL.va rfl rfl rfl (X.not rfl) ?_
      refine WL.nil ?_
      refine thn_n ?_
      refine WF.cond rfl (fun h1_11 => ?_) (fun h1_11 => ?_)
      · have gh1_11 := (of_decide_eq_false (nt h1_11))
        have hp := gh1_11
        refine WF.region ?_
        refine WL.va rfl rfl rfl (X.move ((hAL0.eq 5).trans (congrFun hF4 5))) ?_
        refine WL.va rfl rfl rfl (X.moveI e7_L0) ?_
        refine WL.va rfl rfl rfl (X.move ((hAL0.eq 6).trans (congrFun hF4 6))) ?_
        refine WL.va rfl rfl rfl (X.moveI e7_L0) ?_
        refine WL.va rfl rfl rfl (X.idx (Row.of_own oY.row) rfl rfl (by omega) Try.underlying74 Try.sizeOf34) ?_
        refine WL.va rfl rfl rfl (X.load1 (Row.of_own oY.row) hx9 rfl (by omega) Try.isAgg34) ?_
        refine WL.va rfl rfl rfl (X.idx (Row.of_own oX.row) rfl rfl (by omega) Try.underlying74 Try.sizeOf34) ?_
        have hgP := (show Ext wL0 w7 from hx9)
        have hoP := own_ext oX.row hgP
        have hwP := (show Ext w w7 from (Ext.trans hwL0 hx9))
        refine WL.op rfl (OW.storeOwn hoP (by omega) rfl rfl (own_one (oY.data k (by omega))) Try.sizeOf34 ?_)
        intro w13 ho16 hx15
        have oL := oX.set (own_ext (oY.data k (by omega)) hgP) (fun b h1 h2 => by have := ((oY.data k (by omega)).lt b h1).1; have := hvx b h2; omega) hgP ho16 hx15 hszx
        have oY2 := (oY.ext hgP).keptA hx15 (fun b h1 h2 => by have := (oY.row.lt b h1).1; have := hvx b h2; omega) (fun n hn b h1 h2 => by have := ((oY.data n hn).lt b h1).1; have := hvx b h2; omega)
        refine WL.nil ?_
        refine blk_n ?_
        refine thn_n ?_
        refine WF.region ?_
        refine WL.va rfl rfl rfl (X.moveI e7_L0) ?_
        refine WL.va rfl rfl rfl (X.add rfl rfl (w64 (by omega))) ?_
        refine WL.va rfl rfl rfl (X.assignI rfl) ?_
        refine WL.nil ?_
        first | exact thn_n ⟨_, (by omega), k + 1, _, _, rfl, rfl, (by repeat (first | exact hAL0 | refine Agree.put ?_ rfl | refine Agree.named hF4 ?_)), (Ext.own hwP hoP (Nat.le_refl _) hx15), ⟨by omega, by rw [List.length_set]; exact hC, oL, oY2, fun n => join_step1 hf hp n⟩⟩ | exact thn_n ⟨_, (by omega), k + 1, _, _, rfl, rfl, (by repeat (first | exact hAL0 | refine Agree.put ?_ rfl | refine Agree.named hF4 ?_)), (Ext.own hwP hoP (Nat.le_refl _) hx15), ⟨by omega, hC, oX9, oY9, fun n => join_step2 hf hp n⟩⟩
      · have gh1_11 := (of_decide_eq_true (nf h1_11))
        have hp := gh1_11
        have oX9 := oX.ext (show Ext wL0 w7 from hx9)
        have oY9 := oY.ext (show Ext wL0 w7 from hx9)
        refine WF.skip ?_
        refine blk_n ?_
        refine thn_n ?_
        refine WF.region ?_
        refine WL.va rfl rfl rfl (X.moveI e7_L0) ?_
        refine WL.va rfl rfl rfl (X.add rfl rfl (w64 (by omega))) ?_
        refine WL.va rfl rfl rfl (X.assignI rfl) ?_
        refine WL.nil ?_
        first | exact thn_n ⟨_, (by omega), k + 1, _, _, rfl, rfl, (by repeat (first | exact hAL0 | refine Agree.put ?_ rfl | refine Agree.named hF4 ?_)), (Ext.trans hwL0 hx9), ⟨by omega, by rw [List.length_set]; exact hC, oL, oY2, fun n => join_step1 hf hp n⟩⟩ | exact thn_n ⟨_, (by omega), k + 1, _, _, rfl, rfl, (by repeat (first | exact hAL0 | refine Agree.put ?_ rfl | refine Agree.named hF4 ?_)), (Ext.trans hwL0 hx9), ⟨by omega, hC, oX9, oY9, fun n => join_step2 hf hp n⟩⟩
    · have gh0_5 := (of_decide_eq_false h0_5)
      obtain rfl : k = 64 := by omega
      refine WF.exit ?_
      refine thn_x ?_
      refine thn_x ?_
      refine blk_eq ?_
      refine thn_n ?_
      refine WF.seq ?_
      refine WF.region ?_
      refine WL.va rfl rfl rfl (X.move ((hAL0.eq 5).trans (congrFun hF4 5))) ?_
      refine WL.c rfl rfl rfl (X.call Try.call51 (evl_cons rfl evl_nil)) (list_ok _ C (fun n : Nat => if rowsF b n = zero4 then rowsF a n else rowsF b n) _ _ ((oX.fn (g := (fun n : Nat => if rowsF b n = zero4 then rowsF a n else rowsF b n)) (fun n hn => by rw [hf n]; exact if_pos (show n < 64 by omega))).ext (Ext.refl wL0)) hC) ?_
      rintro v18 w17 ⟨hB, hx19⟩
      refine WL.va rfl rfl rfl (X.assign rfl) ?_
      refine WL.nil ?_
      refine thn_n ?_
      refine WF.ret ?_
      refine fin_r ?_
      exact ⟨(refJoin_eq hra hrb) ▸ hB, (Ext.trans hwL0 hx19)⟩

set_option maxHeartbeats 3200000 in
theorem right_ok (v : Value) (l : List Bl) (w : World) (h : Bls w v l) : FnOk Try.prog 10 [v] w (fun r w' => r = .bool (rightB l) ∧ Ext w w') := by
  obtain ⟨E, rfl, re, de⟩ := h
  have hle : (E.length : Int) ≤ 9223372036854775807 := by obtain ⟨_, c, _, h1, h2, _⟩ := re.shape; unfold maxLen at h2; omega
  refine FnOk.enter (rs := [2]) Try.func10 rfl Try.ntmps10 Try.results10 rfl rfl ?_
  refine WF.seq ?_
  refine WF.region ?_
  refine WL.va rfl rfl rfl (X.assignB rfl) ?_
  refine WL.nil ?_
  refine thn_n ?_
  refine WF.seq ?_
  refine WF.seq ?_
  refine WF.region ?_
  refine WL.va rfl rfl rfl (X.assignI rfl) ?_
  refine WL.nil ?_
  refine thn_n ?_
  refine WF.block ?_
  refine WF.named (fun F2 hF3 => ?_)
  refine WF.loopN (fun mL0 f' w' => ∃ (k : Nat), mL0 = E.length - k ∧ f' 3 = .int .i64 (k : Int) ∧ Agree [0] f' F2 ∧ Ext w w' ∧ k ≤ E.length ∧ (∀ j (hj : j < E.length), j < k → eachB E[j].1) ∧ (∀ j (hj : j + 1 < E.length), j + 1 < k → (E[j]'(by omega)).1.No < E[j + 1].1.No)) ?_ ?_
  · exact ⟨_, 0, rfl, (congrFun hF3 3), (Agree.refl _ _), (Ext.refl _), ⟨Nat.zero_le _, fun j _ h => by omega, fun j _ h => by omega⟩⟩
  · rintro mL0 fL0 wL0 ⟨k, hmL0, e3_L0, hAL0, hwL0, ⟨hk0, h1, h2⟩⟩
    refine WF.seq ?_
    refine WF.seq ?_
    refine WF.region ?_
    refine WL.va rfl rfl rfl (X.moveI e3_L0) ?_
    refine WL.va rfl rfl rfl (X.move ((hAL0.eq 0).trans (congrFun hF3 0))) ?_
    refine WL.va rfl rfl rfl (X.len re rfl Try.underlying25) ?_
    refine WL.va rfl rfl rfl (X.lss rfl rfl) ?_
    refine WL.nil ?_
    refine thn_n ?_
    refine WF.cond rfl (fun h0_4 => ?_) (fun h0_4 => ?_)
    · have gh0_4 := (of_decide_eq_true h0_4)
      have hk : k < E.length := by omega
      refine WF.skip ?_
      refine thn_n ?_
      refine WF.seq ?_
      refine WF.block ?_
      refine WF.seq ?_
      refine WF.drawn (.q 0 (.q 1 (.q 2 (.q 3 (.q 4 (.q 5 (.q 6 (.q 7 (.q 8 (.q 9 (.q 10 (.q 11 (.q 12 (.q 13 (.q 14 (.q 15 (.q 16 (.q 17 (.q 18 (.q 19 (.q 20 (.q 21 (.q 22 (.q 23 (.q 24 (.q 25 (.q 26 (.q 27 (.q 28 (.l 29 (.l 30 (.q 31 (.q 32 (.q 33 (.q 34 (.q 35 (.q 36 (.q 37 (.q 38 (.q 39 (.q 40 (.q 41 (.q 42 (.q 43 (.q 44 (.q 45 (.q 46 (.q 47 (.q 48 (.q 49 .nil)))))))))))))))))))))))))))))))))))))))))))))))))) (fun w' => Ext wL0 w') 50 (by kernel_rfl) (by kernel_rfl) (Ext.drew _) ?_
      refine WO.q rfl rfl rfl rfl (fun w' hE6 => (X.move ((hAL0.eq 0).trans (congrFun hF3 0)))) ?_
      refine WO.q rfl rfl rfl rfl (fun w' hE6 => (X.moveI e3_L0)) ?_
      refine WO.q rfl rfl rfl rfl (fun w' hE6 => (X.idx re rfl rfl (by omega) Try.underlying25 Try.sizeOf58)) ?_
      refine WO.q rfl rfl rfl rfl (fun w' hE6 => (X.fieldAddrA rfl Try.underlying58 rfl rfl Try.sizeOf3)) ?_
      refine WO.q rfl rfl rfl rfl (fun w' hE6 => (X.loadE re (Ext.trans hwL0 hE6) rfl (by omega) ((BRow.get hk (by decide)).trans rfl) Try.isAgg3)) ?_
      refine WO.q rfl rfl rfl rfl (fun w' hE6 => (X.lss rfl rfl)) ?_
      refine WO.q rfl rfl rfl rfl (fun w' hE6 => (X.moveB rfl)) ?_
      refine WO.split (j := 6) rfl (fun h8 => ?_) (fun h8 => ?_)
      · have gh8 := (of_decide_eq_true h8)
        have hbad := bad_each hk (fun e => by have := e.1; omega)
        refine WO.qp rfl rfl rfl rfl (congrArg some h8) ?_
        refine WO.qp rfl rfl rfl rfl (congrArg some h8) ?_
        refine WO.qp rfl rfl rfl rfl (congrArg some h8) ?_
        refine WO.qp rfl rfl rfl rfl (congrArg some h8) ?_
        refine WO.qp rfl rfl rfl rfl (congrArg some h8) ?_
        refine WO.qp rfl rfl rfl rfl (congrArg some h8) ?_
        refine WO.q rfl rfl rfl rfl (fun w' hE6 => (X.pickT rfl h8 rfl)) ?_
        refine WO.q rfl rfl rfl rfl (fun w' hE6 => (X.moveB rfl)) ?_
        refine WO.qp rfl rfl rfl rfl rfl ?_
        refine WO.qp rfl rfl rfl rfl rfl ?_
        refine WO.qp rfl rfl rfl rfl rfl ?_
        refine WO.qp rfl rfl rfl rfl rfl ?_
        refine WO.qp rfl rfl rfl rfl rfl ?_
        refine WO.qp rfl rfl rfl rfl rfl ?_
        refine WO.qp rfl rfl rfl rfl rfl ?_
        refine WO.q rfl rfl rfl rfl (fun w' hE6 => (X.pickT rfl rfl rfl)) ?_
        refine WO.q rfl rfl rfl rfl (fun w' hE6 => (X.moveB rfl)) ?_
        refine WO.qp rfl rfl rfl rfl rfl ?_
        refine WO.qp rfl rfl rfl rfl rfl ?_
        refine WO.qp rfl rfl rfl rfl rfl ?_
        refine WO.qp rfl rfl rfl rfl rfl ?_
        refine WO.qp rfl rfl rfl rfl rfl ?_
        refine WO.l ?_
        refine LO.pass rfl (Ext.drew _) rfl rfl rfl rfl ?_
        refine WO.l ?_
        refine LO.pass rfl (Ext.drew _) rfl rfl rfl rfl ?_
        refine WO.q rfl rfl rfl rfl (fun w' hE6 => (X.pickT rfl rfl rfl)) ?_
        refine WO.q rfl rfl rfl rfl (fun w' hE6 => (X.moveB rfl)) ?_
        refine WO.qp rfl rfl rfl rfl rfl ?_
        refine WO.qp rfl rfl rfl rfl rfl ?_
        refine WO.qp rfl rfl rfl rfl rfl ?_
        refine WO.qpn rfl rfl rfl rfl rfl ?_
        refine WO.qpn rfl rfl rfl rfl rfl ?_
        refine WO.qpn rfl rfl rfl rfl rfl ?_
        refine WO.qpn rfl rfl rfl rfl rfl ?_
        refine WO.qpn rfl rfl rfl rfl rfl ?_
        refine WO.qpn rfl rfl rfl rfl rfl ?_
        refine WO.qpn rfl rfl rfl rfl rfl ?_
        refine WO.qpn rfl rfl rfl rfl rfl ?_
        refine WO.qpn rfl rfl rfl rfl rfl ?_
        refine WO.qpn rfl rfl rfl rfl rfl ?_
        refine WO.qpn rfl rfl rfl rfl rfl ?_
        refine WO.qpn rfl rfl rfl rfl rfl ?_
        refine WO.qp rfl rfl rfl rfl rfl ?_
        refine WO.q rfl rfl rfl rfl (fun w' hE6 => (X.pickT rfl rfl rfl)) ?_
        refine WO.nil ?_
        refine WL.nil ?_
        refine thn_n ?_
        refine WF.cond_t rfl ?_
        refine WF.seq ?_
        refine WF.region ?_
        refine WL.va rfl rfl rfl (X.assignB rfl) ?_
        refine WL.nil ?_
        refine thn_n ?_
        refine WF.ret ?_
        refine blk_r ?_
        refine thn_r ?_
        refine thn_r ?_
        refine blk_r ?_
        refine thn_r ?_
        refine fin_r ?_
        exact ⟨congrArg Value.bool hbad.symm, (Ext.trans hwL0 (Ext.drew _))⟩
      · have gh8 := (of_decide_eq_false h8)
        refine WO.qg rfl rfl (congrArg some h8) rfl rfl (fun w' hE6 => (X.move ((hAL0.eq 0).trans (congrFun hF3 0)))) ?_
        refine WO.qg rfl rfl (congrArg some h8) rfl rfl (fun w' hE6 => (X.moveI e3_L0)) ?_
        refine WO.qg rfl rfl (congrArg some h8) rfl rfl (fun w' hE6 => (X.idx re rfl rfl (by omega) Try.underlying25 Try.sizeOf58)) ?_
        refine WO.qg rfl rfl (congrArg some h8) rfl rfl (fun w' hE6 => (X.fieldAddrA rfl Try.underlying58 rfl rfl Try.sizeOf3)) ?_
        refine WO.qg rfl rfl (congrArg some h8) rfl rfl (fun w' hE6 => (X.loadE re (Ext.trans hwL0 hE6) rfl (by omega) ((BRow.get hk (by decide)).trans rfl) Try.isAgg3)) ?_
        refine WO.qg rfl rfl (congrArg some h8) rfl rfl (fun w' hE6 => (X.gtr rfl rfl)) ?_
        refine WO.q rfl rfl rfl rfl (fun w' hE6 => (X.pickF rfl h8 rfl)) ?_
        refine WO.q rfl rfl rfl rfl (fun w' hE6 => (X.moveB rfl)) ?_
        refine WO.split (j := 14) rfl (fun h15 => ?_) (fun h15 => ?_)
        · have gh15 := (of_decide_eq_true h15)
          have hbad := bad_each hk (fun e => by have := e.2.1; omega)
          refine WO.qp rfl rfl rfl rfl (congrArg some h15) ?_
          refine WO.qp rfl rfl rfl rfl (congrArg some h15) ?_
          refine WO.qp rfl rfl rfl rfl (congrArg some h15) ?_
          refine WO.qp rfl rfl rfl rfl (congrArg some h15) ?_
          refine WO.qp rfl rfl rfl rfl (congrArg some h15) ?_
          refine WO.qp rfl rfl rfl rfl (congrArg some h15) ?_
          refine WO.qp rfl rfl rfl rfl (congrArg some h15) ?_
          refine WO.q rfl rfl rfl rfl (fun w' hE6 => (X.pickT rfl h15 rfl)) ?_
          refine WO.q rfl rfl rfl rfl (fun w' hE6 => (X.moveB rfl)) ?_
          refine WO.qp rfl rfl rfl rfl rfl ?_
          refine WO.qp rfl rfl rfl rfl rfl ?_
          refine WO.qp rfl rfl rfl rfl rfl ?_
          refine WO.qp rfl rfl rfl rfl rfl ?_
          refine WO.qp rfl rfl rfl rfl rfl ?_
          refine WO.l ?_
          refine LO.pass rfl (Ext.drew _) rfl rfl rfl rfl ?_
          refine WO.l ?_
          refine LO.pass rfl (Ext.drew _) rfl rfl rfl rfl ?_
          refine WO.q rfl rfl rfl rfl (fun w' hE6 => (X.pickT rfl rfl rfl)) ?_
          refine WO.q rfl rfl rfl rfl (fun w' hE6 => (X.moveB rfl)) ?_
          refine WO.qp rfl rfl rfl rfl rfl ?_
          refine WO.qp rfl rfl rfl rfl rfl ?_
          refine WO.qp rfl rfl rfl rfl rfl ?_
          refine WO.qpn rfl rfl rfl rfl rfl ?_
          refine WO.qpn rfl rfl rfl rfl rfl ?_
          refine WO.qpn rfl rfl rfl rfl rfl ?_
          refine WO.qpn rfl rfl rfl rfl rfl ?_
          refine WO.qpn rfl rfl rfl rfl rfl ?_
          refine WO.qpn rfl rfl rfl rfl rfl ?_
          refine WO.qpn rfl rfl rfl rfl rfl ?_
          refine WO.qpn rfl rfl rfl rfl rfl ?_
          refine WO.qpn rfl rfl rfl rfl rfl ?_
          refine WO.qpn rfl rfl rfl rfl rfl ?_
          refine WO.qpn rfl rfl rfl rfl rfl ?_
          refine WO.qpn rfl rfl rfl rfl rfl ?_
          refine WO.qp rfl rfl rfl rfl rfl ?_
          refine WO.q rfl rfl rfl rfl (fun w' hE6 => (X.pickT rfl rfl rfl)) ?_
          refine WO.nil ?_
          refine WL.nil ?_
          refine thn_n ?_
          refine WF.cond_t rfl ?_
          refine WF.seq ?_
          refine WF.region ?_
          refine WL.va rfl rfl rfl (X.assignB rfl) ?_
          refine WL.nil ?_
          refine thn_n ?_
          refine WF.ret ?_
          refine blk_r ?_
          refine thn_r ?_
          refine thn_r ?_
          refine blk_r ?_
          refine thn_r ?_
          refine fin_r ?_
          exact ⟨congrArg Value.bool hbad.symm, (Ext.trans hwL0 (Ext.drew _))⟩
        · have gh15 := (of_decide_eq_false h15)
          refine WO.qg rfl rfl (congrArg some h15) rfl rfl (fun w' hE6 => (X.move ((hAL0.eq 0).trans (congrFun hF3 0)))) ?_
          refine WO.qg rfl rfl (congrArg some h15) rfl rfl (fun w' hE6 => (X.moveI e3_L0)) ?_
          refine WO.qg rfl rfl (congrArg some h15) rfl rfl (fun w' hE6 => (X.idx re rfl rfl (by omega) Try.underlying25 Try.sizeOf58)) ?_
          refine WO.qg rfl rfl (congrArg some h15) rfl rfl (fun w' hE6 => (X.fieldAddrA rfl Try.underlying58 rfl rfl Try.sizeOf34)) ?_
          refine WO.qg rfl rfl (congrArg some h15) rfl rfl (fun w' hE6 => (X.loadE re (Ext.trans hwL0 hE6) rfl (by omega) ((BRow.get hk (by decide)).trans rfl) Try.isAgg34)) ?_
          refine WO.qg rfl rfl (congrArg some h15) rfl rfl (fun w' hE6 => (X.len (de _ (List.getElem_mem hk)) rfl Try.underlying34)) ?_
          refine WO.qg rfl rfl (congrArg some h15) rfl rfl (fun w' hE6 => (X.neq rfl rfl)) ?_
          refine WO.q rfl rfl rfl rfl (fun w' hE6 => (X.pickF rfl h15 rfl)) ?_
          refine WO.q rfl rfl rfl rfl (fun w' hE6 => (X.moveB rfl)) ?_
          refine WO.split (j := 23) rfl (fun h21 => ?_) (fun h21 => ?_)
          · have gh21 := (of_decide_eq_true h21)
            have hbad := bad_each hk (fun e => by have := e.2.2.1; omega)
            refine WO.qp rfl rfl rfl rfl (congrArg some h21) ?_
            refine WO.qp rfl rfl rfl rfl (congrArg some h21) ?_
            refine WO.qp rfl rfl rfl rfl (congrArg some h21) ?_
            refine WO.qp rfl rfl rfl rfl (congrArg some h21) ?_
            refine WO.qp rfl rfl rfl rfl (congrArg some h21) ?_
            refine WO.l ?_
            refine LO.pass rfl (Ext.drew _) rfl rfl rfl (congrArg some h21) ?_
            refine WO.l ?_
            refine LO.pass rfl (Ext.drew _) rfl rfl rfl (congrArg some h21) ?_
            refine WO.q rfl rfl rfl rfl (fun w' hE6 => (X.pickT rfl h21 rfl)) ?_
            refine WO.q rfl rfl rfl rfl (fun w' hE6 => (X.moveB rfl)) ?_
            refine WO.qp rfl rfl rfl rfl rfl ?_
            refine WO.qp rfl rfl rfl rfl rfl ?_
            refine WO.qp rfl rfl rfl rfl rfl ?_
            refine WO.qpn rfl rfl rfl rfl rfl ?_
            refine WO.qpn rfl rfl rfl rfl rfl ?_
            refine WO.qpn rfl rfl rfl rfl rfl ?_
            refine WO.qpn rfl rfl rfl rfl rfl ?_
            refine WO.qpn rfl rfl rfl rfl rfl ?_
            refine WO.qpn rfl rfl rfl rfl rfl ?_
            refine WO.qpn rfl rfl rfl rfl rfl ?_
            refine WO.qpn rfl rfl rfl rfl rfl ?_
            refine WO.qpn rfl rfl rfl rfl rfl ?_
            refine WO.qpn rfl rfl rfl rfl rfl ?_
            refine WO.qpn rfl rfl rfl rfl rfl ?_
            refine WO.qpn rfl rfl rfl rfl rfl ?_
            refine WO.qp rfl rfl rfl rfl rfl ?_
            refine WO.q rfl rfl rfl rfl (fun w' hE6 => (X.pickT rfl rfl rfl)) ?_
            refine WO.nil ?_
            refine WL.nil ?_
            refine thn_n ?_
            refine WF.cond_t rfl ?_
            refine WF.seq ?_
            refine WF.region ?_
            refine WL.va rfl rfl rfl (X.assignB rfl) ?_
            refine WL.nil ?_
            refine thn_n ?_
            refine WF.ret ?_
            refine blk_r ?_
            refine thn_r ?_
            refine thn_r ?_
            refine blk_r ?_
            refine thn_r ?_
            refine fin_r ?_
            exact ⟨congrArg Value.bool hbad.symm, (Ext.trans hwL0 (Ext.drew _))⟩
          · have gh21 := (Decidable.of_not_not (of_decide_eq_false h21))
            refine WO.qg rfl rfl (congrArg some h21) rfl rfl (fun w' hE6 => (X.move ((hAL0.eq 0).trans (congrFun hF3 0)))) ?_
            refine WO.qg rfl rfl (congrArg some h21) rfl rfl (fun w' hE6 => (X.moveI e3_L0)) ?_
            refine WO.qg rfl rfl (congrArg some h21) rfl rfl (fun w' hE6 => (X.idx re rfl rfl (by omega) Try.underlying25 Try.sizeOf58)) ?_
            refine WO.qg rfl rfl (congrArg some h21) rfl rfl (fun w' hE6 => (X.fieldAddrA rfl Try.underlying58 rfl rfl Try.sizeOf34)) ?_
            refine WO.qg rfl rfl (congrArg some h21) rfl rfl (fun w' hE6 => (X.loadE re (Ext.trans hwL0 hE6) rfl (by omega) ((BRow.get hk (by decide)).trans rfl) Try.isAgg34)) ?_
            refine WO.l ?_
            refine LO.gog rfl rfl (congrArg some h21) (OW.makeB (n := 4) rfl rfl Try.underlying34 Try.type5 rfl rfl rfl (by omega) ?_ (by decide))
            intro v26 w25 ho28 hx27
            have om := ho28
            refine ⟨(Ext.trans (Ext.drew _) hx27), ?_⟩
            refine WO.l ?_
            refine LO.gog rfl rfl (congrArg some h21) (OW.enter rfl (by decide) (X.call Try.call20 (evl_cons rfl (evl_cons rfl evl_nil))) (sameBytes_ok _ _ (E[k]'hk).1.Data zero4 _ (Row.ext (de _ (List.getElem_mem hk)) (Ext.trans (Ext.trans hwL0 (Ext.drew _)) hx27)) (Bytes.of_own om)) ?_)
            rintro v30 w29 ⟨rfl, hx31⟩
            refine ⟨(Ext.trans (Ext.trans (Ext.drew _) hx27) hx31), ?_⟩
            refine WO.q rfl rfl rfl rfl (fun w' hE6 => (X.pickF rfl h21 rfl)) ?_
            refine WO.q rfl rfl rfl rfl (fun w' hE6 => (X.moveB rfl)) ?_
            refine WO.split (j := 32) rfl (fun h33 => ?_) (fun h33 => ?_)
            · have gh33 := (of_decide_eq_true h33)
              have hbad := bad_each hk (fun e => e.2.2.2 gh33)
              refine WO.qp rfl rfl rfl rfl (congrArg some h33) ?_
              refine WO.qp rfl rfl rfl rfl (congrArg some h33) ?_
              refine WO.qp rfl rfl rfl rfl (congrArg some h33) ?_
              refine WO.qpn rfl rfl rfl rfl rfl ?_
              refine WO.qpn rfl rfl rfl rfl rfl ?_
              refine WO.qpn rfl rfl rfl rfl rfl ?_
              refine WO.qpn rfl rfl rfl rfl rfl ?_
              refine WO.qpn rfl rfl rfl rfl rfl ?_
              refine WO.qpn rfl rfl rfl rfl rfl ?_
              refine WO.qpn rfl rfl rfl rfl rfl ?_
              refine WO.qpn rfl rfl rfl rfl rfl ?_
              refine WO.qpn rfl rfl rfl rfl rfl ?_
              refine WO.qpn rfl rfl rfl rfl rfl ?_
              refine WO.qpn rfl rfl rfl rfl rfl ?_
              refine WO.qpn rfl rfl rfl rfl rfl ?_
              refine WO.qp rfl rfl rfl rfl (congrArg some h33) ?_
              refine WO.q rfl rfl rfl rfl (fun w' hE6 => (X.pickT rfl h33 rfl)) ?_
              refine WO.nil ?_
              refine WL.nil ?_
              refine thn_n ?_
              refine WF.cond_t rfl ?_
              refine WF.seq ?_
              refine WF.region ?_
              refine WL.va rfl rfl rfl (X.assignB rfl) ?_
              refine WL.nil ?_
              refine thn_n ?_
              refine WF.ret ?_
              refine blk_r ?_
              refine thn_r ?_
              refine thn_r ?_
              refine blk_r ?_
              refine thn_r ?_
              refine fin_r ?_
              exact ⟨congrArg Value.bool hbad.symm, (Ext.trans (Ext.trans (Ext.trans hwL0 (Ext.drew _)) hx27) hx31)⟩
            · have gh33 := (of_decide_eq_false h33)
              have heach : eachB (E[k]'hk).1 := ⟨by omega, by omega, by omega, gh33⟩
              refine WO.qg rfl rfl (congrArg some h33) rfl rfl (fun w' hE6 => (X.moveI e3_L0)) ?_
              refine WO.qg rfl rfl (congrArg some h33) rfl rfl (fun w' hE6 => (X.gtr rfl rfl)) ?_
              refine WO.qg rfl rfl (congrArg some h33) rfl rfl (fun w' hE6 => (X.moveB rfl)) ?_
              refine WO.split (j := 35) rfl (fun h37 => ?_) (fun h37 => ?_)
              · have gh37 := (of_decide_eq_true h37)
                have hpos := gh37
                have hk1 : k - 1 < E.length := by omega
                refine WO.qg rfl rfl (congrArg some h37) rfl rfl (fun w' hE6 => (X.move ((hAL0.eq 0).trans (congrFun hF3 0)))) ?_
                refine WO.qg rfl rfl (congrArg some h37) rfl rfl (fun w' hE6 => (X.moveI e3_L0)) ?_
                refine WO.qg rfl rfl (congrArg some h37) rfl rfl (fun w' hE6 => (X.sub rfl rfl (show _ = ((k - 1 : Nat) : Int) from by rw [w64 (by omega)]; omega))) ?_
                refine WO.qg rfl rfl (congrArg some h37) rfl rfl (fun w' hE6 => (X.idx re rfl rfl hk1 Try.underlying25 Try.sizeOf58)) ?_
                refine WO.qg rfl rfl (congrArg some h37) rfl rfl (fun w' hE6 => (X.fieldAddrA rfl Try.underlying58 rfl rfl Try.sizeOf3)) ?_
                refine WO.qg rfl rfl (congrArg some h37) rfl rfl (fun w' hE6 => (X.loadE re (Ext.trans hwL0 hE6) rfl hk1 ((BRow.get hk1 (by decide)).trans rfl) Try.isAgg3)) ?_
                refine WO.qg rfl rfl (congrArg some h37) rfl rfl (fun w' hE6 => (X.move ((hAL0.eq 0).trans (congrFun hF3 0)))) ?_
                refine WO.qg rfl rfl (congrArg some h37) rfl rfl (fun w' hE6 => (X.moveI e3_L0)) ?_
                refine WO.qg rfl rfl (congrArg some h37) rfl rfl (fun w' hE6 => (X.idx re rfl rfl (by omega) Try.underlying25 Try.sizeOf58)) ?_
                refine WO.qg rfl rfl (congrArg some h37) rfl rfl (fun w' hE6 => (X.fieldAddrA rfl Try.underlying58 rfl rfl Try.sizeOf3)) ?_
                refine WO.qg rfl rfl (congrArg some h37) rfl rfl (fun w' hE6 => (X.loadE re (Ext.trans hwL0 hE6) rfl (by omega) ((BRow.get hk (by decide)).trans rfl) Try.isAgg3)) ?_
                refine WO.qg rfl rfl (congrArg some h37) rfl rfl (fun w' hE6 => (X.geq rfl rfl)) ?_
                refine WO.qg rfl rfl (congrArg some h33) rfl rfl (fun w' hE6 => (X.pickT rfl h37 rfl)) ?_
                refine WO.q rfl rfl rfl rfl (fun w' hE6 => (X.pickF rfl h33 rfl)) ?_
                refine WO.nil ?_
                refine WL.nil ?_
                refine thn_n ?_
                refine WF.cond rfl (fun h1_38 => ?_) (fun h1_38 => ?_)
                · have gh1_38 := (of_decide_eq_true h1_38)
                  have hbad := bad_sort hk (by omega) (by omega)
                  refine WF.seq ?_
                  refine WF.region ?_
                  refine WL.va rfl rfl rfl (X.assignB rfl) ?_
                  refine WL.nil ?_
                  refine thn_n ?_
                  refine WF.ret ?_
                  refine blk_r ?_
                  refine thn_r ?_
                  refine thn_r ?_
                  refine blk_r ?_
                  refine thn_r ?_
                  refine fin_r ?_
                  exact ⟨congrArg Value.bool hbad.symm, (Ext.trans (Ext.trans (Ext.trans hwL0 (Ext.drew _)) hx27) hx31)⟩
                · have gh1_38 := (of_decide_eq_false h1_38)
                  have hadj : ∀ h0 : 0 < k, (E[k - 1]'(by omega)).1.No < (E[k]'hk).1.No := fun h0 => by omega
                  refine WF.skip ?_
                  refine blk_n ?_
                  refine thn_n ?_
                  refine WF.region ?_
                  refine WL.va rfl rfl rfl (X.moveI e3_L0) ?_
                  refine WL.va rfl rfl rfl (X.add rfl rfl (w64 (by omega))) ?_
                  refine WL.va rfl rfl rfl (X.assignI rfl) ?_
                  refine WL.nil ?_
                  exact thn_n ⟨_, (by omega), k + 1, rfl, rfl, (by repeat (first | exact hAL0 | refine Agree.put ?_ rfl | refine Agree.named hF3 ?_)), (Ext.trans (Ext.trans (Ext.trans hwL0 (Ext.drew _)) hx27) hx31), ⟨by omega, fun j hj h => by rcases Nat.lt_succ_iff_lt_or_eq.1 h with h | rfl; exact h1 j hj h; exact heach, fun j hj h => by rcases Nat.lt_succ_iff_lt_or_eq.1 h with h | rfl; exact h2 j hj h; exact hadj (by omega)⟩⟩
              · have gh37 := (of_decide_eq_false h37)
                have hadj : ∀ h0 : 0 < k, (E[k - 1]'(by omega)).1.No < (E[k]'hk).1.No := fun h0 => by omega
                refine WO.qp rfl rfl rfl rfl (congrArg some h37) ?_
                refine WO.qp rfl rfl rfl rfl (congrArg some h37) ?_
                refine WO.qp rfl rfl rfl rfl (congrArg some h37) ?_
                refine WO.qp rfl rfl rfl rfl (congrArg some h37) ?_
                refine WO.qp rfl rfl rfl rfl (congrArg some h37) ?_
                refine WO.qp rfl rfl rfl rfl (congrArg some h37) ?_
                refine WO.qp rfl rfl rfl rfl (congrArg some h37) ?_
                refine WO.qp rfl rfl rfl rfl (congrArg some h37) ?_
                refine WO.qp rfl rfl rfl rfl (congrArg some h37) ?_
                refine WO.qp rfl rfl rfl rfl (congrArg some h37) ?_
                refine WO.qp rfl rfl rfl rfl (congrArg some h37) ?_
                refine WO.qp rfl rfl rfl rfl (congrArg some h37) ?_
                refine WO.qg rfl rfl (congrArg some h33) rfl rfl (fun w' hE6 => (X.pickF rfl h37 rfl)) ?_
                refine WO.q rfl rfl rfl rfl (fun w' hE6 => (X.pickF rfl h33 rfl)) ?_
                refine WO.nil ?_
                refine WL.nil ?_
                refine thn_n ?_
                refine WF.cond_f rfl ?_
                refine WF.skip ?_
                refine blk_n ?_
                refine thn_n ?_
                refine WF.region ?_
                refine WL.va rfl rfl rfl (X.moveI e3_L0) ?_
                refine WL.va rfl rfl rfl (X.add rfl rfl (w64 (by omega))) ?_
                refine WL.va rfl rfl rfl (X.assignI rfl) ?_
                refine WL.nil ?_
                exact thn_n ⟨_, (by omega), k + 1, rfl, rfl, (by repeat (first | exact hAL0 | refine Agree.put ?_ rfl | refine Agree.named hF3 ?_)), (Ext.trans (Ext.trans (Ext.trans hwL0 (Ext.drew _)) hx27) hx31), ⟨by omega, fun j hj h => by rcases Nat.lt_succ_iff_lt_or_eq.1 h with h | rfl; exact h1 j hj h; exact heach, fun j hj h => by rcases Nat.lt_succ_iff_lt_or_eq.1 h with h | rfl; exact h2 j hj h; exact hadj (by omega)⟩⟩
    · have gh0_4 := (of_decide_eq_false h0_4)
      refine WF.exit ?_
      refine thn_x ?_
      refine thn_x ?_
      refine blk_eq ?_
      refine thn_n ?_
      refine WF.seq ?_
      refine WF.region ?_
      refine WL.va rfl rfl rfl (X.assignB rfl) ?_
      refine WL.nil ?_
      refine thn_n ?_
      refine WF.ret ?_
      refine fin_r ?_
      exact ⟨congrArg Value.bool (good_all (fun j hj => h1 j hj (by omega)) (fun j hj => h2 j hj (by omega))).symm, hwL0⟩

set_option maxHeartbeats 3200000 in
theorem rightK_ok (v : Value) (l : List Kp) (w : World) (h : Kps w v l) : FnOk Try.prog 11 [v] w (fun r w' => r = .bool (right5 l) ∧ Ext w w') := by
  obtain ⟨E, rfl, re, de⟩ := h
  have hle : (E.length : Int) ≤ 9223372036854775807 := by obtain ⟨_, c, _, h1, h2, _⟩ := re.shape; unfold maxLen at h2; omega
  refine FnOk.enter (rs := [2]) Try.func11 rfl Try.ntmps11 Try.results11 rfl rfl ?_
  refine WF.seq ?_
  refine WF.region ?_
  refine WL.va rfl rfl rfl (X.assignB rfl) ?_
  refine WL.nil ?_
  refine thn_n ?_
  refine WF.seq ?_
  refine WF.seq ?_
  refine WF.region ?_
  refine WL.va rfl rfl rfl (X.move rfl) ?_
  refine WL.va rfl rfl rfl (X.len re rfl Try.underlying22) ?_
  refine WL.va rfl rfl rfl (X.gtr rfl rfl) ?_
  refine WL.nil ?_
  refine thn_n ?_
  refine WF.cond rfl (fun h0_2 => ?_) (fun h0_2 => ?_)
  · have gh0_2 := (of_decide_eq_true h0_2)
    have hbad : right5 (E.map Prod.fst) = false := bad5 (by rw [List.length_map]; omega)
    refine WF.seq ?_
    refine WF.region ?_
    refine WL.va rfl rfl rfl (X.assignB rfl) ?_
    refine WL.nil ?_
    refine thn_n ?_
    refine WF.ret ?_
    refine thn_r ?_
    refine fin_r ?_
    first | exact ⟨congrArg Value.bool hbad.symm, (Ext.refl _)⟩ | exact ⟨congrArg Value.bool (goodK_all (by omega) (fun j hj => h1 j hj (by omega)) (fun j hj => h2 j hj (by omega))).symm, (Ext.refl _)⟩
  · have gh0_2 := (of_decide_eq_false h0_2)
    refine WF.skip ?_
    refine thn_n ?_
    refine WF.seq ?_
    refine WF.seq ?_
    refine WF.region ?_
    refine WL.va rfl rfl rfl (X.assignI rfl) ?_
    refine WL.nil ?_
    refine thn_n ?_
    refine WF.block ?_
    refine WF.named (fun F5 hF6 => ?_)
    refine WF.loopN (fun mL0 f' w' => ∃ (k : Nat), mL0 = E.length - k ∧ f' 3 = .int .i64 (k : Int) ∧ Agree [0, 4, 5, 6] f' F5 ∧ Ext w w' ∧ k ≤ E.length ∧ (∀ j (hj : j < E.length), j < k → eachK E[j].1) ∧ (∀ j (hj : j + 1 < E.length), j + 1 < k → KLt (E[j]'(by omega)).1 E[j + 1].1)) ?_ ?_
    · exact ⟨_, 0, rfl, (congrFun hF6 3), (Agree.refl _ _), (Ext.refl _), ⟨Nat.zero_le _, fun j _ h => by omega, fun j _ h => by omega⟩⟩
    · rintro mL0 fL0 wL0 ⟨k, hmL0, e3_L0, hAL0, hwL0, ⟨hk0, h1, h2⟩⟩
      refine WF.seq ?_
      refine WF.seq ?_
      refine WF.region ?_
      refine WL.va rfl rfl rfl (X.moveI e3_L0) ?_
      refine WL.va rfl rfl rfl (X.move ((hAL0.eq 0).trans (congrFun hF6 0))) ?_
      refine WL.va rfl rfl rfl (X.len re rfl Try.underlying22) ?_
      refine WL.va rfl rfl rfl (X.lss rfl rfl) ?_
      refine WL.nil ?_
      refine thn_n ?_
      refine WF.cond rfl (fun h1_7 => ?_) (fun h1_7 => ?_)
      · have gh1_7 := (of_decide_eq_true h1_7)
        have hk : k < E.length := by omega
        refine WF.skip ?_
        refine thn_n ?_
        refine WF.seq ?_
        refine WF.block ?_
        refine WF.seq ?_
        refine WF.seq ?_
        refine WF.region ?_
        refine WL.va rfl rfl rfl (X.move ((hAL0.eq 0).trans (congrFun hF6 0))) ?_
        refine WL.va rfl rfl rfl (X.moveI e3_L0) ?_
        refine WL.va rfl rfl rfl (X.idx re rfl rfl (by omega) Try.underlying22 Try.sizeOf61) ?_
        refine WL.va rfl rfl rfl (X.fieldAddrA rfl Try.underlying61 rfl rfl Try.sizeOf3) ?_
        refine WL.va rfl rfl rfl (X.loadE re hwL0 rfl (by omega) ((KRow.get hk (by decide)).trans rfl) Try.isAgg3) ?_
        refine WL.va rfl rfl rfl (X.lss rfl rfl) ?_
        refine WL.va rfl rfl rfl (X.moveB rfl) ?_
        refine WL.split (j := 6) rfl (fun h10 => ?_) (fun h10 => ?_)
        · have gh10 := (of_decide_eq_true h10)
          have hbad := badK_each hk (fun e => by have := e.1; omega)
          refine WL.p rfl rfl rfl (congrArg some h10) ?_
          refine WL.p rfl rfl rfl (congrArg some h10) ?_
          refine WL.p rfl rfl rfl (congrArg some h10) ?_
          refine WL.p rfl rfl rfl (congrArg some h10) ?_
          refine WL.p rfl rfl rfl (congrArg some h10) ?_
          refine WL.p rfl rfl rfl (congrArg some h10) ?_
          refine WL.va rfl rfl rfl (X.pickT rfl h10 rfl) ?_
          refine WL.va rfl rfl rfl (X.moveB rfl) ?_
          refine WL.p rfl rfl rfl rfl ?_
          refine WL.p rfl rfl rfl rfl ?_
          refine WL.p rfl rfl rfl rfl ?_
          refine WL.p rfl rfl rfl rfl ?_
          refine WL.p rfl rfl rfl rfl ?_
          refine WL.p rfl rfl rfl rfl ?_
          refine WL.p rfl rfl rfl rfl ?_
          refine WL.va rfl rfl rfl (X.pickT rfl rfl rfl) ?_
          refine WL.nil ?_
          refine thn_n ?_
          refine WF.cond_t rfl ?_
          refine WF.seq ?_
          refine WF.region ?_
          refine WL.va rfl rfl rfl (X.assignB rfl) ?_
          refine WL.nil ?_
          refine thn_n ?_
          refine WF.ret ?_
          refine thn_r ?_
          refine blk_r ?_
          refine thn_r ?_
          refine thn_r ?_
          refine blk_r ?_
          refine thn_r ?_
          refine fin_r ?_
          first | exact ⟨congrArg Value.bool hbad.symm, hwL0⟩ | exact ⟨congrArg Value.bool (goodK_all (by omega) (fun j hj => h1 j hj (by omega)) (fun j hj => h2 j hj (by omega))).symm, hwL0⟩
        · have gh10 := (of_decide_eq_false h10)
          refine WL.vg rfl (congrArg some h10) rfl rfl (X.move ((hAL0.eq 0).trans (congrFun hF6 0))) ?_
          refine WL.vg rfl (congrArg some h10) rfl rfl (X.moveI e3_L0) ?_
          refine WL.vg rfl (congrArg some h10) rfl rfl (X.idx re rfl rfl (by omega) Try.underlying22 Try.sizeOf61) ?_
          refine WL.vg rfl (congrArg some h10) rfl rfl (X.fieldAddrA rfl Try.underlying61 rfl rfl Try.sizeOf3) ?_
          refine WL.vg rfl (congrArg some h10) rfl rfl (X.loadE re hwL0 rfl (by omega) ((KRow.get hk (by decide)).trans rfl) Try.isAgg3) ?_
          refine WL.vg rfl (congrArg some h10) rfl rfl (X.gtr rfl rfl) ?_
          refine WL.va rfl rfl rfl (X.pickF rfl h10 rfl) ?_
          refine WL.va rfl rfl rfl (X.moveB rfl) ?_
          refine WL.split (j := 14) rfl (fun h15 => ?_) (fun h15 => ?_)
          · have gh15 := (of_decide_eq_true h15)
            have hbad := badK_each hk (fun e => by have := e.2.1; omega)
            refine WL.p rfl rfl rfl (congrArg some h15) ?_
            refine WL.p rfl rfl rfl (congrArg some h15) ?_
            refine WL.p rfl rfl rfl (congrArg some h15) ?_
            refine WL.p rfl rfl rfl (congrArg some h15) ?_
            refine WL.p rfl rfl rfl (congrArg some h15) ?_
            refine WL.p rfl rfl rfl (congrArg some h15) ?_
            refine WL.p rfl rfl rfl (congrArg some h15) ?_
            refine WL.va rfl rfl rfl (X.pickT rfl h15 rfl) ?_
            refine WL.nil ?_
            refine thn_n ?_
            refine WF.cond_t rfl ?_
            refine WF.seq ?_
            refine WF.region ?_
            refine WL.va rfl rfl rfl (X.assignB rfl) ?_
            refine WL.nil ?_
            refine thn_n ?_
            refine WF.ret ?_
            refine thn_r ?_
            refine blk_r ?_
            refine thn_r ?_
            refine thn_r ?_
            refine blk_r ?_
            refine thn_r ?_
            refine fin_r ?_
            first | exact ⟨congrArg Value.bool hbad.symm, hwL0⟩ | exact ⟨congrArg Value.bool (goodK_all (by omega) (fun j hj => h1 j hj (by omega)) (fun j hj => h2 j hj (by omega))).symm, hwL0⟩
          · have gh15 := (of_decide_eq_false h15)
            refine WL.vg rfl (congrArg some h15) rfl rfl (X.move ((hAL0.eq 0).trans (congrFun hF6 0))) ?_
            refine WL.vg rfl (congrArg some h15) rfl rfl (X.moveI e3_L0) ?_
            refine WL.vg rfl (congrArg some h15) rfl rfl (X.idx re rfl rfl (by omega) Try.underlying22 Try.sizeOf61) ?_
            refine WL.vg rfl (congrArg some h15) rfl rfl (X.fieldAddrA rfl Try.underlying61 rfl rfl Try.sizeOf34) ?_
            refine WL.vg rfl (congrArg some h15) rfl rfl (X.loadE re hwL0 rfl (by omega) ((KRow.get hk (by decide)).trans rfl) Try.isAgg34) ?_
            refine WL.vg rfl (congrArg some h15) rfl rfl (X.len (de _ (List.getElem_mem hk)) rfl Try.underlying34) ?_
            refine WL.vg rfl (congrArg some h15) rfl rfl (X.neq rfl rfl) ?_
            refine WL.va rfl rfl rfl (X.pickF rfl h15 rfl) ?_
            refine WL.nil ?_
            refine thn_n ?_
            refine WF.cond rfl (fun h2_18 => ?_) (fun h2_18 => ?_)
            · have gh2_18 := (of_decide_eq_true h2_18)
              have hbad := badK_each hk (fun e => by have := e.2.2; omega)
              refine WF.seq ?_
              refine WF.region ?_
              refine WL.va rfl rfl rfl (X.assignB rfl) ?_
              refine WL.nil ?_
              refine thn_n ?_
              refine WF.ret ?_
              refine thn_r ?_
              refine blk_r ?_
              refine thn_r ?_
              refine thn_r ?_
              refine blk_r ?_
              refine thn_r ?_
              refine fin_r ?_
              first | exact ⟨congrArg Value.bool hbad.symm, hwL0⟩ | exact ⟨congrArg Value.bool (goodK_all (by omega) (fun j hj => h1 j hj (by omega)) (fun j hj => h2 j hj (by omega))).symm, hwL0⟩
            · have gh2_18 := (Decidable.of_not_not (of_decide_eq_false h2_18))
              have heach : eachK (E[k]'hk).1 := ⟨by omega, by omega, by omega⟩
              refine WF.skip ?_
              refine thn_n ?_
              refine WF.seq ?_
              refine WF.drawn (.q 0 (.q 1 (.q 2 (.q 3 (.q 4 (.q 5 (.q 6 (.q 7 (.q 8 (.q 9 (.q 10 (.q 11 (.q 12 (.q 13 (.q 14 (.q 15 (.q 16 (.q 17 (.q 18 (.q 19 (.q 20 (.q 21 (.q 22 (.q 23 (.q 24 (.q 25 (.q 26 (.q 27 (.q 28 (.q 29 (.q 30 (.q 31 (.q 32 (.q 33 (.q 34 (.q 35 (.q 36 (.q 37 (.q 38 (.q 39 (.q 40 (.q 41 (.q 42 (.q 43 .nil)))))))))))))))))))))))))))))))))))))))))))) (fun w' => Ext wL0 w') 44 (by kernel_rfl) (by kernel_rfl) (Ext.drew _) ?_
              refine WO.q rfl rfl rfl rfl (fun w' hE21 => (X.moveI e3_L0)) ?_
              refine WO.q rfl rfl rfl rfl (fun w' hE21 => (X.gtr rfl rfl)) ?_
              refine WO.q rfl rfl rfl rfl (fun w' hE21 => (X.moveB rfl)) ?_
              refine WO.split (j := 2) rfl (fun h23 => ?_) (fun h23 => ?_)
              · have gh23 := (of_decide_eq_true h23)
                have hpos := gh23
                have hk1 : k - 1 < E.length := by omega
                refine WO.qg rfl rfl (congrArg some h23) rfl rfl (fun w' hE21 => (X.move ((hAL0.eq 0).trans (congrFun hF6 0)))) ?_
                refine WO.qg rfl rfl (congrArg some h23) rfl rfl (fun w' hE21 => (X.moveI e3_L0)) ?_
                refine WO.qg rfl rfl (congrArg some h23) rfl rfl (fun w' hE21 => (X.sub rfl rfl (show _ = ((k - 1 : Nat) : Int) from by rw [w64 (by omega)]; omega))) ?_
                refine WO.qg rfl rfl (congrArg some h23) rfl rfl (fun w' hE21 => (X.idx re rfl rfl hk1 Try.underlying22 Try.sizeOf61)) ?_
                refine WO.qg rfl rfl (congrArg some h23) rfl rfl (fun w' hE21 => (X.fieldAddrA rfl Try.underlying61 rfl rfl Try.sizeOf3)) ?_
                refine WO.qg rfl rfl (congrArg some h23) rfl rfl (fun w' hE21 => (X.loadE re (Ext.trans hwL0 hE21) rfl hk1 ((KRow.get hk1 (by decide)).trans rfl) Try.isAgg3)) ?_
                refine WO.qg rfl rfl (congrArg some h23) rfl rfl (fun w' hE21 => (X.move ((hAL0.eq 0).trans (congrFun hF6 0)))) ?_
                refine WO.qg rfl rfl (congrArg some h23) rfl rfl (fun w' hE21 => (X.moveI e3_L0)) ?_
                refine WO.qg rfl rfl (congrArg some h23) rfl rfl (fun w' hE21 => (X.idx re rfl rfl (by omega) Try.underlying22 Try.sizeOf61)) ?_
                refine WO.qg rfl rfl (congrArg some h23) rfl rfl (fun w' hE21 => (X.fieldAddrA rfl Try.underlying61 rfl rfl Try.sizeOf3)) ?_
                refine WO.qg rfl rfl (congrArg some h23) rfl rfl (fun w' hE21 => (X.loadE re (Ext.trans hwL0 hE21) rfl (by omega) ((KRow.get hk (by decide)).trans rfl) Try.isAgg3)) ?_
                refine WO.qg rfl rfl (congrArg some h23) rfl rfl (fun w' hE21 => (X.gtr rfl rfl)) ?_
                refine WO.qg rfl rfl (congrArg some h23) rfl rfl (fun w' hE21 => (X.moveB rfl)) ?_
                refine WO.split (j := 15) rfl (fun h25 => ?_) (fun h25 => ?_)
                · have gh25 := (of_decide_eq_true h25)
                  have hbad := badK_sort hk (by omega) (fun e => by unfold KLt at e; omega)
                  refine WO.qp rfl rfl rfl rfl (congrArg some h25) ?_
                  refine WO.qp rfl rfl rfl rfl (congrArg some h25) ?_
                  refine WO.qp rfl rfl rfl rfl (congrArg some h25) ?_
                  refine WO.qp rfl rfl rfl rfl (congrArg some h25) ?_
                  refine WO.qp rfl rfl rfl rfl (congrArg some h25) ?_
                  refine WO.qp rfl rfl rfl rfl (congrArg some h25) ?_
                  refine WO.qp rfl rfl rfl rfl (congrArg some h25) ?_
                  refine WO.qp rfl rfl rfl rfl (congrArg some h25) ?_
                  refine WO.qp rfl rfl rfl rfl (congrArg some h25) ?_
                  refine WO.qp rfl rfl rfl rfl (congrArg some h25) ?_
                  refine WO.qp rfl rfl rfl rfl (congrArg some h25) ?_
                  refine WO.qp rfl rfl rfl rfl (congrArg some h25) ?_
                  refine WO.qp rfl rfl rfl rfl (congrArg some h25) ?_
                  refine WO.qpn rfl rfl rfl rfl rfl ?_
                  refine WO.qpn rfl rfl rfl rfl rfl ?_
                  refine WO.qpn rfl rfl rfl rfl rfl ?_
                  refine WO.qpn rfl rfl rfl rfl rfl ?_
                  refine WO.qpn rfl rfl rfl rfl rfl ?_
                  refine WO.qpn rfl rfl rfl rfl rfl ?_
                  refine WO.qpn rfl rfl rfl rfl rfl ?_
                  refine WO.qpn rfl rfl rfl rfl rfl ?_
                  refine WO.qpn rfl rfl rfl rfl rfl ?_
                  refine WO.qpn rfl rfl rfl rfl rfl ?_
                  refine WO.qpn rfl rfl rfl rfl rfl ?_
                  refine WO.qpn rfl rfl rfl rfl rfl ?_
                  refine WO.qp rfl rfl rfl rfl (congrArg some h25) ?_
                  refine WO.qg rfl rfl (congrArg some h23) rfl rfl (fun w' hE21 => (X.pickT rfl h25 rfl)) ?_
                  refine WO.q rfl rfl rfl rfl (fun w' hE21 => (X.pickT rfl h23 rfl)) ?_
                  refine WO.nil ?_
                  refine WL.nil ?_
                  refine thn_n ?_
                  refine WF.cond_t rfl ?_
                  refine WF.seq ?_
                  refine WF.region ?_
                  refine WL.va rfl rfl rfl (X.assignB rfl) ?_
                  refine WL.nil ?_
                  refine thn_n ?_
                  refine WF.ret ?_
                  refine blk_r ?_
                  refine thn_r ?_
                  refine thn_r ?_
                  refine blk_r ?_
                  refine thn_r ?_
                  refine fin_r ?_
                  first | exact ⟨congrArg Value.bool hbad.symm, (Ext.trans hwL0 (Ext.drew _))⟩ | exact ⟨congrArg Value.bool (goodK_all (by omega) (fun j hj => h1 j hj (by omega)) (fun j hj => h2 j hj (by omega))).symm, (Ext.trans hwL0 (Ext.drew _))⟩
                · have gh25 := (of_decide_eq_false h25)
                  refine WO.qg rfl rfl (congrArg some h25) rfl rfl (fun w' hE21 => (X.move ((hAL0.eq 0).trans (congrFun hF6 0)))) ?_
                  refine WO.qg rfl rfl (congrArg some h25) rfl rfl (fun w' hE21 => (X.moveI e3_L0)) ?_
                  refine WO.qg rfl rfl (congrArg some h25) rfl rfl (fun w' hE21 => (X.sub rfl rfl (show _ = ((k - 1 : Nat) : Int) from by rw [w64 (by omega)]; omega))) ?_
                  refine WO.qg rfl rfl (congrArg some h25) rfl rfl (fun w' hE21 => (X.idx re rfl rfl hk1 Try.underlying22 Try.sizeOf61)) ?_
                  refine WO.qg rfl rfl (congrArg some h25) rfl rfl (fun w' hE21 => (X.fieldAddrA rfl Try.underlying61 rfl rfl Try.sizeOf3)) ?_
                  refine WO.qg rfl rfl (congrArg some h25) rfl rfl (fun w' hE21 => (X.loadE re (Ext.trans hwL0 hE21) rfl hk1 ((KRow.get hk1 (by decide)).trans rfl) Try.isAgg3)) ?_
                  refine WO.qg rfl rfl (congrArg some h25) rfl rfl (fun w' hE21 => (X.move ((hAL0.eq 0).trans (congrFun hF6 0)))) ?_
                  refine WO.qg rfl rfl (congrArg some h25) rfl rfl (fun w' hE21 => (X.moveI e3_L0)) ?_
                  refine WO.qg rfl rfl (congrArg some h25) rfl rfl (fun w' hE21 => (X.idx re rfl rfl (by omega) Try.underlying22 Try.sizeOf61)) ?_
                  refine WO.qg rfl rfl (congrArg some h25) rfl rfl (fun w' hE21 => (X.fieldAddrA rfl Try.underlying61 rfl rfl Try.sizeOf3)) ?_
                  refine WO.qg rfl rfl (congrArg some h25) rfl rfl (fun w' hE21 => (X.loadE re (Ext.trans hwL0 hE21) rfl (by omega) ((KRow.get hk (by decide)).trans rfl) Try.isAgg3)) ?_
                  refine WO.qg rfl rfl (congrArg some h25) rfl rfl (fun w' hE21 => (X.eql rfl rfl)) ?_
                  refine WO.qg rfl rfl (congrArg some h25) rfl rfl (fun w' hE21 => (X.moveB rfl)) ?_
                  refine WO.split (j := 28) rfl (fun h29 => ?_) (fun h29 => ?_)
                  · have gh29 := (of_decide_eq_true h29)
                    refine WO.qg rfl rfl (congrArg some h29) rfl rfl (fun w' hE21 => (X.move ((hAL0.eq 0).trans (congrFun hF6 0)))) ?_
                    refine WO.qg rfl rfl (congrArg some h29) rfl rfl (fun w' hE21 => (X.moveI e3_L0)) ?_
                    refine WO.qg rfl rfl (congrArg some h29) rfl rfl (fun w' hE21 => (X.sub rfl rfl (show _ = ((k - 1 : Nat) : Int) from by rw [w64 (by omega)]; omega))) ?_
                    refine WO.qg rfl rfl (congrArg some h29) rfl rfl (fun w' hE21 => (X.idx re rfl rfl hk1 Try.underlying22 Try.sizeOf61)) ?_
                    refine WO.qg rfl rfl (congrArg some h29) rfl rfl (fun w' hE21 => (X.fieldAddrA rfl Try.underlying61 rfl rfl Try.sizeOf3)) ?_
                    refine WO.qg rfl rfl (congrArg some h29) rfl rfl (fun w' hE21 => (X.loadE re (Ext.trans hwL0 hE21) rfl hk1 ((KRow.get hk1 (by decide)).trans rfl) Try.isAgg3)) ?_
                    refine WO.qg rfl rfl (congrArg some h29) rfl rfl (fun w' hE21 => (X.move ((hAL0.eq 0).trans (congrFun hF6 0)))) ?_
                    refine WO.qg rfl rfl (congrArg some h29) rfl rfl (fun w' hE21 => (X.moveI e3_L0)) ?_
                    refine WO.qg rfl rfl (congrArg some h29) rfl rfl (fun w' hE21 => (X.idx re rfl rfl (by omega) Try.underlying22 Try.sizeOf61)) ?_
                    refine WO.qg rfl rfl (congrArg some h29) rfl rfl (fun w' hE21 => (X.fieldAddrA rfl Try.underlying61 rfl rfl Try.sizeOf3)) ?_
                    refine WO.qg rfl rfl (congrArg some h29) rfl rfl (fun w' hE21 => (X.loadE re (Ext.trans hwL0 hE21) rfl (by omega) ((KRow.get hk (by decide)).trans rfl) Try.isAgg3)) ?_
                    refine WO.qg rfl rfl (congrArg some h29) rfl rfl (fun w' hE21 => (X.geq rfl rfl)) ?_
                    refine WO.qg rfl rfl (congrArg some h25) rfl rfl (fun w' hE21 => (X.pickT rfl h29 rfl)) ?_
                    refine WO.qg rfl rfl (congrArg some h23) rfl rfl (fun w' hE21 => (X.pickF rfl h25 rfl)) ?_
                    refine WO.q rfl rfl rfl rfl (fun w' hE21 => (X.pickT rfl h23 rfl)) ?_
                    refine WO.nil ?_
                    refine WL.nil ?_
                    refine thn_n ?_
                    refine WF.cond rfl (fun h3_30 => ?_) (fun h3_30 => ?_)
                    · have gh3_30 := (of_decide_eq_true h3_30)
                      have hbad := badK_sort hk (by omega) (fun e => by unfold KLt at e; omega)
                      refine WF.seq ?_
                      refine WF.region ?_
                      refine WL.va rfl rfl rfl (X.assignB rfl) ?_
                      refine WL.nil ?_
                      refine thn_n ?_
                      refine WF.ret ?_
                      refine blk_r ?_
                      refine thn_r ?_
                      refine thn_r ?_
                      refine blk_r ?_
                      refine thn_r ?_
                      refine fin_r ?_
                      first | exact ⟨congrArg Value.bool hbad.symm, (Ext.trans hwL0 (Ext.drew _))⟩ | exact ⟨congrArg Value.bool (goodK_all (by omega) (fun j hj => h1 j hj (by omega)) (fun j hj => h2 j hj (by omega))).symm, (Ext.trans hwL0 (Ext.drew _))⟩
                    · have gh3_30 := (of_decide_eq_false h3_30)
                      have hadj : ∀ h0 : 0 < k, KLt (E[k - 1]'(by omega)).1 (E[k]'hk).1 := fun h0 => by unfold KLt; omega
                      refine WF.skip ?_
                      refine blk_n ?_
                      refine thn_n ?_
                      refine WF.region ?_
                      refine WL.va rfl rfl rfl (X.moveI e3_L0) ?_
                      refine WL.va rfl rfl rfl (X.add rfl rfl (w64 (by omega))) ?_
                      refine WL.va rfl rfl rfl (X.assignI rfl) ?_
                      refine WL.nil ?_
                      exact thn_n ⟨_, (by omega), k + 1, rfl, rfl, (by repeat (first | exact hAL0 | refine Agree.put ?_ rfl | refine Agree.named hF6 ?_)), (Ext.trans hwL0 (Ext.drew _)), ⟨by omega, fun j hj h => by rcases Nat.lt_succ_iff_lt_or_eq.1 h with h | rfl; exact h1 j hj h; exact heach, fun j hj h => by rcases Nat.lt_succ_iff_lt_or_eq.1 h with h | rfl; exact h2 j hj h; exact hadj (by omega)⟩⟩
                  · have gh29 := (of_decide_eq_false h29)
                    have hadj : ∀ h0 : 0 < k, KLt (E[k - 1]'(by omega)).1 (E[k]'hk).1 := fun h0 => by unfold KLt; omega
                    refine WO.qp rfl rfl rfl rfl (congrArg some h29) ?_
                    refine WO.qp rfl rfl rfl rfl (congrArg some h29) ?_
                    refine WO.qp rfl rfl rfl rfl (congrArg some h29) ?_
                    refine WO.qp rfl rfl rfl rfl (congrArg some h29) ?_
                    refine WO.qp rfl rfl rfl rfl (congrArg some h29) ?_
                    refine WO.qp rfl rfl rfl rfl (congrArg some h29) ?_
                    refine WO.qp rfl rfl rfl rfl (congrArg some h29) ?_
                    refine WO.qp rfl rfl rfl rfl (congrArg some h29) ?_
                    refine WO.qp rfl rfl rfl rfl (congrArg some h29) ?_
                    refine WO.qp rfl rfl rfl rfl (congrArg some h29) ?_
                    refine WO.qp rfl rfl rfl rfl (congrArg some h29) ?_
                    refine WO.qp rfl rfl rfl rfl (congrArg some h29) ?_
                    refine WO.qg rfl rfl (congrArg some h25) rfl rfl (fun w' hE21 => (X.pickF rfl h29 rfl)) ?_
                    refine WO.qg rfl rfl (congrArg some h23) rfl rfl (fun w' hE21 => (X.pickF rfl h25 rfl)) ?_
                    refine WO.q rfl rfl rfl rfl (fun w' hE21 => (X.pickT rfl h23 rfl)) ?_
                    refine WO.nil ?_
                    refine WL.nil ?_
                    refine thn_n ?_
                    refine WF.cond_f rfl ?_
                    refine WF.skip ?_
                    refine blk_n ?_
                    refine thn_n ?_
                    refine WF.region ?_
                    refine WL.va rfl rfl rfl (X.moveI e3_L0) ?_
                    refine WL.va rfl rfl rfl (X.add rfl rfl (w64 (by omega))) ?_
                    refine WL.va rfl rfl rfl (X.assignI rfl) ?_
                    refine WL.nil ?_
                    exact thn_n ⟨_, (by omega), k + 1, rfl, rfl, (by repeat (first | exact hAL0 | refine Agree.put ?_ rfl | refine Agree.named hF6 ?_)), (Ext.trans hwL0 (Ext.drew _)), ⟨by omega, fun j hj h => by rcases Nat.lt_succ_iff_lt_or_eq.1 h with h | rfl; exact h1 j hj h; exact heach, fun j hj h => by rcases Nat.lt_succ_iff_lt_or_eq.1 h with h | rfl; exact h2 j hj h; exact hadj (by omega)⟩⟩
              · have gh23 := (of_decide_eq_false h23)
                have hadj : ∀ h0 : 0 < k, KLt (E[k - 1]'(by omega)).1 (E[k]'hk).1 := fun h0 => by omega
                refine WO.qp rfl rfl rfl rfl (congrArg some h23) ?_
                refine WO.qp rfl rfl rfl rfl (congrArg some h23) ?_
                refine WO.qp rfl rfl rfl rfl (congrArg some h23) ?_
                refine WO.qp rfl rfl rfl rfl (congrArg some h23) ?_
                refine WO.qp rfl rfl rfl rfl (congrArg some h23) ?_
                refine WO.qp rfl rfl rfl rfl (congrArg some h23) ?_
                refine WO.qp rfl rfl rfl rfl (congrArg some h23) ?_
                refine WO.qp rfl rfl rfl rfl (congrArg some h23) ?_
                refine WO.qp rfl rfl rfl rfl (congrArg some h23) ?_
                refine WO.qp rfl rfl rfl rfl (congrArg some h23) ?_
                refine WO.qp rfl rfl rfl rfl (congrArg some h23) ?_
                refine WO.qp rfl rfl rfl rfl (congrArg some h23) ?_
                refine WO.qp rfl rfl rfl rfl (congrArg some h23) ?_
                refine WO.qpn rfl rfl rfl rfl rfl ?_
                refine WO.qpn rfl rfl rfl rfl rfl ?_
                refine WO.qpn rfl rfl rfl rfl rfl ?_
                refine WO.qpn rfl rfl rfl rfl rfl ?_
                refine WO.qpn rfl rfl rfl rfl rfl ?_
                refine WO.qpn rfl rfl rfl rfl rfl ?_
                refine WO.qpn rfl rfl rfl rfl rfl ?_
                refine WO.qpn rfl rfl rfl rfl rfl ?_
                refine WO.qpn rfl rfl rfl rfl rfl ?_
                refine WO.qpn rfl rfl rfl rfl rfl ?_
                refine WO.qpn rfl rfl rfl rfl rfl ?_
                refine WO.qpn rfl rfl rfl rfl rfl ?_
                refine WO.qpn rfl rfl rfl rfl rfl ?_
                refine WO.qpn rfl rfl rfl rfl rfl ?_
                refine WO.qpn rfl rfl rfl rfl rfl ?_
                refine WO.qpn rfl rfl rfl rfl rfl ?_
                refine WO.qpn rfl rfl rfl rfl rfl ?_
                refine WO.qpn rfl rfl rfl rfl rfl ?_
                refine WO.qpn rfl rfl rfl rfl rfl ?_
                refine WO.qpn rfl rfl rfl rfl rfl ?_
                refine WO.qpn rfl rfl rfl rfl rfl ?_
                refine WO.qpn rfl rfl rfl rfl rfl ?_
                refine WO.qpn rfl rfl rfl rfl rfl ?_
                refine WO.qpn rfl rfl rfl rfl rfl ?_
                refine WO.qpn rfl rfl rfl rfl rfl ?_
                refine WO.qpn rfl rfl rfl rfl rfl ?_
                refine WO.qp rfl rfl rfl rfl (congrArg some h23) ?_
                refine WO.q rfl rfl rfl rfl (fun w' hE21 => (X.pickF rfl h23 rfl)) ?_
                refine WO.nil ?_
                refine WL.nil ?_
                refine thn_n ?_
                refine WF.cond_f rfl ?_
                refine WF.skip ?_
                refine blk_n ?_
                refine thn_n ?_
                refine WF.region ?_
                refine WL.va rfl rfl rfl (X.moveI e3_L0) ?_
                refine WL.va rfl rfl rfl (X.add rfl rfl (w64 (by omega))) ?_
                refine WL.va rfl rfl rfl (X.assignI rfl) ?_
                refine WL.nil ?_
                exact thn_n ⟨_, (by omega), k + 1, rfl, rfl, (by repeat (first | exact hAL0 | refine Agree.put ?_ rfl | refine Agree.named hF6 ?_)), (Ext.trans hwL0 (Ext.drew _)), ⟨by omega, fun j hj h => by rcases Nat.lt_succ_iff_lt_or_eq.1 h with h | rfl; exact h1 j hj h; exact heach, fun j hj h => by rcases Nat.lt_succ_iff_lt_or_eq.1 h with h | rfl; exact h2 j hj h; exact hadj (by omega)⟩⟩
      · have gh1_7 := (of_decide_eq_false h1_7)
        refine WF.exit ?_
        refine thn_x ?_
        refine thn_x ?_
        refine blk_eq ?_
        refine thn_n ?_
        refine WF.seq ?_
        refine WF.region ?_
        refine WL.va rfl rfl rfl (X.assignB rfl) ?_
        refine WL.nil ?_
        refine thn_n ?_
        refine WF.ret ?_
        refine fin_r ?_
        first | exact ⟨congrArg Value.bool hbad.symm, hwL0⟩ | exact ⟨congrArg Value.bool (goodK_all (by omega) (fun j hj => h1 j hj (by omega)) (fun j hj => h2 j hj (by omega))).symm, hwL0⟩

set_option maxHeartbeats 1600000 in
theorem known_ok (w : World) : FnOk Try.prog 12 [] w (fun r w' => r = .bool true ∧ Ext w w') := by
  refine FnOk.enter (rs := [0]) Try.func12 rfl Try.ntmps12 Try.results12 rfl rfl ?_
  refine WF.seq ?_
  refine WF.region ?_
  refine WL.va rfl rfl rfl (X.assignB rfl) ?_
  refine WL.nil ?_
  refine thn_n ?_
  refine WF.seq ?_
  refine WF.region ?_
  refine WL.op rfl (OW.lits (vs := [u8 1, u8 2, u8 3, u8 4]) (evp_cons rfl (evp_cons rfl (evp_cons rfl (evp_cons rfl evp_nil)))) Try.underlying34 Try.sizeOf5 Try.zeroValue5 ⟨rfl, rfl, rfl, rfl, trivial⟩ rfl rfl rfl ?_ (by decide))
  intro v3 w2 ho5 hx4
  have b1 : Bytes w2 v3 four := Row.of_own ho5
  refine WL.c rfl rfl rfl (X.call Try.call24 (evl_cons rfl (evl_cons rfl (evl_cons rfl evl_nil)))) (set_ok _ [] 5 _ four _ (Bls.nil _) RightB.nil b1) ?_
  rintro v6 w1 ⟨⟨F1, hF1, oF1⟩, hx7⟩
  have s1 : Bls w1 v6 kB1 := oF1.sessE (hF1.trans kB1_eq)
  refine WL.va rfl rfl rfl (X.assign rfl) ?_
  refine WL.nil ?_
  refine thn_n ?_
  refine WF.seq ?_
  refine WF.region ?_
  refine WL.va rfl rfl rfl (X.buildL (P := Try.prog) (t := 30) (cs := [i64 4, i64 6]) (evp_cons rfl (evp_cons rfl evp_nil)) Try.type30 Try.underlying30 rfl rfl ⟨rfl, rfl, trivial⟩ rfl) ?_
  refine WL.va rfl rfl rfl (X.move rfl) ?_
  refine WL.c rfl rfl rfl (X.call Try.call15 (evl_cons rfl (evl_cons rfl (evl_cons rfl (evl_cons rfl evl_nil))))) (keep_ok _ [] 7 4 6 _ kB1 _ (Kps.nil _) RightK.nil (by decide) (s1.ext (Ext.refl w1)) kB1_right) ?_
  rintro v8 w2 ⟨⟨F2, hF2, oF2⟩, hx9⟩
  have hF3 := hF2.trans kK1_eq
  have s2 : Kps w2 v8 kK1 := oF2.sessE hF3
  have hl2 : F2.length = 2 := by have := congrArg List.length hF3; simpa using this
  refine WL.va rfl rfl rfl (X.assign rfl) ?_
  refine WL.nil ?_
  refine thn_n ?_
  refine WF.seq ?_
  refine WF.region ?_
  refine WL.va rfl rfl rfl (X.move rfl) ?_
  refine WL.op rfl (OW.makeB (n := 4) rfl rfl Try.underlying34 Try.type5 rfl rfl rfl (by omega) ?_ (by decide))
  intro v11 w10 ho13 hx12
  have om3 := ho13
  refine WL.c rfl rfl rfl (X.call Try.call24 (evl_cons rfl (evl_cons rfl (evl_cons rfl evl_nil)))) (set_ok _ kB1 5 _ zero4 _ (s1.ext (Ext.trans hx9 hx12)) kB1_right (Bytes.of_own om3)) ?_
  rintro v15 w14 ⟨⟨F4, hF4, oF4⟩, hx16⟩
  have hl4 : F4.length = 0 := by have := congrArg List.length (hF4.trans kB0_eq); simpa using this
  refine WL.va rfl rfl rfl (X.assign rfl) ?_
  refine WL.nil ?_
  refine thn_n ?_
  refine WF.seq ?_
  refine WF.region ?_
  refine WL.va rfl rfl rfl (X.move rfl) ?_
  refine WL.c rfl rfl rfl (X.call Try.call17 (evl_cons rfl (evl_cons rfl (evl_cons rfl evl_nil)))) (kept_ok _ kK1 7 5 _ (s2.ext (Ext.trans hx12 hx16)) kK1_right.sort kK1_dat) ?_
  rintro v17 wa ⟨⟨da, rfl, oa⟩, hx18⟩
  refine WL.va rfl rfl rfl (X.move rfl) ?_
  refine WL.va rfl rfl rfl (X.extract rfl rfl) ?_
  refine WL.va rfl rfl rfl (X.extract rfl rfl) ?_
  refine WL.va rfl rfl rfl (X.assign rfl) ?_
  refine WL.va rfl rfl rfl (X.assignB rfl) ?_
  refine WL.nil ?_
  refine thn_n ?_
  refine WF.seq ?_
  refine WF.region ?_
  refine WL.va rfl rfl rfl (X.move rfl) ?_
  refine WL.c rfl rfl rfl (X.call Try.call17 (evl_cons rfl (evl_cons rfl (evl_cons rfl evl_nil)))) (kept_ok _ kK1 7 4 _ (s2.ext (Ext.trans (Ext.trans hx12 hx16) hx18)) kK1_right.sort kK1_dat) ?_
  rintro v20 wb ⟨⟨db, rfl, ob⟩, hx21⟩
  refine WL.va rfl rfl rfl (X.move rfl) ?_
  refine WL.va rfl rfl rfl (X.extract rfl rfl) ?_
  refine WL.va rfl rfl rfl (X.extract rfl rfl) ?_
  refine WL.va rfl rfl rfl (X.assign rfl) ?_
  refine WL.va rfl rfl rfl (X.assignB rfl) ?_
  refine WL.nil ?_
  refine thn_n ?_
  refine WF.seq ?_
  refine WF.region ?_
  refine WL.va rfl rfl rfl (X.move rfl) ?_
  refine WL.c rfl rfl rfl (X.call Try.call17 (evl_cons rfl (evl_cons rfl (evl_cons rfl evl_nil)))) (kept_ok _ kK1 7 6 _ (s2.ext (Ext.trans (Ext.trans (Ext.trans hx12 hx16) hx18) hx21)) kK1_right.sort kK1_dat) ?_
  rintro v24 w23 ⟨⟨dc, rfl, oc⟩, hx25⟩
  refine WL.va rfl rfl rfl (X.move rfl) ?_
  refine WL.va rfl rfl rfl (X.extract rfl rfl) ?_
  refine WL.va rfl rfl rfl (X.extract rfl rfl) ?_
  refine WL.va rfl rfl rfl (X.assign rfl) ?_
  refine WL.va rfl rfl rfl (X.assignB rfl) ?_
  refine WL.nil ?_
  refine thn_n ?_
  refine WF.seq ?_
  refine WF.region ?_
  refine WL.va rfl rfl rfl (X.move rfl) ?_
  refine WL.va rfl rfl rfl (X.len oF4.srow rfl Try.underlying25) ?_
  refine WL.va rfl rfl rfl (X.eql rfl rfl) ?_
  refine WL.va rfl rfl rfl (X.moveB rfl) ?_
  refine WL.split (j := 3) rfl (fun h28 => ?_) (fun h28 => ?_)
  · have gh28 := (of_decide_eq_true h28)
    refine WL.vg rfl (congrArg some h28) rfl rfl (X.move rfl) ?_
    refine WL.vg rfl (congrArg some h28) rfl rfl (X.len oF2.srow rfl Try.underlying22) ?_
    refine WL.vg rfl (congrArg some h28) rfl rfl (X.eql rfl rfl) ?_
    refine WL.va rfl rfl rfl (X.pickT rfl h28 rfl) ?_
    refine WL.va rfl rfl rfl (X.moveB rfl) ?_
    refine WL.split (j := 8) rfl (fun h30 => ?_) (fun h30 => ?_)
    · have gh30 := (of_decide_eq_true h30)
      refine WL.vg rfl (congrArg some h30) rfl rfl (X.moveB rfl) ?_
      refine WL.va rfl rfl rfl (X.pickT rfl h30 rfl) ?_
      refine WL.va rfl rfl rfl (X.moveB rfl) ?_
      refine WL.split (j := 11) rfl (fun h31 => ?_) (fun h31 => ?_)
      · have gh31 := h31
        refine WL.vg rfl (congrArg some h31) rfl rfl (X.moveB rfl) ?_
        refine WL.va rfl rfl rfl (X.pickT rfl h31 rfl) ?_
        refine WL.va rfl rfl rfl (X.moveB rfl) ?_
        refine WL.split (j := 14) rfl (fun h32 => ?_) (fun h32 => ?_)
        · have gh32 := h32
          refine WL.vg rfl (congrArg some h32) rfl rfl (X.moveB rfl) ?_
          refine WL.vg rfl (congrArg some h32) rfl rfl (X.not rfl) ?_
          refine WL.va rfl rfl rfl (X.pickT rfl h32 rfl) ?_
          refine WL.va rfl rfl rfl (X.moveB rfl) ?_
          refine WL.split (j := 18) rfl (fun h34 => ?_) (fun h34 => ?_)
          · have gh34 := (nt h34)
            refine WL.vg rfl (congrArg some h34) rfl rfl (X.move rfl) ?_
            refine WL.opg rfl (congrArg some h34) (OW.lits (vs := [u8 1, u8 2, u8 3, u8 4]) (evp_cons rfl (evp_cons rfl (evp_cons rfl (evp_cons rfl evp_nil)))) Try.underlying34 Try.sizeOf5 Try.zeroValue5 ⟨rfl, rfl, rfl, rfl, trivial⟩ rfl rfl rfl ?_ (by decide))
            intro v36 w35 ho38 hx37
            have b7 : Bytes w35 v36 four := Row.of_own ho38
            refine WL.cg rfl (congrArg some h34) rfl rfl (X.call Try.call20 (evl_cons rfl (evl_cons rfl evl_nil))) (sameBytes_ok _ _ _ four _ (Row.ext (Bytes.of_own oa) (Ext.trans (Ext.trans hx21 hx25) hx37)) b7) ?_
            rintro v40 w39 ⟨rfl, hx41⟩
            refine WL.va rfl rfl rfl (X.pickT rfl h34 rfl) ?_
            refine WL.va rfl rfl rfl (X.moveB rfl) ?_
            refine WL.split (j := 23) rfl (fun h43 => ?_) (fun h43 => ?_)
            · have gh43 := (of_decide_eq_true h43)
              refine WL.vg rfl (congrArg some h43) rfl rfl (X.move rfl) ?_
              refine WL.opg rfl (congrArg some h43) (OW.makeB (n := 4) rfl rfl Try.underlying34 Try.type5 rfl rfl rfl (by omega) ?_ (by decide))
              intro v45 w44 ho47 hx46
              have om7 := ho47
              refine WL.cg rfl (congrArg some h43) rfl rfl (X.call Try.call20 (evl_cons rfl (evl_cons rfl evl_nil))) (sameBytes_ok _ _ _ zero4 _ (Row.ext (Bytes.of_own ob) (Ext.trans (Ext.trans (Ext.trans hx25 hx37) hx41) hx46)) (Bytes.of_own om7)) ?_
              rintro v49 w48 ⟨rfl, hx50⟩
              refine WL.va rfl rfl rfl (X.pickT rfl h43 rfl) ?_
              refine WL.va rfl rfl rfl (X.assignB rfl) ?_
              refine WL.nil ?_
              refine thn_n ?_
              refine WF.ret ?_
              refine fin_r ?_
              exact ⟨congrArg Value.bool (by decide), (Ext.trans (Ext.trans (Ext.trans (Ext.trans (Ext.trans (Ext.trans (Ext.trans (Ext.trans (Ext.trans (Ext.trans (Ext.trans hx4 hx7) hx9) hx12) hx16) hx18) hx21) hx25) hx37) hx41) hx46) hx50)⟩
            · have gh43 := (of_decide_eq_false h43)
              exact absurd (by decide) gh43
          · have gh34 := (nf h34)
            exact absurd gh34 (by decide)
        · have gh32 := h32
          exact absurd gh32 (by decide)
      · have gh31 := h31
        exact absurd gh31 (by decide)
    · have gh30 := (of_decide_eq_false h30)
      exact absurd (by rw [hl2]; rfl) gh30
  · have gh28 := (of_decide_eq_false h28)
    exact absurd (by rw [hl4]; rfl) gh28

end Go.Proofs.Ytcaimmbhdfoniaa
