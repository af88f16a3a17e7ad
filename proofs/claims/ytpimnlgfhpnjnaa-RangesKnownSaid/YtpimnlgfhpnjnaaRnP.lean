/- The walks of PutMap and of RangesCheck. -/
import Derived.Test.YtpimnlgfhpnjnaaRnE
import Derived.Test.YtpimnlgfhpnjnaaPackK
namespace Go.Proofs.Ytpimnlgfhpnjnaa
open Go Go.RowKit Kf
set_option maxRecDepth 20000

/-- the bytes of the first k ranges of a map -/
def rgsB (l : List Rg) (k : Nat) : List UInt8 := Pk.enc l.length ++ ((l.take k).flatMap Rg.ints).flatMap Pk.enc
def mpB (m : Mp) : List UInt8 := rgsB m.R m.R.length ++ (m.E :: m.M.ints).flatMap Pk.enc
theorem ints4 (l : List Rg) : (l.flatMap Rg.ints).length = 4 * l.length := by
  induction l with
  | nil => rfl
  | cons a l ih => rw [List.flatMap_cons, List.length_append, ih]; simp [Rg.ints]; omega
theorem rgsB_len (l : List Rg) (k : Nat) : (rgsB l k).length = 8 + 32 * min k l.length := by
  unfold rgsB
  rw [List.length_append, Pk.flat_len, ints4, Pk.enc_len, List.length_take]; omega
theorem mpB_len (m : Mp) : (mpB m).length = 56 + 32 * m.R.length := by
  unfold mpB
  rw [List.length_append, rgsB_len, Pk.flat_len]; simp [Mv.ints]; omega
theorem rgsB_succ {l : List Rg} {k : Nat} (hk : k < l.length) : rgsB l (k + 1) = rgsB l k ++ (l[k].ints).flatMap Pk.enc := by
  unfold rgsB
  rw [List.take_succ_eq_append_getElem hk, List.flatMap_append, List.flatMap_append]
  simp
theorem flat_snoc (l : List Int) (k : Nat) (hk : k < l.length) : (l.take (k + 1)).flatMap Pk.enc = (l.take k).flatMap Pk.enc ++ Pk.enc (l.getD k 0) := by
  rw [List.take_succ_eq_append_getElem hk, List.flatMap_append]
  simp [hk]
theorem sameBytes_self {a b : List UInt8} {va vb : Value} {w : World} (ha : Bytes w va a) (hb : Bytes w vb b) (e : a = b) : FnOk Try.prog 27 [va, vb] w (fun r w' => r = .bool true ∧ Ext w w') := by
  have := sameBytes_ok _ _ _ _ _ ha hb
  rwa [decide_eq_true e] at this
theorem keptRanges_self {l : List Rg} {va vl : Value} {w : World} (ha : Rgs w va (l ++ List.replicate 5 filler)) (hb : Rgs w vl l) (hm : l.length ≤ 1000000) : FnOk Try.prog 30 [va, vl] w (fun r w' => r = .bool true ∧ Ext w w') := by
  have := keptRanges_ok _ _ _ _ _ ha hb hm
  rwa [decide_eq_true rfl] at this
theorem rints_ok (v : Value) (l : List UInt8) (u : Value) (m : List Int) (w : World) (hb : Bytes w v l) (hm : Ints w u m) (hn : l.length + 8 * m.length + 8 ≤ 140737488355320) (h0 : 0 < m.length) : FnOk Try.prog 63 [v, u] w (fun r w' => OwnB w' w.heap.size 5 r (l ++ m.flatMap Pk.enc) ∧ Ext w w') := by
  have hl2 : ∀ k, ((m.take k).flatMap Pk.enc).length ≤ 8 * m.length := fun k => by rw [Pk.flat_len, List.length_take]; omega
  refine FnOk.enter (rs := [4]) Try.func63 rfl Try.ntmps63 Try.results63 rfl rfl ?_
  refine WF.seq ?_
  refine WF.region ?_
  refine WL.va rfl rfl rfl (X.assign rfl) ?_
  refine WL.nil ?_
  refine thn_n ?_
  refine WF.seq ?_
  refine WF.seq ?_
  refine WF.region ?_
  refine WL.va rfl rfl rfl (X.move rfl) ?_
  refine WL.va rfl rfl rfl (X.len hm rfl Try.underlying69) ?_
  refine WL.va rfl rfl rfl (X.moveI rfl) ?_
  refine WL.nil ?_
  refine thn_n ?_
  refine WF.block ?_
  refine WF.named (fun F1 hF2 => ?_)
  refine WF.loopN (fun mL0 f' w' => ∃ (k : Nat) (vb : Value), mL0 = m.length - k ∧ f' 9 = .int .i64 (k : Int) ∧ f' 0 = vb ∧ Agree [1, 4, 7, 8] f' F1 ∧ Ext w w' ∧ k ≤ m.length ∧ Bytes w' vb (l ++ (m.take k).flatMap Pk.enc) ∧ (0 < k → OwnB w' w.heap.size 5 vb (l ++ (m.take k).flatMap Pk.enc))) ?_ ?_
  · exact ⟨_, 0, v, rfl, (congrFun hF2 9), (congrFun hF2 0), (Agree.refl _ _), (Ext.refl _), ⟨Nat.zero_le _, (by rw [List.take_zero]; show Bytes _ _ (l ++ []); rw [List.append_nil]; exact Row.ext hb (Ext.refl w)), fun h => by omega⟩⟩
  · rintro mL0 fL0 wL0 ⟨k, vb, hmL0, e9_L0, e0_L0, hAL0, hwL0, ⟨hk, hc, ho⟩⟩
    refine WF.seq ?_
    refine WF.region ?_
    refine WL.va rfl rfl rfl (X.lss e9_L0 ((hAL0.eq 8).trans (congrFun hF2 8))) ?_
    refine WL.nil ?_
    refine thn_n ?_
    refine WF.seq ?_
    refine WF.cond rfl (fun h0_3 => ?_) (fun h0_3 => ?_)
    · have gh0_3 := (of_decide_eq_true h0_3)
      have hk2 : k < m.length := by omega
      refine WF.skip ?_
      refine thn_n ?_
      refine WF.seq ?_
      refine WF.block ?_
      refine WF.seq ?_
      refine WF.region ?_
      refine WL.va rfl rfl rfl (X.idx hm ((hAL0.eq 7).trans (congrFun hF2 7)) e9_L0 (by omega) Try.underlying69 Try.sizeOf3) ?_
      refine WL.va rfl rfl rfl (X.loadI hm hwL0 rfl (by omega) Try.isAgg3) ?_
      refine WL.va rfl rfl rfl (X.assignI rfl) ?_
      refine WL.nil ?_
      refine thn_n ?_
      refine WF.region ?_
      refine WL.va rfl rfl rfl (X.move e0_L0) ?_
      refine WL.va rfl rfl rfl (X.moveI rfl) ?_
      have hzk := World.grownBy.size (show Ext w wL0 from hwL0)
      refine WL.c rfl rfl rfl (X.call Try.call62 (evl_cons rfl (evl_cons rfl evl_nil))) (int_ok _ _ _ _ (Row.ext hc (Ext.refl wL0)) (by rw [List.length_append]; have := hl2 k; omega)) ?_
      rintro v6 w5 ⟨o1, hx7⟩
      refine WL.va rfl rfl rfl (X.assign rfl) ?_
      refine WL.nil ?_
      refine blk_n ?_
      refine thn_n ?_
      refine WF.region ?_
      refine WL.va rfl rfl rfl (X.add e9_L0 rfl (w64 (by omega))) ?_
      refine WL.va rfl rfl rfl (X.moveI rfl) ?_
      refine WL.nil ?_
      exact thn_n ⟨_, (by omega), k + 1, _, rfl, rfl, rfl, (by repeat (first | exact hAL0 | refine Agree.put ?_ rfl | refine Agree.named hF2 ?_)), (Ext.trans hwL0 hx7), ⟨by omega, (by rw [flat_snoc m k hk2, ← List.append_assoc]; exact Row.of_own o1), fun _ => by rw [flat_snoc m k hk2, ← List.append_assoc]; exact own_mono o1 hzk⟩⟩
    · have gh0_3 := (of_decide_eq_false h0_3)
      refine WF.exit ?_
      refine thn_x ?_
      refine thn_x ?_
      refine blk_eq ?_
      refine thn_n ?_
      refine WF.seq ?_
      refine WF.region ?_
      refine WL.va rfl rfl rfl (X.move e0_L0) ?_
      refine WL.va rfl rfl rfl (X.assign rfl) ?_
      refine WL.nil ?_
      refine thn_n ?_
      refine WF.ret ?_
      refine fin_r ?_
      obtain rfl : k = m.length := by omega
      rw [List.take_length] at ho
      exact ⟨own_ext (ho h0) (Ext.refl _), hwL0⟩

set_option maxHeartbeats 1000000 in
theorem putMap_ok (m : Mp) (v : Value) (w : World) (hv : Rgs w v m.R) (hz : m.R.length ≤ 1000000) : FnOk Try.prog 28 [agg (m.c v)] w (fun r w' => OwnB w' w.heap.size 5 r (mpB m) ∧ Ext w w') := by
  have hrl := rgsB_len m.R
  refine FnOk.enter (rs := [2]) Try.func28 rfl Try.ntmps28 Try.results28 rfl rfl ?_
  refine WF.seq ?_
  refine WF.region ?_
  refine WL.op rfl (OW.boxA (cs := (m.c v)) rfl ?_ (by decide))
  intro g1 w1 heg1 hlg1 hO1 hx3
  have := World.grownBy.size hx3
  refine WL.va rfl rfl rfl (X.assign rfl) ?_
  refine WL.nil ?_
  refine thn_n ?_
  refine WF.seq ?_
  refine WF.region ?_
  refine WL.va rfl rfl rfl (X.fieldAddrO (off := 0) rfl Try.underlying26 rfl rfl Try.sizeOf22) ?_
  refine WL.va rfl rfl rfl (X.loadO hO1 (Ext.refl _) rfl rfl Try.isAgg22) ?_
  refine WL.va rfl rfl rfl (X.len hv rfl Try.underlying22) ?_
  refine WL.c rfl rfl rfl (X.call Try.call62 (evl_cons rfl (evl_cons rfl evl_nil))) (int_ok _ [] _ _ (Bytes.nil _) (by decide)) ?_
  rintro v5 w0b ⟨o0, hx6⟩
  have := World.grownBy.size hx6
  have hz0 := World.grownBy.size hx6
  refine WL.va rfl rfl rfl (X.assign rfl) ?_
  refine WL.nil ?_
  refine thn_n ?_
  refine WF.seq ?_
  refine WF.seq ?_
  refine WF.region ?_
  refine WL.va rfl rfl rfl (X.fieldAddrO (off := 0) rfl Try.underlying26 rfl rfl Try.sizeOf22) ?_
  refine WL.va rfl rfl rfl (X.loadO hO1 hx6 rfl rfl Try.isAgg22) ?_
  refine WL.va rfl rfl rfl (X.len hv rfl Try.underlying22) ?_
  refine WL.va rfl rfl rfl (X.moveI rfl) ?_
  refine WL.nil ?_
  refine thn_n ?_
  refine WF.block ?_
  refine WF.named (fun F7 hF8 => ?_)
  refine WF.loopN (fun mL0 f' w' => ∃ (k : Nat) (vb : Value), mL0 = m.R.length - k ∧ f' 13 = .int .i64 (k : Int) ∧ f' 3 = vb ∧ Agree [0, 1, 2, 6, 7, 8, 9, 10, 11, 12] f' F7 ∧ Ext w0b w' ∧ k ≤ m.R.length ∧ OwnB w' w.heap.size 5 vb (rgsB m.R k)) ?_ ?_
  · exact ⟨_, 0, _, rfl, (congrFun hF8 13), (congrFun hF8 3), (Agree.refl _ _), (Ext.refl _), ⟨Nat.zero_le _, own_mono (by rw [List.nil_append] at o0; unfold rgsB; rw [List.take_zero]; show OwnB _ _ _ _ (_ ++ []); rw [List.append_nil]; exact o0) (by omega)⟩⟩
  · rintro mL0 fL0 wL0 ⟨k, vb, hmL0, e13_L0, e3_L0, hAL0, hwL0, ⟨hk0, ob⟩⟩
    have := World.grownBy.size hwL0
    refine WF.seq ?_
    refine WF.region ?_
    refine WL.va rfl rfl rfl (X.lss e13_L0 ((hAL0.eq 12).trans (congrFun hF8 12))) ?_
    refine WL.nil ?_
    refine thn_n ?_
    refine WF.seq ?_
    refine WF.cond rfl (fun h0_9 => ?_) (fun h0_9 => ?_)
    · have gh0_9 := (of_decide_eq_true h0_9)
      have hk : k < m.R.length := by omega
      refine WF.skip ?_
      refine thn_n ?_
      refine WF.seq ?_
      refine WF.block ?_
      refine WF.seq ?_
      refine WF.region ?_
      refine WL.va rfl rfl rfl (X.idx hv ((hAL0.eq 11).trans (congrFun hF8 11)) e13_L0 (by omega) Try.underlying22 Try.sizeOf41) ?_
      refine WL.va rfl rfl rfl (X.loadEl hv (Ext.trans (Ext.trans hx3 hx6) hwL0) rfl (by omega) (Rgs.el (l := m.R) (k := k) hk) Try.isAgg41 Try.sizeOf41) ?_
      refine WL.op rfl (OW.allocO (cs := [i64 0, i64 0, i64 0, i64 0]) Try.zeroValue41 rfl ?_ (by decide))
      intro g5 w11 heg5 hlg5 hO5 hx13
      have := World.grownBy.size hx13
      refine WL.op rfl (OW.storeOA hO5 rfl rfl rfl (Rg.c_one _) Try.sizeOf41 ?_)
      intro w15 hO5 hx17
      have := World.grownBy.size hx17
      replace hO1 := (hO1.ext (Ext.trans (Ext.trans hx6 hwL0) hx13)).keptO hx17 (by omega)
      refine WL.nil ?_
      refine thn_n ?_
      refine WF.region ?_
      refine WL.va rfl rfl rfl (X.move e3_L0) ?_
      refine WL.va rfl rfl rfl (X.fieldAddrO (off := 0) rfl Try.underlying41 rfl rfl Try.sizeOf3) ?_
      refine WL.va rfl rfl rfl (X.loadO hO5 (Ext.refl _) rfl rfl Try.isAgg3) ?_
      refine WL.va rfl rfl rfl (X.fieldAddrO (off := 1) rfl Try.underlying41 rfl rfl Try.sizeOf3) ?_
      refine WL.va rfl rfl rfl (X.loadO hO5 (Ext.refl _) rfl rfl Try.isAgg3) ?_
      refine WL.va rfl rfl rfl (X.fieldAddrO (off := 2) rfl Try.underlying41 rfl rfl Try.sizeOf3) ?_
      refine WL.va rfl rfl rfl (X.loadO hO5 (Ext.refl _) rfl rfl Try.isAgg3) ?_
      refine WL.va rfl rfl rfl (X.fieldAddrO (off := 3) rfl Try.underlying41 rfl rfl Try.sizeOf3) ?_
      refine WL.va rfl rfl rfl (X.loadO hO5 (Ext.refl _) rfl rfl Try.isAgg3) ?_
      refine WL.op rfl (OW.lits (vs := ((m.R[k]'hk).c)) (evp_cons rfl (evp_cons rfl (evp_cons rfl (evp_cons rfl evp_nil)))) Try.underlying69 Try.sizeOf3 Try.zeroValue3 ⟨rfl, rfl, rfl, rfl, trivial⟩ rfl rfl rfl ?_ (by decide))
      intro v19 wA ho21 hx20
      have := World.grownBy.size hx20
      have oA : Ints wA _ (m.R[k]'hk).ints := Row.of_own ho21
      have hzk := World.grownBy.size (show Ext w wA from (Ext.trans (Ext.trans (Ext.trans (Ext.trans hx3 hx6) hwL0) (Ext.store hx13 hx17 (by omega))) hx20))
      refine WL.c rfl rfl rfl (X.call Try.call63 (evl_cons rfl (evl_cons rfl evl_nil))) (rints_ok _ _ _ _ _ (Row.ext (Row.of_own ob) (Ext.trans (Ext.store hx13 hx17 (by omega)) hx20)) (Row.ext oA (Ext.refl wA)) (by have := hrl k; simp; omega) (Nat.succ_pos _)) ?_
      rintro v23 w22 ⟨o1, hx24⟩
      have := World.grownBy.size hx24
      refine WL.va rfl rfl rfl (X.assign rfl) ?_
      refine WL.nil ?_
      refine blk_n ?_
      refine thn_n ?_
      refine WF.region ?_
      refine WL.va rfl rfl rfl (X.add e13_L0 rfl (w64 (by omega))) ?_
      refine WL.va rfl rfl rfl (X.moveI rfl) ?_
      refine WL.nil ?_
      exact thn_n ⟨_, (by omega), k + 1, _, rfl, rfl, rfl, (by repeat (first | exact hAL0 | refine Agree.put ?_ rfl | refine Agree.named hF8 ?_)), (Ext.trans (Ext.trans (Ext.trans hwL0 (Ext.store hx13 hx17 (by omega))) hx20) hx24), ⟨by omega, by rw [rgsB_succ hk]; exact own_mono o1 hzk⟩⟩
    · have gh0_9 := (of_decide_eq_false h0_9)
      refine WF.exit ?_
      refine thn_x ?_
      refine thn_x ?_
      refine blk_eq ?_
      refine thn_n ?_
      refine WF.seq ?_
      refine WF.region ?_
      refine WL.va rfl rfl rfl (X.move e3_L0) ?_
      refine WL.va rfl rfl rfl (X.fieldAddrO (off := 1) ((hAL0.eq 1).trans (congrFun hF8 1)) Try.underlying26 rfl rfl Try.sizeOf3) ?_
      refine WL.va rfl rfl rfl (X.loadO hO1 (Ext.trans hx6 hwL0) rfl rfl Try.isAgg3) ?_
      refine WL.va rfl rfl rfl (X.fieldAddrO (off := 2) ((hAL0.eq 1).trans (congrFun hF8 1)) Try.underlying26 rfl rfl Try.sizeOf24) ?_
      refine WL.va rfl rfl rfl (X.fieldAddrP (off := 0) rfl Try.underlying24 rfl rfl Try.sizeOf3) ?_
      refine WL.va rfl rfl rfl (X.loadO hO1 (Ext.trans hx6 hwL0) rfl rfl Try.isAgg3) ?_
      refine WL.va rfl rfl rfl (X.fieldAddrO (off := 2) ((hAL0.eq 1).trans (congrFun hF8 1)) Try.underlying26 rfl rfl Try.sizeOf24) ?_
      refine WL.va rfl rfl rfl (X.fieldAddrP (off := 1) rfl Try.underlying24 rfl rfl Try.sizeOf3) ?_
      refine WL.va rfl rfl rfl (X.loadO hO1 (Ext.trans hx6 hwL0) rfl rfl Try.isAgg3) ?_
      refine WL.va rfl rfl rfl (X.fieldAddrO (off := 2) ((hAL0.eq 1).trans (congrFun hF8 1)) Try.underlying26 rfl rfl Try.sizeOf24) ?_
      refine WL.va rfl rfl rfl (X.fieldAddrP (off := 2) rfl Try.underlying24 rfl rfl Try.sizeOf3) ?_
      refine WL.va rfl rfl rfl (X.loadO hO1 (Ext.trans hx6 hwL0) rfl rfl Try.isAgg3) ?_
      refine WL.va rfl rfl rfl (X.fieldAddrO (off := 2) ((hAL0.eq 1).trans (congrFun hF8 1)) Try.underlying26 rfl rfl Try.sizeOf24) ?_
      refine WL.va rfl rfl rfl (X.fieldAddrP (off := 3) rfl Try.underlying24 rfl rfl Try.sizeOf3) ?_
      refine WL.va rfl rfl rfl (X.loadO hO1 (Ext.trans hx6 hwL0) rfl rfl Try.isAgg3) ?_
      refine WL.va rfl rfl rfl (X.fieldAddrO (off := 2) ((hAL0.eq 1).trans (congrFun hF8 1)) Try.underlying26 rfl rfl Try.sizeOf24) ?_
      refine WL.va rfl rfl rfl (X.fieldAddrP (off := 4) rfl Try.underlying24 rfl rfl Try.sizeOf3) ?_
      refine WL.va rfl rfl rfl (X.loadO hO1 (Ext.trans hx6 hwL0) rfl rfl Try.isAgg3) ?_
      refine WL.op rfl (OW.lits (vs := [i64 m.E, i64 m.M.Epoch, i64 m.M.From, i64 m.M.To, i64 m.M.Lo, i64 m.M.Hi]) (evp_cons rfl (evp_cons rfl (evp_cons rfl (evp_cons rfl (evp_cons rfl (evp_cons rfl evp_nil)))))) Try.underlying69 Try.sizeOf3 Try.zeroValue3 ⟨rfl, rfl, rfl, rfl, rfl, rfl, trivial⟩ rfl rfl rfl ?_ (by decide))
      intro v25 wA ho27 hx26
      have := World.grownBy.size hx26
      have oA : Ints wA _ (m.E :: m.M.ints) := Row.of_own ho27
      have hzz := World.grownBy.size (show Ext w wA from (Ext.trans (Ext.trans (Ext.trans hx3 hx6) hwL0) hx26))
      refine WL.c rfl rfl rfl (X.call Try.call63 (evl_cons rfl (evl_cons rfl evl_nil))) (rints_ok _ _ _ _ _ (Row.ext (Row.of_own ob) hx26) (Row.ext oA (Ext.refl wA)) (by have := hrl k; simp; omega) (Nat.succ_pos _)) ?_
      rintro v29 w28 ⟨o2, hx30⟩
      have := World.grownBy.size hx30
      refine WL.va rfl rfl rfl (X.assign rfl) ?_
      refine WL.nil ?_
      refine thn_n ?_
      refine WF.ret ?_
      refine fin_r ?_
      obtain rfl : k = m.R.length := by omega
      exact ⟨own_mono o2 hzz, (Ext.trans (Ext.trans (Ext.trans (Ext.trans hx3 hx6) hwL0) hx26) hx30)⟩

set_option maxHeartbeats 4000000 in
theorem putMapR_ok (m : Mp) (v : Value) (w : World) (hv : Rgs w v m.R) (hz : m.R.length ≤ 1000000) : FnOk Try.prog 29 [agg (m.c v)] w (fun r w' => OwnB w' w.heap.size 5 r (mpB m) ∧ Ext w w') := by
  have hrl := rgsB_len m.R
  refine FnOk.enter (rs := [2]) Try.func29 rfl Try.ntmps29 Try.results29 rfl rfl ?_
  refine WF.seq ?_
  refine WF.region ?_
  refine WL.op rfl (OW.boxA (cs := (m.c v)) rfl ?_ (by decide))
  intro g1 w1 heg1 hlg1 hO1 hx3
  have := World.grownBy.size hx3
  refine WL.va rfl rfl rfl (X.assign rfl) ?_
  refine WL.nil ?_
  refine thn_n ?_
  refine WF.seq ?_
  refine WF.region ?_
  refine WL.va rfl rfl rfl (X.fieldAddrO (off := 0) rfl Try.underlying26 rfl rfl Try.sizeOf22) ?_
  refine WL.va rfl rfl rfl (X.loadO hO1 (Ext.refl _) rfl rfl Try.isAgg22) ?_
  refine WL.va rfl rfl rfl (X.len hv rfl Try.underlying22) ?_
  refine WL.c rfl rfl rfl (X.call Try.call64 (evl_cons rfl (evl_cons rfl evl_nil))) (refInt_ok _ [] _ _ (Bytes.nil _) (by decide)) ?_
  rintro v5 w0b ⟨o0, hx6⟩
  have := World.grownBy.size hx6
  have hz0 := World.grownBy.size hx6
  refine WL.va rfl rfl rfl (X.assign rfl) ?_
  refine WL.nil ?_
  refine thn_n ?_
  refine WF.seq ?_
  refine WF.seq ?_
  refine WF.region ?_
  refine WL.va rfl rfl rfl (X.assignI rfl) ?_
  refine WL.nil ?_
  refine thn_n ?_
  refine WF.block ?_
  refine WF.named (fun F7 hF8 => ?_)
  refine WF.loopN (fun mL0 f' w' => ∃ (k : Nat) (vb : Value), mL0 = m.R.length - k ∧ f' 4 = .int .i64 (k : Int) ∧ f' 3 = vb ∧ Agree [0, 1, 2, 6, 7, 8, 9] f' F7 ∧ Ext w0b w' ∧ k ≤ m.R.length ∧ OwnB w' w.heap.size 5 vb (rgsB m.R k)) ?_ ?_
  · exact ⟨_, 0, _, rfl, (congrFun hF8 4), (congrFun hF8 3), (Agree.refl _ _), (Ext.refl _), ⟨Nat.zero_le _, own_mono (by rw [List.nil_append] at o0; unfold rgsB; rw [List.take_zero]; show OwnB _ _ _ _ (_ ++ []); rw [List.append_nil]; exact o0) (by omega)⟩⟩
  · rintro mL0 fL0 wL0 ⟨k, vb, hmL0, e4_L0, e3_L0, hAL0, hwL0, ⟨hk0, ob⟩⟩
    have := World.grownBy.size hwL0
    refine WF.seq ?_
    refine WF.seq ?_
    refine WF.region ?_
    refine WL.va rfl rfl rfl (X.moveI e4_L0) ?_
    refine WL.va rfl rfl rfl (X.fieldAddrO (off := 0) ((hAL0.eq 1).trans (congrFun hF8 1)) Try.underlying26 rfl rfl Try.sizeOf22) ?_
    refine WL.va rfl rfl rfl (X.loadO hO1 (Ext.trans hx6 hwL0) rfl rfl Try.isAgg22) ?_
    refine WL.va rfl rfl rfl (X.len hv rfl Try.underlying22) ?_
    refine WL.va rfl rfl rfl (X.lss rfl rfl) ?_
    refine WL.nil ?_
    refine thn_n ?_
    refine WF.cond rfl (fun h0_9 => ?_) (fun h0_9 => ?_)
    · have gh0_9 := (of_decide_eq_true h0_9)
      have hk : k < m.R.length := by omega
      refine WF.skip ?_
      refine thn_n ?_
      refine WF.seq ?_
      refine WF.block ?_
      refine WF.seq ?_
      refine WF.region ?_
      refine WL.va rfl rfl rfl (X.fieldAddrO (off := 0) ((hAL0.eq 1).trans (congrFun hF8 1)) Try.underlying26 rfl rfl Try.sizeOf22) ?_
      refine WL.va rfl rfl rfl (X.loadO hO1 (Ext.trans hx6 hwL0) rfl rfl Try.isAgg22) ?_
      refine WL.va rfl rfl rfl (X.moveI e4_L0) ?_
      refine WL.va rfl rfl rfl (X.idx hv rfl rfl (by omega) Try.underlying22 Try.sizeOf41) ?_
      refine WL.va rfl rfl rfl (X.loadEl hv (Ext.trans (Ext.trans hx3 hx6) hwL0) rfl (by omega) (Rgs.el (l := m.R) (k := k) hk) Try.isAgg41 Try.sizeOf41) ?_
      refine WL.op rfl (OW.allocO (cs := [i64 0, i64 0, i64 0, i64 0]) Try.zeroValue41 rfl ?_ (by decide))
      intro g5 w11 heg5 hlg5 hO5 hx13
      have := World.grownBy.size hx13
      refine WL.op rfl (OW.storeOA hO5 rfl rfl rfl (Rg.c_one _) Try.sizeOf41 ?_)
      intro w15 hO5 hx17
      have := World.grownBy.size hx17
      replace hO1 := (hO1.ext (Ext.trans (Ext.trans hx6 hwL0) hx13)).keptO hx17 (by omega)
      refine WL.nil ?_
      refine thn_n ?_
      refine WF.drawn (.q 0 (.q 1 (.q 2 (.q 4 (.q 5 (.q 7 (.q 8 (.q 10 (.q 11 (.l 3 (.l 6 (.l 9 (.l 12 (.q 13 .nil)))))))))))))) (fun w' => Ext w15 w') 14 (by kernel_rfl) (by kernel_rfl) (Ext.drew _) ?_
      have := World.grownBy.size (Ext.drew w15)
      refine WO.q rfl rfl rfl rfl (fun w' hE19 => (X.move e3_L0)) ?_
      refine WO.q rfl rfl rfl rfl (fun w' hE19 => (X.fieldAddrO (off := 0) rfl Try.underlying41 rfl rfl Try.sizeOf3)) ?_
      refine WO.q rfl rfl rfl rfl (fun w' hE19 => (X.loadO hO5 hE19 rfl rfl Try.isAgg3)) ?_
      refine WO.q rfl rfl rfl rfl (fun w' hE19 => (X.fieldAddrO (off := 1) rfl Try.underlying41 rfl rfl Try.sizeOf3)) ?_
      refine WO.q rfl rfl rfl rfl (fun w' hE19 => (X.loadO hO5 hE19 rfl rfl Try.isAgg3)) ?_
      refine WO.q rfl rfl rfl rfl (fun w' hE19 => (X.fieldAddrO (off := 2) rfl Try.underlying41 rfl rfl Try.sizeOf3)) ?_
      refine WO.q rfl rfl rfl rfl (fun w' hE19 => (X.loadO hO5 hE19 rfl rfl Try.isAgg3)) ?_
      refine WO.q rfl rfl rfl rfl (fun w' hE19 => (X.fieldAddrO (off := 3) rfl Try.underlying41 rfl rfl Try.sizeOf3)) ?_
      refine WO.q rfl rfl rfl rfl (fun w' hE19 => (X.loadO hO5 hE19 rfl rfl Try.isAgg3)) ?_
      refine WO.l ?_
      refine LO.go rfl rfl (OW.enter rfl (by decide) (X.call Try.call64 (evl_cons rfl (evl_cons rfl evl_nil))) (refInt_ok _ _ _ _ (Row.ext (Row.of_own ob) (Ext.trans (Ext.store hx13 hx17 (by omega)) (Ext.drew _))) (by have := hrl k; first | omega | (simp only [List.length_append, Pk.enc_len]; omega))) ?_)
      rintro vq1 wq1 ⟨oq1, hx20⟩
      have := World.grownBy.size hx20
      refine ⟨(Ext.trans (Ext.drew _) hx20), ?_⟩
      refine WO.l ?_
      refine LO.go rfl rfl (OW.enter rfl (by decide) (X.call Try.call64 (evl_cons rfl (evl_cons rfl evl_nil))) (refInt_ok _ _ _ _ (Row.ext (Row.of_own oq1) (Ext.refl wq1)) (by have := hrl k; first | omega | (simp only [List.length_append, Pk.enc_len]; omega))) ?_)
      rintro vq2 wq2 ⟨oq2, hx21⟩
      have := World.grownBy.size hx21
      refine ⟨(Ext.trans (Ext.trans (Ext.drew _) hx20) hx21), ?_⟩
      refine WO.l ?_
      refine LO.go rfl rfl (OW.enter rfl (by decide) (X.call Try.call64 (evl_cons rfl (evl_cons rfl evl_nil))) (refInt_ok _ _ _ _ (Row.ext (Row.of_own oq2) (Ext.refl wq2)) (by have := hrl k; first | omega | (simp only [List.length_append, Pk.enc_len]; omega))) ?_)
      rintro vq3 wq3 ⟨oq3, hx22⟩
      have := World.grownBy.size hx22
      refine ⟨(Ext.trans (Ext.trans (Ext.trans (Ext.drew _) hx20) hx21) hx22), ?_⟩
      refine WO.l ?_
      have hzk := World.grownBy.size (show Ext w wq3 from (Ext.trans (Ext.trans (Ext.trans (Ext.trans (Ext.trans (Ext.trans (Ext.trans hx3 hx6) hwL0) (Ext.store hx13 hx17 (by omega))) (Ext.drew _)) hx20) hx21) hx22))
      refine LO.go rfl rfl (OW.enter rfl (by decide) (X.call Try.call64 (evl_cons rfl (evl_cons rfl evl_nil))) (refInt_ok _ _ _ _ (Row.ext (Row.of_own oq3) (Ext.refl wq3)) (by have := hrl k; first | omega | (simp only [List.length_append, Pk.enc_len]; omega))) ?_)
      rintro vq4 wq4 ⟨oq4, hx23⟩
      have := World.grownBy.size hx23
      refine ⟨(Ext.trans (Ext.trans (Ext.trans (Ext.trans (Ext.drew _) hx20) hx21) hx22) hx23), ?_⟩
      refine WO.q rfl rfl rfl rfl (fun w' hE19 => (X.assign rfl)) ?_
      refine WO.nil ?_
      refine WL.nil ?_
      refine blk_n ?_
      refine thn_n ?_
      refine WF.region ?_
      refine WL.va rfl rfl rfl (X.moveI e4_L0) ?_
      refine WL.va rfl rfl rfl (X.add rfl rfl (w64 (by omega))) ?_
      refine WL.va rfl rfl rfl (X.assignI rfl) ?_
      refine WL.nil ?_
      exact thn_n ⟨_, (by omega), k + 1, _, rfl, rfl, rfl, (by repeat (first | exact hAL0 | refine Agree.put ?_ rfl | refine Agree.named hF8 ?_)), (Ext.trans (Ext.trans (Ext.trans (Ext.trans (Ext.trans (Ext.trans hwL0 (Ext.store hx13 hx17 (by omega))) (Ext.drew _)) hx20) hx21) hx22) hx23), ⟨by omega, by rw [rgsB_succ hk, show (m.R[k]).ints.flatMap Pk.enc = Pk.enc m.R[k].Lo ++ (Pk.enc m.R[k].Hi ++ (Pk.enc m.R[k].Group ++ Pk.enc m.R[k].Epoch)) by simp [Rg.ints], ← List.append_assoc, ← List.append_assoc, ← List.append_assoc]; exact own_mono oq4 hzk⟩⟩
    · have gh0_9 := (of_decide_eq_false h0_9)
      refine WF.exit ?_
      refine thn_x ?_
      refine thn_x ?_
      refine blk_eq ?_
      refine thn_n ?_
      refine WF.seq ?_
      refine WF.drawn (.q 0 (.q 1 (.q 2 (.q 4 (.q 5 (.q 6 (.l 3 (.l 7 (.q 8 .nil))))))))) (fun w' => Ext wL0 w') 9 (by kernel_rfl) (by kernel_rfl) (Ext.drew _) ?_
      have := World.grownBy.size (Ext.drew wL0)
      refine WO.q rfl rfl rfl rfl (fun w' hE24 => (X.move e3_L0)) ?_
      refine WO.q rfl rfl rfl rfl (fun w' hE24 => (X.fieldAddrO (off := 1) ((hAL0.eq 1).trans (congrFun hF8 1)) Try.underlying26 rfl rfl Try.sizeOf3)) ?_
      refine WO.q rfl rfl rfl rfl (fun w' hE24 => (X.loadO hO1 (Ext.trans (Ext.trans hx6 hwL0) hE24) rfl rfl Try.isAgg3)) ?_
      refine WO.q rfl rfl rfl rfl (fun w' hE24 => (X.fieldAddrO (off := 2) ((hAL0.eq 1).trans (congrFun hF8 1)) Try.underlying26 rfl rfl Try.sizeOf24)) ?_
      refine WO.q rfl rfl rfl rfl (fun w' hE24 => (X.fieldAddrP (off := 0) rfl Try.underlying24 rfl rfl Try.sizeOf3)) ?_
      refine WO.q rfl rfl rfl rfl (fun w' hE24 => (X.loadO hO1 (Ext.trans (Ext.trans hx6 hwL0) hE24) rfl rfl Try.isAgg3)) ?_
      refine WO.l ?_
      refine LO.go rfl rfl (OW.enter rfl (by decide) (X.call Try.call64 (evl_cons rfl (evl_cons rfl evl_nil))) (refInt_ok _ _ _ _ (Row.ext (Row.of_own ob) (Ext.drew _)) (by have := hrl k; first | omega | (simp only [List.length_append, Pk.enc_len]; omega))) ?_)
      rintro vq5 wq5 ⟨oq5, hx25⟩
      have := World.grownBy.size hx25
      refine ⟨(Ext.trans (Ext.drew _) hx25), ?_⟩
      refine WO.l ?_
      refine LO.go rfl rfl (OW.enter rfl (by decide) (X.call Try.call64 (evl_cons rfl (evl_cons rfl evl_nil))) (refInt_ok _ _ _ _ (Row.ext (Row.of_own oq5) (Ext.refl wq5)) (by have := hrl k; first | omega | (simp only [List.length_append, Pk.enc_len]; omega))) ?_)
      rintro vq6 wq6 ⟨oq6, hx26⟩
      have := World.grownBy.size hx26
      refine ⟨(Ext.trans (Ext.trans (Ext.drew _) hx25) hx26), ?_⟩
      refine WO.q rfl rfl rfl rfl (fun w' hE24 => (X.assign rfl)) ?_
      refine WO.nil ?_
      refine WL.nil ?_
      refine thn_n ?_
      refine WF.seq ?_
      refine WF.drawn (.q 0 (.q 1 (.q 2 (.q 3 (.q 5 (.q 6 (.q 7 (.l 4 (.l 8 (.q 9 .nil)))))))))) (fun w' => Ext wq6 w') 10 (by kernel_rfl) (by kernel_rfl) (Ext.drew _) ?_
      have := World.grownBy.size (Ext.drew wq6)
      refine WO.q rfl rfl rfl rfl (fun w' hE27 => (X.move rfl)) ?_
      refine WO.q rfl rfl rfl rfl (fun w' hE27 => (X.fieldAddrO (off := 2) ((hAL0.eq 1).trans (congrFun hF8 1)) Try.underlying26 rfl rfl Try.sizeOf24)) ?_
      refine WO.q rfl rfl rfl rfl (fun w' hE27 => (X.fieldAddrP (off := 1) rfl Try.underlying24 rfl rfl Try.sizeOf3)) ?_
      refine WO.q rfl rfl rfl rfl (fun w' hE27 => (X.loadO hO1 (Ext.trans (Ext.trans (Ext.trans (Ext.trans (Ext.trans hx6 hwL0) (Ext.drew _)) hx25) hx26) hE27) rfl rfl Try.isAgg3)) ?_
      refine WO.q rfl rfl rfl rfl (fun w' hE27 => (X.fieldAddrO (off := 2) ((hAL0.eq 1).trans (congrFun hF8 1)) Try.underlying26 rfl rfl Try.sizeOf24)) ?_
      refine WO.q rfl rfl rfl rfl (fun w' hE27 => (X.fieldAddrP (off := 2) rfl Try.underlying24 rfl rfl Try.sizeOf3)) ?_
      refine WO.q rfl rfl rfl rfl (fun w' hE27 => (X.loadO hO1 (Ext.trans (Ext.trans (Ext.trans (Ext.trans (Ext.trans hx6 hwL0) (Ext.drew _)) hx25) hx26) hE27) rfl rfl Try.isAgg3)) ?_
      refine WO.l ?_
      refine LO.go rfl rfl (OW.enter rfl (by decide) (X.call Try.call64 (evl_cons rfl (evl_cons rfl evl_nil))) (refInt_ok _ _ _ _ (Row.ext (Row.of_own oq6) (Ext.drew _)) (by have := hrl k; first | omega | (simp only [List.length_append, Pk.enc_len]; omega))) ?_)
      rintro vq7 wq7 ⟨oq7, hx28⟩
      have := World.grownBy.size hx28
      refine ⟨(Ext.trans (Ext.drew _) hx28), ?_⟩
      refine WO.l ?_
      refine LO.go rfl rfl (OW.enter rfl (by decide) (X.call Try.call64 (evl_cons rfl (evl_cons rfl evl_nil))) (refInt_ok _ _ _ _ (Row.ext (Row.of_own oq7) (Ext.refl wq7)) (by have := hrl k; first | omega | (simp only [List.length_append, Pk.enc_len]; omega))) ?_)
      rintro vq8 wq8 ⟨oq8, hx29⟩
      have := World.grownBy.size hx29
      refine ⟨(Ext.trans (Ext.trans (Ext.drew _) hx28) hx29), ?_⟩
      refine WO.q rfl rfl rfl rfl (fun w' hE27 => (X.assign rfl)) ?_
      refine WO.nil ?_
      refine WL.nil ?_
      refine thn_n ?_
      refine WF.seq ?_
      refine WF.drawn (.q 0 (.q 1 (.q 2 (.q 3 (.q 5 (.q 6 (.q 7 (.l 4 (.l 8 (.q 9 .nil)))))))))) (fun w' => Ext wq8 w') 10 (by kernel_rfl) (by kernel_rfl) (Ext.drew _) ?_
      have := World.grownBy.size (Ext.drew wq8)
      refine WO.q rfl rfl rfl rfl (fun w' hE30 => (X.move rfl)) ?_
      refine WO.q rfl rfl rfl rfl (fun w' hE30 => (X.fieldAddrO (off := 2) ((hAL0.eq 1).trans (congrFun hF8 1)) Try.underlying26 rfl rfl Try.sizeOf24)) ?_
      refine WO.q rfl rfl rfl rfl (fun w' hE30 => (X.fieldAddrP (off := 3) rfl Try.underlying24 rfl rfl Try.sizeOf3)) ?_
      refine WO.q rfl rfl rfl rfl (fun w' hE30 => (X.loadO hO1 (Ext.trans (Ext.trans (Ext.trans (Ext.trans (Ext.trans (Ext.trans (Ext.trans (Ext.trans hx6 hwL0) (Ext.drew _)) hx25) hx26) (Ext.drew _)) hx28) hx29) hE30) rfl rfl Try.isAgg3)) ?_
      refine WO.q rfl rfl rfl rfl (fun w' hE30 => (X.fieldAddrO (off := 2) ((hAL0.eq 1).trans (congrFun hF8 1)) Try.underlying26 rfl rfl Try.sizeOf24)) ?_
      refine WO.q rfl rfl rfl rfl (fun w' hE30 => (X.fieldAddrP (off := 4) rfl Try.underlying24 rfl rfl Try.sizeOf3)) ?_
      refine WO.q rfl rfl rfl rfl (fun w' hE30 => (X.loadO hO1 (Ext.trans (Ext.trans (Ext.trans (Ext.trans (Ext.trans (Ext.trans (Ext.trans (Ext.trans hx6 hwL0) (Ext.drew _)) hx25) hx26) (Ext.drew _)) hx28) hx29) hE30) rfl rfl Try.isAgg3)) ?_
      refine WO.l ?_
      refine LO.go rfl rfl (OW.enter rfl (by decide) (X.call Try.call64 (evl_cons rfl (evl_cons rfl evl_nil))) (refInt_ok _ _ _ _ (Row.ext (Row.of_own oq8) (Ext.drew _)) (by have := hrl k; first | omega | (simp only [List.length_append, Pk.enc_len]; omega))) ?_)
      rintro vq9 wq9 ⟨oq9, hx31⟩
      have := World.grownBy.size hx31
      refine ⟨(Ext.trans (Ext.drew _) hx31), ?_⟩
      refine WO.l ?_
      have hzz := World.grownBy.size (show Ext w wq9 from (Ext.trans (Ext.trans (Ext.trans (Ext.trans (Ext.trans (Ext.trans (Ext.trans (Ext.trans (Ext.trans (Ext.trans hx3 hx6) hwL0) (Ext.drew _)) hx25) hx26) (Ext.drew _)) hx28) hx29) (Ext.drew _)) hx31))
      refine LO.go rfl rfl (OW.enter rfl (by decide) (X.call Try.call64 (evl_cons rfl (evl_cons rfl evl_nil))) (refInt_ok _ _ _ _ (Row.ext (Row.of_own oq9) (Ext.refl wq9)) (by have := hrl k; first | omega | (simp only [List.length_append, Pk.enc_len]; omega))) ?_)
      rintro vq10 wq10 ⟨oq10, hx32⟩
      have := World.grownBy.size hx32
      refine ⟨(Ext.trans (Ext.trans (Ext.drew _) hx31) hx32), ?_⟩
      refine WO.q rfl rfl rfl rfl (fun w' hE30 => (X.assign rfl)) ?_
      refine WO.nil ?_
      refine WL.nil ?_
      refine thn_n ?_
      refine WF.ret ?_
      refine fin_r ?_
      obtain rfl : k = m.R.length := by omega
      refine ⟨?_, (Ext.trans (Ext.trans (Ext.trans (Ext.trans (Ext.trans (Ext.trans (Ext.trans (Ext.trans (Ext.trans (Ext.trans (Ext.trans hx3 hx6) hwL0) (Ext.drew _)) hx25) hx26) (Ext.drew _)) hx28) hx29) (Ext.drew _)) hx31) hx32)⟩
      unfold mpB
      rw [show (m.E :: m.M.ints).flatMap Pk.enc = Pk.enc m.E ++ (Pk.enc m.M.Epoch ++ (Pk.enc m.M.From ++ (Pk.enc m.M.To ++ (Pk.enc m.M.Lo ++ Pk.enc m.M.Hi)))) by simp [Mv.ints], ← List.append_assoc, ← List.append_assoc, ← List.append_assoc, ← List.append_assoc, ← List.append_assoc]
      exact own_mono oq10 hzz

set_option maxHeartbeats 8000000 in
theorem rangesCheck_walk (m : Mp) (v : Value) (n : Int) (w : World) (hv : Rgs w v m.R) (hI : MpIn m) (_hn : -9223372036854775808 ≤ n ∧ n ≤ 9223372036854775807) : FnOk Try.prog 5 [agg (m.c v), i64 n] w (fun r w' => r = .bool true ∧ Ext w w') := by
  have hE := hI.1
  refine FnOk.enter (rs := [4]) Try.func5 rfl Try.ntmps5 Try.results5 rfl rfl ?_
  refine WF.seq ?_
  refine WF.region ?_
  refine WL.op rfl (OW.boxA (cs := (m.c v)) rfl ?_ (by decide))
  intro g2 w1 heg2 hlg2 hO2 hx3
  have := World.grownBy.size hx3
  refine WL.va rfl rfl rfl (X.assignB rfl) ?_
  refine WL.nil ?_
  refine thn_n ?_
  refine WF.seq ?_
  refine WF.seq ?_
  refine WF.region ?_
  refine WL.va rfl rfl rfl (X.fieldAddrO (off := 0) rfl Try.underlying26 rfl rfl Try.sizeOf22) ?_
  refine WL.va rfl rfl rfl (X.loadO hO2 (Ext.refl _) rfl rfl Try.isAgg22) ?_
  refine WL.va rfl rfl rfl (X.len hv rfl Try.underlying22) ?_
  refine WL.va rfl rfl rfl (X.gtr rfl rfl) ?_
  refine WL.nil ?_
  refine thn_n ?_
  refine WF.cond rfl (fun h0_6 => ?_) (fun h0_6 => ?_)
  · have gh0_6 := (of_decide_eq_true h0_6)
    refine WF.seq ?_
    refine WF.region ?_
    refine WL.c rfl rfl rfl (X.call Try.call13 evl_nil) (known_ok _) ?_
    rintro v9 w8 ⟨rfl, hx10⟩
    have := World.grownBy.size hx10
    refine WL.va rfl rfl rfl (X.assignB rfl) ?_
    refine WL.nil ?_
    refine thn_n ?_
    refine WF.ret ?_
    refine thn_r ?_
    refine fin_r ?_
    exact ⟨rfl, (Ext.trans hx3 hx10)⟩
  · have gh0_6 := (of_decide_eq_false h0_6)
    have hz : m.R.length ≤ 4096 := by omega
    refine WF.skip ?_
    refine thn_n ?_
    refine WF.seq ?_
    refine WF.region ?_
    refine WL.va rfl rfl rfl (X.loadOA hO2 (Ext.refl _) rfl rfl Try.isAgg26 Try.sizeOf26) ?_
    refine WL.op rfl (OW.allocO (cs := [.slice none 0 0, i64 0, i64 0, i64 0, i64 0, i64 0, i64 0]) Try.zeroValue26 rfl ?_ (by decide))
    intro g5 w12 heg5 hlg5 hO5 hx14
    have := World.grownBy.size hx14
    refine WL.op rfl (OW.storeOA hO5 rfl rfl rfl (Mp.c_one hv m) Try.sizeOf26 ?_)
    intro w16 hO5 hx18
    have := World.grownBy.size hx18
    replace hO2 := (hO2.ext hx14).keptO hx18 (by omega)
    replace hO5 : Blk _ _ _ (m.c v) := hO5
    refine WL.nil ?_
    refine thn_n ?_
    refine WF.seq ?_
    refine WF.region ?_
    refine WL.va rfl rfl rfl (X.fieldAddrO (off := 0) rfl Try.underlying26 rfl rfl Try.sizeOf22) ?_
    refine WL.va rfl rfl rfl (X.loadO hO2 (Ext.refl _) rfl rfl Try.isAgg22) ?_
    refine WL.c rfl rfl rfl (X.call Try.call25 (evl_cons rfl evl_nil)) (lentRanges_ok _ _ _ (Row.ext hv (Ext.trans hx3 (Ext.store hx14 hx18 (by omega)))) (by omega)) ?_
    rintro vx w20 ⟨ox, hx21⟩
    have := World.grownBy.size hx21
    have oxT := OwnT.of ox
    refine WL.va rfl rfl rfl (X.assign rfl) ?_
    refine WL.nil ?_
    refine thn_n ?_
    refine WF.seq ?_
    refine WF.region ?_
    refine WL.va rfl rfl rfl (X.move rfl) ?_
    refine WL.va rfl rfl rfl (X.fieldAddrO (off := 0) rfl Try.underlying26 rfl rfl Try.sizeOf22) ?_
    refine WL.va rfl rfl rfl (X.loadO hO2 hx21 rfl rfl Try.isAgg22) ?_
    refine WL.va rfl rfl rfl (X.len hv rfl Try.underlying22) ?_
    refine WL.va rfl rfl rfl (X.slH (oxT.rd) rfl rfl (by simp) Try.underlying22 Try.sizeOf41) ?_
    refine WL.va rfl rfl rfl (X.fieldAddrO (off := 0) rfl Try.underlying26 rfl rfl Try.sizeOf22) ?_
    refine WL.op rfl (OW.storeO (hO5.ext hx21) (Nat.le_of_ble_eq_true rfl) rfl rfl (Row.one (lentR_part ox)) Try.sizeOf22 ?_)
    intro w22 hO5 hx24
    have := World.grownBy.size hx24
    replace hO2 := (hO2.ext hx21).keptO hx24 (by omega)
    replace oxT := oxT.keptO hx24 (by omega)
    replace hO5 : Blk _ _ _ (m.c (Kf.part vx 0 m.R.length 4)) := hO5
    refine WL.nil ?_
    refine thn_n ?_
    refine WF.seq ?_
    refine WF.region ?_
    refine WL.va rfl rfl rfl (X.loadOA hO5 (Ext.refl _) rfl rfl Try.isAgg26 Try.sizeOf26) ?_
    refine WL.va rfl rfl rfl (X.moveI rfl) ?_
    refine WL.c rfl rfl rfl (X.call Try.call23 (evl_cons rfl (evl_cons rfl evl_nil))) (findC_ok m (Kf.part vx 0 m.R.length 4) n _ (lentR_part oxT.own)) ?_
    rintro v27 w26 ⟨rfl, hx28⟩
    have := World.grownBy.size hx28
    refine WL.va rfl rfl rfl (X.move rfl) ?_
    refine WL.va rfl rfl rfl (X.extract rfl rfl) ?_
    refine WL.va rfl rfl rfl (X.extract rfl rfl) ?_
    refine WL.op rfl (OW.allocO (cs := [i64 0, i64 0, i64 0, i64 0]) Try.zeroValue41 rfl ?_ (by decide))
    intro g7 w30 heg7 hlg7 hO7 hx32
    have := World.grownBy.size hx32
    refine WL.op rfl (OW.storeOA hO7 rfl rfl rfl (Rg.c_one _) Try.sizeOf41 ?_)
    intro w34 hO7 hx36
    have := World.grownBy.size hx36
    replace hO2 := (hO2.ext (Ext.trans hx28 hx32)).keptO hx36 (by omega)
    replace hO5 := (hO5.ext (Ext.trans hx28 hx32)).keptO hx36 (by omega)
    replace oxT := (oxT.ext (Ext.trans hx28 hx32)).keptO hx36 (by omega)
    refine WL.va rfl rfl rfl (X.assignB rfl) ?_
    refine WL.nil ?_
    refine thn_n ?_
    refine WF.seq ?_
    refine WF.region ?_
    refine WL.va rfl rfl rfl (X.loadOA hO2 (Ext.refl _) rfl rfl Try.isAgg26 Try.sizeOf26) ?_
    refine WL.va rfl rfl rfl (X.moveI rfl) ?_
    refine WL.c rfl rfl rfl (X.call Try.call26 (evl_cons rfl (evl_cons rfl evl_nil))) (findR_ok m v n _ (Row.ext hv (Ext.trans (Ext.trans (Ext.trans hx3 (Ext.store (Ext.trans (Ext.store hx14 hx18 (by omega)) hx21) hx24 (by omega))) hx28) (Ext.store hx32 hx36 (by omega))))) ?_
    rintro v39 w38 ⟨rfl, hx40⟩
    have := World.grownBy.size hx40
    refine WL.va rfl rfl rfl (X.move rfl) ?_
    refine WL.va rfl rfl rfl (X.extract rfl rfl) ?_
    refine WL.va rfl rfl rfl (X.extract rfl rfl) ?_
    refine WL.op rfl (OW.allocO (cs := [i64 0, i64 0, i64 0, i64 0]) Try.zeroValue41 rfl ?_ (by decide))
    intro g9 w42 heg9 hlg9 hO9 hx44
    have := World.grownBy.size hx44
    refine WL.op rfl (OW.storeOA hO9 rfl rfl rfl (Rg.c_one _) Try.sizeOf41 ?_)
    intro w46 hO9 hx48
    have := World.grownBy.size hx48
    replace hO2 := (hO2.ext (Ext.trans hx40 hx44)).keptO hx48 (by omega)
    replace hO5 := (hO5.ext (Ext.trans hx40 hx44)).keptO hx48 (by omega)
    replace oxT := (oxT.ext (Ext.trans hx40 hx44)).keptO hx48 (by omega)
    replace hO7 := (hO7.ext (Ext.trans hx40 hx44)).keptO hx48 (by omega)
    refine WL.va rfl rfl rfl (X.assignB rfl) ?_
    refine WL.nil ?_
    refine thn_n ?_
    refine WF.seq ?_
    refine WF.drawn (.q 0 (.q 2 (.l 1 (.l 3 (.q 4 (.q 5 (.q 6 (.q 7 (.q 8 (.q 9 (.q 10 (.q 11 (.q 12 (.q 13 (.q 14 (.q 15 (.q 16 (.q 18 (.l 17 (.l 19 (.l 20 (.q 21 (.q 22 (.q 23 (.q 24 (.q 25 (.l 26 (.q 27 (.q 28 .nil))))))))))))))))))))))))))))) (fun w' => Ext w46 w') 29 (by kernel_rfl) (by kernel_rfl) (Ext.drew _) ?_
    have := World.grownBy.size (Ext.drew w46)
    refine WO.q rfl rfl rfl rfl (fun w' hE50 => (X.loadOA hO5 hE50 rfl rfl Try.isAgg26 Try.sizeOf26)) ?_
    refine WO.q rfl rfl rfl rfl (fun w' hE50 => (X.loadOA hO2 hE50 rfl rfl Try.isAgg26 Try.sizeOf26)) ?_
    refine WO.l ?_
    refine LO.go rfl rfl (OW.enter rfl (by decide) (X.call Try.call11 (evl_cons rfl evl_nil)) (checkC_ok m (Kf.part vx 0 m.R.length 4) _ (lentR_part (oxT.ext (Ext.drew _)).own) hE) ?_)
    rintro v52 w51 ⟨rfl, hx53⟩
    have := World.grownBy.size hx53
    refine ⟨(Ext.trans (Ext.drew _) hx53), ?_⟩
    refine WO.l ?_
    refine LO.go rfl rfl (OW.enter rfl (by decide) (X.call Try.call12 (evl_cons rfl evl_nil)) (checkRef_eq (Row.ext hv (Ext.trans (Ext.trans (Ext.trans (Ext.trans (Ext.trans (Ext.trans (Ext.trans hx3 (Ext.store (Ext.trans (Ext.store hx14 hx18 (by omega)) hx21) hx24 (by omega))) hx28) (Ext.store hx32 hx36 (by omega))) hx40) (Ext.store hx44 hx48 (by omega))) (Ext.drew _)) hx53)) hE) ?_)
    rintro v55 w54 ⟨rfl, hx56⟩
    have := World.grownBy.size hx56
    refine ⟨(Ext.trans (Ext.trans (Ext.drew _) hx53) hx56), ?_⟩
    refine WO.q rfl rfl rfl rfl (fun w' hE50 => (X.eql rfl rfl)) ?_
    refine WO.q rfl rfl rfl rfl (fun w' hE50 => (X.moveB rfl)) ?_
    refine WO.split (j := 5) rfl (fun h58 => ?_) (fun h58 => ?_)
    · have gh58 := (of_decide_eq_true h58)
      refine WO.qg rfl rfl (congrArg some h58) rfl rfl (fun w' hE50 => (X.loadOA hO7 hE50 rfl rfl Try.isAgg41 Try.sizeOf41)) ?_
      refine WO.qg rfl rfl (congrArg some h58) rfl rfl (fun w' hE50 => (X.loadOA hO9 hE50 rfl rfl Try.isAgg41 Try.sizeOf41)) ?_
      refine WO.qg rfl rfl (congrArg some h58) rfl rfl (fun w' hE50 => (X.eqlA (na := ((findM m.R n).getD Rg.zero).ints) (nb := ((findM m.R n).getD Rg.zero).ints) flatR fieldsR offsR rfl rfl rfl rfl (Rg.eqB _ _))) ?_
      refine WO.q rfl rfl rfl rfl (fun w' hE50 => (X.pickT rfl h58 rfl)) ?_
      refine WO.q rfl rfl rfl rfl (fun w' hE50 => (X.moveB rfl)) ?_
      refine WO.split (j := 10) rfl (fun h60 => ?_) (fun h60 => ?_)
      · have gh60 := h60
        refine WO.qg rfl rfl (congrArg some h60) rfl rfl (fun w' hE50 => (X.moveB rfl)) ?_
        refine WO.qg rfl rfl (congrArg some h60) rfl rfl (fun w' hE50 => (X.moveB rfl)) ?_
        refine WO.qg rfl rfl (congrArg some h60) rfl rfl (fun w' hE50 => (X.eqlB rfl rfl Try.underlying4)) ?_
        refine WO.q rfl rfl rfl rfl (fun w' hE50 => (X.pickT rfl h60 rfl)) ?_
        refine WO.q rfl rfl rfl rfl (fun w' hE50 => (X.moveB rfl)) ?_
        refine WO.split (j := 15) rfl (fun h62 => ?_) (fun h62 => ?_)
        · have gh62 := h62
          refine WO.qg rfl rfl (congrArg some h62) rfl rfl (fun w' hE50 => (X.loadOA hO5 hE50 rfl rfl Try.isAgg26 Try.sizeOf26)) ?_
          refine WO.qg rfl rfl (congrArg some h62) rfl rfl (fun w' hE50 => (X.loadOA hO2 hE50 rfl rfl Try.isAgg26 Try.sizeOf26)) ?_
          refine WO.l ?_
          refine LO.gog rfl rfl (congrArg some h62) (OW.enter rfl (by decide) (X.call Try.call28 (evl_cons rfl evl_nil)) (putMap_ok m (Kf.part vx 0 m.R.length 4) _ (lentR_part (oxT.ext (Ext.trans (Ext.trans (Ext.drew _) hx53) hx56)).own) (by omega)) ?_)
          rintro vb1 wb1 ⟨ob1, hx63⟩
          have := World.grownBy.size hx63
          refine ⟨(Ext.trans (Ext.trans (Ext.trans (Ext.drew _) hx53) hx56) hx63), ?_⟩
          refine WO.l ?_
          refine LO.gog rfl rfl (congrArg some h62) (OW.enter rfl (by decide) (X.call Try.call29 (evl_cons rfl evl_nil)) (putMapR_ok m v _ (Row.ext hv (Ext.trans (Ext.trans (Ext.trans (Ext.trans (Ext.trans (Ext.trans (Ext.trans (Ext.trans (Ext.trans hx3 (Ext.store (Ext.trans (Ext.store hx14 hx18 (by omega)) hx21) hx24 (by omega))) hx28) (Ext.store hx32 hx36 (by omega))) hx40) (Ext.store hx44 hx48 (by omega))) (Ext.drew _)) hx53) hx56) hx63)) (by omega)) ?_)
          rintro vb2 wb2 ⟨ob2, hx65⟩
          have := World.grownBy.size hx65
          refine ⟨(Ext.trans (Ext.trans (Ext.trans (Ext.trans (Ext.drew _) hx53) hx56) hx63) hx65), ?_⟩
          refine WO.l ?_
          refine LO.gog rfl rfl (congrArg some h62) (OW.enter rfl (by decide) (X.call Try.call27 (evl_cons rfl (evl_cons rfl evl_nil))) (sameBytes_self (Row.ext (Row.of_own ob1) hx65) (Row.ext (Row.of_own ob2) (Ext.refl wb2)) rfl) ?_)
          rintro v67 w66 ⟨rfl, hx68⟩
          have := World.grownBy.size hx68
          refine ⟨(Ext.trans (Ext.trans (Ext.trans (Ext.trans (Ext.trans (Ext.drew _) hx53) hx56) hx63) hx65) hx68), ?_⟩
          refine WO.q rfl rfl rfl rfl (fun w' hE50 => (X.pickT rfl h62 rfl)) ?_
          refine WO.q rfl rfl rfl rfl (fun w' hE50 => (X.moveB rfl)) ?_
          refine WO.qg rfl rfl rfl rfl rfl (fun w' hE50 => (X.move rfl)) ?_
          refine WO.qg rfl rfl rfl rfl rfl (fun w' hE50 => (X.fieldAddrO (off := 0) rfl Try.underlying26 rfl rfl Try.sizeOf22)) ?_
          refine WO.qg rfl rfl rfl rfl rfl (fun w' hE50 => (X.loadO hO2 hE50 rfl rfl Try.isAgg22)) ?_
          refine WO.l ?_
          refine LO.gog rfl rfl rfl (OW.enter rfl (by decide) (X.call Try.call30 (evl_cons rfl (evl_cons rfl evl_nil))) (keptRanges_self (oxT.ext (Ext.trans (Ext.trans (Ext.trans (Ext.trans (Ext.trans (Ext.drew _) hx53) hx56) hx63) hx65) hx68)).rd (Row.ext hv (Ext.trans (Ext.trans (Ext.trans (Ext.trans (Ext.trans (Ext.trans (Ext.trans (Ext.trans (Ext.trans (Ext.trans (Ext.trans hx3 (Ext.store (Ext.trans (Ext.store hx14 hx18 (by omega)) hx21) hx24 (by omega))) hx28) (Ext.store hx32 hx36 (by omega))) hx40) (Ext.store hx44 hx48 (by omega))) (Ext.drew _)) hx53) hx56) hx63) hx65) hx68)) (by omega)) ?_)
          rintro v71 w70 ⟨rfl, hx72⟩
          have := World.grownBy.size hx72
          refine ⟨(Ext.trans (Ext.trans (Ext.trans (Ext.trans (Ext.trans (Ext.trans (Ext.drew _) hx53) hx56) hx63) hx65) hx68) hx72), ?_⟩
          refine WO.q rfl rfl rfl rfl (fun w' hE50 => (X.pickT rfl rfl rfl)) ?_
          refine WO.q rfl rfl rfl rfl (fun w' hE50 => (X.assignB rfl)) ?_
          refine WO.nil ?_
          refine WL.nil ?_
          refine thn_n ?_
          refine WF.ret ?_
          refine fin_r ?_
          exact ⟨rfl, (Ext.trans (Ext.trans (Ext.trans (Ext.trans (Ext.trans (Ext.trans (Ext.trans (Ext.trans (Ext.trans (Ext.trans (Ext.trans (Ext.trans hx3 (Ext.store (Ext.trans (Ext.store hx14 hx18 (by omega)) hx21) hx24 (by omega))) hx28) (Ext.store hx32 hx36 (by omega))) hx40) (Ext.store hx44 hx48 (by omega))) (Ext.drew _)) hx53) hx56) hx63) hx65) hx68) hx72)⟩
        · have gh62 := h62
          rw [beq_self_eq_true] at gh62; cases gh62
      · have gh60 := h60
        rw [decide_eq_true rfl] at gh60; cases gh60
    · have gh58 := (of_decide_eq_false h58)
      exact absurd rfl gh58

end Go.Proofs.Ytpimnlgfhpnjnaa
