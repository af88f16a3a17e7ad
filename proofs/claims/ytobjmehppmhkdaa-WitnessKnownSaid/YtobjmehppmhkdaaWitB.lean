/- The walks of layer 30: chosen, Order. -/
import Derived.Test.YtobjmehppmhkdaaWitA
import Derived.Test.YtobjmehppmhkdaaMap2
namespace Go.Proofs.Ytobjmehppmhkdaa
open Go Go.RowKit Kf
set_option maxRecDepth 20000

/-- a history, and where each of its transactions was chosen -/
structure HIn (w : World) (g : Nat) (l : List Ev) (vl : Value) (gm : Nat) (L : List (Int × Value)) : Prop where
  obj : Blk w g 81 [vl, mp_ gm]
  evs : Evs w vl l
  map : MapB i64 w gm L
  get : ∀ t, getM L t = (firstOf l t).map fun (i : Nat) => i64 (i : Int)
def HAt (w : World) (g : Nat) (l : List Ev) : Prop := ∃ vl gm L, HIn w g l vl gm L
theorem HAt.ext {w w' : World} {g : Nat} {l : List Ev} (h : HAt w g l) (k : Ext w w') : HAt w' g l := by
  obtain ⟨vl, gm, L, h⟩ := h; exact ⟨vl, gm, L, h.obj.ext k, h.evs.ext k, h.map.ext k, h.get⟩
def firstZ (l : List Ev) (t : Int) : Int := ((firstOf l t).map fun (i : Nat) => (i : Int)).getD 0
theorem HIn.z {w : World} {g : Nat} {l : List Ev} {vl : Value} {gm : Nat} {L : List (Int × Value)} (h : HIn w g l vl gm L) (t : Int) : (getM L t).getD (i64 0) = i64 (firstZ l t) := by
  rw [h.get]; unfold firstZ; cases firstOf l t <;> rfl
theorem HIn.b {w : World} {g : Nat} {l : List Ev} {vl : Value} {gm : Nat} {L : List (Int × Value)} (h : HIn w g l vl gm L) (t : Int) : (getM L t).isSome = (firstOf l t).isSome := by
  rw [h.get]; cases firstOf l t <;> rfl
theorem ch_t {l : List Ev} {t a : Int} (h : (firstOf l t).isSome = true) : decide (firstZ l t < a) = chosenB l t a := by
  unfold firstZ chosenB; cases e : firstOf l t with
  | none => rw [e] at h; cases h
  | some i => rfl
theorem ch_f {l : List Ev} {t a : Int} (h : (firstOf l t).isSome = false) : false = chosenB l t a := by
  unfold chosenB; cases e : firstOf l t with
  | none => rfl
  | some i => rw [e] at h; cases h
theorem order_t {l : List Ev} {k : Nat} (hk : k < l.length) (h : l[k].Kind = 3) : orderL (l.take (k + 1)) = orderL (l.take k) ++ [l[k].Txn] := by
  unfold orderL; rw [List.take_succ_eq_append_getElem hk, List.filter_append, List.map_append]; simp [h]
theorem order_f {l : List Ev} {k : Nat} (hk : k < l.length) (h : ¬ l[k].Kind = 3) : orderL (l.take (k + 1)) = orderL (l.take k) := by
  unfold orderL; rw [List.take_succ_eq_append_getElem hk, List.filter_append, List.map_append]; simp [h]
theorem ev_ones {w : World} {e : Ev} {d d2 : Value} {a b : List UInt8} (h1 : Bytes w d a) (h2 : Bytes w d2 b) : ∀ u ∈ e.c d d2, u.oneCell' = true := by
  have q1 := Row.one h1
  have q2 := Row.one h2
  intro u hu
  simp only [List.mem_cons, List.not_mem_nil, or_false] at hu
  rcases hu with rfl | rfl | rfl | rfl | rfl | rfl | rfl | rfl | rfl | rfl | rfl | rfl | rfl | rfl | rfl | rfl | rfl | rfl | rfl <;> first | rfl | assumption
theorem order_len {l : List Ev} : (orderL l).length ≤ l.length := by unfold orderL; rw [List.length_map]; exact List.length_filter_le _ _
set_option maxHeartbeats 1000000 in
theorem chosen_ok (g : Nat) (l : List Ev) (t a : Int) (w : World) (h : HAt w g l) : FnOk Try.prog 53 [at_ g, i64 t, i64 a] w (fun r w' => r = .bool (chosenB l t a) ∧ w = w') := by
  obtain ⟨vl, gm, L, hI⟩ := h
  have hx := hI.obj
  have hM := hI.map
  have ki := int_keys (P := Try.prog) (kt := 3) Try.underlying3
  refine FnOk.enter (rs := [6]) Try.func53 rfl Try.ntmps53 Try.results53 rfl rfl ?_
  refine WF.seq ?_
  refine WF.region ?_
  refine WL.va rfl rfl rfl (X.assignB rfl) ?_
  refine WL.nil ?_
  refine thn_n ?_
  refine WF.seq ?_
  refine WF.region ?_
  refine WL.va rfl rfl rfl (X.move rfl) ?_
  refine WL.va rfl rfl rfl (X.nilCheck rfl) ?_
  refine WL.va rfl rfl rfl (X.fieldAddrO (off := 1) rfl Try.underlying81 rfl rfl Try.sizeOf79) ?_
  refine WL.va rfl rfl rfl (X.loadO hx (Ext.refl _) rfl rfl Try.isAgg79) ?_
  refine WL.va rfl rfl rfl (X.moveI rfl) ?_
  refine WL.va rfl rfl rfl (X.lookM2 ki hM Try.underlying79 Try.zeroValue3 rfl rfl (hI.z t) (hI.b t)) ?_
  refine WL.va rfl rfl rfl (X.move rfl) ?_
  refine WL.va rfl rfl rfl (X.extract rfl rfl) ?_
  refine WL.va rfl rfl rfl (X.extract rfl rfl) ?_
  refine WL.va rfl rfl rfl (X.assignI rfl) ?_
  refine WL.va rfl rfl rfl (X.assignB rfl) ?_
  refine WL.nil ?_
  refine thn_n ?_
  refine WF.seq ?_
  refine WF.region ?_
  refine WL.va rfl rfl rfl (X.moveB rfl) ?_
  refine WL.va rfl rfl rfl (X.moveB rfl) ?_
  refine WL.split (j := 1) rfl (fun h3 => ?_) (fun h3 => ?_)
  · have gh3 := h3
    have k1 : (firstOf l t).isSome = true := gh3
    refine WL.vg rfl (congrArg some h3) rfl rfl (X.moveI rfl) ?_
    refine WL.vg rfl (congrArg some h3) rfl rfl (X.moveI rfl) ?_
    refine WL.vg rfl (congrArg some h3) rfl rfl (X.lss rfl rfl) ?_
    refine WL.va rfl rfl rfl (X.pickT rfl h3 rfl) ?_
    refine WL.va rfl rfl rfl (X.assignB rfl) ?_
    refine WL.nil ?_
    refine thn_n ?_
    refine WF.ret ?_
    refine fin_r ?_
    exact ⟨by first | exact congrArg Value.bool (ch_t k1) | exact congrArg Value.bool (ch_f k1), rfl⟩
  · have gh3 := h3
    have k1 : (firstOf l t).isSome = false := gh3
    refine WL.p rfl rfl rfl (congrArg some h3) ?_
    refine WL.p rfl rfl rfl (congrArg some h3) ?_
    refine WL.p rfl rfl rfl (congrArg some h3) ?_
    refine WL.va rfl rfl rfl (X.pickF rfl h3 rfl) ?_
    refine WL.va rfl rfl rfl (X.assignB rfl) ?_
    refine WL.nil ?_
    refine thn_n ?_
    refine WF.ret ?_
    refine fin_r ?_
    exact ⟨by first | exact congrArg Value.bool (ch_t k1) | exact congrArg Value.bool (ch_f k1), rfl⟩

set_option maxHeartbeats 2000000 in
theorem order_ok (v : Value) (l : List Ev) (w : World) (hv : Evs w v l) (hl : l.length ≤ 1000000) : FnOk Try.prog 12 [v] w (fun r w' => OwnI w' w.heap.size 3 r (orderL l) ∧ Ext w w') := by
  obtain ⟨cs, hr, hel⟩ := hv
  refine FnOk.enter (rs := [2]) Try.func12 rfl Try.ntmps12 Try.results12 rfl rfl ?_
  refine WF.seq ?_
  refine WF.region ?_
  refine WL.va rfl rfl rfl (X.assign rfl) ?_
  refine WL.nil ?_
  refine thn_n ?_
  refine WF.seq ?_
  refine WF.region ?_
  refine WL.va rfl rfl rfl (X.assign rfl) ?_
  refine WL.nil ?_
  refine thn_n ?_
  refine WF.seq ?_
  refine WF.seq ?_
  refine WF.region ?_
  refine WL.va rfl rfl rfl (X.move rfl) ?_
  refine WL.va rfl rfl rfl (X.len hr rfl Try.underlying26) ?_
  refine WL.va rfl rfl rfl (X.moveI rfl) ?_
  refine WL.nil ?_
  refine thn_n ?_
  refine WF.block ?_
  refine WF.named (fun F1 hF2 => ?_)
  refine WF.loopN (fun mL0 f' w' => ∃ (k : Nat) (vo : Value), mL0 = l.length - k ∧ f' 8 = .int .i64 (k : Int) ∧ f' 3 = vo ∧ Agree [0, 2, 6, 7] f' F1 ∧ Ext w w' ∧ k ≤ l.length ∧ OwnI w' w.heap.size 3 vo (orderL (l.take k))) ?_ ?_
  · exact ⟨_, 0, _, rfl, (congrFun hF2 8), (congrFun hF2 3), (Agree.refl _ _), (Ext.refl _), ⟨Nat.zero_le _, OwnI.nil _ _ _⟩⟩
  · rintro mL0 fL0 wL0 ⟨k, vo, hmL0, e8_L0, e3_L0, hAL0, hwL0, ⟨hk0, hO⟩⟩
    have hOT := OwnT.of hO
    refine WF.seq ?_
    refine WF.region ?_
    refine WL.va rfl rfl rfl (X.lss e8_L0 ((hAL0.eq 7).trans (congrFun hF2 7))) ?_
    refine WL.nil ?_
    refine thn_n ?_
    refine WF.seq ?_
    refine WF.cond rfl (fun h0_3 => ?_) (fun h0_3 => ?_)
    · have gh0_3 := (of_decide_eq_true h0_3)
      have hk : k < l.length := by have := gh0_3; omega
      obtain ⟨d, d2, hcs, hd1, hd2⟩ := hel k hk
      have hol := order_len (l := l.take k)
      rw [show (l.take k).length = k from by simp; omega] at hol
      refine WF.skip ?_
      refine thn_n ?_
      refine WF.seq ?_
      refine WF.block ?_
      refine WF.seq ?_
      refine WF.region ?_
      refine WL.va rfl rfl rfl (X.idx hr ((hAL0.eq 6).trans (congrFun hF2 6)) e8_L0 hk Try.underlying26 Try.sizeOf42) ?_
      refine WL.va rfl rfl rfl (X.loadEl hr hwL0 rfl hk hcs Try.isAgg42 Try.sizeOf42) ?_
      refine WL.op rfl (OW.allocO (cs := [i64 0, i64 0, i64 0, i64 0, i64 0, i64 0, i64 0, i64 0, i64 0, i64 0, i64 0, i64 0, i64 0, i64 0, i64 0, .slice none 0 0, i64 0, i64 0, .slice none 0 0]) Try.zeroValue42 rfl ?_ (by decide))
      intro g5 w5 heg5 hlg5 hO5 hx7
      have := World.grownBy.size hx7
      refine WL.op rfl (OW.storeOA hO5 rfl rfl rfl (ev_ones hd1 hd2) Try.sizeOf42 ?_)
      intro wE hO5 hx10
      have := World.grownBy.size hx10
      replace hOT := (hOT.ext hx7).keptO hx10 (by omega)
      replace hO5 : Blk _ _ _ (Ev.c (l[k]'hk) d d2) := hO5
      refine WL.nil ?_
      refine thn_n ?_
      refine WF.seq ?_
      refine WF.region ?_
      refine WL.va rfl rfl rfl (X.fieldAddrO (off := 0) rfl Try.underlying42 rfl rfl Try.sizeOf3) ?_
      refine WL.va rfl rfl rfl (X.loadO hO5 (Ext.refl _) rfl rfl Try.isAgg3) ?_
      refine WL.va rfl rfl rfl (X.eql rfl rfl) ?_
      refine WL.nil ?_
      refine thn_n ?_
      refine WF.cond rfl (fun h1_12 => ?_) (fun h1_12 => ?_)
      · have gh1_12 := (of_decide_eq_true h1_12)
        have h3 : (l[k]'hk).Kind = 3 := gh1_12
        refine WF.region ?_
        refine WL.va rfl rfl rfl (X.move e3_L0) ?_
        refine WL.va rfl rfl rfl (X.fieldAddrO (off := 2) rfl Try.underlying42 rfl rfl Try.sizeOf3) ?_
        refine WL.va rfl rfl rfl (X.loadO hO5 (Ext.refl _) rfl rfl Try.isAgg3) ?_
        refine WL.op rfl (OW.lits (vs := [i64 (l[k]'hk).Txn]) (evp_cons rfl evp_nil) Try.underlying34 Try.sizeOf3 Try.zeroValue3 ⟨rfl, trivial⟩ rfl rfl rfl ?_ (by decide))
        intro v15 w14 ho17 hx16
        have := World.grownBy.size hx16
        have o1 : World.ownsRow w14 _ 3 1 v15 1 [i64 (l[k]'hk).Txn] := ho17
        refine WL.op rfl (OW.appendI (hOT.ext hx16).own (show Ints _ _ [(l[k]'hk).Txn] from Row.of_own o1) rfl rfl Try.underlying34 Try.type3 rfl rfl rfl rfl (by show (orderL (l.take k)).length + 1 ≤ _; omega) (by have := ((Ext.trans (Ext.trans hwL0 (Ext.store hx7 hx10 (by omega))) hx16)).size; omega) ?_ (by decide))
        intro vo2 w18 ho20 hx19 hmvhx19
        have hO2 : OwnI w18 w.heap.size 3 vo2 (orderL (l.take k) ++ [(l[k]'hk).Txn]) := ho20
        rw [← order_t hk h3] at hO2
        refine WL.va rfl rfl rfl (X.assign rfl) ?_
        refine WL.nil ?_
        refine blk_n ?_
        refine thn_n ?_
        refine WF.region ?_
        refine WL.va rfl rfl rfl (X.add e8_L0 rfl (w64 (by omega))) ?_
        refine WL.va rfl rfl rfl (X.moveI rfl) ?_
        refine WL.nil ?_
        exact thn_n ⟨_, (by omega), k + 1, _, rfl, rfl, rfl, (by repeat (first | exact hAL0 | refine Agree.put ?_ rfl | refine Agree.named hF2 ?_)), (Ext.own (Ext.trans (Ext.trans hwL0 (Ext.store hx7 hx10 (by omega))) hx16) (hOT.ext hx16).own (Nat.le_refl _) hx19), ⟨by omega, hO2⟩⟩
      · have gh1_12 := (of_decide_eq_false h1_12)
        have h3 : ¬ (l[k]'hk).Kind = 3 := gh1_12
        refine WF.skip ?_
        refine blk_n ?_
        refine thn_n ?_
        refine WF.region ?_
        refine WL.va rfl rfl rfl (X.add e8_L0 rfl (w64 (by omega))) ?_
        refine WL.va rfl rfl rfl (X.moveI rfl) ?_
        refine WL.nil ?_
        first | exact thn_n ⟨_, (by omega), k + 1, _, rfl, rfl, e3_L0, (by repeat (first | exact hAL0 | refine Agree.put ?_ rfl | refine Agree.named hF2 ?_)), (Ext.trans hwL0 (Ext.store hx7 hx10 (by omega))), ⟨by omega, hO2⟩⟩ | exact thn_n ⟨_, (by omega), k + 1, _, rfl, rfl, e3_L0, (by repeat (first | exact hAL0 | refine Agree.put ?_ rfl | refine Agree.named hF2 ?_)), (Ext.trans hwL0 (Ext.store hx7 hx10 (by omega))), ⟨by omega, by rw [order_f hk h3]; exact hOT.own⟩⟩
    · have gh0_3 := (of_decide_eq_false h0_3)
      have hk : l.length ≤ k := by have := gh0_3; omega
      refine WF.exit ?_
      refine thn_x ?_
      refine thn_x ?_
      refine blk_eq ?_
      refine thn_n ?_
      refine WF.seq ?_
      refine WF.region ?_
      refine WL.va rfl rfl rfl (X.move e3_L0) ?_
      refine WL.va rfl rfl rfl (X.assign rfl) ?_
      refine WL.nil ?_
      refine thn_n ?_
      refine WF.ret ?_
      refine fin_r ?_
      rw [List.take_of_length_le hk] at hO
      exact ⟨hO, hwL0⟩

end Go.Proofs.Ytobjmehppmhkdaa
