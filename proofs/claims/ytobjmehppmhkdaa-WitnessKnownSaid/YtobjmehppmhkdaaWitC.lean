/- The walk of historyOf. -/
import Derived.Test.YtobjmehppmhkdaaWitB
namespace Go.Proofs.Ytobjmehppmhkdaa
open Go Go.RowKit Kf
set_option maxRecDepth 20000

theorem firstOf_app : ∀ (l : List Ev) (e : Ev) (t : Int), firstOf (l ++ [e]) t = (match firstOf l t with
  | some i => some i
  | none => if chs t e then some l.length else none)
  | [], e, t => by simp [firstOf]
  | x :: l, e, t => by
    rw [List.cons_append]
    unfold firstOf
    by_cases h : chs t x = true
    · rw [if_pos h, if_pos h]
    · rw [if_neg h, if_neg h, firstOf_app l e t]
      cases firstOf l t with
      | some i => rfl
      | none =>
        by_cases h2 : chs t e = true
        · simp [h2]
        · simp [h2]
theorem firstOf_take {l : List Ev} {k : Nat} (hk : k < l.length) (t : Int) : firstOf (l.take (k + 1)) t = match firstOf (l.take k) t with
  | some i => some i
  | none => if chs t l[k] then some k else none := by
  rw [List.take_succ_eq_append_getElem hk, firstOf_app, show (l.take k).length = k from by simp; omega]
abbrev fz (o : Option Nat) : Option Value := o.map fun (i : Nat) => i64 (i : Int)
theorem first_n {l : List Ev} {k : Nat} (hk : k < l.length) (h : ¬ l[k].Kind = 3) (t : Int) : firstOf (l.take (k + 1)) t = firstOf (l.take k) t := by
  rw [firstOf_take hk]
  cases firstOf (l.take k) t with
  | some i => rfl
  | none => simp [chs, h]
theorem first_s {l : List Ev} {k : Nat} (hk : k < l.length) (h : (firstOf (l.take k) l[k].Txn).isSome = true) (t : Int) : firstOf (l.take (k + 1)) t = firstOf (l.take k) t := by
  rw [firstOf_take hk]
  cases e : firstOf (l.take k) t with
  | some i => rfl
  | none =>
    by_cases q : l[k].Txn = t
    · rw [q, e] at h; cases h
    · simp [chs, q]
theorem first_put {l : List Ev} {k : Nat} {L : List (Int × Value)} (hk : k < l.length) (hG : ∀ t, getM L t = fz (firstOf (l.take k) t)) (h : l[k].Kind = 3) (h2 : (firstOf (l.take k) l[k].Txn).isSome = false) (t : Int) : getM (putM L l[k].Txn (i64 (k : Int))) t = fz (firstOf (l.take (k + 1)) t) := by
  rw [getM_put, firstOf_take hk, hG]
  by_cases q : t = l[k].Txn
  · subst q
    cases e : firstOf (l.take k) l[k].Txn with
    | some i => rw [e] at h2; cases h2
    | none => simp [chs, h]
  · have q' : ¬ l[k].Txn = t := fun e => q e.symm
    cases firstOf (l.take k) t with
    | some i => simp [q']
    | none => simp [chs, q']
theorem get_z {L : List (Int × Value)} {l : List Ev} (hG : ∀ t, getM L t = fz (firstOf l t)) (t : Int) : (getM L t).getD (i64 0) = i64 (firstZ l t) := by
  rw [hG]; unfold firstZ; cases firstOf l t <;> rfl
theorem get_b {L : List (Int × Value)} {l : List Ev} (hG : ∀ t, getM L t = fz (firstOf l t)) (t : Int) : (getM L t).isSome = (firstOf l t).isSome := by
  rw [hG]; cases firstOf l t <;> rfl
set_option maxHeartbeats 4000000 in
theorem historyOf_ok (v : Value) (l : List Ev) (w : World) (hv : Evs w v l) (hl : l.length ≤ 1000000) : FnOk Try.prog 27 [v] w (fun r w' => (∃ g, r = at_ g ∧ HAt w' g l ∧ w.heap.size ≤ g) ∧ Ext w w') := by
  have hv0 := hv
  obtain ⟨cs, hr, hel⟩ := hv
  have ki := int_keys (P := Try.prog) (kt := 3) Try.underlying3
  refine FnOk.enter (rs := [2]) Try.func27 rfl Try.ntmps27 Try.results27 rfl rfl ?_
  refine WF.seq ?_
  refine WF.region ?_
  refine WL.va rfl rfl rfl (X.assign rfl) ?_
  refine WL.nil ?_
  refine thn_n ?_
  refine WF.seq ?_
  refine WF.region ?_
  refine WL.va rfl rfl rfl (X.move rfl) ?_
  refine WL.op rfl (OW.makeMap (enc := i64) ?_ (by decide))
  intro gM9 w1 hegM9 hlgM9 hM9 hx3
  have := World.grownBy.size hx3
  refine WL.va rfl rfl rfl (X.buildL (P := Try.prog) (t := 81) (cs := [v, mp_ gM9]) (evp_cons rfl (evp_cons rfl evp_nil)) Try.type81 Try.underlying81 rfl rfl ⟨Row.one hr, rfl, trivial⟩ rfl) ?_
  refine WL.op rfl (OW.boxA (cs := _) rfl ?_ (by decide))
  intro g11 w5 heg11 hlg11 hO11 hx7
  have := World.grownBy.size hx7
  refine WL.va rfl rfl rfl (X.assign rfl) ?_
  refine WL.nil ?_
  refine thn_n ?_
  refine WF.seq ?_
  refine WF.seq ?_
  refine WF.region ?_
  refine WL.va rfl rfl rfl (X.move rfl) ?_
  refine WL.va rfl rfl rfl (X.len hr rfl Try.underlying26) ?_
  refine WL.va rfl rfl rfl (X.moveI rfl) ?_
  refine WL.nil ?_
  refine thn_n ?_
  refine WF.block ?_
  refine WF.named (fun F9 hF10 => ?_)
  refine WF.loopN (fun mL0 f' w' => ∃ (k : Nat) (L : List (Int × Value)), mL0 = l.length - k ∧ f' 14 = .int .i64 (k : Int) ∧ Agree [0, 2, 3, 8, 9, 10, 11, 12, 13] f' F9 ∧ Ext w w' ∧ k ≤ l.length ∧ Blk w' g11 81 [v, mp_ gM9] ∧ MapB i64 w' gM9 L ∧ ∀ t, getM L t = fz (firstOf (l.take k) t)) ?_ ?_
  · exact ⟨_, 0, [], rfl, (congrFun hF10 14), (Agree.refl _ _), (Ext.trans hx3 hx7), ⟨Nat.zero_le _, hO11, (hM9.ext hx7), fun _ => rfl⟩⟩
  · rintro mL0 fL0 wL0 ⟨k, L, hmL0, e14_L0, hAL0, hwL0, ⟨hk0, hO11, hM9, hG⟩⟩
    have := World.grownBy.size hwL0
    have q11 := hO11.lt
    have q9 := hM9.lt
    refine WF.seq ?_
    refine WF.region ?_
    refine WL.va rfl rfl rfl (X.lss e14_L0 ((hAL0.eq 13).trans (congrFun hF10 13))) ?_
    refine WL.nil ?_
    refine thn_n ?_
    refine WF.seq ?_
    refine WF.cond rfl (fun h0_11 => ?_) (fun h0_11 => ?_)
    · have gh0_11 := (of_decide_eq_true h0_11)
      have hk : k < l.length := by have := gh0_11; omega
      obtain ⟨d, d2, hcs, hd1, hd2⟩ := hel k hk
      refine WF.skip ?_
      refine thn_n ?_
      refine WF.seq ?_
      refine WF.block ?_
      refine WF.seq ?_
      refine WF.region ?_
      refine WL.va rfl rfl rfl (X.moveI e14_L0) ?_
      refine WL.va rfl rfl rfl (X.idx hr ((hAL0.eq 12).trans (congrFun hF10 12)) e14_L0 hk Try.underlying26 Try.sizeOf42) ?_
      refine WL.va rfl rfl rfl (X.loadEl hr hwL0 rfl hk hcs Try.isAgg42 Try.sizeOf42) ?_
      refine WL.op rfl (OW.allocO (cs := [i64 0, i64 0, i64 0, i64 0, i64 0, i64 0, i64 0, i64 0, i64 0, i64 0, i64 0, i64 0, i64 0, i64 0, i64 0, .slice none 0 0, i64 0, i64 0, .slice none 0 0]) Try.zeroValue42 rfl ?_ (by decide))
      intro g5 w13 heg5 hlg5 hO5 hx15
      have := World.grownBy.size hx15
      refine WL.va rfl rfl rfl (X.assignI rfl) ?_
      refine WL.op rfl (OW.storeOA hO5 rfl rfl rfl (ev_ones hd1 hd2) Try.sizeOf42 ?_)
      intro w17 hO5 hx19
      have := World.grownBy.size hx19
      replace hM9 := (hM9.ext hx15).keptO hx19 (by omega)
      replace hO11 := (hO11.ext hx15).keptO hx19 (by omega)
      replace hO5 : Blk _ _ _ (Ev.c (l[k]'hk) d d2) := hO5
      refine WL.nil ?_
      refine thn_n ?_
      refine WF.seq ?_
      refine WF.drawn (.q 0 (.q 1 (.q 2 (.q 3 (.q 4 (.q 5 (.q 6 (.q 7 (.q 8 (.q 9 (.q 10 (.q 11 .nil)))))))))))) (fun w' => Ext w17 w') 12 (by kernel_rfl) (by kernel_rfl) (Ext.drew _) ?_
      have := World.grownBy.size (Ext.drew w17)
      refine WO.q rfl rfl rfl rfl (fun w' hE21 => (X.move ((hAL0.eq 3).trans (congrFun hF10 3)))) ?_
      refine WO.q rfl rfl rfl rfl (fun w' hE21 => (X.nilCheck rfl)) ?_
      refine WO.q rfl rfl rfl rfl (fun w' hE21 => (X.fieldAddrO (off := 1) rfl Try.underlying81 rfl rfl Try.sizeOf79)) ?_
      refine WO.q rfl rfl rfl rfl (fun w' hE21 => (X.loadO hO11 hE21 rfl rfl Try.isAgg79)) ?_
      refine WO.q rfl rfl rfl rfl (fun w' hE21 => (X.fieldAddrO (off := 2) rfl Try.underlying42 rfl rfl Try.sizeOf3)) ?_
      refine WO.q rfl rfl rfl rfl (fun w' hE21 => (X.loadO hO5 hE21 rfl rfl Try.isAgg3)) ?_
      refine WO.q rfl rfl rfl rfl (fun w' hE21 => (X.lookM2 ki (hM9.ext hE21) Try.underlying79 Try.zeroValue3 rfl rfl (get_z hG _) (get_b hG _))) ?_
      refine WO.q rfl rfl rfl rfl (fun w' hE21 => (X.move rfl)) ?_
      refine WO.q rfl rfl rfl rfl (fun w' hE21 => (X.extract rfl rfl)) ?_
      refine WO.q rfl rfl rfl rfl (fun w' hE21 => (X.extract rfl rfl)) ?_
      refine WO.q rfl rfl rfl rfl (fun w' hE21 => (X.assignI rfl)) ?_
      refine WO.q rfl rfl rfl rfl (fun w' hE21 => (X.assignB rfl)) ?_
      refine WO.nil ?_
      refine WL.nil ?_
      refine thn_n ?_
      refine WF.seq ?_
      refine WF.region ?_
      refine WL.va rfl rfl rfl (X.fieldAddrO (off := 0) rfl Try.underlying42 rfl rfl Try.sizeOf3) ?_
      refine WL.va rfl rfl rfl (X.loadO hO5 (Ext.drew _) rfl rfl Try.isAgg3) ?_
      refine WL.va rfl rfl rfl (X.eql rfl rfl) ?_
      refine WL.va rfl rfl rfl (X.moveB rfl) ?_
      refine WL.split (j := 3) rfl (fun h24 => ?_) (fun h24 => ?_)
      · have gh24 := (of_decide_eq_true h24)
        have k1 : (l[k]'hk).Kind = 3 := gh24
        refine WL.vg rfl (congrArg some h24) rfl rfl (X.moveB rfl) ?_
        refine WL.vg rfl (congrArg some h24) rfl rfl (X.not rfl) ?_
        refine WL.va rfl rfl rfl (X.pickT rfl h24 rfl) ?_
        refine WL.nil ?_
        refine thn_n ?_
        refine WF.cond rfl (fun h1_25 => ?_) (fun h1_25 => ?_)
        · have gh1_25 := (nt h1_25)
          have k2 : (firstOf (l.take k) (l[k]'hk).Txn).isSome = false := gh1_25
          refine WF.drawn (.q 0 (.q 1 (.q 2 (.q 3 (.q 4 (.q 5 (.q 6 .nil))))))) (fun w' => Ext w17.drew w') 7 (by kernel_rfl) (by kernel_rfl) (Ext.drew _) ?_
          have := World.grownBy.size (Ext.drew w17.drew)
          refine WO.q rfl rfl rfl rfl (fun w' hE27 => (X.move ((hAL0.eq 3).trans (congrFun hF10 3)))) ?_
          refine WO.q rfl rfl rfl rfl (fun w' hE27 => (X.nilCheck rfl)) ?_
          refine WO.q rfl rfl rfl rfl (fun w' hE27 => (X.fieldAddrO (off := 1) rfl Try.underlying81 rfl rfl Try.sizeOf79)) ?_
          refine WO.q rfl rfl rfl rfl (fun w' hE27 => (X.loadO hO11 (Ext.trans (Ext.drew _) hE27) rfl rfl Try.isAgg79)) ?_
          refine WO.q rfl rfl rfl rfl (fun w' hE27 => (X.fieldAddrO (off := 2) rfl Try.underlying42 rfl rfl Try.sizeOf3)) ?_
          refine WO.q rfl rfl rfl rfl (fun w' hE27 => (X.loadO hO5 (Ext.trans (Ext.drew _) hE27) rfl rfl Try.isAgg3)) ?_
          refine WO.q rfl rfl rfl rfl (fun w' hE27 => (X.moveI rfl)) ?_
          refine WO.nil ?_
          refine WL.op rfl (OW.putM ki (hM9.ext (Ext.trans (Ext.drew _) (Ext.drew _))) Try.underlying79 rfl rfl rfl ?_)
          intro w28 hM9 hx30
          have := World.grownBy.size hx30
          replace hO11 := (hO11.ext (Ext.trans (Ext.drew _) (Ext.drew _))).keptO hx30 (by omega)
          replace hO5 := (hO5.ext (Ext.trans (Ext.drew _) (Ext.drew _))).keptO hx30 (by omega)
          refine WL.nil ?_
          refine blk_n ?_
          refine thn_n ?_
          refine WF.region ?_
          refine WL.va rfl rfl rfl (X.add e14_L0 rfl (w64 (by omega))) ?_
          refine WL.va rfl rfl rfl (X.moveI rfl) ?_
          refine WL.nil ?_
          first | exact thn_n ⟨_, (by omega), k + 1, _, rfl, rfl, (by repeat (first | exact hAL0 | refine Agree.put ?_ rfl | refine Agree.named hF10 ?_)), (Ext.store (Ext.trans (Ext.trans (Ext.trans hwL0 (Ext.store hx15 hx19 (by omega))) (Ext.drew _)) (Ext.drew _)) hx30 (by omega)), ⟨by omega, hO11, hM9, first_put hk hG k1 k2⟩⟩ | exact thn_n ⟨_, (by omega), k + 1, _, rfl, rfl, (by repeat (first | exact hAL0 | refine Agree.put ?_ rfl | refine Agree.named hF10 ?_)), (Ext.store (Ext.trans (Ext.trans (Ext.trans hwL0 (Ext.store hx15 hx19 (by omega))) (Ext.drew _)) (Ext.drew _)) hx30 (by omega)), ⟨by omega, hO11, hM9, fun t => by rw [first_n hk k1]; exact hG t⟩⟩ | exact thn_n ⟨_, (by omega), k + 1, _, rfl, rfl, (by repeat (first | exact hAL0 | refine Agree.put ?_ rfl | refine Agree.named hF10 ?_)), (Ext.store (Ext.trans (Ext.trans (Ext.trans hwL0 (Ext.store hx15 hx19 (by omega))) (Ext.drew _)) (Ext.drew _)) hx30 (by omega)), ⟨by omega, hO11, hM9, fun t => by rw [first_s hk k2]; exact hG t⟩⟩
        · have gh1_25 := (nf h1_25)
          have k2 : (firstOf (l.take k) (l[k]'hk).Txn).isSome = true := gh1_25
          refine WF.skip ?_
          refine blk_n ?_
          refine thn_n ?_
          refine WF.region ?_
          refine WL.va rfl rfl rfl (X.add e14_L0 rfl (w64 (by omega))) ?_
          refine WL.va rfl rfl rfl (X.moveI rfl) ?_
          refine WL.nil ?_
          first | exact thn_n ⟨_, (by omega), k + 1, _, rfl, rfl, (by repeat (first | exact hAL0 | refine Agree.put ?_ rfl | refine Agree.named hF10 ?_)), (Ext.trans (Ext.trans hwL0 (Ext.store hx15 hx19 (by omega))) (Ext.drew _)), ⟨by omega, (hO11.ext (Ext.drew _)), (hM9.ext (Ext.drew _)), first_put hk hG k1 k2⟩⟩ | exact thn_n ⟨_, (by omega), k + 1, _, rfl, rfl, (by repeat (first | exact hAL0 | refine Agree.put ?_ rfl | refine Agree.named hF10 ?_)), (Ext.trans (Ext.trans hwL0 (Ext.store hx15 hx19 (by omega))) (Ext.drew _)), ⟨by omega, (hO11.ext (Ext.drew _)), (hM9.ext (Ext.drew _)), fun t => by rw [first_n hk k1]; exact hG t⟩⟩ | exact thn_n ⟨_, (by omega), k + 1, _, rfl, rfl, (by repeat (first | exact hAL0 | refine Agree.put ?_ rfl | refine Agree.named hF10 ?_)), (Ext.trans (Ext.trans hwL0 (Ext.store hx15 hx19 (by omega))) (Ext.drew _)), ⟨by omega, (hO11.ext (Ext.drew _)), (hM9.ext (Ext.drew _)), fun t => by rw [first_s hk k2]; exact hG t⟩⟩
      · have gh24 := (of_decide_eq_false h24)
        have k1 : ¬ (l[k]'hk).Kind = 3 := gh24
        refine WL.p rfl rfl rfl (congrArg some h24) ?_
        refine WL.p rfl rfl rfl (congrArg some h24) ?_
        refine WL.va rfl rfl rfl (X.pickF rfl h24 rfl) ?_
        refine WL.nil ?_
        refine thn_n ?_
        refine WF.cond_f rfl ?_
        refine WF.skip ?_
        refine blk_n ?_
        refine thn_n ?_
        refine WF.region ?_
        refine WL.va rfl rfl rfl (X.add e14_L0 rfl (w64 (by omega))) ?_
        refine WL.va rfl rfl rfl (X.moveI rfl) ?_
        refine WL.nil ?_
        first | exact thn_n ⟨_, (by omega), k + 1, _, rfl, rfl, (by repeat (first | exact hAL0 | refine Agree.put ?_ rfl | refine Agree.named hF10 ?_)), (Ext.trans (Ext.trans hwL0 (Ext.store hx15 hx19 (by omega))) (Ext.drew _)), ⟨by omega, (hO11.ext (Ext.drew _)), (hM9.ext (Ext.drew _)), first_put hk hG k1 k2⟩⟩ | exact thn_n ⟨_, (by omega), k + 1, _, rfl, rfl, (by repeat (first | exact hAL0 | refine Agree.put ?_ rfl | refine Agree.named hF10 ?_)), (Ext.trans (Ext.trans hwL0 (Ext.store hx15 hx19 (by omega))) (Ext.drew _)), ⟨by omega, (hO11.ext (Ext.drew _)), (hM9.ext (Ext.drew _)), fun t => by rw [first_n hk k1]; exact hG t⟩⟩ | exact thn_n ⟨_, (by omega), k + 1, _, rfl, rfl, (by repeat (first | exact hAL0 | refine Agree.put ?_ rfl | refine Agree.named hF10 ?_)), (Ext.trans (Ext.trans hwL0 (Ext.store hx15 hx19 (by omega))) (Ext.drew _)), ⟨by omega, (hO11.ext (Ext.drew _)), (hM9.ext (Ext.drew _)), fun t => by rw [first_s hk k2]; exact hG t⟩⟩
    · have gh0_11 := (of_decide_eq_false h0_11)
      have hk : l.length ≤ k := by have := gh0_11; omega
      refine WF.exit ?_
      refine thn_x ?_
      refine thn_x ?_
      refine blk_eq ?_
      refine thn_n ?_
      refine WF.seq ?_
      refine WF.region ?_
      refine WL.va rfl rfl rfl (X.move ((hAL0.eq 3).trans (congrFun hF10 3))) ?_
      refine WL.va rfl rfl rfl (X.assign rfl) ?_
      refine WL.nil ?_
      refine thn_n ?_
      refine WF.ret ?_
      refine fin_r ?_
      rw [List.take_of_length_le hk] at hG
      exact ⟨⟨g11, rfl, ⟨v, gM9, L, hO11, hv0.ext hwL0, hM9, hG⟩, by omega⟩, hwL0⟩

end Go.Proofs.Ytobjmehppmhkdaa
