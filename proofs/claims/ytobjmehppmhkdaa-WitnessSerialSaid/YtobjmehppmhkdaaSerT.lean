/- The walk of WitnessSerial. -/
import Derived.Test.YtobjmehppmhkdaaSerS
namespace Go.Proofs.Ytobjmehppmhkdaa
open Go Go.RowKit Kf
set_option maxRecDepth 20000
theorem ser_ok {ch : List Bool} {l : List (List Dd)} : checkL (histL (serialL l ch (-1)).txs) = 0 := by
  rw [serial_check, (serial_ok (sp := -1) (ch := ch) (l := l)).neg (by omega)]; rfl
theorem ser_eq {ch : List Bool} {l : List (List Dd)} {sp : Int} : decide (checkL (histL (serialL l ch sp).txs) = 12) = (serialL l ch sp).sp := by
  rw [serial_check]
  cases (serialL l ch sp).sp <;> rfl

theorem Ddss.ext {w w' : World} {v : Value} {l : List (List Dd)} (h : Ddss w v l) (g : Ext w w') : Ddss w' v l := by
  obtain ⟨vs, hr, hel⟩ := h
  exact ⟨vs, Row.ext hr g, fun i hi => (hel i hi).ext g⟩
set_option maxHeartbeats 8000000 in
theorem witnessSerial_walk (v : Value) (l : List (List Dd)) (vc : Value) (ch : List Bool) (sp : Int) (w : World) (hv : Ddss w v l) (hin : ∀ i (hi : i < l.length), ∀ d ∈ l[i], -9223372036854775808 ≤ d.Block ∧ d.Block ≤ 9223372036854775807) (hc : Row w vc ch.length 1 (ch.map Value.bool)) (hsp : -9223372036854775808 ≤ sp ∧ sp ≤ 9223372036854775807) : FnOk Try.prog 3 [v, vc, i64 sp] w (fun r w' => r = .bool true ∧ Ext w w') := by
  refine FnOk.enter (rs := [6]) Try.func3 rfl Try.ntmps3 Try.results3 rfl rfl ?_
  refine WF.seq ?_
  refine WF.region ?_
  refine WL.va rfl rfl rfl (X.assignB rfl) ?_
  refine WL.nil ?_
  refine thn_n ?_
  refine WF.seq ?_
  refine WF.seq ?_
  refine WF.region ?_
  refine WL.va rfl rfl rfl (X.move rfl) ?_
  refine WL.c rfl rfl rfl (X.call Try.call6 (evl_cons rfl evl_nil)) (great_ok _ l _ (hv.ext (Ext.refl w))) ?_
  rintro v3 w2 ⟨⟨gb, rfl, hgb⟩, hx4⟩
  refine WL.nil ?_
  refine thn_n ?_
  refine WF.cond rfl (fun h0_5 => ?_) (fun h0_5 => ?_)
  · have gh0_5 := h0_5
    refine WF.seq ?_
    refine WF.region ?_
    refine WL.c rfl rfl rfl (X.call Try.call7 evl_nil) (works_ok _) ?_
    rintro v8 w7 ⟨rfl, hx9⟩
    refine WL.va rfl rfl rfl (X.assignB rfl) ?_
    refine WL.nil ?_
    refine thn_n ?_
    refine WF.ret ?_
    refine thn_r ?_
    refine fin_r ?_
    exact ⟨rfl, (Ext.trans hx4 hx9)⟩
  · have gh0_5 := h0_5
    have hgr := hgb gh0_5
    refine WF.skip ?_
    refine thn_n ?_
    refine WF.seq ?_
    refine WF.region ?_
    refine WL.va rfl rfl rfl (X.move rfl) ?_
    refine WL.va rfl rfl rfl (X.move rfl) ?_
    refine WL.c rfl rfl rfl (X.call Try.call8 (evl_cons rfl (evl_cons rfl (evl_cons rfl evl_nil)))) (serial_walk _ _ l ch (-1) _ (hv.ext hx4) (Row.ext hc hx4) hgr.1 hgr.2 hin) ?_
    rintro vA wA ⟨⟨vAo, rfl, vAe, vAl⟩, hx11⟩
    refine WL.va rfl rfl rfl (X.move rfl) ?_
    refine WL.va rfl rfl rfl (X.extract rfl rfl) ?_
    refine WL.va rfl rfl rfl (X.extract rfl rfl) ?_
    refine WL.va rfl rfl rfl (X.assign rfl) ?_
    refine WL.va rfl rfl rfl (X.assignB rfl) ?_
    refine WL.nil ?_
    refine thn_n ?_
    refine WF.seq ?_
    refine WF.seq ?_
    refine WF.region ?_
    refine WL.va rfl rfl rfl (X.move rfl) ?_
    refine WL.c rfl rfl rfl (X.call Try.call9 (evl_cons rfl evl_nil)) (check_ok _ (histL (serialL l ch (-1)).txs) _ (vAe.ext (Ext.refl wA)) (by omega)) ?_
    rintro v14 w13 ⟨rfl, hx15⟩
    refine WL.va rfl rfl rfl (X.neq rfl rfl) ?_
    refine WL.nil ?_
    refine thn_n ?_
    refine WF.cond rfl (fun h1_16 => ?_) (fun h1_16 => ?_)
    · have gh1_16 := (of_decide_eq_true h1_16)
      exact absurd ser_ok gh1_16
    · have gh1_16 := (Decidable.of_not_not (of_decide_eq_false h1_16))
      refine WF.skip ?_
      refine thn_n ?_
      refine WF.seq ?_
      refine WF.region ?_
      refine WL.va rfl rfl rfl (X.move rfl) ?_
      refine WL.va rfl rfl rfl (X.move rfl) ?_
      refine WL.va rfl rfl rfl (X.moveI rfl) ?_
      refine WL.c rfl rfl rfl (X.call Try.call10 (evl_cons (v := (i64 sp)) rfl (evl_cons (v := (i64 20)) rfl evl_nil))) (pickZ_ok sp 20 _ hsp (by omega)) ?_
      rintro v19 w18 ⟨rfl, rfl⟩
      refine WL.c rfl rfl rfl (X.call Try.call8 (evl_cons rfl (evl_cons rfl (evl_cons rfl evl_nil)))) (serial_walk _ _ l ch (pickZ sp 20) _ (hv.ext (Ext.trans (Ext.trans hx4 hx11) hx15)) (Row.ext hc (Ext.trans (Ext.trans hx4 hx11) hx15)) hgr.1 hgr.2 hin) ?_
      rintro vB wB ⟨⟨vBo, rfl, vBe, vBl⟩, hx21⟩
      refine WL.va rfl rfl rfl (X.move rfl) ?_
      refine WL.va rfl rfl rfl (X.extract rfl rfl) ?_
      refine WL.va rfl rfl rfl (X.extract rfl rfl) ?_
      refine WL.va rfl rfl rfl (X.assign rfl) ?_
      refine WL.va rfl rfl rfl (X.assignB rfl) ?_
      refine WL.nil ?_
      refine thn_n ?_
      refine WF.seq ?_
      refine WF.region ?_
      refine WL.va rfl rfl rfl (X.move rfl) ?_
      refine WL.c rfl rfl rfl (X.call Try.call9 (evl_cons rfl evl_nil)) (check_ok _ (histL (serialL l ch (pickZ sp 20)).txs) _ (vBe.ext (Ext.refl wB)) (by omega)) ?_
      rintro v24 w23 ⟨rfl, hx25⟩
      refine WL.va rfl rfl rfl (X.eql rfl rfl) ?_
      refine WL.va rfl rfl rfl (X.moveB rfl) ?_
      refine WL.va rfl rfl rfl (X.eqlB rfl rfl Try.underlying4) ?_
      refine WL.va rfl rfl rfl (X.moveB rfl) ?_
      refine WL.split (j := 5) rfl (fun h28 => ?_) (fun h28 => ?_)
      · have gh28 := h28
        refine WL.cg rfl (congrArg some h28) rfl rfl (X.call Try.call7 evl_nil) (works_ok _) ?_
        rintro v30 w29 ⟨rfl, hx31⟩
        refine WL.va rfl rfl rfl (X.pickT rfl h28 rfl) ?_
        refine WL.va rfl rfl rfl (X.assignB rfl) ?_
        refine WL.nil ?_
        refine thn_n ?_
        refine WF.ret ?_
        refine fin_r ?_
        exact ⟨rfl, (Ext.trans (Ext.trans (Ext.trans (Ext.trans (Ext.trans hx4 hx11) hx15) hx21) hx25) hx31)⟩
      · have gh28 := h28
        exact absurd ser_eq (by simpa using gh28)

end Go.Proofs.Ytobjmehppmhkdaa
