/- The walks of reads, wrong, behind and snaps. -/
import Derived.Test.YtobjmehppmhkdaaWitL
namespace Go.Proofs.Ytobjmehppmhkdaa
open Go Go.RowKit Kf
set_option maxRecDepth 20000

def rdF (l : List Ev) (t : Int) (d : List Bl) (i : Nat) (e : Ev) : Bool := (decide (e.Txn = t) && ans e 2 0) && !decide (getB (setsL d (writesL (l.take i) t)) e.Call.Block = e.Answer.Data)
def readsB (l : List Ev) (t : Int) (d : List Bl) : Bool := !anyI l (rdF l t d)
def wrongG (l : List Ev) : List Int → List Bl → Bool
  | [], _ => false
  | t :: ts, d => if readsB l t d then wrongG l ts (setsL d (writesL l t)) else true
def wrongB (l : List Ev) : Bool := wrongG l (orderL l) []
def behG (l : List Ev) (t : Int) : List Int → List Bl → List Bl
  | [], d => d
  | x :: ts, d => if x = t then setsL d (writesL l x) else behG l t ts (setsL d (writesL l x))
def behindL (l : List Ev) (t : Int) : List Bl := behG l t (orderL l) []
theorem beh_right {l : List Ev} {t : Int} : ∀ {ts : List Int} {d : List Bl}, RightB d → RightB (behG l t ts d)
  | [], _, h => h
  | x :: ts, d, h => by unfold behG; split; exact sets_right h _; exact beh_right (sets_right h _)
theorem behind_right {l : List Ev} {t : Int} : RightB (behindL l t) := beh_right RightB.nil
def snF (l : List Ev) (i : Nat) (e : Ev) : Bool := ans e 8 0 && (!chosenB l e.Call.Snap i || !decide (getB (behindL l e.Call.Snap) e.Call.Block = e.Answer.Data))
def snapsB (l : List Ev) : Bool := anyI l (snF l)
section
variable {l : List Ev} {t : Int} {ts : List Int} {d : List Bl} {k : Nat}
theorem wrong_no (hk : k < ts.length) (h : readsB l (ts.getD k 0) d = false) : wrongG l (ts.drop k) d = true := by
  rw [List.drop_eq_getElem_cons hk]; unfold wrongG
  rw [List.getD_eq_getElem?_getD, List.getElem?_eq_getElem hk] at h
  rw [if_neg (by rw [show readsB l ts[k] d = false from h]; simp)]
theorem wrong_yes (hk : k < ts.length) (h : readsB l (ts.getD k 0) d = true) : wrongG l (ts.drop k) d = wrongG l (ts.drop (k + 1)) (setsL d (writesL l (ts.getD k 0))) := by
  rw [List.getD_eq_getElem?_getD, List.getElem?_eq_getElem hk] at h ⊢
  rw [List.drop_eq_getElem_cons hk]; conv => lhs; unfold wrongG
  rw [if_pos (show readsB l ts[k] d = true from h)]; rfl
theorem beh_t (hk : k < ts.length) (h : ts.getD k 0 = t) : behG l t (ts.drop k) d = setsL d (writesL l (ts.getD k 0)) := by
  rw [List.getD_eq_getElem?_getD, List.getElem?_eq_getElem hk] at h ⊢
  rw [List.drop_eq_getElem_cons hk]; conv => lhs; unfold behG
  rw [if_pos (show ts[k] = t from h)]; rfl
theorem beh_f (hk : k < ts.length) (h : ¬ ts.getD k 0 = t) : behG l t (ts.drop k) d = behG l t (ts.drop (k + 1)) (setsL d (writesL l (ts.getD k 0))) := by
  rw [List.getD_eq_getElem?_getD, List.getElem?_eq_getElem hk] at h ⊢
  rw [List.drop_eq_getElem_cons hk]; conv => lhs; unfold behG
  rw [if_neg (show ¬ ts[k] = t from h)]; rfl
end
set_option maxHeartbeats 4000000 in
theorem reads_ok (g : Nat) (l : List Ev) (t : Int) (vd : Value) (d : List Bl) (w : World) (h : HAt w g l) (hb : Bls w vd d) (hrd : RightB d) (hl : l.length ≤ 1000000) : FnOk Try.prog 59 [at_ g, i64 t, vd] w (fun r w' => r = .bool (readsB l t d) ∧ Ext w w') := by
  have hH := h
  obtain ⟨vl, gm, L, hI⟩ := h
  have hx := hI.obj
  have tg := hx.lt
  obtain ⟨cs, hr, hel⟩ := hI.evs
  refine FnOk.enter (rs := [6]) Try.func59 rfl Try.ntmps59 Try.results59 rfl rfl ?_
  refine WF.seq ?_
  refine WF.region ?_
  refine WL.va rfl rfl rfl (X.assignB rfl) ?_
  refine WL.nil ?_
  refine thn_n ?_
  refine WF.seq ?_
  refine WF.seq ?_
  refine WF.region ?_
  refine WL.va rfl rfl rfl (X.move rfl) ?_
  refine WL.va rfl rfl rfl (X.nilCheck rfl) ?_
  refine WL.va rfl rfl rfl (X.fieldAddrO (off := 0) rfl Try.underlying81 rfl rfl Try.sizeOf26) ?_
  refine WL.va rfl rfl rfl (X.loadO hx (Ext.refl _) rfl rfl Try.isAgg26) ?_
  refine WL.va rfl rfl rfl (X.len hr rfl Try.underlying26) ?_
  refine WL.va rfl rfl rfl (X.moveI rfl) ?_
  refine WL.nil ?_
  refine thn_n ?_
  refine WF.block ?_
  refine WF.named (fun F2 hF3 => ?_)
  refine WF.loopN (fun mL0 f' w' => ∃ (k : Nat), mL0 = l.length - k ∧ f' 14 = .int .i64 (k : Int) ∧ Agree [0, 1, 2, 9, 10, 11, 12, 13] f' F2 ∧ Ext w w' ∧ k ≤ l.length ∧ NoI l (rdF l t d) k) ?_ ?_
  · exact ⟨_, 0, rfl, (congrFun hF3 14), (Agree.refl _ _), (Ext.refl _), ⟨Nat.zero_le _, NoI.z⟩⟩
  · rintro mL0 fL0 wL0 ⟨k, hmL0, e14_L0, hAL0, hwL0, ⟨hk0, hno⟩⟩
    have := World.grownBy.size hwL0
    refine WF.seq ?_
    refine WF.region ?_
    refine WL.va rfl rfl rfl (X.lss e14_L0 ((hAL0.eq 13).trans (congrFun hF3 13))) ?_
    refine WL.nil ?_
    refine thn_n ?_
    refine WF.seq ?_
    refine WF.cond rfl (fun h0_4 => ?_) (fun h0_4 => ?_)
    · have gh0_4 := (of_decide_eq_true h0_4)
      have hk : k < l.length := by have := gh0_4; omega
      obtain ⟨d1, d2, hcs, hd1, hd2⟩ := hel k hk
      refine WF.skip ?_
      refine thn_n ?_
      refine WF.seq ?_
      refine WF.block ?_
      refine WF.seq ?_
      refine WF.region ?_
      refine WL.va rfl rfl rfl (X.moveI e14_L0) ?_
      refine WL.va rfl rfl rfl (X.idx hr ((hAL0.eq 12).trans (congrFun hF3 12)) e14_L0 hk Try.underlying26 Try.sizeOf42) ?_
      refine WL.va rfl rfl rfl (X.loadEl hr hwL0 rfl hk hcs Try.isAgg42 Try.sizeOf42) ?_
      refine WL.op rfl (OW.allocO (cs := [i64 0, i64 0, i64 0, i64 0, i64 0, i64 0, i64 0, i64 0, i64 0, i64 0, i64 0, i64 0, i64 0, i64 0, i64 0, .slice none 0 0, i64 0, i64 0, .slice none 0 0]) Try.zeroValue42 rfl ?_ (by decide))
      intro g8 w6 heg8 hlg8 hO8 hx8
      have := World.grownBy.size hx8
      refine WL.va rfl rfl rfl (X.assignI rfl) ?_
      refine WL.op rfl (OW.storeOA hO8 rfl rfl rfl (ev_ones hd1 hd2) Try.sizeOf42 ?_)
      intro w10 hO8 hx12
      have := World.grownBy.size hx12
      replace hx := (hx.ext (Ext.trans hwL0 hx8)).keptO hx12 (by omega)
      replace hO8 : Blk _ _ _ (Ev.c (l[k]'hk) d1 d2) := hO8
      refine WL.nil ?_
      refine thn_n ?_
      refine WF.seq ?_
      refine WF.seq ?_
      refine WF.region ?_
      refine WL.va rfl rfl rfl (X.fieldAddrO (off := 2) rfl Try.underlying42 rfl rfl Try.sizeOf3) ?_
      refine WL.va rfl rfl rfl (X.loadO hO8 (Ext.refl _) rfl rfl Try.isAgg3) ?_
      refine WL.va rfl rfl rfl (X.moveI ((hAL0.eq 1).trans (congrFun hF3 1))) ?_
      refine WL.va rfl rfl rfl (X.neq rfl rfl) ?_
      refine WL.va rfl rfl rfl (X.moveB rfl) ?_
      refine WL.split (j := 4) rfl (fun h15 => ?_) (fun h15 => ?_)
      · have gh15 := (of_decide_eq_true h15)
        have hfk : rdF l t d k (l[k]'hk) = false := by simp [rdF, gh15]
        refine WL.p rfl rfl rfl (congrArg some h15) ?_
        refine WL.p rfl rfl rfl (congrArg some h15) ?_
        refine WL.p rfl rfl rfl (congrArg some h15) ?_
        refine WL.va rfl rfl rfl (X.pickT rfl h15 rfl) ?_
        refine WL.nil ?_
        refine thn_n ?_
        refine WF.cond_t rfl ?_
        refine WF.exit ?_
        refine thn_x ?_
        refine blk_eq ?_
        refine thn_n ?_
        refine WF.region ?_
        refine WL.va rfl rfl rfl (X.add e14_L0 rfl (w64 (by omega))) ?_
        refine WL.va rfl rfl rfl (X.moveI rfl) ?_
        refine WL.nil ?_
        exact thn_n ⟨_, (by omega), k + 1, rfl, rfl, (by repeat (first | exact hAL0 | refine Agree.put ?_ rfl | refine Agree.named hF3 ?_)), (Ext.trans hwL0 (Ext.store hx8 hx12 (by omega))), ⟨by omega, hno.s hk hfk⟩⟩
      · have gh15 := (Decidable.of_not_not (of_decide_eq_false h15))
        have k1 : (l[k]'hk).Txn = t := gh15
        refine WL.vg rfl (congrArg some h15) rfl rfl (X.loadOA hO8 (Ext.refl _) rfl rfl Try.isAgg42 Try.sizeOf42) ?_
        refine WL.cg rfl (congrArg some h15) rfl rfl (X.call Try.call51 (evl_cons (v := (agg (Ev.c (l[k]'hk) d1 d2))) rfl (evl_cons (v := (i64 2)) rfl (evl_cons (v := (i64 0)) rfl evl_nil)))) (answered_ok (l[k]'hk) d1 d2 2 0 _) ?_
        rintro v18 w17 ⟨rfl, hx19⟩
        have := World.grownBy.size hx19
        refine WL.vg rfl (congrArg some h15) rfl rfl (X.not rfl) ?_
        refine WL.va rfl rfl rfl (X.pickF rfl h15 rfl) ?_
        refine WL.nil ?_
        refine thn_n ?_
        refine WF.cond rfl (fun h1_21 => ?_) (fun h1_21 => ?_)
        · have gh1_21 := (nt h1_21)
          have hfk : rdF l t d k (l[k]'hk) = false := by simp [rdF, gh1_21]
          refine WF.exit ?_
          refine thn_x ?_
          refine blk_eq ?_
          refine thn_n ?_
          refine WF.region ?_
          refine WL.va rfl rfl rfl (X.add e14_L0 rfl (w64 (by omega))) ?_
          refine WL.va rfl rfl rfl (X.moveI rfl) ?_
          refine WL.nil ?_
          exact thn_n ⟨_, (by omega), k + 1, rfl, rfl, (by repeat (first | exact hAL0 | refine Agree.put ?_ rfl | refine Agree.named hF3 ?_)), (Ext.trans (Ext.trans hwL0 (Ext.store hx8 hx12 (by omega))) hx19), ⟨by omega, hno.s hk hfk⟩⟩
        · have gh1_21 := (nf h1_21)
          have a2 : ans (l[k]'hk) 2 0 = true := gh1_21
          refine WF.skip ?_
          refine thn_n ?_
          refine WF.seq ?_
          refine WF.drawn (.q 0 (.q 1 (.q 2 (.q 3 (.q 6 (.q 7 (.q 8 (.q 10 (.q 11 (.q 12 (.l 4 (.l 5 (.l 9 (.l 13 (.q 14 .nil))))))))))))))) (fun w' => Ext w17 w') 15 (by kernel_rfl) (by kernel_rfl) (Ext.drew _) ?_
          have := World.grownBy.size (Ext.drew w17)
          refine WO.q rfl rfl rfl rfl (fun w' hE23 => (X.move ((hAL0.eq 2).trans (congrFun hF3 2)))) ?_
          refine WO.q rfl rfl rfl rfl (fun w' hE23 => (X.move ((hAL0.eq 0).trans (congrFun hF3 0)))) ?_
          refine WO.q rfl rfl rfl rfl (fun w' hE23 => (X.moveI ((hAL0.eq 1).trans (congrFun hF3 1)))) ?_
          refine WO.q rfl rfl rfl rfl (fun w' hE23 => (X.moveI rfl)) ?_
          refine WO.q rfl rfl rfl rfl (fun w' hE23 => (X.fieldAddrO (off := 3) rfl Try.underlying42 rfl rfl Try.sizeOf38)) ?_
          refine WO.q rfl rfl rfl rfl (fun w' hE23 => (X.fieldAddrP (off := 1) rfl Try.underlying38 rfl rfl Try.sizeOf3)) ?_
          refine WO.q rfl rfl rfl rfl (fun w' hE23 => (X.loadO hO8 (Ext.trans hx19 hE23) rfl rfl Try.isAgg3)) ?_
          refine WO.q rfl rfl rfl rfl (fun w' hE23 => (X.fieldAddrO (off := 16) rfl Try.underlying42 rfl rfl Try.sizeOf40)) ?_
          refine WO.q rfl rfl rfl rfl (fun w' hE23 => (X.fieldAddrP (off := 2) rfl Try.underlying40 rfl rfl Try.sizeOf36)) ?_
          refine WO.q rfl rfl rfl rfl (fun w' hE23 => (X.loadO hO8 (Ext.trans hx19 hE23) rfl rfl Try.isAgg36)) ?_
          refine WO.l ?_
          refine LO.go rfl rfl (OW.enter rfl (by decide) (X.call Try.call61 (evl_cons (v := (at_ g)) rfl (evl_cons (v := (i64 t)) rfl (evl_cons (v := (i64 (k : Int))) rfl evl_nil)))) (writes_ok g l t k _ (hH.ext (show Ext w w17.drew from (Ext.trans (Ext.trans (Ext.trans hwL0 (Ext.store hx8 hx12 (by omega))) hx19) (Ext.drew _)))) (by omega) hl) ?_)
          rintro v25 w24 ⟨hwv, hx26⟩
          have := World.grownBy.size hx26
          refine ⟨(Ext.trans (Ext.drew _) hx26), ?_⟩
          refine WO.l ?_
          refine LO.go rfl rfl (OW.enter rfl (by decide) (X.call Try.call60 (evl_cons rfl (evl_cons rfl evl_nil))) (wset_ok _ _ d (writesL (l.take k) t) _ (hb.ext (Ext.trans (Ext.trans (Ext.trans (Ext.trans hwL0 (Ext.store hx8 hx12 (by omega))) hx19) (Ext.drew _)) hx26)) hrd hwv (by have := writes_len (m := l.take k) (t := t); rw [show (l.take k).length = k from by simp; omega] at this; omega)) ?_)
          rintro v28 w27 ⟨hsv, hx29⟩
          have := World.grownBy.size hx29
          refine ⟨(Ext.trans (Ext.trans (Ext.drew _) hx26) hx29), ?_⟩
          refine WO.l ?_
          refine LO.go rfl rfl (OW.enter rfl (by decide) (X.call Try.call26 (evl_cons rfl (evl_cons (v := (i64 (l[k]'hk).Call.Block)) rfl evl_nil))) (get_ok _ (setsL d (writesL (l.take k) t)) (l[k]'hk).Call.Block _ hsv (sets_right hrd _)) ?_)
          rintro v31 w30 ⟨hgv, hx32⟩
          have := World.grownBy.size hx32
          refine ⟨(Ext.trans (Ext.trans (Ext.trans (Ext.drew _) hx26) hx29) hx32), ?_⟩
          refine WO.l ?_
          refine LO.go rfl rfl (OW.enter rfl (by decide) (X.call Try.call62 (evl_cons rfl (evl_cons rfl evl_nil))) (bequal_ok _ _ (getB (setsL d (writesL (l.take k) t)) (l[k]'hk).Call.Block) (l[k]'hk).Answer.Data _ (Bytes.of_own hgv) (Row.ext hd2 (Ext.trans (Ext.trans (Ext.trans (Ext.trans (Ext.trans (Ext.trans hwL0 (Ext.store hx8 hx12 (by omega))) hx19) (Ext.drew _)) hx26) hx29) hx32))) ?_)
          rintro v34 w33 ⟨rfl, rfl⟩
          refine ⟨(Ext.trans (Ext.trans (Ext.trans (Ext.drew _) hx26) hx29) hx32), ?_⟩
          refine WO.q rfl rfl rfl rfl (fun w' hE23 => (X.not rfl)) ?_
          refine WO.nil ?_
          refine WL.nil ?_
          refine thn_n ?_
          refine WF.cond rfl (fun h2_37 => ?_) (fun h2_37 => ?_)
          · have gh2_37 := (of_decide_eq_false (nt h2_37))
            have hbad : rdF l t d k (l[k]'hk) = true := by simp [rdF, k1, a2, gh2_37]
            refine WF.seq ?_
            refine WF.region ?_
            refine WL.va rfl rfl rfl (X.assignB rfl) ?_
            refine WL.nil ?_
            refine thn_n ?_
            refine WF.ret ?_
            refine blk_r ?_
            refine thn_r ?_
            refine thn_r ?_
            refine blk_r ?_
            refine thn_r ?_
            refine fin_r ?_
            exact ⟨congrArg Value.bool (show false = readsB l t d by unfold readsB; rw [anyI_true (f := rdF l t d) hk hbad]; rfl), (Ext.trans (Ext.trans (Ext.trans (Ext.trans (Ext.trans (Ext.trans hwL0 (Ext.store hx8 hx12 (by omega))) hx19) (Ext.drew _)) hx26) hx29) hx32)⟩
          · have gh2_37 := (of_decide_eq_true (nf h2_37))
            have hfk : rdF l t d k (l[k]'hk) = false := by simp [rdF, gh2_37]
            refine WF.skip ?_
            refine blk_n ?_
            refine thn_n ?_
            refine WF.region ?_
            refine WL.va rfl rfl rfl (X.add e14_L0 rfl (w64 (by omega))) ?_
            refine WL.va rfl rfl rfl (X.moveI rfl) ?_
            refine WL.nil ?_
            exact thn_n ⟨_, (by omega), k + 1, rfl, rfl, (by repeat (first | exact hAL0 | refine Agree.put ?_ rfl | refine Agree.named hF3 ?_)), (Ext.trans (Ext.trans (Ext.trans (Ext.trans (Ext.trans (Ext.trans hwL0 (Ext.store hx8 hx12 (by omega))) hx19) (Ext.drew _)) hx26) hx29) hx32), ⟨by omega, hno.s hk hfk⟩⟩
    · have gh0_4 := (of_decide_eq_false h0_4)
      have hk : l.length ≤ k := by have := gh0_4; omega
      refine WF.exit ?_
      refine thn_x ?_
      refine thn_x ?_
      refine blk_eq ?_
      refine thn_n ?_
      refine WF.seq ?_
      refine WF.region ?_
      refine WL.va rfl rfl rfl (X.assignB rfl) ?_
      refine WL.nil ?_
      refine thn_n ?_
      refine WF.ret ?_
      refine fin_r ?_
      exact ⟨congrArg Value.bool (show true = readsB l t d by unfold readsB; rw [anyI_false hno hk]; rfl), hwL0⟩

set_option maxHeartbeats 4000000 in
theorem wrong_ok (g : Nat) (l : List Ev) (w : World) (h : HAt w g l) (hl : l.length ≤ 1000000) : FnOk Try.prog 33 [at_ g] w (fun r w' => r = .bool (wrongB l) ∧ Ext w w') := by
  have hH := h
  obtain ⟨vl, gm, L, hI⟩ := h
  have hx := hI.obj
  have tg := hx.lt
  obtain ⟨cs, hr, hel⟩ := hI.evs
  have hol := order_len (l := l)
  have hv0 := hI.evs
  refine FnOk.enter (rs := [2]) Try.func33 rfl Try.ntmps33 Try.results33 rfl rfl ?_
  refine WF.seq ?_
  refine WF.region ?_
  refine WL.va rfl rfl rfl (X.assignB rfl) ?_
  refine WL.nil ?_
  refine thn_n ?_
  refine WF.seq ?_
  refine WF.region ?_
  refine WL.va rfl rfl rfl (X.assign rfl) ?_
  refine WL.nil ?_
  refine thn_n ?_
  refine WF.seq ?_
  refine WF.seq ?_
  refine WF.region ?_
  refine WL.va rfl rfl rfl (X.move rfl) ?_
  refine WL.va rfl rfl rfl (X.nilCheck rfl) ?_
  refine WL.va rfl rfl rfl (X.fieldAddrO (off := 0) rfl Try.underlying81 rfl rfl Try.sizeOf26) ?_
  refine WL.va rfl rfl rfl (X.loadO hx (Ext.refl _) rfl rfl Try.isAgg26) ?_
  refine WL.c rfl rfl rfl (X.call Try.call12 (evl_cons rfl evl_nil)) (order_ok _ l _ (hv0.ext (Ext.refl w)) hl) ?_
  rintro v2 wO ⟨hov, hx3⟩
  have := World.grownBy.size hx3
  refine WL.va rfl rfl rfl (X.len (show Ints _ _ (orderL l) from Row.of_own hov) rfl Try.underlying34) ?_
  refine WL.va rfl rfl rfl (X.moveI rfl) ?_
  refine WL.nil ?_
  refine thn_n ?_
  refine WF.block ?_
  refine WF.named (fun F4 hF5 => ?_)
  refine WF.loopN (fun mL0 f' w' => ∃ (k : Nat) (vd : Value) (d : List Bl), mL0 = (orderL l).length - k ∧ f' 12 = .int .i64 (k : Int) ∧ f' 3 = vd ∧ Agree [0, 6, 7, 8, 9, 10, 11] f' F4 ∧ Ext wO w' ∧ k ≤ (orderL l).length ∧ Bls w' vd d ∧ RightB d ∧ wrongB l = wrongG l ((orderL l).drop k) d) ?_ ?_
  · exact ⟨_, 0, _, [], rfl, (congrFun hF5 12), (congrFun hF5 3), (Agree.refl _ _), (Ext.refl _), ⟨Nat.zero_le _, Bls.nil _, RightB.nil, rfl⟩⟩
  · rintro mL0 fL0 wL0 ⟨k, vd, d, hmL0, e12_L0, e3_L0, hAL0, hwL0, ⟨hk0, hb, hrd, hwr⟩⟩
    have := World.grownBy.size hwL0
    refine WF.seq ?_
    refine WF.region ?_
    refine WL.va rfl rfl rfl (X.lss e12_L0 ((hAL0.eq 11).trans (congrFun hF5 11))) ?_
    refine WL.nil ?_
    refine thn_n ?_
    refine WF.seq ?_
    refine WF.cond rfl (fun h0_6 => ?_) (fun h0_6 => ?_)
    · have gh0_6 := (of_decide_eq_true h0_6)
      have hk : k < (orderL l).length := by have := gh0_6; omega
      refine WF.skip ?_
      refine thn_n ?_
      refine WF.seq ?_
      refine WF.block ?_
      refine WF.seq ?_
      refine WF.region ?_
      refine WL.va rfl rfl rfl (X.idx (show Ints _ _ (orderL l) from Row.of_own hov) ((hAL0.eq 10).trans (congrFun hF5 10)) e12_L0 hk Try.underlying34 Try.sizeOf3) ?_
      refine WL.va rfl rfl rfl (X.loadI (show Ints _ _ (orderL l) from Row.of_own hov) hwL0 rfl hk Try.isAgg3) ?_
      refine WL.va rfl rfl rfl (X.assignI rfl) ?_
      refine WL.nil ?_
      refine thn_n ?_
      refine WF.seq ?_
      refine WF.seq ?_
      refine WF.region ?_
      refine WL.va rfl rfl rfl (X.move ((hAL0.eq 0).trans (congrFun hF5 0))) ?_
      refine WL.va rfl rfl rfl (X.moveI rfl) ?_
      refine WL.va rfl rfl rfl (X.move e3_L0) ?_
      refine WL.c rfl rfl rfl (X.call Try.call59 (evl_cons (v := (at_ g)) rfl (evl_cons (v := (i64 ((orderL l).getD k 0))) rfl (evl_cons rfl evl_nil)))) (reads_ok g l ((orderL l).getD k 0) _ d _ (hH.ext (show Ext w wL0 from (Ext.trans hx3 hwL0))) (hb.ext (Ext.refl wL0)) hrd hl) ?_
      rintro v9 w8 ⟨rfl, hx10⟩
      have := World.grownBy.size hx10
      refine WL.va rfl rfl rfl (X.not rfl) ?_
      refine WL.nil ?_
      refine thn_n ?_
      refine WF.cond rfl (fun h1_12 => ?_) (fun h1_12 => ?_)
      · have gh1_12 := (nt h1_12)
        have hbad : wrongG l ((orderL l).drop k) d = true := wrong_no hk gh1_12
        refine WF.seq ?_
        refine WF.region ?_
        refine WL.va rfl rfl rfl (X.assignB rfl) ?_
        refine WL.nil ?_
        refine thn_n ?_
        refine WF.ret ?_
        refine thn_r ?_
        refine blk_r ?_
        refine thn_r ?_
        refine thn_r ?_
        refine blk_r ?_
        refine thn_r ?_
        refine fin_r ?_
        exact ⟨congrArg Value.bool (hwr.trans hbad).symm, (Ext.trans (Ext.trans hx3 hwL0) hx10)⟩
      · have gh1_12 := (nf h1_12)
        have hnx := wrong_yes hk gh1_12
        refine WF.skip ?_
        refine thn_n ?_
        refine WF.region ?_
        refine WL.va rfl rfl rfl (X.move e3_L0) ?_
        refine WL.va rfl rfl rfl (X.move ((hAL0.eq 0).trans (congrFun hF5 0))) ?_
        refine WL.va rfl rfl rfl (X.moveI rfl) ?_
        refine WL.va rfl rfl rfl (X.move ((hAL0.eq 0).trans (congrFun hF5 0))) ?_
        refine WL.va rfl rfl rfl (X.nilCheck rfl) ?_
        refine WL.va rfl rfl rfl (X.fieldAddrO (off := 0) rfl Try.underlying81 rfl rfl Try.sizeOf26) ?_
        refine WL.va rfl rfl rfl (X.loadO hx (Ext.trans (Ext.trans hx3 hwL0) hx10) rfl rfl Try.isAgg26) ?_
        refine WL.va rfl rfl rfl (X.len hr rfl Try.underlying26) ?_
        refine WL.c rfl rfl rfl (X.call Try.call61 (evl_cons (v := (at_ g)) rfl (evl_cons (v := (i64 ((orderL l).getD k 0))) rfl (evl_cons (v := (i64 (l.length : Int))) rfl evl_nil)))) (writes_ok g l ((orderL l).getD k 0) l.length _ (hH.ext (show Ext w w8 from (Ext.trans (Ext.trans hx3 hwL0) hx10))) (Nat.le_refl _) hl) ?_
        rintro v16 w15 ⟨hwv, hx17⟩
        have := World.grownBy.size hx17
        rw [List.take_length] at hwv
        refine WL.c rfl rfl rfl (X.call Try.call60 (evl_cons rfl (evl_cons rfl evl_nil))) (wset_ok _ _ d (writesL l ((orderL l).getD k 0)) _ (hb.ext (Ext.trans hx10 hx17)) hrd hwv (by have := writes_len (m := l) (t := ((orderL l).getD k 0)); omega)) ?_
        rintro v19 w18 ⟨hsv, hx20⟩
        have := World.grownBy.size hx20
        refine WL.va rfl rfl rfl (X.assign rfl) ?_
        refine WL.nil ?_
        refine blk_n ?_
        refine thn_n ?_
        refine WF.region ?_
        refine WL.va rfl rfl rfl (X.add e12_L0 rfl (w64 (by omega))) ?_
        refine WL.va rfl rfl rfl (X.moveI rfl) ?_
        refine WL.nil ?_
        exact thn_n ⟨_, (by omega), k + 1, _, _, rfl, rfl, rfl, (by repeat (first | exact hAL0 | refine Agree.put ?_ rfl | refine Agree.named hF5 ?_)), (Ext.trans (Ext.trans (Ext.trans hwL0 hx10) hx17) hx20), ⟨by omega, hsv, sets_right hrd _, by rw [hwr, hnx]⟩⟩
    · have gh0_6 := (of_decide_eq_false h0_6)
      have hk : (orderL l).length ≤ k := by have := gh0_6; omega
      refine WF.exit ?_
      refine thn_x ?_
      refine thn_x ?_
      refine blk_eq ?_
      refine thn_n ?_
      refine WF.seq ?_
      refine WF.region ?_
      refine WL.va rfl rfl rfl (X.assignB rfl) ?_
      refine WL.nil ?_
      refine thn_n ?_
      refine WF.ret ?_
      refine fin_r ?_
      rw [List.drop_of_length_le hk] at hwr
      exact ⟨congrArg Value.bool hwr.symm, (Ext.trans hx3 hwL0)⟩

set_option maxHeartbeats 4000000 in
theorem behind_ok (g : Nat) (l : List Ev) (t : Int) (w : World) (h : HAt w g l) (hl : l.length ≤ 1000000) : FnOk Try.prog 63 [at_ g, i64 t] w (fun r w' => Bls w' r (behindL l t) ∧ Ext w w') := by
  have hH := h
  obtain ⟨vl, gm, L, hI⟩ := h
  have hx := hI.obj
  have tg := hx.lt
  obtain ⟨cs, hr, hel⟩ := hI.evs
  have hol := order_len (l := l)
  have hv0 := hI.evs
  refine FnOk.enter (rs := [4]) Try.func63 rfl Try.ntmps63 Try.results63 rfl rfl ?_
  refine WF.seq ?_
  refine WF.region ?_
  refine WL.va rfl rfl rfl (X.assign rfl) ?_
  refine WL.nil ?_
  refine thn_n ?_
  refine WF.seq ?_
  refine WF.region ?_
  refine WL.va rfl rfl rfl (X.assign rfl) ?_
  refine WL.nil ?_
  refine thn_n ?_
  refine WF.seq ?_
  refine WF.seq ?_
  refine WF.region ?_
  refine WL.va rfl rfl rfl (X.move rfl) ?_
  refine WL.va rfl rfl rfl (X.nilCheck rfl) ?_
  refine WL.va rfl rfl rfl (X.fieldAddrO (off := 0) rfl Try.underlying81 rfl rfl Try.sizeOf26) ?_
  refine WL.va rfl rfl rfl (X.loadO hx (Ext.refl _) rfl rfl Try.isAgg26) ?_
  refine WL.c rfl rfl rfl (X.call Try.call12 (evl_cons rfl evl_nil)) (order_ok _ l _ (hv0.ext (Ext.refl w)) hl) ?_
  rintro v1 wO ⟨hov, hx2⟩
  have := World.grownBy.size hx2
  refine WL.va rfl rfl rfl (X.len (show Ints _ _ (orderL l) from Row.of_own hov) rfl Try.underlying34) ?_
  refine WL.va rfl rfl rfl (X.moveI rfl) ?_
  refine WL.nil ?_
  refine thn_n ?_
  refine WF.block ?_
  refine WF.named (fun F3 hF4 => ?_)
  refine WF.loopN (fun mL0 f' w' => ∃ (k : Nat) (vd : Value) (d : List Bl), mL0 = (orderL l).length - k ∧ f' 14 = .int .i64 (k : Int) ∧ f' 5 = vd ∧ Agree [0, 1, 4, 8, 9, 10, 11, 12, 13] f' F3 ∧ Ext wO w' ∧ k ≤ (orderL l).length ∧ Bls w' vd d ∧ RightB d ∧ behindL l t = behG l t ((orderL l).drop k) d) ?_ ?_
  · exact ⟨_, 0, _, [], rfl, (congrFun hF4 14), (congrFun hF4 5), (Agree.refl _ _), (Ext.refl _), ⟨Nat.zero_le _, Bls.nil _, RightB.nil, rfl⟩⟩
  · rintro mL0 fL0 wL0 ⟨k, vd, d, hmL0, e14_L0, e5_L0, hAL0, hwL0, ⟨hk0, hb, hrd, hbh⟩⟩
    have := World.grownBy.size hwL0
    refine WF.seq ?_
    refine WF.region ?_
    refine WL.va rfl rfl rfl (X.lss e14_L0 ((hAL0.eq 13).trans (congrFun hF4 13))) ?_
    refine WL.nil ?_
    refine thn_n ?_
    refine WF.seq ?_
    refine WF.cond rfl (fun h0_5 => ?_) (fun h0_5 => ?_)
    · have gh0_5 := (of_decide_eq_true h0_5)
      have hk : k < (orderL l).length := by have := gh0_5; omega
      refine WF.skip ?_
      refine thn_n ?_
      refine WF.seq ?_
      refine WF.block ?_
      refine WF.seq ?_
      refine WF.region ?_
      refine WL.va rfl rfl rfl (X.idx (show Ints _ _ (orderL l) from Row.of_own hov) ((hAL0.eq 12).trans (congrFun hF4 12)) e14_L0 hk Try.underlying34 Try.sizeOf3) ?_
      refine WL.va rfl rfl rfl (X.loadI (show Ints _ _ (orderL l) from Row.of_own hov) hwL0 rfl hk Try.isAgg3) ?_
      refine WL.va rfl rfl rfl (X.assignI rfl) ?_
      refine WL.nil ?_
      refine thn_n ?_
      refine WF.seq ?_
      refine WF.region ?_
      refine WL.va rfl rfl rfl (X.move e5_L0) ?_
      refine WL.va rfl rfl rfl (X.move ((hAL0.eq 0).trans (congrFun hF4 0))) ?_
      refine WL.va rfl rfl rfl (X.moveI rfl) ?_
      refine WL.va rfl rfl rfl (X.move ((hAL0.eq 0).trans (congrFun hF4 0))) ?_
      refine WL.va rfl rfl rfl (X.nilCheck rfl) ?_
      refine WL.va rfl rfl rfl (X.fieldAddrO (off := 0) rfl Try.underlying81 rfl rfl Try.sizeOf26) ?_
      refine WL.va rfl rfl rfl (X.loadO hx (Ext.trans hx2 hwL0) rfl rfl Try.isAgg26) ?_
      refine WL.va rfl rfl rfl (X.len hr rfl Try.underlying26) ?_
      refine WL.c rfl rfl rfl (X.call Try.call61 (evl_cons (v := (at_ g)) rfl (evl_cons (v := (i64 ((orderL l).getD k 0))) rfl (evl_cons (v := (i64 (l.length : Int))) rfl evl_nil)))) (writes_ok g l ((orderL l).getD k 0) l.length _ (hH.ext (show Ext w wL0 from (Ext.trans hx2 hwL0))) (Nat.le_refl _) hl) ?_
      rintro v8 w7 ⟨hwv, hx9⟩
      have := World.grownBy.size hx9
      rw [List.take_length] at hwv
      refine WL.c rfl rfl rfl (X.call Try.call60 (evl_cons rfl (evl_cons rfl evl_nil))) (wset_ok _ _ d (writesL l ((orderL l).getD k 0)) _ (hb.ext hx9) hrd hwv (by have := writes_len (m := l) (t := ((orderL l).getD k 0)); omega)) ?_
      rintro v11 w10 ⟨hsv, hx12⟩
      have := World.grownBy.size hx12
      refine WL.va rfl rfl rfl (X.assign rfl) ?_
      refine WL.nil ?_
      refine thn_n ?_
      refine WF.seq ?_
      refine WF.region ?_
      refine WL.va rfl rfl rfl (X.moveI rfl) ?_
      refine WL.va rfl rfl rfl (X.moveI ((hAL0.eq 1).trans (congrFun hF4 1))) ?_
      refine WL.va rfl rfl rfl (X.eql rfl rfl) ?_
      refine WL.nil ?_
      refine thn_n ?_
      refine WF.cond rfl (fun h1_13 => ?_) (fun h1_13 => ?_)
      · have gh1_13 := (of_decide_eq_true h1_13)
        have hbh2 := hbh.trans (beh_t hk gh1_13)
        refine WF.exit ?_
        refine blk_ne rfl ?_
        refine thn_x ?_
        refine thn_x ?_
        refine blk_eq ?_
        refine thn_n ?_
        refine WF.seq ?_
        refine WF.region ?_
        refine WL.va rfl rfl rfl (X.move rfl) ?_
        refine WL.va rfl rfl rfl (X.assign rfl) ?_
        refine WL.nil ?_
        refine thn_n ?_
        refine WF.ret ?_
        refine fin_r ?_
        exact ⟨by rw [hbh2]; exact hsv, (Ext.trans (Ext.trans (Ext.trans hx2 hwL0) hx9) hx12)⟩
      · have gh1_13 := (of_decide_eq_false h1_13)
        have hnx := beh_f (l := l) (d := d) hk gh1_13
        refine WF.skip ?_
        refine blk_n ?_
        refine thn_n ?_
        refine WF.region ?_
        refine WL.va rfl rfl rfl (X.add e14_L0 rfl (w64 (by omega))) ?_
        refine WL.va rfl rfl rfl (X.moveI rfl) ?_
        refine WL.nil ?_
        exact thn_n ⟨_, (by omega), k + 1, _, _, rfl, rfl, rfl, (by repeat (first | exact hAL0 | refine Agree.put ?_ rfl | refine Agree.named hF4 ?_)), (Ext.trans (Ext.trans hwL0 hx9) hx12), ⟨by omega, hsv, sets_right hrd _, by rw [hbh, hnx]⟩⟩
    · have gh0_5 := (of_decide_eq_false h0_5)
      have hk : (orderL l).length ≤ k := by have := gh0_5; omega
      have hsv := hb
      have hbh2 := hbh.trans (show _ = d by rw [List.drop_of_length_le hk]; rfl)
      refine WF.exit ?_
      refine thn_x ?_
      refine thn_x ?_
      refine blk_eq ?_
      refine thn_n ?_
      refine WF.seq ?_
      refine WF.region ?_
      refine WL.va rfl rfl rfl (X.move e5_L0) ?_
      refine WL.va rfl rfl rfl (X.assign rfl) ?_
      refine WL.nil ?_
      refine thn_n ?_
      refine WF.ret ?_
      refine fin_r ?_
      exact ⟨by rw [hbh2]; exact hsv, (Ext.trans hx2 hwL0)⟩

set_option maxHeartbeats 4000000 in
theorem snaps_ok (g : Nat) (l : List Ev) (w : World) (h : HAt w g l) (hl : l.length ≤ 1000000) : FnOk Try.prog 34 [at_ g] w (fun r w' => r = .bool (snapsB l) ∧ Ext w w') := by
  have hH := h
  obtain ⟨vl, gm, L, hI⟩ := h
  have hx := hI.obj
  have tg := hx.lt
  obtain ⟨cs, hr, hel⟩ := hI.evs
  refine FnOk.enter (rs := [2]) Try.func34 rfl Try.ntmps34 Try.results34 rfl rfl ?_
  refine WF.seq ?_
  refine WF.region ?_
  refine WL.va rfl rfl rfl (X.assignB rfl) ?_
  refine WL.nil ?_
  refine thn_n ?_
  refine WF.seq ?_
  refine WF.seq ?_
  refine WF.region ?_
  refine WL.va rfl rfl rfl (X.move rfl) ?_
  refine WL.va rfl rfl rfl (X.nilCheck rfl) ?_
  refine WL.va rfl rfl rfl (X.fieldAddrO (off := 0) rfl Try.underlying81 rfl rfl Try.sizeOf26) ?_
  refine WL.va rfl rfl rfl (X.loadO hx (Ext.refl _) rfl rfl Try.isAgg26) ?_
  refine WL.va rfl rfl rfl (X.len hr rfl Try.underlying26) ?_
  refine WL.va rfl rfl rfl (X.moveI rfl) ?_
  refine WL.nil ?_
  refine thn_n ?_
  refine WF.block ?_
  refine WF.named (fun F2 hF3 => ?_)
  refine WF.loopN (fun mL0 f' w' => ∃ (k : Nat), mL0 = l.length - k ∧ f' 10 = .int .i64 (k : Int) ∧ Agree [0, 5, 6, 7, 8, 9] f' F2 ∧ Ext w w' ∧ k ≤ l.length ∧ NoI l (snF l) k) ?_ ?_
  · exact ⟨_, 0, rfl, (congrFun hF3 10), (Agree.refl _ _), (Ext.refl _), ⟨Nat.zero_le _, NoI.z⟩⟩
  · rintro mL0 fL0 wL0 ⟨k, hmL0, e10_L0, hAL0, hwL0, ⟨hk0, hno⟩⟩
    have := World.grownBy.size hwL0
    refine WF.seq ?_
    refine WF.region ?_
    refine WL.va rfl rfl rfl (X.lss e10_L0 ((hAL0.eq 9).trans (congrFun hF3 9))) ?_
    refine WL.nil ?_
    refine thn_n ?_
    refine WF.seq ?_
    refine WF.cond rfl (fun h0_4 => ?_) (fun h0_4 => ?_)
    · have gh0_4 := (of_decide_eq_true h0_4)
      have hk : k < l.length := by have := gh0_4; omega
      obtain ⟨d1, d2, hcs, hd1, hd2⟩ := hel k hk
      refine WF.skip ?_
      refine thn_n ?_
      refine WF.seq ?_
      refine WF.block ?_
      refine WF.seq ?_
      refine WF.region ?_
      refine WL.va rfl rfl rfl (X.moveI e10_L0) ?_
      refine WL.va rfl rfl rfl (X.idx hr ((hAL0.eq 8).trans (congrFun hF3 8)) e10_L0 hk Try.underlying26 Try.sizeOf42) ?_
      refine WL.va rfl rfl rfl (X.loadEl hr hwL0 rfl hk hcs Try.isAgg42 Try.sizeOf42) ?_
      refine WL.op rfl (OW.allocO (cs := [i64 0, i64 0, i64 0, i64 0, i64 0, i64 0, i64 0, i64 0, i64 0, i64 0, i64 0, i64 0, i64 0, i64 0, i64 0, .slice none 0 0, i64 0, i64 0, .slice none 0 0]) Try.zeroValue42 rfl ?_ (by decide))
      intro g4 w6 heg4 hlg4 hO4 hx8
      have := World.grownBy.size hx8
      refine WL.va rfl rfl rfl (X.assignI rfl) ?_
      refine WL.op rfl (OW.storeOA hO4 rfl rfl rfl (ev_ones hd1 hd2) Try.sizeOf42 ?_)
      intro w10 hO4 hx12
      have := World.grownBy.size hx12
      replace hx := (hx.ext (Ext.trans hwL0 hx8)).keptO hx12 (by omega)
      replace hO4 : Blk _ _ _ (Ev.c (l[k]'hk) d1 d2) := hO4
      refine WL.nil ?_
      refine thn_n ?_
      refine WF.seq ?_
      refine WF.seq ?_
      refine WF.region ?_
      refine WL.va rfl rfl rfl (X.loadOA hO4 (Ext.refl _) rfl rfl Try.isAgg42 Try.sizeOf42) ?_
      refine WL.c rfl rfl rfl (X.call Try.call51 (evl_cons (v := (agg (Ev.c (l[k]'hk) d1 d2))) rfl (evl_cons (v := (i64 8)) rfl (evl_cons (v := (i64 0)) rfl evl_nil)))) (answered_ok (l[k]'hk) d1 d2 8 0 _) ?_
      rintro v15 w14 ⟨rfl, hx16⟩
      have := World.grownBy.size hx16
      refine WL.va rfl rfl rfl (X.not rfl) ?_
      refine WL.nil ?_
      refine thn_n ?_
      refine WF.cond rfl (fun h1_18 => ?_) (fun h1_18 => ?_)
      · have gh1_18 := (nt h1_18)
        have hfk : snF l k (l[k]'hk) = false := by simp [snF, gh1_18]
        refine WF.exit ?_
        refine thn_x ?_
        refine blk_eq ?_
        refine thn_n ?_
        refine WF.region ?_
        refine WL.va rfl rfl rfl (X.add e10_L0 rfl (w64 (by omega))) ?_
        refine WL.va rfl rfl rfl (X.moveI rfl) ?_
        refine WL.nil ?_
        exact thn_n ⟨_, (by omega), k + 1, rfl, rfl, (by repeat (first | exact hAL0 | refine Agree.put ?_ rfl | refine Agree.named hF3 ?_)), (Ext.trans (Ext.trans hwL0 (Ext.store hx8 hx12 (by omega))) hx16), ⟨by omega, hno.s hk hfk⟩⟩
      · have gh1_18 := (nf h1_18)
        have a8 : ans (l[k]'hk) 8 0 = true := gh1_18
        refine WF.skip ?_
        refine thn_n ?_
        refine WF.seq ?_
        refine WF.drawn (.q 0 (.q 1 (.q 2 (.q 3 (.q 4 (.l 5 (.q 6 (.q 7 (.q 8 (.q 9 (.q 10 (.q 11 (.q 13 (.q 14 (.q 15 (.q 17 (.q 18 (.q 19 (.l 12 (.l 16 (.l 20 (.q 21 (.q 22 .nil))))))))))))))))))))))) (fun w' => Ext w14 w') 23 (by kernel_rfl) (by kernel_rfl) (Ext.drew _) ?_
        have := World.grownBy.size (Ext.drew w14)
        refine WO.q rfl rfl rfl rfl (fun w' hE20 => (X.move ((hAL0.eq 0).trans (congrFun hF3 0)))) ?_
        refine WO.q rfl rfl rfl rfl (fun w' hE20 => (X.fieldAddrO (off := 3) rfl Try.underlying42 rfl rfl Try.sizeOf38)) ?_
        refine WO.q rfl rfl rfl rfl (fun w' hE20 => (X.fieldAddrP (off := 3) rfl Try.underlying38 rfl rfl Try.sizeOf3)) ?_
        refine WO.q rfl rfl rfl rfl (fun w' hE20 => (X.loadO hO4 (Ext.trans hx16 hE20) rfl rfl Try.isAgg3)) ?_
        refine WO.q rfl rfl rfl rfl (fun w' hE20 => (X.moveI rfl)) ?_
        refine WO.l ?_
        refine LO.go rfl rfl (OW.enter rfl (by decide) (X.call Try.call53 (evl_cons (v := (at_ g)) rfl (evl_cons (v := (i64 (l[k]'hk).Call.Snap)) rfl (evl_cons (v := (i64 (k : Int))) rfl evl_nil)))) (chosen_ok g l (l[k]'hk).Call.Snap (k : Int) _ (hH.ext (show Ext w w14.drew from (Ext.trans (Ext.trans (Ext.trans hwL0 (Ext.store hx8 hx12 (by omega))) hx16) (Ext.drew _))))) ?_)
        rintro v22 w21 ⟨rfl, rfl⟩
        refine ⟨(Ext.drew _), ?_⟩
        refine WO.q rfl rfl rfl rfl (fun w' hE20 => (X.not rfl)) ?_
        refine WO.q rfl rfl rfl rfl (fun w' hE20 => (X.moveB rfl)) ?_
        refine WO.split (j := 7) rfl (fun h26 => ?_) (fun h26 => ?_)
        · have gh26 := (nt h26)
          have hbad : snF l k (l[k]'hk) = true := by simp [snF, a8, gh26]
          refine WO.qp rfl rfl rfl rfl (congrArg some h26) ?_
          refine WO.qp rfl rfl rfl rfl (congrArg some h26) ?_
          refine WO.qp rfl rfl rfl rfl (congrArg some h26) ?_
          refine WO.qp rfl rfl rfl rfl (congrArg some h26) ?_
          refine WO.qp rfl rfl rfl rfl (congrArg some h26) ?_
          refine WO.qp rfl rfl rfl rfl (congrArg some h26) ?_
          refine WO.qp rfl rfl rfl rfl (congrArg some h26) ?_
          refine WO.qp rfl rfl rfl rfl (congrArg some h26) ?_
          refine WO.qp rfl rfl rfl rfl (congrArg some h26) ?_
          refine WO.qp rfl rfl rfl rfl (congrArg some h26) ?_
          refine WO.l ?_
          refine LO.pass rfl (Ext.drew _) rfl rfl rfl (congrArg some h26) ?_
          refine WO.l ?_
          refine LO.pass rfl (Ext.drew _) rfl rfl rfl (congrArg some h26) ?_
          refine WO.l ?_
          refine LO.pass rfl (Ext.drew _) rfl rfl rfl (congrArg some h26) ?_
          refine WO.qp rfl rfl rfl rfl (congrArg some h26) ?_
          refine WO.q rfl rfl rfl rfl (fun w' hE20 => (X.pickT rfl h26 rfl)) ?_
          refine WO.nil ?_
          refine WL.nil ?_
          refine thn_n ?_
          refine WF.cond_t rfl ?_
          refine WF.seq ?_
          refine WF.region ?_
          refine WL.va rfl rfl rfl (X.assignB rfl) ?_
          refine WL.nil ?_
          refine thn_n ?_
          refine WF.ret ?_
          refine blk_r ?_
          refine thn_r ?_
          refine thn_r ?_
          refine blk_r ?_
          refine thn_r ?_
          refine fin_r ?_
          exact ⟨congrArg Value.bool (anyI_true (f := snF l) hk hbad).symm, (Ext.trans (Ext.trans (Ext.trans hwL0 (Ext.store hx8 hx12 (by omega))) hx16) (Ext.drew _))⟩
        · have gh26 := (nf h26)
          have kc : chosenB l (l[k]'hk).Call.Snap k = true := gh26
          refine WO.qg rfl rfl (congrArg some h26) rfl rfl (fun w' hE20 => (X.move ((hAL0.eq 0).trans (congrFun hF3 0)))) ?_
          refine WO.qg rfl rfl (congrArg some h26) rfl rfl (fun w' hE20 => (X.fieldAddrO (off := 3) rfl Try.underlying42 rfl rfl Try.sizeOf38)) ?_
          refine WO.qg rfl rfl (congrArg some h26) rfl rfl (fun w' hE20 => (X.fieldAddrP (off := 3) rfl Try.underlying38 rfl rfl Try.sizeOf3)) ?_
          refine WO.qg rfl rfl (congrArg some h26) rfl rfl (fun w' hE20 => (X.loadO hO4 (Ext.trans hx16 hE20) rfl rfl Try.isAgg3)) ?_
          refine WO.qg rfl rfl (congrArg some h26) rfl rfl (fun w' hE20 => (X.fieldAddrO (off := 3) rfl Try.underlying42 rfl rfl Try.sizeOf38)) ?_
          refine WO.qg rfl rfl (congrArg some h26) rfl rfl (fun w' hE20 => (X.fieldAddrP (off := 1) rfl Try.underlying38 rfl rfl Try.sizeOf3)) ?_
          refine WO.qg rfl rfl (congrArg some h26) rfl rfl (fun w' hE20 => (X.loadO hO4 (Ext.trans hx16 hE20) rfl rfl Try.isAgg3)) ?_
          refine WO.qg rfl rfl (congrArg some h26) rfl rfl (fun w' hE20 => (X.fieldAddrO (off := 16) rfl Try.underlying42 rfl rfl Try.sizeOf40)) ?_
          refine WO.qg rfl rfl (congrArg some h26) rfl rfl (fun w' hE20 => (X.fieldAddrP (off := 2) rfl Try.underlying40 rfl rfl Try.sizeOf36)) ?_
          refine WO.qg rfl rfl (congrArg some h26) rfl rfl (fun w' hE20 => (X.loadO hO4 (Ext.trans hx16 hE20) rfl rfl Try.isAgg36)) ?_
          refine WO.l ?_
          refine LO.gog rfl rfl (congrArg some h26) (OW.enter rfl (by decide) (X.call Try.call63 (evl_cons (v := (at_ g)) rfl (evl_cons (v := (i64 (l[k]'hk).Call.Snap)) rfl evl_nil))) (behind_ok g l (l[k]'hk).Call.Snap _ (hH.ext (show Ext w w14.drew from (Ext.trans (Ext.trans (Ext.trans hwL0 (Ext.store hx8 hx12 (by omega))) hx16) (Ext.drew _)))) hl) ?_)
          rintro v30 w29 ⟨hsv, hx31⟩
          have := World.grownBy.size hx31
          refine ⟨(Ext.trans (Ext.drew _) hx31), ?_⟩
          refine WO.l ?_
          refine LO.gog rfl rfl (congrArg some h26) (OW.enter rfl (by decide) (X.call Try.call26 (evl_cons rfl (evl_cons (v := (i64 (l[k]'hk).Call.Block)) rfl evl_nil))) (get_ok _ (behindL l (l[k]'hk).Call.Snap) (l[k]'hk).Call.Block _ hsv behind_right) ?_)
          rintro v33 w32 ⟨hgv, hx34⟩
          have := World.grownBy.size hx34
          refine ⟨(Ext.trans (Ext.trans (Ext.drew _) hx31) hx34), ?_⟩
          refine WO.l ?_
          refine LO.gog rfl rfl (congrArg some h26) (OW.enter rfl (by decide) (X.call Try.call62 (evl_cons rfl (evl_cons rfl evl_nil))) (bequal_ok _ _ (getB (behindL l (l[k]'hk).Call.Snap) (l[k]'hk).Call.Block) (l[k]'hk).Answer.Data _ (Bytes.of_own hgv) (Row.ext hd2 (Ext.trans (Ext.trans (Ext.trans (Ext.trans (Ext.trans hwL0 (Ext.store hx8 hx12 (by omega))) hx16) (Ext.drew _)) hx31) hx34))) ?_)
          rintro v36 w35 ⟨rfl, rfl⟩
          refine ⟨(Ext.trans (Ext.trans (Ext.drew _) hx31) hx34), ?_⟩
          refine WO.qg rfl rfl (congrArg some h26) rfl rfl (fun w' hE20 => (X.not rfl)) ?_
          refine WO.q rfl rfl rfl rfl (fun w' hE20 => (X.pickF rfl h26 rfl)) ?_
          refine WO.nil ?_
          refine WL.nil ?_
          refine thn_n ?_
          refine WF.cond rfl (fun h2_39 => ?_) (fun h2_39 => ?_)
          · have gh2_39 := (of_decide_eq_false (nt h2_39))
            have hbad : snF l k (l[k]'hk) = true := by simp [snF, a8, gh2_39]
            refine WF.seq ?_
            refine WF.region ?_
            refine WL.va rfl rfl rfl (X.assignB rfl) ?_
            refine WL.nil ?_
            refine thn_n ?_
            refine WF.ret ?_
            refine blk_r ?_
            refine thn_r ?_
            refine thn_r ?_
            refine blk_r ?_
            refine thn_r ?_
            refine fin_r ?_
            exact ⟨congrArg Value.bool (anyI_true (f := snF l) hk hbad).symm, (Ext.trans (Ext.trans (Ext.trans (Ext.trans (Ext.trans hwL0 (Ext.store hx8 hx12 (by omega))) hx16) (Ext.drew _)) hx31) hx34)⟩
          · have gh2_39 := (of_decide_eq_true (nf h2_39))
            have hfk : snF l k (l[k]'hk) = false := by simp [snF, kc, gh2_39]
            refine WF.skip ?_
            refine blk_n ?_
            refine thn_n ?_
            refine WF.region ?_
            refine WL.va rfl rfl rfl (X.add e10_L0 rfl (w64 (by omega))) ?_
            refine WL.va rfl rfl rfl (X.moveI rfl) ?_
            refine WL.nil ?_
            exact thn_n ⟨_, (by omega), k + 1, rfl, rfl, (by repeat (first | exact hAL0 | refine Agree.put ?_ rfl | refine Agree.named hF3 ?_)), (Ext.trans (Ext.trans (Ext.trans (Ext.trans (Ext.trans hwL0 (Ext.store hx8 hx12 (by omega))) hx16) (Ext.drew _)) hx31) hx34), ⟨by omega, hno.s hk hfk⟩⟩
    · have gh0_4 := (of_decide_eq_false h0_4)
      have hk : l.length ≤ k := by have := gh0_4; omega
      refine WF.exit ?_
      refine thn_x ?_
      refine thn_x ?_
      refine blk_eq ?_
      refine thn_n ?_
      refine WF.seq ?_
      refine WF.region ?_
      refine WL.va rfl rfl rfl (X.assignB rfl) ?_
      refine WL.nil ?_
      refine thn_n ?_
      refine WF.ret ?_
      refine fin_r ?_
      exact ⟨congrArg Value.bool (anyI_false hno hk).symm, hwL0⟩

end Go.Proofs.Ytobjmehppmhkdaa
