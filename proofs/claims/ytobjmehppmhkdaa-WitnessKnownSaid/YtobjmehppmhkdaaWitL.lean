/- The walks of bytes.Equal, writes and set. -/
import Derived.Test.YtobjmehppmhkdaaWitK
import Derived.Test.YtobjmehppmhkdaaBlkS
import Derived.Test.YtobjmehppmhkdaaEqs
namespace Go.Proofs.Ytobjmehppmhkdaa
open Go Go.RowKit Kf
set_option maxRecDepth 20000

theorem bequal_ok (va vb : Value) (a b : List UInt8) (w : World) (ha : Bytes w va a) (hb : Bytes w vb b) : FnOk Try.prog 62 [va, vb] w (fun r w' => r = .bool (decide (a = b)) ∧ w = w') := by
  refine FnOk.enter (rs := [4]) Try.func62 rfl Try.ntmps62 Try.results62 rfl rfl ?_
  refine WF.seq ?_
  refine WF.region ?_
  refine WL.va rfl rfl rfl (X.assignB rfl) ?_
  refine WL.nil ?_
  refine thn_n ?_
  refine WF.seq ?_
  refine WF.region ?_
  refine WL.va rfl rfl rfl (X.move rfl) ?_
  refine WL.va rfl rfl rfl (X.convS ha (Ext.refl _) rfl Try.underlying36 Try.underlying5 Try.underlying9) ?_
  refine WL.va rfl rfl rfl (X.move rfl) ?_
  refine WL.va rfl rfl rfl (X.convS hb (Ext.refl _) rfl Try.underlying36 Try.underlying5 Try.underlying9) ?_
  refine WL.va rfl rfl rfl (X.eqlSS rfl rfl Try.underlying9) ?_
  refine WL.va rfl rfl rfl (X.assignB rfl) ?_
  refine WL.nil ?_
  refine thn_n ?_
  refine WF.ret ?_
  refine fin_r ?_
  exact ⟨rfl, rfl⟩

def wrF (t : Int) (e : Ev) : Bool := decide (e.Txn = t) && ans e 3 0
def writesL (l : List Ev) (t : Int) : List Wr := (l.filter (wrF t)).map fun e => ⟨e.Call.Block, e.Call.Data⟩
def setsL (d : List Bl) (ws : List Wr) : List Bl := ws.foldl (fun d x => setB d x.Block x.Data) d
theorem sets_right {d : List Bl} (h : RightB d) : ∀ (ws : List Wr), RightB (setsL d ws) := by
  intro ws
  induction ws generalizing d with
  | nil => exact h
  | cons x ws ih => exact ih (set_right h)
theorem sets_take {d : List Bl} {ws : List Wr} {k : Nat} (hk : k < ws.length) : setsL d (ws.take (k + 1)) = setB (setsL d (ws.take k)) ws[k].Block ws[k].Data := by
  rw [List.take_succ_eq_append_getElem hk]; unfold setsL; rw [List.foldl_append]; rfl
section
variable {m : List Ev} {k : Nat} {t : Int}
theorem writes_t (hk : k < m.length) (h : m[k].Txn = t) (h2 : ans m[k] 3 0 = true) : writesL (m.take (k + 1)) t = writesL (m.take k) t ++ [⟨m[k].Call.Block, m[k].Call.Data⟩] := by
  unfold writesL; rw [List.take_succ_eq_append_getElem hk, List.filter_append, List.map_append]; simp [wrF, h, h2]
theorem writes_f (hk : k < m.length) (h : ¬ m[k].Txn = t) : writesL (m.take (k + 1)) t = writesL (m.take k) t := by
  unfold writesL; rw [List.take_succ_eq_append_getElem hk, List.filter_append, List.map_append]; simp [wrF, h]
theorem writes_g (hk : k < m.length) (h2 : ans m[k] 3 0 = false) : writesL (m.take (k + 1)) t = writesL (m.take k) t := by
  unfold writesL; rw [List.take_succ_eq_append_getElem hk, List.filter_append, List.map_append]; simp [wrF, h2]
theorem writes_len {m : List Ev} {t : Int} : (writesL m t).length ≤ m.length := by unfold writesL; rw [List.length_map]; exact List.length_filter_le _ _
end
theorem Evs.part {w : World} {v : Value} {l : List Ev} {n : Nat} (h : Evs w v l) (hn : n ≤ l.length) : Evs w (Kf.part v 0 n 19) (l.take n) := by
  obtain ⟨cs, hr, hel⟩ := h
  have hp := Row.part hr 0 n (Nat.zero_le _) hn
  refine ⟨(cs.drop (0 * 19)).take ((n - 0) * 19), ?_, fun k hk => ?_⟩
  · rw [show (l.take n).length = n - 0 by simp; omega]; exact hp
  · have hk' : k < n := by simp at hk; omega
    have hk2 : k < l.length := by omega
    rw [show (l.take n)[k] = l[k] from List.getElem_take]
    have := hel k hk2
    have e : el ((cs.drop (0 * 19)).take ((n - 0) * 19)) 19 k = el cs 19 k := by
      unfold el
      rw [Nat.zero_mul, List.drop_zero, Nat.sub_zero, List.drop_take, List.take_take, Nat.min_eq_left (by omega)]
    rw [e]; exact this
set_option maxHeartbeats 4000000 in
theorem writes_ok (g : Nat) (l : List Ev) (t : Int) (n : Nat) (w : World) (h : HAt w g l) (hn : n ≤ l.length) (hl : l.length ≤ 1000000) : FnOk Try.prog 61 [at_ g, i64 t, i64 (n : Int)] w (fun r w' => Wrs w' r (writesL (l.take n) t) ∧ Ext w w') := by
  obtain ⟨vl, gm, L, hI⟩ := h
  have hx := hI.obj
  have tg := hx.lt
  obtain ⟨cs0, hr0, _⟩ := hI.evs
  obtain ⟨cs, hr, hel⟩ := hI.evs.part hn
  obtain ⟨m, hm⟩ : ∃ m, m = l.take n := ⟨_, rfl⟩
  have hml : m.length ≤ 1000000 := by rw [hm]; simp; omega
  rw [← hm] at hr hel ⊢
  refine FnOk.enter (rs := [6]) Try.func61 rfl Try.ntmps61 Try.results61 rfl rfl ?_
  refine WF.seq ?_
  refine WF.region ?_
  refine WL.va rfl rfl rfl (X.assign rfl) ?_
  refine WL.nil ?_
  refine thn_n ?_
  refine WF.seq ?_
  refine WF.region ?_
  refine WL.va rfl rfl rfl (X.assign rfl) ?_
  refine WL.nil ?_
  refine thn_n ?_
  refine WF.seq ?_
  refine WF.seq ?_
  refine WF.region ?_
  refine WL.va rfl rfl rfl (X.move rfl) ?_
  refine WL.va rfl rfl rfl (X.nilCheck rfl) ?_
  refine WL.va rfl rfl rfl (X.fieldAddrO (off := 0) rfl Try.underlying81 rfl rfl Try.sizeOf26) ?_
  refine WL.va rfl rfl rfl (X.loadO hx (Ext.refl _) rfl rfl Try.isAgg26) ?_
  refine WL.va rfl rfl rfl (X.moveI rfl) ?_
  refine WL.va rfl rfl rfl (X.slH hr0 rfl rfl hn Try.underlying26 Try.sizeOf42) ?_
  refine WL.va rfl rfl rfl (X.len hr rfl Try.underlying26) ?_
  refine WL.va rfl rfl rfl (X.moveI rfl) ?_
  refine WL.nil ?_
  refine thn_n ?_
  refine WF.block ?_
  refine WF.named (fun F1 hF2 => ?_)
  refine WF.loopN (fun mL0 f' w' => ∃ (k : Nat) (vo : Value) (O : List WV), mL0 = m.length - k ∧ f' 17 = .int .i64 (k : Int) ∧ f' 7 = vo ∧ Agree [0, 1, 2, 6, 10, 11, 12, 13, 14, 15, 16] f' F1 ∧ Ext w w' ∧ k ≤ m.length ∧ O.length ≤ k ∧ WOwnR w' w.heap.size vo O ∧ WDat w O ∧ O.map Prod.fst = writesL (m.take k) t) ?_ ?_
  · exact ⟨_, 0, (.slice none 0 0), [], rfl, (congrFun hF2 17), (congrFun hF2 7), (Agree.refl _ _), (Ext.refl _), ⟨Nat.zero_le _, Nat.le_refl _, WOwnR.nil _ _, (fun e he => by cases he), rfl⟩⟩
  · rintro mL0 fL0 wL0 ⟨k, vo, O, hmL0, e17_L0, e7_L0, hAL0, hwL0, ⟨hk0, hOl, ho, hD, hO⟩⟩
    have := World.grownBy.size hwL0
    have hOT := OwnT.of ho
    refine WF.seq ?_
    refine WF.region ?_
    refine WL.va rfl rfl rfl (X.lss e17_L0 ((hAL0.eq 16).trans (congrFun hF2 16))) ?_
    refine WL.nil ?_
    refine thn_n ?_
    refine WF.seq ?_
    refine WF.cond rfl (fun h0_3 => ?_) (fun h0_3 => ?_)
    · have gh0_3 := (of_decide_eq_true h0_3)
      have hk : k < m.length := by have := gh0_3; omega
      obtain ⟨d, d2, hcs, hd1, hd2⟩ := hel k hk
      refine WF.skip ?_
      refine thn_n ?_
      refine WF.seq ?_
      refine WF.block ?_
      refine WF.seq ?_
      refine WF.region ?_
      refine WL.va rfl rfl rfl (X.idx hr ((hAL0.eq 15).trans (congrFun hF2 15)) e17_L0 hk Try.underlying26 Try.sizeOf42) ?_
      refine WL.va rfl rfl rfl (X.loadEl hr hwL0 rfl hk hcs Try.isAgg42 Try.sizeOf42) ?_
      refine WL.op rfl (OW.allocO (cs := [i64 0, i64 0, i64 0, i64 0, i64 0, i64 0, i64 0, i64 0, i64 0, i64 0, i64 0, i64 0, i64 0, i64 0, i64 0, .slice none 0 0, i64 0, i64 0, .slice none 0 0]) Try.zeroValue42 rfl ?_ (by decide))
      intro g9 w5 heg9 hlg9 hO9 hx7
      have := World.grownBy.size hx7
      refine WL.op rfl (OW.storeOA hO9 rfl rfl rfl (ev_ones hd1 hd2) Try.sizeOf42 ?_)
      intro w9 hO9 hx11
      have := World.grownBy.size hx11
      replace hx := (hx.ext (Ext.trans hwL0 hx7)).keptO hx11 (by omega)
      replace hOT := (hOT.ext hx7).keptO hx11 (by omega)
      replace hO9 : Blk _ _ _ (Ev.c (m[k]'hk) d d2) := hO9
      refine WL.nil ?_
      refine thn_n ?_
      refine WF.seq ?_
      refine WF.region ?_
      refine WL.va rfl rfl rfl (X.fieldAddrO (off := 2) rfl Try.underlying42 rfl rfl Try.sizeOf3) ?_
      refine WL.va rfl rfl rfl (X.loadO hO9 (Ext.refl _) rfl rfl Try.isAgg3) ?_
      refine WL.va rfl rfl rfl (X.moveI ((hAL0.eq 1).trans (congrFun hF2 1))) ?_
      refine WL.va rfl rfl rfl (X.eql rfl rfl) ?_
      refine WL.va rfl rfl rfl (X.moveB rfl) ?_
      refine WL.split (j := 4) rfl (fun h14 => ?_) (fun h14 => ?_)
      · have gh14 := (of_decide_eq_true h14)
        have k1 : (m[k]'hk).Txn = t := gh14
        refine WL.vg rfl (congrArg some h14) rfl rfl (X.loadOA hO9 (Ext.refl _) rfl rfl Try.isAgg42 Try.sizeOf42) ?_
        refine WL.cg rfl (congrArg some h14) rfl rfl (X.call Try.call51 (evl_cons (v := (agg (Ev.c (m[k]'hk) d d2))) rfl (evl_cons (v := (i64 3)) rfl (evl_cons (v := (i64 0)) rfl evl_nil)))) (answered_ok (m[k]'hk) d d2 3 0 _) ?_
        rintro v16 w15 ⟨rfl, hx17⟩
        have := World.grownBy.size hx17
        refine WL.va rfl rfl rfl (X.pickT rfl h14 rfl) ?_
        refine WL.nil ?_
        refine thn_n ?_
        refine WF.cond rfl (fun h1_18 => ?_) (fun h1_18 => ?_)
        · have gh1_18 := h1_18
          have hst := writes_t hk k1 gh1_18
          refine WF.region ?_
          refine WL.va rfl rfl rfl (X.move e7_L0) ?_
          refine WL.va rfl rfl rfl (X.fieldAddrO (off := 3) rfl Try.underlying42 rfl rfl Try.sizeOf38) ?_
          refine WL.va rfl rfl rfl (X.fieldAddrP (off := 1) rfl Try.underlying38 rfl rfl Try.sizeOf3) ?_
          refine WL.va rfl rfl rfl (X.loadO hO9 hx17 rfl rfl Try.isAgg3) ?_
          refine WL.va rfl rfl rfl (X.fieldAddrO (off := 3) rfl Try.underlying42 rfl rfl Try.sizeOf38) ?_
          refine WL.va rfl rfl rfl (X.fieldAddrP (off := 12) rfl Try.underlying38 rfl rfl Try.sizeOf36) ?_
          refine WL.va rfl rfl rfl (X.loadO hO9 hx17 rfl rfl Try.isAgg36) ?_
          refine WL.va rfl rfl rfl (X.buildL (P := Try.prog) (t := 109) (cs := (WV.c ((⟨(m[k]'hk).Call.Block, (m[k]'hk).Call.Data⟩ : Wr), d))) (evp_cons rfl (evp_cons rfl evp_nil)) Try.type109 Try.underlying109 rfl rfl ⟨rfl, Row.one hd1, trivial⟩ rfl) ?_
          refine WL.op rfl (OW.lits (vs := [agg (WV.c ((⟨(m[k]'hk).Call.Block, (m[k]'hk).Call.Data⟩ : Wr), d))]) (evp_cons rfl evp_nil) Try.underlying94 Try.sizeOf109 Try.zeroValue109 ⟨rfl, trivial⟩ rfl rfl rfl ?_ (by decide))
          intro v21 w20 ho23 hx22
          have := World.grownBy.size hx22
          have o1 : World.ownsRow w20 _ 109 2 v21 1 (WV.c ((⟨(m[k]'hk).Call.Block, (m[k]'hk).Call.Data⟩ : Wr), d)) := ho23
          refine WL.op rfl (OW.append (bytes := 32) (hOT.ext (Ext.trans hx17 hx22)).own (Row.of_own o1) (WV.c_one (e := ((⟨(m[k]'hk).Call.Block, (m[k]'hk).Call.Data⟩ : Wr), d)) hd1) rfl rfl Try.underlying94 Try.type109 rfl rfl rfl rfl (by decide) (by unfold maxLen; omega) (by omega) (by have := ((Ext.trans (Ext.trans (Ext.trans hwL0 (Ext.store hx7 hx11 (by omega))) hx17) hx22)).size; omega) ?_ (by decide))
          intro v25 w24 ho27 hx26 hmvhx26
          have ho2 := WOwnR.app ho27
          have hD2 := WDat.app (e := ((⟨(m[k]'hk).Call.Block, (m[k]'hk).Call.Data⟩ : Wr), d)) hD hd1
          refine WL.va rfl rfl rfl (X.assign rfl) ?_
          refine WL.nil ?_
          refine blk_n ?_
          refine thn_n ?_
          refine WF.region ?_
          refine WL.va rfl rfl rfl (X.add e17_L0 rfl (w64 (by omega))) ?_
          refine WL.va rfl rfl rfl (X.moveI rfl) ?_
          refine WL.nil ?_
          exact thn_n ⟨_, (by omega), k + 1, _, _, rfl, rfl, rfl, (by repeat (first | exact hAL0 | refine Agree.put ?_ rfl | refine Agree.named hF2 ?_)), (Ext.own (Ext.trans (Ext.trans (Ext.trans hwL0 (Ext.store hx7 hx11 (by omega))) hx17) hx22) (hOT.ext (Ext.trans hx17 hx22)).own (Nat.le_refl _) hx26), ⟨by omega, by simp; omega, ho2, hD2, by rw [hst, List.map_append, hO]; rfl⟩⟩
        · have gh1_18 := h1_18
          have hst := writes_g (t := t) hk gh1_18
          refine WF.skip ?_
          refine blk_n ?_
          refine thn_n ?_
          refine WF.region ?_
          refine WL.va rfl rfl rfl (X.add e17_L0 rfl (w64 (by omega))) ?_
          refine WL.va rfl rfl rfl (X.moveI rfl) ?_
          refine WL.nil ?_
          first | exact thn_n ⟨_, (by omega), k + 1, _, _, rfl, rfl, e7_L0, (by repeat (first | exact hAL0 | refine Agree.put ?_ rfl | refine Agree.named hF2 ?_)), (Ext.trans (Ext.trans hwL0 (Ext.store hx7 hx11 (by omega))) hx17), ⟨by omega, by simp; omega, ho2, hD2, by rw [hst, List.map_append, hO]; rfl⟩⟩ | exact thn_n ⟨_, (by omega), k + 1, _, _, rfl, rfl, e7_L0, (by repeat (first | exact hAL0 | refine Agree.put ?_ rfl | refine Agree.named hF2 ?_)), (Ext.trans (Ext.trans hwL0 (Ext.store hx7 hx11 (by omega))) hx17), ⟨by omega, by omega, (hOT.ext hx17).own, hD, by rw [hst]; exact hO⟩⟩
      · have gh14 := (of_decide_eq_false h14)
        have hst := writes_f hk gh14
        refine WL.p rfl rfl rfl (congrArg some h14) ?_
        refine WL.p rfl rfl rfl (congrArg some h14) ?_
        refine WL.va rfl rfl rfl (X.pickF rfl h14 rfl) ?_
        refine WL.nil ?_
        refine thn_n ?_
        refine WF.cond_f rfl ?_
        refine WF.skip ?_
        refine blk_n ?_
        refine thn_n ?_
        refine WF.region ?_
        refine WL.va rfl rfl rfl (X.add e17_L0 rfl (w64 (by omega))) ?_
        refine WL.va rfl rfl rfl (X.moveI rfl) ?_
        refine WL.nil ?_
        first | exact thn_n ⟨_, (by omega), k + 1, _, _, rfl, rfl, e7_L0, (by repeat (first | exact hAL0 | refine Agree.put ?_ rfl | refine Agree.named hF2 ?_)), (Ext.trans hwL0 (Ext.store hx7 hx11 (by omega))), ⟨by omega, by simp; omega, ho2, hD2, by rw [hst, List.map_append, hO]; rfl⟩⟩ | exact thn_n ⟨_, (by omega), k + 1, _, _, rfl, rfl, e7_L0, (by repeat (first | exact hAL0 | refine Agree.put ?_ rfl | refine Agree.named hF2 ?_)), (Ext.trans hwL0 (Ext.store hx7 hx11 (by omega))), ⟨by omega, by omega, hOT.own, hD, by rw [hst]; exact hO⟩⟩
    · have gh0_3 := (of_decide_eq_false h0_3)
      have hk : m.length ≤ k := by have := gh0_3; omega
      refine WF.exit ?_
      refine thn_x ?_
      refine thn_x ?_
      refine blk_eq ?_
      refine thn_n ?_
      refine WF.seq ?_
      refine WF.region ?_
      refine WL.va rfl rfl rfl (X.move e7_L0) ?_
      refine WL.va rfl rfl rfl (X.assign rfl) ?_
      refine WL.nil ?_
      refine thn_n ?_
      refine WF.ret ?_
      refine fin_r ?_
      rw [List.take_of_length_le hk] at hO
      exact ⟨⟨O, hO, Row.of_own ho, hD.ext hwL0⟩, hwL0⟩

set_option maxHeartbeats 2000000 in
theorem wset_ok (v vw : Value) (l : List Bl) (ws : List Wr) (w : World) (h : Bls w v l) (hr : RightB l) (hw : Wrs w vw ws) (hl : ws.length ≤ 1000000) : FnOk Try.prog 60 [v, vw] w (fun r w' => Bls w' r (setsL l ws) ∧ Ext w w') := by
  obtain ⟨E, rfl, re, de⟩ := hw
  simp only [List.length_map] at hl
  refine FnOk.enter (rs := [4]) Try.func60 rfl Try.ntmps60 Try.results60 rfl rfl ?_
  refine WF.seq ?_
  refine WF.region ?_
  refine WL.va rfl rfl rfl (X.assign rfl) ?_
  refine WL.nil ?_
  refine thn_n ?_
  refine WF.seq ?_
  refine WF.seq ?_
  refine WF.region ?_
  refine WL.va rfl rfl rfl (X.move rfl) ?_
  refine WL.va rfl rfl rfl (X.len re rfl Try.underlying94) ?_
  refine WL.va rfl rfl rfl (X.moveI rfl) ?_
  refine WL.nil ?_
  refine thn_n ?_
  refine WF.block ?_
  refine WF.named (fun F1 hF2 => ?_)
  refine WF.loopN (fun mL0 f' w' => ∃ (k : Nat) (vl : Value), mL0 = E.length - k ∧ f' 9 = .int .i64 (k : Int) ∧ f' 0 = vl ∧ Agree [1, 4, 7, 8] f' F1 ∧ Ext w w' ∧ k ≤ E.length ∧ Bls w' vl (setsL l ((E.map Prod.fst).take k))) ?_ ?_
  · exact ⟨_, 0, _, rfl, (congrFun hF2 9), (congrFun hF2 0), (Agree.refl _ _), (Ext.refl _), ⟨Nat.zero_le _, h⟩⟩
  · rintro mL0 fL0 wL0 ⟨k, vl, hmL0, e9_L0, e0_L0, hAL0, hwL0, ⟨hk0, hB⟩⟩
    refine WF.seq ?_
    refine WF.region ?_
    refine WL.va rfl rfl rfl (X.lss e9_L0 ((hAL0.eq 8).trans (congrFun hF2 8))) ?_
    refine WL.nil ?_
    refine thn_n ?_
    refine WF.seq ?_
    refine WF.cond rfl (fun h0_3 => ?_) (fun h0_3 => ?_)
    · have gh0_3 := (of_decide_eq_true h0_3)
      have hk : k < E.length := by have := gh0_3; omega
      refine WF.skip ?_
      refine thn_n ?_
      refine WF.seq ?_
      refine WF.block ?_
      refine WF.seq ?_
      refine WF.region ?_
      refine WL.va rfl rfl rfl (X.idx re ((hAL0.eq 7).trans (congrFun hF2 7)) e9_L0 hk Try.underlying94 Try.sizeOf109) ?_
      refine WL.va rfl rfl rfl (X.loadEl re hwL0 rfl hk (WRow.el hk) Try.isAgg109 Try.sizeOf109) ?_
      refine WL.op rfl (OW.allocO (cs := [i64 0, .slice none 0 0]) Try.zeroValue109 rfl ?_ (by decide))
      intro g6 w5 heg6 hlg6 hO6 hx7
      have := World.grownBy.size hx7
      refine WL.op rfl (OW.storeOA hO6 rfl rfl rfl (WDat.one1 de hk) Try.sizeOf109 ?_)
      intro w9 hO6 hx11
      have := World.grownBy.size hx11
      replace hO6 : Blk _ _ _ (WV.c (E[k]'hk)) := hO6
      refine WL.nil ?_
      refine thn_n ?_
      refine WF.region ?_
      refine WL.va rfl rfl rfl (X.move e0_L0) ?_
      refine WL.va rfl rfl rfl (X.fieldAddrO (off := 0) rfl Try.underlying109 rfl rfl Try.sizeOf3) ?_
      refine WL.va rfl rfl rfl (X.loadO hO6 (Ext.refl _) rfl rfl Try.isAgg3) ?_
      refine WL.va rfl rfl rfl (X.fieldAddrO (off := 1) rfl Try.underlying109 rfl rfl Try.sizeOf36) ?_
      refine WL.va rfl rfl rfl (X.loadO hO6 (Ext.refl _) rfl rfl Try.isAgg36) ?_
      refine WL.c rfl rfl rfl (X.call Try.call24 (evl_cons rfl (evl_cons rfl (evl_cons rfl evl_nil)))) (set_ok _ (setsL l ((E.map Prod.fst).take k)) (E[k]'hk).1.Block _ (E[k]'hk).1.Data _ (hB.ext (Ext.store hx7 hx11 (by omega))) (sets_right hr _) (Row.ext (de _ (List.getElem_mem hk)) (Ext.trans hwL0 (Ext.store hx7 hx11 (by omega))))) ?_
      rintro v14 w13 ⟨⟨F, hF, oF⟩, hx15⟩
      have := World.grownBy.size hx15
      have hB2 := oF.sessE hF
      have hst := sets_take (d := l) (ws := E.map Prod.fst) (k := k) (by simpa using hk)
      rw [List.getElem_map] at hst
      rw [← hst] at hB2
      refine WL.va rfl rfl rfl (X.assign rfl) ?_
      refine WL.nil ?_
      refine blk_n ?_
      refine thn_n ?_
      refine WF.region ?_
      refine WL.va rfl rfl rfl (X.add e9_L0 rfl (w64 (by omega))) ?_
      refine WL.va rfl rfl rfl (X.moveI rfl) ?_
      refine WL.nil ?_
      exact thn_n ⟨_, (by omega), k + 1, _, rfl, rfl, rfl, (by repeat (first | exact hAL0 | refine Agree.put ?_ rfl | refine Agree.named hF2 ?_)), (Ext.trans (Ext.trans hwL0 (Ext.store hx7 hx11 (by omega))) hx15), ⟨by omega, hB2⟩⟩
    · have gh0_3 := (of_decide_eq_false h0_3)
      have hk : E.length ≤ k := by have := gh0_3; omega
      refine WF.exit ?_
      refine thn_x ?_
      refine thn_x ?_
      refine blk_eq ?_
      refine thn_n ?_
      refine WF.seq ?_
      refine WF.region ?_
      refine WL.va rfl rfl rfl (X.move e0_L0) ?_
      refine WL.va rfl rfl rfl (X.assign rfl) ?_
      refine WL.nil ?_
      refine thn_n ?_
      refine WF.ret ?_
      refine fin_r ?_
      rw [List.take_of_length_le (by simpa using hk)] at hB
      exact ⟨hB, hwL0⟩

end Go.Proofs.Ytobjmehppmhkdaa
