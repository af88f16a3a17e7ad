/- The walk of the reference's read. -/
import Derived.Test.YtccbpfbcaogcnaaMgJ
namespace Go.Proofs.Ytccbpfbcaogcnaa
open Go Go.RowKit Kf
set_option maxRecDepth 20000
theorem RR.left_le {w : World} {B : Nat} {x vb : Value} {L : List UInt8} {a : Nat} {s : Pk.RS} (h : RR w B x vb L a s) : s.left.length ≤ L.length := by
  cases hb : s.bad with
  | true => rw [h.ok hb]; exact Nat.zero_le _
  | false => have := h.len hb; omega
theorem not_before {k : Int} {p q : Nat} (h : (places k).take (p + 1) = (places k).take p ++ [q]) : q ∉ (places k).take p := by
  have hnd := (places_nodup k).sublist (List.take_sublist (p + 1) (places k))
  rw [h] at hnd
  intro hq
  exact (List.nodup_append.1 hnd).2.2 q hq q (List.mem_singleton.2 rfl) rfl
theorem not_both {k : Int} (h : 12 ∈ places k) : 13 ∉ places k := by
  rcases places_cases k with ⟨_, e⟩ | ⟨_, e⟩ | ⟨_, e⟩ | ⟨_, e⟩ | ⟨_, e⟩ | ⟨_, e⟩ | ⟨_, e⟩ | ⟨_, e⟩ | ⟨_, e⟩ | ⟨_, e⟩ | ⟨_, e⟩ | ⟨_, e⟩ <;> rw [e] at h ⊢ <;> revert h <;> decide
/-- nothing held, before the bytes' place -/
def NoD (T : List Nat) (v : Value) (D : List UInt8) : Prop := 13 ∉ T → v = .slice none 0 0 ∧ D = []
theorem NoD.snoc {T : List Nat} {v : Value} {D : List UInt8} {q : Nat} (h : NoD T v D) : NoD (T ++ [q]) v D := fun hn => h fun q => hn (List.mem_append_left _ q)
theorem NoD.last {T : List Nat} {v : Value} {D : List UInt8} {q : Nat} (hq : q = 13) : NoD (T ++ [q]) v D := fun hn => absurd (List.mem_append_right _ (List.mem_singleton.2 hq.symm)) hn

set_option maxHeartbeats 4000000 in
theorem readR_ok (n : List Int) (x vb : Value) (L : List UInt8) (a B : Nat) (s : Pk.RS) (w : World) (h : RR w B x vb L a s) (hn : n.length = 14) (hin : ∀ k, rng (n.getD k 0)) (hLl : L.length ≤ 1000000) :
    FnOk Try.prog 59 [agg (mc n false (.slice none 0 0) (.slice none 0 0)), x] w (fun r w' => (∃ m vE vD ok, r = .tuple #[agg (mc m.n m.ok vE vD), .bool ok] ∧ vE.oneCell' = true ∧ vD.oneCell' = true ∧ (ok = true → ∃ s' E, readF (⟨n, false, [], []⟩ : Mg) s (places (n.getD 0 0)) = some (m, s') ∧ s'.err = 0 ∧ (∀ k, rng (m.n.getD k 0)) ∧ m.n.length = 14 ∧ (∀ e ∈ m.E, rng e.Term ∧ rng e.Kind) ∧ E.map Prod.fst = m.E ∧ EOwn w' w.heap.size vE E ∧ OwnB w' w.heap.size 5 vD m.D) ∧ (ok = false → fin1 (readF (⟨n, false, [], []⟩ : Mg) s (places (n.getD 0 0))) = (noMg, 4))) ∧ w.grownBy w' (asRow x).ownBlock) := by
  have hrl := h.lt.1
  have hDl := h.lt.2
  have hpl := places_len (n.getD 0 0)
  have hnk : (fints (places (n.getD 0 0))).length = (places (n.getD 0 0)).length := List.length_map ..
  refine FnOk.enterC (rs := [.cell 4 25, .tmp 5]) Try.func59 rfl Try.ntmps59 Try.results59 rfl rfl ?_
  refine WF.seq ?_
  refine WF.region ?_
  refine WL.op rfl (OW.boxA (cs := (mc n false (.slice none 0 0) (.slice none 0 0))) rfl ?_ (by decide))
  intro g2 w1 heg2 hlg2 hO2 hx3
  have := World.grownBy.size hx3
  refine WL.op rfl (OW.allocO (cs := [i64 0, i64 0, i64 0, i64 0, i64 0, i64 0, i64 0, i64 0, i64 0, i64 0, i64 0, i64 0, i64 0, i64 0, .bool false, .slice none 0 0, .slice none 0 0]) Try.zeroValue25 rfl ?_ (by decide))
  intro g4 wz heg4 hlg4 hO4 hx6
  have := World.grownBy.size hx6
  refine WL.va rfl rfl rfl (X.assignB rfl) ?_
  refine WL.nil ?_
  refine thn_n ?_
  refine WF.seq ?_
  refine WF.region ?_
  refine WL.va rfl rfl rfl (X.fieldAddrO (off := 0) rfl Try.underlying25 rfl rfl Try.sizeOf3) ?_
  refine WL.va rfl rfl rfl (X.loadO hO2 hx6 rfl (mc_get hn (by decide)) Try.isAgg3) ?_
  refine WL.c rfl rfl rfl (X.call Try.call37 (evl_cons rfl evl_nil)) (has_ok (n.getD 0 0) _) ?_
  rintro vh wh ⟨oh, hx9⟩
  have := World.grownBy.size hx9
  have oF := OwnT.of oh
  have hp0 := h.ext (show Ext w wh from (Ext.trans (Ext.trans hx3 hx6) hx9))
  have g0 := (show Ext w wh from (Ext.trans (Ext.trans hx3 hx6) hx9))
  refine WL.va rfl rfl rfl (X.assign rfl) ?_
  refine WL.nil ?_
  refine thn_n ?_
  refine WF.seq ?_
  refine WF.seq ?_
  refine WF.region ?_
  refine WL.va rfl rfl rfl (X.assignI rfl) ?_
  refine WL.nil ?_
  refine thn_n ?_
  refine WF.block ?_
  refine WF.named (fun F10 hF11 => ?_)
  refine WF.loopN (fun mL0 f' w' => ∃ (p : Nat) (m : Mg) (sp : Pk.RS) (ap : Nat) (vE vD : Value) (E : List EV) (TE TD : Nat), mL0 = (places (n.getD 0 0)).length - p ∧ f' 7 = .int .i64 (p : Int) ∧ Agree [0, 1, 2, 4, 6, 12, 13, 14] f' F10 ∧ w.grownBy w' (asRow x).ownBlock ∧ p ≤ (places (n.getD 0 0)).length ∧ Blk w' g2 25 (mc m.n m.ok vE vD) ∧ Blk w' g4 25 (mc noMg.n noMg.ok (.slice none 0 0) (.slice none 0 0)) ∧ Syn (⟨n, false, [], []⟩ : Mg) s (places (n.getD 0 0)) ((places (n.getD 0 0)).take p) m sp ∧ RR w' B x vb L ap sp ∧ EOwnT w' wh.heap.size TE vE E ∧ E.map Prod.fst = m.E ∧ OwnT w' wh.heap.size TD 5 1 vD m.D.length (m.D.map u8) ∧ MgQ m ((places (n.getD 0 0)).take p) ∧ OwnT w' wz.heap.size wh.heap.size 3 1 vh (fints (places (n.getD 0 0))).length ((fints (places (n.getD 0 0))).map i64) ∧ NoD ((places (n.getD 0 0)).take p) vD m.D ∧ (wh.heap.size ≤ TE ∧ TE ≤ w'.heap.size) ∧ wh.heap.size ≤ TD ∧ TD ≤ w'.heap.size) ?_ ?_
  · exact ⟨_, 0, (⟨n, false, [], []⟩ : Mg), s, a, (.slice none 0 0), (.slice none 0 0), [], _, _, rfl, (congrFun hF11 7), (Agree.refl _ _), (grown_of_ext g0), ⟨Nat.zero_le _, (hO2.ext (Ext.trans hx6 hx9)), (hO4.ext hx9), .inl rfl, hp0, EOwnT.of (EOwn.nil _ _), rfl, OwnT.of (World.ownsRow_nil _ _ _ _), ⟨hn, hin, fun e he => (by cases he), fun _ => rfl⟩, oF, fun _ => ⟨rfl, rfl⟩, ⟨Nat.le_refl _, Nat.le_refl _⟩, Nat.le_refl _, Nat.le_refl _⟩⟩
  · rintro mL0 fL0 wL0 ⟨p, m, sp, ap, vE, vD, E, TE, TD, hmL0, e7_L0, hAL0, hwL0, ⟨hp, hO2, hO4, hsy, hpp, oE, hEm, oD, hMQ, oF, hND, hTE, hTD1, hTD2⟩⟩
    have hzL := World.grownBy.size hwL0
    have hO2l := hO2.lt
    have hO4l := hO4.lt
    refine WF.seq ?_
    refine WF.seq ?_
    refine WF.region ?_
    refine WL.va rfl rfl rfl (X.moveI e7_L0) ?_
    refine WL.va rfl rfl rfl (X.move ((hAL0.eq 6).trans (congrFun hF11 6))) ?_
    refine WL.va rfl rfl rfl (X.len (Row.of_own oF.own) rfl Try.underlying45) ?_
    refine WL.va rfl rfl rfl (X.lss rfl rfl) ?_
    refine WL.nil ?_
    refine thn_n ?_
    refine WF.cond rfl (fun h0_12 => ?_) (fun h0_12 => ?_)
    · have gh0_12 := (of_decide_eq_true h0_12)
      have hi : p < (places (n.getD 0 0)).length := by have := gh0_12; rw [hnk] at this; omega
      obtain ⟨q, hq, hq14, _, htk⟩ := next_place hi
      have hqe : (places (n.getD 0 0))[p] = q := by rw [List.getElem?_eq_getElem hi] at hq; injection hq
      have hKm : ∃ M, (places (n.getD 0 0)) = ((places (n.getD 0 0)).take p) ++ [q] ++ M := ⟨(places (n.getD 0 0)).drop (p + 1), by rw [← htk, List.take_append_drop]⟩
      refine WF.skip ?_
      refine thn_n ?_
      refine WF.seq ?_
      refine WF.block ?_
      refine WF.seq ?_
      refine WF.region ?_
      refine WL.va rfl rfl rfl (X.move ((hAL0.eq 6).trans (congrFun hF11 6))) ?_
      refine WL.va rfl rfl rfl (X.moveI e7_L0) ?_
      refine WL.va rfl rfl rfl (X.idx (Row.of_own oF.own) rfl rfl (by rw [hnk]; exact hi) Try.underlying45 Try.sizeOf3) ?_
      refine WL.va rfl rfl rfl (((X.loadI (Row.of_own oF.own) (Ext.refl _) rfl (by rw [hnk]; exact hi) Try.isAgg3)).trans (by rw [fints_get hi, hqe])) ?_
      refine WL.nil ?_
      refine thn_n ?_
      refine WF.block ?_
      refine WF.seq ?_
      refine WF.region ?_
      refine WL.va rfl rfl rfl (X.eql rfl rfl) ?_
      refine WL.va rfl rfl rfl (X.assignB rfl) ?_
      refine WL.nil ?_
      refine thn_n ?_
      refine WF.cond rfl (fun h1_14 => ?_) (fun h1_14 => ?_)
      · have gh1_14 := (of_decide_eq_true h1_14)
        have hq11 : q = 11 := by have := gh1_14; omega
        refine WF.seq ?_
        refine WF.region ?_
        refine WL.va rfl rfl rfl (X.move ((hAL0.eq 1).trans (congrFun hF11 1))) ?_
        refine WL.c rfl rfl rfl (X.call Try.call58 (evl_cons rfl evl_nil)) (qInt_ok x vb L ap sp _ B hpp) ?_
        rintro v17 w16 ⟨rfl, ⟨a1, h1⟩, hx18⟩
        have := World.grownBy.size hx18
        replace hO2 := hO2.keptR hx18 (fun b hb => by have := (hrl b hb).2; omega)
        replace hO4 := hO4.keptR hx18 (fun b hb => by have := (hrl b hb).2; omega)
        replace oF := oF.kept hx18 (fun b hb => by have := (hrl b hb).2; omega)
        replace oE := oE.kept hx18 (fun b hb => by have := (hrl b hb).2; omega)
        replace oD := oD.kept hx18 (fun b hb => by have := (hrl b hb).2; omega)
        have g1 := grown2 hwL0 hx18
        refine WL.va rfl rfl rfl (X.assignI rfl) ?_
        refine WL.nil ?_
        refine thn_n ?_
        refine WF.seq ?_
        refine WF.seq ?_
        refine WF.region ?_
        refine WL.va rfl rfl rfl (X.moveI rfl) ?_
        refine WL.va rfl rfl rfl (X.neq rfl rfl) ?_
        refine WL.va rfl rfl rfl (X.moveB rfl) ?_
        refine WL.split (j := 2) rfl (fun h20 => ?_) (fun h20 => ?_)
        · have gh20 := (of_decide_eq_true h20)
          refine WL.vg rfl (congrArg some h20) rfl rfl (X.moveI rfl) ?_
          refine WL.vg rfl (congrArg some h20) rfl rfl (X.neq rfl rfl) ?_
          refine WL.va rfl rfl rfl (X.pickT rfl h20 rfl) ?_
          refine WL.nil ?_
          refine thn_n ?_
          refine WF.cond rfl (fun h2_21 => ?_) (fun h2_21 => ?_)
          · have gh2_21 := (of_decide_eq_true h2_21)
            have hnone := hsy.none (rdF11n hq11 (by omega)) hKm
            have hret : fin1 (readF (⟨n, false, [], []⟩ : Mg) s (places (n.getD 0 0))) = (noMg, 4) := by rw [hnone]; rfl
            refine WF.seq ?_
            refine WF.region ?_
            refine WL.va rfl rfl rfl (X.loadOA hO2 (Ext.refl _) ((hAL0.eq 2).trans (congrFun hF11 2)) rfl Try.isAgg25 Try.sizeOf25) ?_
            refine WL.op rfl (OW.storeOA hO4 ((hAL0.eq 4).trans (congrFun hF11 4)) rfl rfl (mc_ones _ _ (own_one oE.own.row) (own_one oD.own)) Try.sizeOf25 ?_)
            intro w23 hO4 hx25
            have := World.grownBy.size hx25
            replace hO2 := hO2.keptO hx25 (by omega)
            replace oF := oF.keptO hx25 (by omega)
            replace oE := oE.keptO hx25 (by omega)
            replace oD := oD.keptO hx25 (by omega)
            have gR := grown_nw g1 hx25 (fun i hi => by injection hi with hi; omega)
            refine WL.va rfl rfl rfl (X.assignB rfl) ?_
            refine WL.nil ?_
            refine thn_n ?_
            refine WF.ret ?_
            refine thn_r ?_
            refine blk_r ?_
            refine blk_r ?_
            refine thn_r ?_
            refine thn_r ?_
            refine blk_r ?_
            refine thn_r ?_
            refine finC_r (vs := [_, _]) ⟨⟨_, ((hAL0.eq 4).trans (congrFun hF11 4)), readO hO4 Try.isAgg25 Try.sizeOf25⟩, rfl, trivial⟩ ?_
            exact ⟨⟨m, vE, vD, false, rfl, own_one oE.own.row, own_one oD.own, fun q => (by cases q), fun _ => hret⟩, gR⟩
          · have gh2_21 := (Decidable.of_not_not (of_decide_eq_false h2_21))
            have h01 : sp.int.1 = 0 ∨ sp.int.1 = 1 := by omega
            refine WF.skip ?_
            refine thn_n ?_
            refine WF.region ?_
            refine WL.va rfl rfl rfl (X.moveI rfl) ?_
            refine WL.va rfl rfl rfl (X.eql rfl rfl) ?_
            refine WL.va rfl rfl rfl (X.fieldAddrO (off := 14) ((hAL0.eq 2).trans (congrFun hF11 2)) Try.underlying25 rfl rfl Try.sizeOf4) ?_
            refine WL.op rfl (OW.storeO hO2 (Nat.le_of_ble_eq_true rfl) rfl rfl rfl Try.sizeOf4 ?_)
            intro w29 hO2 hx31
            have := World.grownBy.size hx31
            replace hO4 := hO4.keptO hx31 (by omega)
            replace oF := oF.keptO hx31 (by omega)
            replace oE := oE.keptO hx31 (by omega)
            replace oD := oD.keptO hx31 (by omega)
            replace hO2 : Blk _ _ _ (mc m.n (decide (sp.int.1 = 1)) vE vD) := hO2
            have h1s := h1.kept hx31 (.inr fun e => by have := (hrl _ e).2; omega) (.inr fun e => by have := (hDl _ e).2; omega)
            have g2_ := grown_nw g1 hx31 (fun i hi => by injection hi with hi; omega)
            have hfin : ∃ (mN : Mg) (sN : Pk.RS) (aN : Nat) (vEN vDN : Value) (EN : List EV) (TE2 TD2 : Nat), Blk w29 g2 25 (mc mN.n mN.ok vEN vDN) ∧ Syn (⟨n, false, [], []⟩ : Mg) s (places (n.getD 0 0)) (((places (n.getD 0 0)).take p) ++ [q]) mN sN ∧ RR w29 B x vb L aN sN ∧ EOwnT w29 wh.heap.size TE2 vEN EN ∧ EN.map Prod.fst = mN.E ∧ OwnT w29 wh.heap.size TD2 5 1 vDN mN.D.length (mN.D.map u8) ∧ MgQ mN (((places (n.getD 0 0)).take p) ++ [q]) ∧ NoD (((places (n.getD 0 0)).take p) ++ [q]) vDN mN.D ∧ w.grownBy w29 (asRow x).ownBlock ∧ (wh.heap.size ≤ TE2 ∧ TE2 ≤ (w29).heap.size) ∧ wh.heap.size ≤ TD2 ∧ TD2 ≤ (w29).heap.size := ⟨{ m with ok := decide (sp.int.1 = 1) }, _, _, _, _, _, _, _, hO2, hsy.step (rdF11 hq11 h01) bad_int, h1s, oE, hEm, oD, hMQ.ok _, hND.snoc, g2_, ⟨by omega, by omega⟩, by omega, by omega⟩
            obtain ⟨mN, sN, aN, vEN, vDN, EN, TE2, TD2, hON, hsN, hpN, oEN, hEN, oDN, hMN, hND, hgN, hTEN, hTDN1, hTDN2⟩ := hfin
            refine WL.nil ?_
            refine blk_n ?_
            refine blk_n ?_
            refine thn_n ?_
            refine WF.region ?_
            refine WL.va rfl rfl rfl (X.moveI e7_L0) ?_
            refine WL.va rfl rfl rfl (X.add rfl rfl (w64 (by omega))) ?_
            refine WL.va rfl rfl rfl (X.assignI rfl) ?_
            refine WL.nil ?_
            exact thn_n ⟨_, (by omega), p + 1, mN, sN, aN, vEN, vDN, EN, TE2, TD2, rfl, rfl, (by repeat (first | exact hAL0 | refine Agree.put ?_ rfl | refine Agree.named hF11 ?_)), hgN, ⟨by omega, hON, hO4, by rw [htk]; exact hsN, hpN, oEN, hEN, oDN, by rw [htk]; exact hMN, oF, by rw [htk]; exact hND, hTEN, hTDN1, hTDN2⟩⟩
        · have gh20 := (Decidable.of_not_not (of_decide_eq_false h20))
          have h01 : sp.int.1 = 0 ∨ sp.int.1 = 1 := by have := gh20; omega
          refine WL.p rfl rfl rfl (congrArg some h20) ?_
          refine WL.p rfl rfl rfl (congrArg some h20) ?_
          refine WL.va rfl rfl rfl (X.pickF rfl h20 rfl) ?_
          refine WL.nil ?_
          refine thn_n ?_
          refine WF.cond_f rfl ?_
          refine WF.skip ?_
          refine thn_n ?_
          refine WF.region ?_
          refine WL.va rfl rfl rfl (X.moveI rfl) ?_
          refine WL.va rfl rfl rfl (X.eql rfl rfl) ?_
          refine WL.va rfl rfl rfl (X.fieldAddrO (off := 14) ((hAL0.eq 2).trans (congrFun hF11 2)) Try.underlying25 rfl rfl Try.sizeOf4) ?_
          refine WL.op rfl (OW.storeO hO2 (Nat.le_of_ble_eq_true rfl) rfl rfl rfl Try.sizeOf4 ?_)
          intro w35 hO2 hx37
          have := World.grownBy.size hx37
          replace hO4 := hO4.keptO hx37 (by omega)
          replace oF := oF.keptO hx37 (by omega)
          replace oE := oE.keptO hx37 (by omega)
          replace oD := oD.keptO hx37 (by omega)
          replace hO2 : Blk _ _ _ (mc m.n (decide (sp.int.1 = 1)) vE vD) := hO2
          have h1s := h1.kept hx37 (.inr fun e => by have := (hrl _ e).2; omega) (.inr fun e => by have := (hDl _ e).2; omega)
          have g2_ := grown_nw g1 hx37 (fun i hi => by injection hi with hi; omega)
          have hfin : ∃ (mN : Mg) (sN : Pk.RS) (aN : Nat) (vEN vDN : Value) (EN : List EV) (TE2 TD2 : Nat), Blk w35 g2 25 (mc mN.n mN.ok vEN vDN) ∧ Syn (⟨n, false, [], []⟩ : Mg) s (places (n.getD 0 0)) (((places (n.getD 0 0)).take p) ++ [q]) mN sN ∧ RR w35 B x vb L aN sN ∧ EOwnT w35 wh.heap.size TE2 vEN EN ∧ EN.map Prod.fst = mN.E ∧ OwnT w35 wh.heap.size TD2 5 1 vDN mN.D.length (mN.D.map u8) ∧ MgQ mN (((places (n.getD 0 0)).take p) ++ [q]) ∧ NoD (((places (n.getD 0 0)).take p) ++ [q]) vDN mN.D ∧ w.grownBy w35 (asRow x).ownBlock ∧ (wh.heap.size ≤ TE2 ∧ TE2 ≤ (w35).heap.size) ∧ wh.heap.size ≤ TD2 ∧ TD2 ≤ (w35).heap.size := ⟨{ m with ok := decide (sp.int.1 = 1) }, _, _, _, _, _, _, _, hO2, hsy.step (rdF11 hq11 h01) bad_int, h1s, oE, hEm, oD, hMQ.ok _, hND.snoc, g2_, ⟨by omega, by omega⟩, by omega, by omega⟩
          obtain ⟨mN, sN, aN, vEN, vDN, EN, TE2, TD2, hON, hsN, hpN, oEN, hEN, oDN, hMN, hND, hgN, hTEN, hTDN1, hTDN2⟩ := hfin
          refine WL.nil ?_
          refine blk_n ?_
          refine blk_n ?_
          refine thn_n ?_
          refine WF.region ?_
          refine WL.va rfl rfl rfl (X.moveI e7_L0) ?_
          refine WL.va rfl rfl rfl (X.add rfl rfl (w64 (by omega))) ?_
          refine WL.va rfl rfl rfl (X.assignI rfl) ?_
          refine WL.nil ?_
          exact thn_n ⟨_, (by omega), p + 1, mN, sN, aN, vEN, vDN, EN, TE2, TD2, rfl, rfl, (by repeat (first | exact hAL0 | refine Agree.put ?_ rfl | refine Agree.named hF11 ?_)), hgN, ⟨by omega, hON, hO4, by rw [htk]; exact hsN, hpN, oEN, hEN, oDN, by rw [htk]; exact hMN, oF, by rw [htk]; exact hND, hTEN, hTDN1, hTDN2⟩⟩
      · have gh1_14 := (of_decide_eq_false h1_14)
        have hq11 : q ≠ 11 := by have := gh1_14; omega
        refine WF.seq ?_
        refine WF.region ?_
        refine WL.va rfl rfl rfl (X.eql rfl rfl) ?_
        refine WL.va rfl rfl rfl (X.assignB rfl) ?_
        refine WL.nil ?_
        refine thn_n ?_
        refine WF.cond rfl (fun h3_39 => ?_) (fun h3_39 => ?_)
        · have gh3_39 := (of_decide_eq_true h3_39)
          have hq12 : q = 12 := by have := gh3_39; omega
          obtain ⟨hvD, hmD⟩ := hND fun hm => not_both (by rw [← hq12, ← hqe]; exact List.getElem_mem hi) (List.mem_of_mem_take hm)
          have hmE := hMQ.non (by rw [← hq12]; exact not_before htk)
          have hE0e : E = [] := List.map_eq_nil_iff.1 (hEm.trans hmE)
          have hE0 : E.length = 0 := by rw [hE0e]; rfl
          have hE0m : E.map Prod.fst = (rdE sp.int.2 0).1 := by rw [hE0e]; rfl
          refine WF.seq ?_
          refine WF.region ?_
          refine WL.va rfl rfl rfl (X.move ((hAL0.eq 1).trans (congrFun hF11 1))) ?_
          refine WL.c rfl rfl rfl (X.call Try.call58 (evl_cons rfl evl_nil)) (qInt_ok x vb L ap sp _ B hpp) ?_
          rintro v41 wI2 ⟨rfl, ⟨a1, h1⟩, hx42⟩
          have := World.grownBy.size hx42
          replace hO2 := hO2.keptR hx42 (fun b hb => by have := (hrl b hb).2; omega)
          replace hO4 := hO4.keptR hx42 (fun b hb => by have := (hrl b hb).2; omega)
          replace oF := oF.kept hx42 (fun b hb => by have := (hrl b hb).2; omega)
          replace oE := oE.kept hx42 (fun b hb => by have := (hrl b hb).2; omega)
          replace oD := oD.kept hx42 (fun b hb => by have := (hrl b hb).2; omega)
          have g1 := grown2 hwL0 hx42
          refine WL.va rfl rfl rfl (X.assignI rfl) ?_
          refine WL.nil ?_
          refine thn_n ?_
          refine WF.seq ?_
          refine WF.seq ?_
          refine WF.region ?_
          refine WL.va rfl rfl rfl (X.assignI rfl) ?_
          refine WL.nil ?_
          refine thn_n ?_
          refine WF.block ?_
          refine WF.named (fun F43 hF44 => ?_)
          refine WF.loopN (fun mL1 f' w' => ∃ (k : Nat) (vE : Value) (E : List EV) (al : Nat) (TE : Nat), mL1 = sp.int.1.toNat - k ∧ f' 10 = .int .i64 (k : Int) ∧ Agree [0, 1, 2, 4, 6, 7, 9, 12, 13, 14, 15, 16, 17, 18, 21, 22, 23, 24, 33, 34, 47, 48, 49, 50] f' F43 ∧ w.grownBy w' (asRow x).ownBlock ∧ k ≤ sp.int.1.toNat ∧ E.length = k ∧ E.map Prod.fst = (rdE sp.int.2 k).1 ∧ RR w' B x vb L al (rdE sp.int.2 k).2 ∧ EOwnT w' wh.heap.size TE vE E ∧ Blk w' g2 25 (mc m.n m.ok vE vD) ∧ Blk w' g4 25 (mc noMg.n noMg.ok (.slice none 0 0) (.slice none 0 0)) ∧ OwnT w' 0 0 5 1 vD m.D.length (m.D.map u8) ∧ OwnT w' wz.heap.size wh.heap.size 3 1 vh (fints (places (n.getD 0 0))).length ((fints (places (n.getD 0 0))).map i64) ∧ TE ≤ w'.heap.size ∧ wh.heap.size ≤ TE ∧ TD ≤ w'.heap.size) ?_ ?_
          · exact ⟨_, 0, _, _, _, _, rfl, (congrFun hF44 10), (Agree.refl _ _), g1, ⟨Nat.zero_le _, hE0, hE0m, h1, oE, hO2, hO4, by rw [hvD, hmD]; exact ⟨World.ownsRow_nil _ _ _ _, fun b hb => by cases hb⟩, oF, by omega, by omega, by omega⟩⟩
          · rintro mL1 fL1 wL1 ⟨k, vE, E, al, TE, hmL1, e10_L1, hAL1, hwL1, ⟨hk0, hEl, hEk, hl3, oE, hO2, hO4, oD, oF, hTw, hTl, hTDw⟩⟩
            have hzL1 := World.grownBy.size hwL1
            have hO2l1 := hO2.lt
            refine WF.seq ?_
            refine WF.seq ?_
            refine WF.region ?_
            refine WL.va rfl rfl rfl (X.moveI e10_L1) ?_
            refine WL.va rfl rfl rfl (X.moveI ((hAL1.eq 9).trans (congrFun hF44 9))) ?_
            refine WL.va rfl rfl rfl (X.lss rfl rfl) ?_
            refine WL.va rfl rfl rfl (X.moveB rfl) ?_
            refine WL.split (j := 3) rfl (fun h46 => ?_) (fun h46 => ?_)
            · have gh46 := (of_decide_eq_true h46)
              have hkn : k < sp.int.1.toNat := by have := gh46; omega
              refine WL.vg rfl (congrArg some h46) rfl rfl (X.move ((hAL1.eq 1).trans ((congrFun hF44 1).trans ((hAL0.eq 1).trans (congrFun hF11 1))))) ?_
              refine WL.vg rfl (congrArg some h46) rfl rfl (X.nilCheckV hl3.var rfl) ?_
              refine WL.vg rfl (congrArg some h46) rfl rfl (X.fieldAddr hl3.var rfl Try.underlying73 rfl rfl Try.sizeOf4) ?_
              refine WL.vg rfl (congrArg some h46) rfl rfl (X.loadF hl3.var (Ext.refl _) rfl rfl Try.isAgg4) ?_
              refine WL.vg rfl (congrArg some h46) rfl rfl (X.not rfl) ?_
              refine WL.va rfl rfl rfl (X.pickT rfl h46 rfl) ?_
              refine WL.nil ?_
              refine thn_n ?_
              refine WF.cond rfl (fun h4_48 => ?_) (fun h4_48 => ?_)
              · have gh4_48 := (nt h4_48)
                have hbf : (rdE sp.int.2 k).2.bad = false := gh4_48
                have hroom := rdE_room _ _ hbf
                have hll := hpp.left_le
                have hil := int_le sp
                refine WF.skip ?_
                refine thn_n ?_
                refine WF.seq ?_
                refine WF.block ?_
                refine WF.seq ?_
                refine WF.region ?_
                refine WL.va rfl rfl rfl (X.buildL (P := Try.prog) (t := 57) (cs := [i64 0, i64 0, .slice none 0 0]) evp_nil Try.type57 Try.underlying57 rfl rfl trivial rfl) ?_
                refine WL.op rfl (OW.allocO (cs := [i64 0, i64 0, .slice none 0 0]) Try.zeroValue57 rfl ?_ (by decide))
                intro g11 w50 heg11 hlg11 hO11 hx52
                have := World.grownBy.size hx52
                have gA := hx52
                refine WL.op rfl (OW.storeOA hO11 rfl rfl rfl (by simp [Value.oneCell']) Try.sizeOf57 ?_)
                intro w54 hO11 hx56
                have := World.grownBy.size hx56
                replace hO2 := (hO2.ext hx52).keptO hx56 (by omega)
                replace hO4 := (hO4.ext hx52).keptO hx56 (by omega)
                replace oF := (oF.ext hx52).keptO hx56 (by omega)
                replace oE := (oE.ext hx52).keptO hx56 (by omega)
                replace oD := (oD.ext hx52).keptO hx56 (by omega)
                have h3s := (hl3.ext gA).kept hx56 (.inr fun e => by have := (hrl _ e).2; omega) (.inr fun e => by have := (hDl _ e).2; omega)
                have gk1 := grown_nw (grown_ext hwL1 gA) hx56 (fun i hi => by injection hi with hi; omega)
                refine WL.nil ?_
                refine thn_n ?_
                refine WF.seq ?_
                refine WF.region ?_
                refine WL.va rfl rfl rfl (X.move ((hAL1.eq 1).trans ((congrFun hF44 1).trans ((hAL0.eq 1).trans (congrFun hF11 1))))) ?_
                refine WL.c rfl rfl rfl (X.call Try.call58 (evl_cons rfl evl_nil)) (qInt_ok x vb L _ _ _ B h3s) ?_
                rintro v59 w58 ⟨rfl, ⟨a4, h4⟩, hx60⟩
                have := World.grownBy.size hx60
                replace hO2 := hO2.keptR hx60 (fun b hb => by have := (hrl b hb).2; omega)
                replace hO4 := hO4.keptR hx60 (fun b hb => by have := (hrl b hb).2; omega)
                replace oF := oF.kept hx60 (fun b hb => by have := (hrl b hb).2; omega)
                replace oE := oE.kept hx60 (fun b hb => by have := (hrl b hb).2; omega)
                replace oD := oD.kept hx60 (fun b hb => by have := (hrl b hb).2; omega)
                replace hO11 := hO11.keptR hx60 (fun b hb => by have := (hrl b hb).2; omega)
                have gk2 := grown2 gk1 hx60
                refine WL.va rfl rfl rfl (X.fieldAddrO (off := 0) rfl Try.underlying57 rfl rfl Try.sizeOf3) ?_
                refine WL.op rfl (OW.storeO hO11 (Nat.le_of_ble_eq_true rfl) rfl rfl rfl Try.sizeOf3 ?_)
                intro w61 hO11 hx63
                have := World.grownBy.size hx63
                replace hO2 := hO2.keptO hx63 (by omega)
                replace hO4 := hO4.keptO hx63 (by omega)
                replace oF := oF.keptO hx63 (by omega)
                replace oE := oE.keptO hx63 (by omega)
                replace oD := oD.keptO hx63 (by omega)
                have h4s := h4.kept hx63 (.inr fun e => by have := (hrl _ e).2; omega) (.inr fun e => by have := (hDl _ e).2; omega)
                have gk2s := grown_nw gk2 hx63 (fun i hi => by injection hi with hi; omega)
                refine WL.nil ?_
                refine thn_n ?_
                refine WF.seq ?_
                refine WF.region ?_
                refine WL.va rfl rfl rfl (X.move ((hAL1.eq 1).trans ((congrFun hF44 1).trans ((hAL0.eq 1).trans (congrFun hF11 1))))) ?_
                refine WL.c rfl rfl rfl (X.call Try.call58 (evl_cons rfl evl_nil)) (qInt_ok x vb L _ _ _ B h4s) ?_
                rintro v67 w66 ⟨rfl, ⟨a5, h5⟩, hx68⟩
                have := World.grownBy.size hx68
                replace hO2 := hO2.keptR hx68 (fun b hb => by have := (hrl b hb).2; omega)
                replace hO4 := hO4.keptR hx68 (fun b hb => by have := (hrl b hb).2; omega)
                replace oF := oF.kept hx68 (fun b hb => by have := (hrl b hb).2; omega)
                replace oE := oE.kept hx68 (fun b hb => by have := (hrl b hb).2; omega)
                replace oD := oD.kept hx68 (fun b hb => by have := (hrl b hb).2; omega)
                replace hO11 := hO11.keptR hx68 (fun b hb => by have := (hrl b hb).2; omega)
                have gk3 := grown2 gk2s hx68
                refine WL.va rfl rfl rfl (X.fieldAddrO (off := 1) rfl Try.underlying57 rfl rfl Try.sizeOf3) ?_
                refine WL.op rfl (OW.storeO hO11 (Nat.le_of_ble_eq_true rfl) rfl rfl rfl Try.sizeOf3 ?_)
                intro w69 hO11 hx71
                have := World.grownBy.size hx71
                replace hO2 := hO2.keptO hx71 (by omega)
                replace hO4 := hO4.keptO hx71 (by omega)
                replace oF := oF.keptO hx71 (by omega)
                replace oE := oE.keptO hx71 (by omega)
                replace oD := oD.keptO hx71 (by omega)
                have h5s := h5.kept hx71 (.inr fun e => by have := (hrl _ e).2; omega) (.inr fun e => by have := (hDl _ e).2; omega)
                have gk3s := grown_nw gk3 hx71 (fun i hi => by injection hi with hi; omega)
                refine WL.nil ?_
                refine thn_n ?_
                refine WF.seq ?_
                refine WF.region ?_
                refine WL.va rfl rfl rfl (X.move ((hAL1.eq 1).trans ((congrFun hF44 1).trans ((hAL0.eq 1).trans (congrFun hF11 1))))) ?_
                refine WL.c rfl rfl rfl (X.call Try.call80 (evl_cons rfl evl_nil)) (qBlob_ok x vb L _ _ _ B h5s) ?_
                rintro vd w73 ⟨od0, ⟨a6, h6⟩, hx74⟩
                have := World.grownBy.size hx74
                replace hO2 := hO2.keptR hx74 (fun b hb => by have := (hrl b hb).2; omega)
                replace hO4 := hO4.keptR hx74 (fun b hb => by have := (hrl b hb).2; omega)
                replace oF := oF.kept hx74 (fun b hb => by have := (hrl b hb).2; omega)
                replace oE := oE.kept hx74 (fun b hb => by have := (hrl b hb).2; omega)
                replace oD := oD.kept hx74 (fun b hb => by have := (hrl b hb).2; omega)
                replace hO11 := hO11.keptR hx74 (fun b hb => by have := (hrl b hb).2; omega)
                have gk4 := grown2 gk3s hx74
                refine WL.va rfl rfl rfl (X.fieldAddrO (off := 2) rfl Try.underlying57 rfl rfl Try.sizeOf23) ?_
                refine WL.op rfl (OW.storeO hO11 (Nat.le_of_ble_eq_true rfl) rfl rfl (own_one od0) Try.sizeOf23 ?_)
                intro w75 hO11 hx77
                have := World.grownBy.size hx77
                replace hO2 := hO2.keptO hx77 (by omega)
                replace hO4 := hO4.keptO hx77 (by omega)
                replace oF := oF.keptO hx77 (by omega)
                replace oE := oE.keptO hx77 (by omega)
                replace oD := oD.keptO hx77 (by omega)
                replace hO11 : Blk _ _ _ (EV.c ((⟨(rdE sp.int.2 k).2.int.1, (rdE sp.int.2 k).2.int.2.int.1, (rdE sp.int.2 k).2.int.2.int.2.blob.1⟩ : En), vd)) := hO11
                have od2 : OwnB w75 TE 5 vd (rdE sp.int.2 k).2.int.2.int.2.blob.1 := own_mono (own_keptO od0 hx77 (.inl (by omega))) (by omega)
                have h6s := h6.kept hx77 (.inr fun e => by have := (hrl _ e).2; omega) (.inr fun e => by have := (hDl _ e).2; omega)
                have gk4s := grown_nw gk4 hx77 (fun i hi => by injection hi with hi; omega)
                refine WL.nil ?_
                refine thn_n ?_
                refine WF.region ?_
                refine WL.va rfl rfl rfl (X.fieldAddrO (off := 15) ((hAL1.eq 2).trans ((congrFun hF44 2).trans ((hAL0.eq 2).trans (congrFun hF11 2)))) Try.underlying25 rfl rfl Try.sizeOf22) ?_
                refine WL.va rfl rfl rfl (X.loadO hO2 (Ext.refl _) rfl rfl Try.isAgg22) ?_
                refine WL.va rfl rfl rfl (X.loadOA hO11 (Ext.refl _) rfl rfl Try.isAgg57 Try.sizeOf57) ?_
                refine WL.op rfl (OW.lits (vs := [agg (EV.c ((⟨(rdE sp.int.2 k).2.int.1, (rdE sp.int.2 k).2.int.2.int.1, (rdE sp.int.2 k).2.int.2.int.2.blob.1⟩ : En), vd))]) (evp_cons rfl evp_nil) Try.underlying22 Try.sizeOf57 Try.zeroValue57 ⟨rfl, trivial⟩ rfl rfl rfl ?_ (by decide))
                intro v80 w79 ho82 hx81
                have := World.grownBy.size hx81
                have o1 : World.ownsRow w79 _ 57 3 v80 1 (EV.c ((⟨(rdE sp.int.2 k).2.int.1, (rdE sp.int.2 k).2.int.2.int.1, (rdE sp.int.2 k).2.int.2.int.2.blob.1⟩ : En), vd)) := ho82
                have od3 := own_ext od2 hx81
                have h6t := h6s.ext hx81
                have gk5 := grown_ext gk4s hx81
                have oEb := (oE.ext hx81)
                refine WL.op rfl (OW.append (bytes := 40) ((oE.ext hx81)).own.row (Row.of_own o1) (EV.c_one (e := ((⟨(rdE sp.int.2 k).2.int.1, (rdE sp.int.2 k).2.int.2.int.1, (rdE sp.int.2 k).2.int.2.int.2.blob.1⟩ : En), vd)) (Bytes.of_own od3)) rfl rfl Try.underlying22 Try.type57 rfl rfl rfl rfl (by decide) (by unfold maxLen; omega) (by omega) (by omega) ?_ (by decide))
                intro v3n w83 ho85 hx84 hmvhx84
                have := World.grownBy.size hx84
                replace hO2 := (hO2.ext hx81).keptR hx84 (fun b hb => by have h1 := (((oE.ext hx81)).own.row.lt b hb).1; have h2 := ((oE.ext hx81)).top.1 b hb; omega)
                replace hO4 := (hO4.ext hx81).keptR hx84 (fun b hb => by have h1 := (((oE.ext hx81)).own.row.lt b hb).1; have h2 := ((oE.ext hx81)).top.1 b hb; omega)
                replace oF := (oF.ext hx81).kept hx84 (fun b hb => by have h1 := (((oE.ext hx81)).own.row.lt b hb).1; have h2 := ((oE.ext hx81)).top.1 b hb; omega)
                replace oD := (oD.ext hx81).kept hx84 (fun b hb => by have h1 := (((oE.ext hx81)).own.row.lt b hb).1; have h2 := ((oE.ext hx81)).top.1 b hb; omega)
                replace hO11 := (hO11.ext hx81).keptR hx84 (fun b hb => by have h1 := (((oE.ext hx81)).own.row.lt b hb).1; have h2 := ((oE.ext hx81)).top.1 b hb; omega)
                have hr3 := ho85
                have h7 := h6t.kept hx84 (ne_of (fun b hb => (hrl b hb).2) (fun b hb => by have := (oE.own.row.lt b hb).1; omega)) (ne_of (fun b hb => (hDl b hb).2) (fun b hb => by have := (oE.own.row.lt b hb).1; omega))
                have gk6 := grown_nw gk5 hx84 (fun i hi => by have := (oE.own.row.lt i hi).1; omega)
                replace oE := EOwnT.app (s := (((⟨(rdE sp.int.2 k).2.int.1, (rdE sp.int.2 k).2.int.2.int.1, (rdE sp.int.2 k).2.int.2.int.2.blob.1⟩ : En), vd)).1) oEb od3 hr3 hx84 hmvhx84 (by omega)
                refine WL.va rfl rfl rfl (X.fieldAddrO (off := 15) ((hAL1.eq 2).trans ((congrFun hF44 2).trans ((hAL0.eq 2).trans (congrFun hF11 2)))) Try.underlying25 rfl rfl Try.sizeOf22) ?_
                refine WL.op rfl (OW.storeO hO2 (Nat.le_of_ble_eq_true rfl) rfl rfl (own_one hr3) Try.sizeOf22 ?_)
                intro w86 hO2 hx88
                have := World.grownBy.size hx88
                replace hO4 := hO4.keptO hx88 (by omega)
                replace oF := oF.keptO hx88 (by omega)
                replace oE := oE.keptO hx88 (by omega)
                replace oD := oD.keptO hx88 (by omega)
                replace hO11 := hO11.keptO hx88 (by omega)
                replace hO2 : Blk _ _ _ (mc m.n m.ok v3n vD) := hO2
                have h8 := h7.kept hx88 (.inr fun e => by have := (hrl _ e).2; omega) (.inr fun e => by have := (hDl _ e).2; omega)
                have gk7 := grown_nw gk6 hx88 (fun i hi => by injection hi with hi; omega)
                refine WL.nil ?_
                refine blk_n ?_
                refine thn_n ?_
                refine WF.region ?_
                refine WL.va rfl rfl rfl (X.moveI e10_L1) ?_
                refine WL.va rfl rfl rfl (X.add rfl rfl (w64 (by omega))) ?_
                refine WL.va rfl rfl rfl (X.assignI rfl) ?_
                refine WL.nil ?_
                exact thn_n ⟨_, (by omega), k + 1, _, _, _, _, rfl, rfl, (by repeat (first | exact hAL1 | refine Agree.put ?_ rfl | refine Agree.sub hAL0 rfl ?_ | refine Agree.named hF44 ?_ | refine Agree.named hF11 ?_)), gk7, ⟨by omega, by simp [hEl], by rw [List.map_append, hEk]; rfl, h8, oE, hO2, hO4, oD, oF, by omega, by omega, by omega⟩⟩
              · have gh4_48 := (nf h4_48)
                refine WF.exit ?_
                refine thn_x ?_
                refine thn_x ?_
                refine blk_eq ?_
                refine thn_n ?_
                refine WF.seq ?_
                refine WF.region ?_
                refine WL.va rfl rfl rfl (X.moveI ((hAL1.eq 9).trans (congrFun hF44 9))) ?_
                refine WL.va rfl rfl rfl (X.lss rfl rfl) ?_
                refine WL.nil ?_
                refine thn_n ?_
                refine WF.cond rfl (fun h5_90 => ?_) (fun h5_90 => ?_)
                · have gh5_90 := (of_decide_eq_true h5_90)
                  have hnone := hsy.none (rdF12n hq12 (.inl gh5_90)) hKm
                  have hret : fin1 (readF (⟨n, false, [], []⟩ : Mg) s (places (n.getD 0 0))) = (noMg, 4) := by rw [hnone]; rfl
                  refine WF.seq ?_
                  refine WF.region ?_
                  refine WL.va rfl rfl rfl (X.loadOA hO2 (Ext.refl _) ((hAL1.eq 2).trans ((congrFun hF44 2).trans ((hAL0.eq 2).trans (congrFun hF11 2)))) rfl Try.isAgg25 Try.sizeOf25) ?_
                  refine WL.op rfl (OW.storeOA hO4 ((hAL1.eq 4).trans ((congrFun hF44 4).trans ((hAL0.eq 4).trans (congrFun hF11 4)))) rfl rfl (mc_ones _ _ (own_one oE.own.row) (own_one oD.own)) Try.sizeOf25 ?_)
                  intro w92 hO4 hx94
                  have := World.grownBy.size hx94
                  replace hO2 := hO2.keptO hx94 (by omega)
                  replace oF := oF.keptO hx94 (by omega)
                  replace oE := oE.keptO hx94 (by omega)
                  replace oD := oD.keptO hx94 (by omega)
                  have gR := grown_nw hwL1 hx94 (fun i hi => by injection hi with hi; omega)
                  refine WL.va rfl rfl rfl (X.assignB rfl) ?_
                  refine WL.nil ?_
                  refine thn_n ?_
                  refine WF.ret ?_
                  refine blk_r ?_
                  refine blk_r ?_
                  refine thn_r ?_
                  refine thn_r ?_
                  refine blk_r ?_
                  refine thn_r ?_
                  refine finC_r (vs := [_, _]) ⟨⟨_, ((hAL1.eq 4).trans ((congrFun hF44 4).trans ((hAL0.eq 4).trans (congrFun hF11 4)))), readO hO4 Try.isAgg25 Try.sizeOf25⟩, rfl, trivial⟩ ?_
                  exact ⟨⟨m, _, vD, false, rfl, own_one oE.own.row, own_one oD.own, fun q => (by cases q), fun _ => hret⟩, gR⟩
                · have gh5_90 := (of_decide_eq_false h5_90)
                  have hnn : ¬ sp.int.1 < 0 := gh5_90
                  have hsyn2 : Syn (⟨n, false, [], []⟩ : Mg) s (places (n.getD 0 0)) (((places (n.getD 0 0)).take p) ++ [q]) { m with E := (rdE sp.int.2 k).1 } (rdE sp.int.2 k).2 := by
                    by_cases hbd : (rdE sp.int.2 k).2.bad = true
                    · refine .inr ⟨?_, hbd⟩
                      rcases hsy with hsy1 | ⟨hsy1, _⟩
                      · exact readF_none hsy1 (rdF12n hq12 (.inr (.inr (rdE_bad hbd _ hk0)))) hKm
                      · exact hsy1
                    · have hke : k = sp.int.1.toNat := by first | omega | exact absurd (by assumption) hbd
                      have hbf : (rdE sp.int.2 k).2.bad = false := by simpa using hbd
                      have hroom := rdE_room _ _ hbf
                      rw [hke] at hbf hroom ⊢
                      rcases hsy with hsy1 | ⟨_, hsb⟩
                      · exact .inl ((readF_snoc hsy1).trans (rdF12 hq12 (by omega) hbf))
                      · have hz := rdE_bad (s := sp.int.2) (j := 0) (bad_int hsb) sp.int.1.toNat (Nat.zero_le _)
                        rw [hbf] at hz; cases hz
                  have hfin : ∃ (mN : Mg) (sN : Pk.RS) (aN : Nat) (vEN vDN : Value) (EN : List EV) (TE2 TD2 : Nat), Blk wL1 g2 25 (mc mN.n mN.ok vEN vDN) ∧ Syn (⟨n, false, [], []⟩ : Mg) s (places (n.getD 0 0)) (((places (n.getD 0 0)).take p) ++ [q]) mN sN ∧ RR wL1 B x vb L aN sN ∧ EOwnT wL1 wh.heap.size TE2 vEN EN ∧ EN.map Prod.fst = mN.E ∧ OwnT wL1 wh.heap.size TD2 5 1 vDN mN.D.length (mN.D.map u8) ∧ MgQ mN (((places (n.getD 0 0)).take p) ++ [q]) ∧ NoD (((places (n.getD 0 0)).take p) ++ [q]) vDN mN.D ∧ w.grownBy wL1 (asRow x).ownBlock ∧ (wh.heap.size ≤ TE2 ∧ TE2 ≤ (wL1).heap.size) ∧ wh.heap.size ≤ TD2 ∧ TD2 ≤ (wL1).heap.size := ⟨{ m with E := (rdE sp.int.2 k).1 }, (rdE sp.int.2 k).2, _, _, _, _, _, _, hO2, hsyn2, hl3, oE, hEk, (by rw [hvD, hmD]; exact OwnT.of (World.ownsRow_nil _ _ _ _)), (by rw [hq12]; exact hMQ.ent (rdE_rng _ _)), hND.snoc, hwL1, ⟨by omega, by omega⟩, by omega, by omega⟩
                  obtain ⟨mN, sN, aN, vEN, vDN, EN, TE2, TD2, hON, hsN, hpN, oEN, hEN, oDN, hMN, hND, hgN, hTEN, hTDN1, hTDN2⟩ := hfin
                  refine WF.skip ?_
                  refine blk_n ?_
                  refine blk_n ?_
                  refine thn_n ?_
                  refine WF.region ?_
                  refine WL.va rfl rfl rfl (X.moveI ((hAL1.eq 7).trans ((congrFun hF44 7).trans e7_L0))) ?_
                  refine WL.va rfl rfl rfl (X.add rfl rfl (w64 (by omega))) ?_
                  refine WL.va rfl rfl rfl (X.assignI rfl) ?_
                  refine WL.nil ?_
                  exact thn_n ⟨_, (by omega), p + 1, mN, sN, aN, vEN, vDN, EN, TE2, TD2, rfl, rfl, (by repeat (first | exact hAL0 | refine Agree.put ?_ rfl | refine Agree.sub hAL1 rfl ?_ | refine Agree.named hF44 ?_ | refine Agree.named hF11 ?_)), hgN, ⟨by omega, hON, hO4, by rw [htk]; exact hsN, hpN, oEN, hEN, oDN, by rw [htk]; exact hMN, oF, by rw [htk]; exact hND, hTEN, hTDN1, hTDN2⟩⟩
            · have gh46 := (of_decide_eq_false h46)
              refine WL.p rfl rfl rfl (congrArg some h46) ?_
              refine WL.p rfl rfl rfl (congrArg some h46) ?_
              refine WL.p rfl rfl rfl (congrArg some h46) ?_
              refine WL.p rfl rfl rfl (congrArg some h46) ?_
              refine WL.p rfl rfl rfl (congrArg some h46) ?_
              refine WL.va rfl rfl rfl (X.pickF rfl h46 rfl) ?_
              refine WL.nil ?_
              refine thn_n ?_
              refine WF.cond_f rfl ?_
              refine WF.exit ?_
              refine thn_x ?_
              refine thn_x ?_
              refine blk_eq ?_
              refine thn_n ?_
              refine WF.seq ?_
              refine WF.region ?_
              refine WL.va rfl rfl rfl (X.moveI ((hAL1.eq 9).trans (congrFun hF44 9))) ?_
              refine WL.va rfl rfl rfl (X.lss rfl rfl) ?_
              refine WL.nil ?_
              refine thn_n ?_
              refine WF.cond rfl (fun h5_98 => ?_) (fun h5_98 => ?_)
              · have gh5_98 := (of_decide_eq_true h5_98)
                have hnone := hsy.none (rdF12n hq12 (.inl gh5_98)) hKm
                have hret : fin1 (readF (⟨n, false, [], []⟩ : Mg) s (places (n.getD 0 0))) = (noMg, 4) := by rw [hnone]; rfl
                refine WF.seq ?_
                refine WF.region ?_
                refine WL.va rfl rfl rfl (X.loadOA hO2 (Ext.refl _) ((hAL1.eq 2).trans ((congrFun hF44 2).trans ((hAL0.eq 2).trans (congrFun hF11 2)))) rfl Try.isAgg25 Try.sizeOf25) ?_
                refine WL.op rfl (OW.storeOA hO4 ((hAL1.eq 4).trans ((congrFun hF44 4).trans ((hAL0.eq 4).trans (congrFun hF11 4)))) rfl rfl (mc_ones _ _ (own_one oE.own.row) (own_one oD.own)) Try.sizeOf25 ?_)
                intro w100 hO4 hx102
                have := World.grownBy.size hx102
                replace hO2 := hO2.keptO hx102 (by omega)
                replace oF := oF.keptO hx102 (by omega)
                replace oE := oE.keptO hx102 (by omega)
                replace oD := oD.keptO hx102 (by omega)
                have gR := grown_nw hwL1 hx102 (fun i hi => by injection hi with hi; omega)
                refine WL.va rfl rfl rfl (X.assignB rfl) ?_
                refine WL.nil ?_
                refine thn_n ?_
                refine WF.ret ?_
                refine blk_r ?_
                refine blk_r ?_
                refine thn_r ?_
                refine thn_r ?_
                refine blk_r ?_
                refine thn_r ?_
                refine finC_r (vs := [_, _]) ⟨⟨_, ((hAL1.eq 4).trans ((congrFun hF44 4).trans ((hAL0.eq 4).trans (congrFun hF11 4)))), readO hO4 Try.isAgg25 Try.sizeOf25⟩, rfl, trivial⟩ ?_
                exact ⟨⟨m, _, vD, false, rfl, own_one oE.own.row, own_one oD.own, fun q => (by cases q), fun _ => hret⟩, gR⟩
              · have gh5_98 := (of_decide_eq_false h5_98)
                have hnn : ¬ sp.int.1 < 0 := gh5_98
                have hsyn2 : Syn (⟨n, false, [], []⟩ : Mg) s (places (n.getD 0 0)) (((places (n.getD 0 0)).take p) ++ [q]) { m with E := (rdE sp.int.2 k).1 } (rdE sp.int.2 k).2 := by
                  by_cases hbd : (rdE sp.int.2 k).2.bad = true
                  · refine .inr ⟨?_, hbd⟩
                    rcases hsy with hsy1 | ⟨hsy1, _⟩
                    · exact readF_none hsy1 (rdF12n hq12 (.inr (.inr (rdE_bad hbd _ hk0)))) hKm
                    · exact hsy1
                  · have hke : k = sp.int.1.toNat := by first | omega | exact absurd (by assumption) hbd
                    have hbf : (rdE sp.int.2 k).2.bad = false := by simpa using hbd
                    have hroom := rdE_room _ _ hbf
                    rw [hke] at hbf hroom ⊢
                    rcases hsy with hsy1 | ⟨_, hsb⟩
                    · exact .inl ((readF_snoc hsy1).trans (rdF12 hq12 (by omega) hbf))
                    · have hz := rdE_bad (s := sp.int.2) (j := 0) (bad_int hsb) sp.int.1.toNat (Nat.zero_le _)
                      rw [hbf] at hz; cases hz
                have hfin : ∃ (mN : Mg) (sN : Pk.RS) (aN : Nat) (vEN vDN : Value) (EN : List EV) (TE2 TD2 : Nat), Blk wL1 g2 25 (mc mN.n mN.ok vEN vDN) ∧ Syn (⟨n, false, [], []⟩ : Mg) s (places (n.getD 0 0)) (((places (n.getD 0 0)).take p) ++ [q]) mN sN ∧ RR wL1 B x vb L aN sN ∧ EOwnT wL1 wh.heap.size TE2 vEN EN ∧ EN.map Prod.fst = mN.E ∧ OwnT wL1 wh.heap.size TD2 5 1 vDN mN.D.length (mN.D.map u8) ∧ MgQ mN (((places (n.getD 0 0)).take p) ++ [q]) ∧ NoD (((places (n.getD 0 0)).take p) ++ [q]) vDN mN.D ∧ w.grownBy wL1 (asRow x).ownBlock ∧ (wh.heap.size ≤ TE2 ∧ TE2 ≤ (wL1).heap.size) ∧ wh.heap.size ≤ TD2 ∧ TD2 ≤ (wL1).heap.size := ⟨{ m with E := (rdE sp.int.2 k).1 }, (rdE sp.int.2 k).2, _, _, _, _, _, _, hO2, hsyn2, hl3, oE, hEk, (by rw [hvD, hmD]; exact OwnT.of (World.ownsRow_nil _ _ _ _)), (by rw [hq12]; exact hMQ.ent (rdE_rng _ _)), hND.snoc, hwL1, ⟨by omega, by omega⟩, by omega, by omega⟩
                obtain ⟨mN, sN, aN, vEN, vDN, EN, TE2, TD2, hON, hsN, hpN, oEN, hEN, oDN, hMN, hND, hgN, hTEN, hTDN1, hTDN2⟩ := hfin
                refine WF.skip ?_
                refine blk_n ?_
                refine blk_n ?_
                refine thn_n ?_
                refine WF.region ?_
                refine WL.va rfl rfl rfl (X.moveI ((hAL1.eq 7).trans ((congrFun hF44 7).trans e7_L0))) ?_
                refine WL.va rfl rfl rfl (X.add rfl rfl (w64 (by omega))) ?_
                refine WL.va rfl rfl rfl (X.assignI rfl) ?_
                refine WL.nil ?_
                exact thn_n ⟨_, (by omega), p + 1, mN, sN, aN, vEN, vDN, EN, TE2, TD2, rfl, rfl, (by repeat (first | exact hAL0 | refine Agree.put ?_ rfl | refine Agree.sub hAL1 rfl ?_ | refine Agree.named hF44 ?_ | refine Agree.named hF11 ?_)), hgN, ⟨by omega, hON, hO4, by rw [htk]; exact hsN, hpN, oEN, hEN, oDN, by rw [htk]; exact hMN, oF, by rw [htk]; exact hND, hTEN, hTDN1, hTDN2⟩⟩
        · have gh3_39 := (of_decide_eq_false h3_39)
          have hq12 : q ≠ 12 := by have := gh3_39; omega
          refine WF.seq ?_
          refine WF.region ?_
          refine WL.va rfl rfl rfl (X.eql rfl rfl) ?_
          refine WL.va rfl rfl rfl (X.assignB rfl) ?_
          refine WL.nil ?_
          refine thn_n ?_
          refine WF.cond rfl (fun h6_105 => ?_) (fun h6_105 => ?_)
          · have gh6_105 := (of_decide_eq_true h6_105)
            have hq13 : q = 13 := by have := gh6_105; omega
            refine WF.region ?_
            refine WL.va rfl rfl rfl (X.move ((hAL0.eq 1).trans (congrFun hF11 1))) ?_
            refine WL.c rfl rfl rfl (X.call Try.call80 (evl_cons rfl evl_nil)) (qBlob_ok x vb L ap sp _ B hpp) ?_
            rintro v25 w107 ⟨oB, ⟨a2, h2⟩, hx108⟩
            have := World.grownBy.size hx108
            replace hO2 := hO2.keptR hx108 (fun b hb => by have := (hrl b hb).2; omega)
            replace hO4 := hO4.keptR hx108 (fun b hb => by have := (hrl b hb).2; omega)
            replace oF := oF.kept hx108 (fun b hb => by have := (hrl b hb).2; omega)
            replace oE := oE.kept hx108 (fun b hb => by have := (hrl b hb).2; omega)
            replace oD := oD.kept hx108 (fun b hb => by have := (hrl b hb).2; omega)
            have g1 := grown2 hwL0 hx108
            refine WL.va rfl rfl rfl (X.fieldAddrO (off := 16) ((hAL0.eq 2).trans (congrFun hF11 2)) Try.underlying25 rfl rfl Try.sizeOf23) ?_
            refine WL.op rfl (OW.storeO hO2 (Nat.le_of_ble_eq_true rfl) rfl rfl (own_one oB) Try.sizeOf23 ?_)
            intro w109 hO2 hx111
            have := World.grownBy.size hx111
            replace hO4 := hO4.keptO hx111 (by omega)
            replace oF := oF.keptO hx111 (by omega)
            replace oE := oE.keptO hx111 (by omega)
            replace oD := oD.keptO hx111 (by omega)
            replace hO2 : Blk _ _ _ (mc m.n m.ok vE v25) := hO2
            have h2s := h2.kept hx111 (.inr fun e => by have := (hrl _ e).2; omega) (.inr fun e => by have := (hDl _ e).2; omega)
            have g2_ := grown_nw g1 hx111 (fun i hi => by injection hi with hi; omega)
            have oBk := OwnT.of (own_mono (own_keptO oB hx111 (.inl (by omega))) (show wh.heap.size ≤ _ by omega))
            have hfin : ∃ (mN : Mg) (sN : Pk.RS) (aN : Nat) (vEN vDN : Value) (EN : List EV) (TE2 TD2 : Nat), Blk w109 g2 25 (mc mN.n mN.ok vEN vDN) ∧ Syn (⟨n, false, [], []⟩ : Mg) s (places (n.getD 0 0)) (((places (n.getD 0 0)).take p) ++ [q]) mN sN ∧ RR w109 B x vb L aN sN ∧ EOwnT w109 wh.heap.size TE2 vEN EN ∧ EN.map Prod.fst = mN.E ∧ OwnT w109 wh.heap.size TD2 5 1 vDN mN.D.length (mN.D.map u8) ∧ MgQ mN (((places (n.getD 0 0)).take p) ++ [q]) ∧ NoD (((places (n.getD 0 0)).take p) ++ [q]) vDN mN.D ∧ w.grownBy w109 (asRow x).ownBlock ∧ (wh.heap.size ≤ TE2 ∧ TE2 ≤ (w109).heap.size) ∧ wh.heap.size ≤ TD2 ∧ TD2 ≤ (w109).heap.size := ⟨{ m with D := sp.blob.1 }, _, _, _, _, _, _, _, hO2, hsy.step (rdF13 hq13) bad_blob, h2s, oE, hEm, oBk, hMQ.dats _, (NoD.last hq13), g2_, ⟨by omega, by omega⟩, by omega, by omega⟩
            obtain ⟨mN, sN, aN, vEN, vDN, EN, TE2, TD2, hON, hsN, hpN, oEN, hEN, oDN, hMN, hND, hgN, hTEN, hTDN1, hTDN2⟩ := hfin
            refine WL.nil ?_
            refine blk_n ?_
            refine blk_n ?_
            refine thn_n ?_
            refine WF.region ?_
            refine WL.va rfl rfl rfl (X.moveI e7_L0) ?_
            refine WL.va rfl rfl rfl (X.add rfl rfl (w64 (by omega))) ?_
            refine WL.va rfl rfl rfl (X.assignI rfl) ?_
            refine WL.nil ?_
            exact thn_n ⟨_, (by omega), p + 1, mN, sN, aN, vEN, vDN, EN, TE2, TD2, rfl, rfl, (by repeat (first | exact hAL0 | refine Agree.put ?_ rfl | refine Agree.named hF11 ?_)), hgN, ⟨by omega, hON, hO4, by rw [htk]; exact hsN, hpN, oEN, hEN, oDN, by rw [htk]; exact hMN, oF, by rw [htk]; exact hND, hTEN, hTDN1, hTDN2⟩⟩
          · have gh6_105 := (of_decide_eq_false h6_105)
            have hq13 : q ≠ 13 := by have := gh6_105; omega
            have hqn : q < 11 := by omega
            refine WF.drawn (.q 0 (.q 1 (.q 2 (.q 3 (.q 4 (.q 5 (.l 6 (.l 7 .nil)))))))) (fun w' => Blk w' g2 25 (mc m.n m.ok vE vD) ∧ OwnT w' wz.heap.size wh.heap.size 3 1 vh (fints (places (n.getD 0 0))).length ((fints (places (n.getD 0 0))).map i64)) 8 (by kernel_rfl) (by kernel_rfl) ⟨(hO2).ext (Ext.drew _), (oF).ext (Ext.drew _)⟩ ?_
            have := World.grownBy.size (Ext.drew wL0)
            refine WO.q rfl rfl rfl rfl (fun w' hE113 => (X.loadOA hE113.1 (Ext.refl _) ((hAL0.eq 2).trans (congrFun hF11 2)) rfl Try.isAgg25 Try.sizeOf25)) ?_
            refine WO.q rfl rfl rfl rfl (fun w' hE113 => (X.move ((hAL0.eq 6).trans (congrFun hF11 6)))) ?_
            refine WO.q rfl rfl rfl rfl (fun w' hE113 => (X.moveI e7_L0)) ?_
            refine WO.q rfl rfl rfl rfl (fun w' hE113 => (X.idx (Row.of_own oF.own) rfl rfl (by rw [hnk]; exact hi) Try.underlying45 Try.sizeOf3)) ?_
            refine WO.q rfl rfl rfl rfl (fun w' hE113 => ((X.loadI (Row.of_own hE113.2.own) (Ext.refl _) rfl (by rw [hnk]; exact hi) Try.isAgg3).trans (by rw [fints_get hi, hqe]))) ?_
            refine WO.q rfl rfl rfl rfl (fun w' hE113 => (X.move ((hAL0.eq 1).trans (congrFun hF11 1)))) ?_
            refine WO.l ?_
            refine LO.go rfl rfl (OW.enter rfl (by decide) (X.call Try.call58 (evl_cons rfl evl_nil)) (qInt_ok x vb L ap sp _ B (hpp.ext (Ext.drew _))) ?_)
            rintro v115 w114 ⟨rfl, ⟨a1, h1⟩, hx116⟩
            have := World.grownBy.size hx116
            replace hO2 := (hO2.ext (Ext.drew _)).keptR hx116 (fun b hb => by have := (hrl b hb).2; omega)
            replace hO4 := (hO4.ext (Ext.drew _)).keptR hx116 (fun b hb => by have := (hrl b hb).2; omega)
            replace oF := (oF.ext (Ext.drew _)).kept hx116 (fun b hb => by have := (hrl b hb).2; omega)
            replace oE := (oE.ext (Ext.drew _)).kept hx116 (fun b hb => by have := (hrl b hb).2; omega)
            replace oD := (oD.ext (Ext.drew _)).kept hx116 (fun b hb => by have := (hrl b hb).2; omega)
            refine ⟨⟨hO2, oF⟩, ?_⟩
            have g1 := grown2 (grown_ext hwL0 (Ext.drew _)) hx116
            refine WO.l ?_
            refine LO.go rfl rfl (OW.enter rfl (by decide) (X.call Try.call81 (evl_cons rfl (evl_cons rfl (evl_cons rfl evl_nil)))) (with_ok m.n m.ok vE vD q _ _ hqn hMQ.len (own_one oE.own.row) (own_one oD.own)) ?_)
            rintro vq w117 ⟨rfl, hx118⟩
            have := World.grownBy.size hx118
            refine ⟨⟨(hO2.ext hx118), (oF.ext hx118)⟩, ?_⟩
            have h2 := h1.ext hx118
            have g1b := grown_ext g1 hx118
            refine WO.nil ?_
            refine WL.op rfl (OW.storeOA (hO2.ext hx118) ((hAL0.eq 2).trans (congrFun hF11 2)) rfl rfl (mc_ones _ _ (own_one oE.own.row) (own_one oD.own)) Try.sizeOf25 ?_)
            intro w119 hO2 hx121
            have := World.grownBy.size hx121
            replace hO4 := (hO4.ext hx118).keptO hx121 (by omega)
            replace oF := (oF.ext hx118).keptO hx121 (by omega)
            replace oE := (oE.ext hx118).keptO hx121 (by omega)
            replace oD := (oD.ext hx118).keptO hx121 (by omega)
            replace hO2 : Blk _ _ _ (mc (m.n.set (cl q) sp.int.1) m.ok vE vD) := hO2
            have h2s := h2.kept hx121 (.inr fun e => by have := (hrl _ e).2; omega) (.inr fun e => by have := (hDl _ e).2; omega)
            have g2_ := grown_nw g1b hx121 (fun i hi => by injection hi with hi; omega)
            have hfin : ∃ (mN : Mg) (sN : Pk.RS) (aN : Nat) (vEN vDN : Value) (EN : List EV) (TE2 TD2 : Nat), Blk w119 g2 25 (mc mN.n mN.ok vEN vDN) ∧ Syn (⟨n, false, [], []⟩ : Mg) s (places (n.getD 0 0)) (((places (n.getD 0 0)).take p) ++ [q]) mN sN ∧ RR w119 B x vb L aN sN ∧ EOwnT w119 wh.heap.size TE2 vEN EN ∧ EN.map Prod.fst = mN.E ∧ OwnT w119 wh.heap.size TD2 5 1 vDN mN.D.length (mN.D.map u8) ∧ MgQ mN (((places (n.getD 0 0)).take p) ++ [q]) ∧ NoD (((places (n.getD 0 0)).take p) ++ [q]) vDN mN.D ∧ w.grownBy w119 (asRow x).ownBlock ∧ (wh.heap.size ≤ TE2 ∧ TE2 ≤ (w119).heap.size) ∧ wh.heap.size ≤ TD2 ∧ TD2 ≤ (w119).heap.size := ⟨{ m with n := m.n.set (cl q) sp.int.1 }, _, _, _, _, _, _, _, hO2, hsy.step (rdFn hqn) bad_int, h2s, oE, hEm, oD, hMQ.num _ (int_rng _), hND.snoc, g2_, ⟨by omega, by omega⟩, by omega, by omega⟩
            obtain ⟨mN, sN, aN, vEN, vDN, EN, TE2, TD2, hON, hsN, hpN, oEN, hEN, oDN, hMN, hND, hgN, hTEN, hTDN1, hTDN2⟩ := hfin
            refine WL.nil ?_
            refine blk_n ?_
            refine blk_n ?_
            refine thn_n ?_
            refine WF.region ?_
            refine WL.va rfl rfl rfl (X.moveI e7_L0) ?_
            refine WL.va rfl rfl rfl (X.add rfl rfl (w64 (by omega))) ?_
            refine WL.va rfl rfl rfl (X.assignI rfl) ?_
            refine WL.nil ?_
            exact thn_n ⟨_, (by omega), p + 1, mN, sN, aN, vEN, vDN, EN, TE2, TD2, rfl, rfl, (by repeat (first | exact hAL0 | refine Agree.put ?_ rfl | refine Agree.named hF11 ?_)), hgN, ⟨by omega, hON, hO4, by rw [htk]; exact hsN, hpN, oEN, hEN, oDN, by rw [htk]; exact hMN, oF, by rw [htk]; exact hND, hTEN, hTDN1, hTDN2⟩⟩
    · have gh0_12 := (of_decide_eq_false h0_12)
      refine WF.exit ?_
      refine thn_x ?_
      refine thn_x ?_
      refine blk_eq ?_
      refine thn_n ?_
      refine WF.seq ?_
      refine WF.drawn (.q 0 (.q 1 (.l 2 (.q 3 (.l 4 (.q 5 .nil)))))) (fun w' => Blk w' g2 25 (mc m.n m.ok vE vD)) 6 (by kernel_rfl) (by kernel_rfl) ((hO2).ext (Ext.drew _)) ?_
      have := World.grownBy.size (Ext.drew wL0)
      refine WO.q rfl rfl rfl rfl (fun w' hE123 => (X.loadOA hE123 (Ext.refl _) ((hAL0.eq 2).trans (congrFun hF11 2)) rfl Try.isAgg25 Try.sizeOf25)) ?_
      refine WO.q rfl rfl rfl rfl (fun w' hE123 => (X.move ((hAL0.eq 1).trans (congrFun hF11 1)))) ?_
      refine WO.l ?_
      refine LO.go rfl rfl (OW.enter rfl (by decide) (X.call Try.call82 (evl_cons rfl evl_nil)) (qEnd_ok x vb L ap sp _ B (hpp.ext (Ext.drew _))) ?_)
      rintro v125 w124 ⟨rfl, hx126⟩
      have := World.grownBy.size hx126
      refine ⟨(hO2.ext (Ext.trans (Ext.drew _) hx126)), ?_⟩
      have gE := grown_ext (grown_ext hwL0 (Ext.drew _)) hx126
      refine WO.q rfl rfl rfl rfl (fun w' hE123 => (X.eql rfl rfl)) ?_
      refine WO.l ?_
      refine LO.go rfl rfl (OW.storeOA (hO4.ext (Ext.trans (Ext.drew _) hx126)) ((hAL0.eq 4).trans (congrFun hF11 4)) rfl rfl (mc_ones _ _ (own_one oE.own.row) (own_one oD.own)) Try.sizeOf25 ?_)
      intro w128 hO4 hx130
      have := World.grownBy.size hx130
      replace hO2 := (hO2.ext (Ext.trans (Ext.drew _) hx126)).keptO hx130 (by omega)
      replace oF := (oF.ext (Ext.trans (Ext.drew _) hx126)).keptO hx130 (by omega)
      replace oE := (oE.ext (Ext.trans (Ext.drew _) hx126)).keptO hx130 (by omega)
      replace oD := (oD.ext (Ext.trans (Ext.drew _) hx126)).keptO hx130 (by omega)
      have oE2 := (oE)
      have oD2 := (oD)
      have gR := grown_nw gE hx130 (fun i hi => by injection hi with hi; omega)
      refine ⟨hO2, ?_⟩
      refine WO.q rfl rfl rfl rfl (fun w' hE123 => (X.assignB rfl)) ?_
      refine WO.nil ?_
      refine WL.nil ?_
      refine thn_n ?_
      refine WF.ret ?_
      refine finC_r (vs := [_, _]) ⟨⟨_, ((hAL0.eq 4).trans (congrFun hF11 4)), readO hO4 Try.isAgg25 Try.sizeOf25⟩, rfl, trivial⟩ ?_
      have hsyK := hsy
      rw [List.take_of_length_le (by omega)] at hsyK
      refine ⟨⟨m, vE, vD, decide (sp.err = 0), rfl, own_one oE.own.row, own_one oD.own, fun q => ?_, fun q => ?_⟩, gR⟩
      · have he := of_decide_eq_true q
        rcases hsyK with hk | ⟨_, hb⟩
        · exact ⟨sp, E, hk, he, hMQ.inn, hMQ.len, hMQ.ein, hEm, oE2.own.mono (by omega), own_mono oD2.own (by omega)⟩
        · simp [Pk.RS.err, hb] at he
      · have he := of_decide_eq_false q
        rcases hsyK with hk | ⟨hk, _⟩
        · rw [hk]; exact if_pos he
        · rw [hk]; rfl

end Go.Proofs.Ytccbpfbcaogcnaa
