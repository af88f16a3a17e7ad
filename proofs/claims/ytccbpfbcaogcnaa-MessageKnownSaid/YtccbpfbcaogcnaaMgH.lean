/- The walk of read. -/
import Derived.Test.YtccbpfbcaogcnaaMgG
namespace Go.Proofs.Ytccbpfbcaogcnaa
open Go Go.RowKit Kf
set_option maxRecDepth 20000
/-- what is read so far, its bytes parts of the row D -/
structure MgP (D : Value) (L : List UInt8) (vD : Value) (E : List EV) (m : Mg) : Prop where
  len : m.n.length = 14
  inn : ∀ k, rng (m.n.getD k 0)
  ein : ∀ e ∈ m.E, rng e.Term ∧ rng e.Kind
  hE : E.map Prod.fst = m.E
  seg : SegE D L E
  dat : ∃ lo hi, Seg D vD lo hi ∧ hi ≤ L.length ∧ m.D = (L.drop lo).take (hi - lo)
section
variable {D vD : Value} {L : List UInt8} {E : List EV} {m : Mg}
theorem MgP.ok (h : MgP D L vD E m) (b : Bool) : MgP D L vD E { m with ok := b } := ⟨h.len, h.inn, h.ein, h.hE, h.seg, h.dat⟩
theorem MgP.num (h : MgP D L vD E m) (a : Nat) {x : Int} (hx : rng x) : MgP D L vD E { m with n := m.n.set a x } := ⟨by rw [List.length_set]; exact h.len, set_rng h.inn hx, h.ein, h.hE, h.seg, h.dat⟩
theorem MgP.dats {v : Value} {d : List UInt8} (h : MgP D L vD E m) (hd : ∃ lo hi, Seg D v lo hi ∧ hi ≤ L.length ∧ d = (L.drop lo).take (hi - lo)) : MgP D L v E { m with D := d } := ⟨h.len, h.inn, h.ein, h.hE, h.seg, hd⟩
theorem MgP.ent {E2 : List EV} {l : List En} (h : MgP D L vD E m) (hE : E2.map Prod.fst = l) (hs : SegE D L E2) (hr : ∀ e ∈ l, rng e.Term ∧ rng e.Kind) : MgP D L vD E2 { m with E := l } := ⟨h.len, h.inn, hr, hE, hs, h.dat⟩
theorem MgP.one {w : World} {B : Nat} (h : MgP D L vD E m) (ho : OwnB w B 5 D L) : Bytes w vD m.D := by
  obtain ⟨lo, hi, h1, h2, h3⟩ := h.dat
  rw [h3]; exact seg_bytes h1 ho h2
end
/-- a message in memory of its own -/
structure MgG (w : World) (B : Nat) (vE vD : Value) (m : Mg) (D : Value) (L : List UInt8) (E : List EV) : Prop where
  pl : MgP D L vD E m
  row : EOwnR w B vE E
  own : OwnB w B 5 D L
  ap : Apart vE D
section
variable {w w' : World} {B B' : Nat} {vE vD D : Value} {m : Mg} {L : List UInt8} {E : List EV}
theorem MgG.at (h : MgG w B vE vD m D L E) : MgAt w vE vD m := ⟨h.pl.len, h.pl.inn, h.pl.ein, ⟨E, h.pl.hE, Row.of_own h.row, h.pl.seg.dat h.own⟩, h.pl.one h.own⟩
theorem MgG.ext (h : MgG w B vE vD m D L E) (g : Ext w w') : MgG w' B vE vD m D L E := ⟨h.pl, own_ext h.row g, own_ext h.own g, h.ap⟩
theorem MgG.keptO {b : Nat} (h : MgG w B vE vD m D L E) (g : w.grownBy w' (some b)) (hb : b < B) : MgG w' B vE vD m D L E := ⟨h.pl, own_keptO h.row g (.inl hb), own_keptO h.own g (.inl hb), h.ap⟩
theorem MgG.mono (h : MgG w B vE vD m D L E) (hB : B' ≤ B) : MgG w B' vE vD m D L E := ⟨h.pl, own_mono h.row hB, own_mono h.own hB, h.ap⟩
end

set_option maxHeartbeats 4000000 in
theorem read_ok2 (g : Nat) (n : List Int) (r D left : Value) (L : List UInt8) (a B0 : Nat) (s : Pk.RS) (w : World) (hO : Blk w g 25 (mc n false (.slice none 0 0) (.slice none 0 0))) (hp0 : PR w B0 r D L a s left) (hnl : n.length = 14) (hin : ∀ k, rng (n.getD k 0)) (hL : L.length ≤ 1000000) (hg : B0 ≤ g) (hne : ∀ b, (asRow r).ownBlock = some b → b ≠ g) (hneD : ∀ b, D.ownBlock = some b → b ≠ g) :
    FnOk Try.prog 55 [at_ g, r] w (fun v w' => (∃ ok, v = .bool ok ∧ (ok = true → ∃ m s' vE vD E, readF (⟨n, false, [], []⟩ : Mg) s (places (n.getD 0 0)) = some (m, s') ∧ s'.err = 0 ∧ Blk w' g 25 (mc m.n m.ok vE vD) ∧ MgP D L vD E m ∧ EOwnR w' w.heap.size vE E ∧ OwnB w' B0 5 D L) ∧ (ok = false → fin1 (readF (⟨n, false, [], []⟩ : Mg) s (places (n.getD 0 0))) = (noMg, 4))) ∧ Chg B0 w.heap.size w w') := by
  have hrl := hp0.lt.1
  have hDl := hp0.lt.2
  have hgT := hO.lt
  refine FnOk.enter (rs := [4]) Try.func55 rfl Try.ntmps55 Try.results55 rfl rfl ?_
  refine WF.seq ?_
  refine WF.region ?_
  refine WL.va rfl rfl rfl (X.assignB rfl) ?_
  refine WL.nil ?_
  refine thn_n ?_
  refine WF.seq ?_
  refine WF.seq ?_
  refine WF.region ?_
  refine WL.va rfl rfl rfl (X.move rfl) ?_
  refine WL.va rfl rfl rfl (X.nilCheck rfl) ?_
  refine WL.va rfl rfl rfl (X.fieldAddrO (off := 0) rfl Try.underlying25 rfl rfl Try.sizeOf3) ?_
  refine WL.va rfl rfl rfl (X.loadO hO (Ext.refl _) rfl (mc_get hnl (by decide)) Try.isAgg3) ?_
  refine WL.c rfl rfl rfl (X.call Try.call33 (evl_cons rfl evl_nil)) (fields_ok (n.getD 0 0) _) ?_
  rintro v3 w2 ⟨rfl, hx4⟩
  have := World.grownBy.size hx4
  refine WL.op rfl (OW.range rfl Try.underlying9 ?_ (by decide))
  intro g14 wI heg14 hlg14 hI14 hx6
  have := World.grownBy.size hx6
  refine WL.nil ?_
  refine thn_n ?_
  refine WF.block ?_
  refine WF.named (fun F8 hF9 => ?_)
  refine WF.loopN (fun mL0 f' w' => ∃ (p : Nat) (m : Mg) (sp : Pk.RS) (ap : Nat) (lp vE vD : Value) (E : List EV) (TE : Nat), mL0 = (places (n.getD 0 0)).length - p ∧ Agree [0, 1, 9, 10, 11, 12, 13, 14] f' F8 ∧ Chg B0 w.heap.size w w' ∧ It w' g14 (strL (lets (n.getD 0 0))) p ∧ Blk w' g 25 (mc m.n m.ok vE vD) ∧ p ≤ (places (n.getD 0 0)).length ∧ readF (⟨n, false, [], []⟩ : Mg) s ((places (n.getD 0 0)).take p) = some (m, sp) ∧ PR w' B0 r D L ap sp lp ∧ OwnT w' (g14 + 1) TE 57 3 vE E.length (E.flatMap EV.c) ∧ MgP D L vD E m) ?_ ?_
  · exact ⟨_, 0, (⟨n, false, [], []⟩ : Mg), s, a, left, (.slice none 0 0), (.slice none 0 0), [], 0, rfl, (Agree.refl _ _), (Chg.of (show Ext w wI from (Ext.trans hx4 hx6)) (fun q hq => by cases hq)), ⟨hI14, (hO.ext (Ext.trans hx4 hx6)), Nat.zero_le _, rfl, hp0.ext (Ext.trans hx4 hx6), ⟨EOwnR.nil _ _, fun b hb => (by cases hb)⟩, ⟨hnl, hin, fun e he => (by cases he), rfl, SegE.nil _ _, ⟨0, 0, Seg.nil _ _, Nat.zero_le _, rfl⟩⟩⟩⟩
  · rintro mL0 fL0 wL0 ⟨p, m, sp, ap, lp, vE, vD, E, TE, hmL0, hAL0, hwL0, ⟨hI14, hO, hpK, hrd0, hpp, oE, hMP⟩⟩
    have hcq := hwL0
    have hzq := hcq.size
    have hI14l := hI14.lt
    refine WF.seq ?_
    refine WF.region ?_
    rcases Nat.lt_or_ge p (places (n.getD 0 0)).length with hn2 | hn2
    · obtain ⟨q, hq, hq14, hdec, htk⟩ := next_place hn2
      have hlt := lt_num hq14
      refine WL.op rfl (OW.next hI14 ((hAL0.eq 14).trans (congrFun hF9 14)) (by rw [strL_size, lets_len]; exact hn2) hdec ?_ (by decide))
      intro wN hI14 hx11
      have := World.grownBy.size hx11
      replace hO := hO.keptO hx11 (by omega)
      replace oE := oE.keptO hx11 (by omega)
      have hcn := Chg.nw hcq hx11 (fun i hi => by injection hi with hi; omega)
      have hpn := hpp.kept hx11 (.inr fun e => by have := (hrl _ e).2; omega) (.inr fun e => by have := (hDl _ e).2; omega)
      refine WL.va rfl rfl rfl (X.extract rfl rfl) ?_
      refine WL.nil ?_
      refine thn_n ?_
      refine WF.seq ?_
      refine WF.cond_t rfl ?_
      refine WF.skip ?_
      refine thn_n ?_
      refine WF.block ?_
      refine WF.seq ?_
      refine WF.region ?_
      refine WL.va rfl rfl rfl (X.extract rfl rfl) ?_
      refine WL.va rfl rfl rfl (X.assignI rfl) ?_
      refine WL.nil ?_
      refine thn_n ?_
      refine WF.seq ?_
      refine WF.region ?_
      refine WL.va rfl rfl rfl (X.assignB rfl) ?_
      refine WL.nil ?_
      refine thn_n ?_
      refine WF.seq ?_
      refine WF.seq ?_
      refine WF.region ?_
      refine WL.va rfl rfl rfl (X.moveI rfl) ?_
      refine WL.nil ?_
      refine thn_n ?_
      refine WF.block ?_
      refine WF.seq ?_
      refine WF.region ?_
      refine WL.va rfl rfl rfl (X.eql rfl rfl) ?_
      refine WL.va rfl rfl rfl (X.assignB rfl) ?_
      refine WL.nil ?_
      refine thn_n ?_
      refine WF.cond rfl (fun h1_15 => ?_) (fun h1_15 => ?_)
      · have gh1_15 := (of_decide_eq_true h1_15)
        have hq11 : q = 11 := hlt.1.1 (by have := gh1_15; omega)
        refine WF.seq ?_
        refine WF.region ?_
        refine WL.va rfl rfl rfl (X.move ((hAL0.eq 1).trans (congrFun hF9 1))) ?_
        refine WL.c rfl rfl rfl (X.call Try.call53 (evl_cons rfl evl_nil)) (rInt_ok r D lp L ap sp _ B0 hpn) ?_
        rintro v18 w17 ⟨rfl, ⟨a1, l1, hp1⟩, hx19⟩
        have := World.grownBy.size hx19
        replace hO := hO.keptR hx19 (fun b hb => by have := hrl b hb; have := hne b hb; omega)
        replace hI14 := hI14.kept hx19 (fun b hb => by have := hrl b hb; have := hne b hb; omega)
        replace oE := oE.kept hx19 (fun b hb => by have := hrl b hb; have := hne b hb; omega)
        have hc1 := Chg.row hcn hx19 (fun q hq => hrl q hq)
        refine WL.va rfl rfl rfl (X.assignI rfl) ?_
        refine WL.nil ?_
        refine thn_n ?_
        refine WF.region ?_
        refine WL.va rfl rfl rfl (X.move ((hAL0.eq 0).trans (congrFun hF9 0))) ?_
        refine WL.va rfl rfl rfl (X.moveI rfl) ?_
        refine WL.va rfl rfl rfl (X.eql rfl rfl) ?_
        refine WL.va rfl rfl rfl (X.moveI rfl) ?_
        refine WL.va rfl rfl rfl (X.eql rfl rfl) ?_
        refine WL.va rfl rfl rfl (X.moveB rfl) ?_
        refine WL.split (j := 5) rfl (fun h22 => ?_) (fun h22 => ?_)
        · have gh22 := (of_decide_eq_true h22)
          have h01 : sp.int.1 = 0 ∨ sp.int.1 = 1 := .inl gh22
          refine WL.p rfl rfl rfl (congrArg some h22) ?_
          refine WL.p rfl rfl rfl (congrArg some h22) ?_
          refine WL.va rfl rfl rfl (X.pickT rfl h22 rfl) ?_
          refine WL.va rfl rfl rfl (X.nilCheck rfl) ?_
          refine WL.va rfl rfl rfl (X.fieldAddrO (off := 14) rfl Try.underlying25 rfl rfl Try.sizeOf4) ?_
          refine WL.op rfl (OW.storeO hO (Nat.le_of_ble_eq_true rfl) rfl rfl rfl Try.sizeOf4 ?_)
          intro w24 hO hx26
          have := World.grownBy.size hx26
          replace hI14 := hI14.keptO hx26 (by omega)
          replace oE := oE.keptO hx26 (by omega)
          replace hO : Blk _ _ _ (mc m.n (decide (sp.int.1 = 1)) vE vD) := hO
          have hc2 := Chg.row hc1 hx26 (fun q hq => by injection hq with hq; subst hq; exact ⟨hg, hgT⟩)
          have hp2 := hp1.kept hx26 (.inr fun e => hne _ e rfl) (.inr fun e => hneD _ e rfl)
          have hfin : ∃ (mN : Mg) (sN : Pk.RS) (aN : Nat) (lN vEN vDN : Value) (EN : List EV) (TN : Nat), Blk w24 g 25 (mc mN.n mN.ok vEN vDN) ∧ readF (⟨n, false, [], []⟩ : Mg) s ((places (n.getD 0 0)).take p ++ [q]) = some (mN, sN) ∧ PR w24 B0 r D L aN sN lN ∧ OwnT w24 (g14 + 1) TN 57 3 vEN EN.length (EN.flatMap EV.c) ∧ MgP D L vDN EN mN := ⟨{ m with ok := decide (sp.int.1 = 1) }, _, _, _, _, _, _, _, hO, (readF_snoc hrd0).trans (rdF11 hq11 h01), hp2, oE, hMP.ok _⟩
          obtain ⟨mN, sN, aN, lN, vEN, vDN, EN, TN, hON, hrdN, hpN, oEN, hMN⟩ := hfin
          refine WL.va rfl rfl rfl (X.assignB rfl) ?_
          refine WL.nil ?_
          refine blk_n ?_
          refine thn_n ?_
          refine WF.seq ?_
          refine WF.region ?_
          refine WL.va rfl rfl rfl (X.moveB rfl) ?_
          refine WL.va rfl rfl rfl (X.not rfl) ?_
          refine WL.nil ?_
          refine thn_n ?_
          refine WF.cond_f rfl ?_
          refine WF.skip ?_
          refine blk_n ?_
          exact thn_n ⟨_, (by omega), p + 1, mN, sN, aN, lN, vEN, vDN, EN, TN, rfl, (by repeat (first | exact hAL0 | refine Agree.put ?_ rfl | refine Agree.named hF9 ?_)), hc2, ⟨hI14, hON, by omega, by rw [htk]; exact hrdN, hpN, oEN, hMN⟩⟩
        · have gh22 := (of_decide_eq_false h22)
          have hx0 := gh22
          refine WL.vg rfl (congrArg some h22) rfl rfl (X.moveI rfl) ?_
          refine WL.vg rfl (congrArg some h22) rfl rfl (X.eql rfl rfl) ?_
          refine WL.va rfl rfl rfl (X.pickF rfl h22 rfl) ?_
          refine WL.va rfl rfl rfl (X.nilCheck rfl) ?_
          refine WL.va rfl rfl rfl (X.fieldAddrO (off := 14) rfl Try.underlying25 rfl rfl Try.sizeOf4) ?_
          refine WL.op rfl (OW.storeO hO (Nat.le_of_ble_eq_true rfl) rfl rfl rfl Try.sizeOf4 ?_)
          intro w30 hO hx32
          have := World.grownBy.size hx32
          replace hI14 := hI14.keptO hx32 (by omega)
          replace oE := oE.keptO hx32 (by omega)
          replace hO : Blk _ _ _ (mc m.n (decide (sp.int.1 = 1)) vE vD) := hO
          have hc2 := Chg.row hc1 hx32 (fun q hq => by injection hq with hq; subst hq; exact ⟨hg, hgT⟩)
          have hp2 := hp1.kept hx32 (.inr fun e => hne _ e rfl) (.inr fun e => hneD _ e rfl)
          refine WL.va rfl rfl rfl (X.assignB rfl) ?_
          refine WL.nil ?_
          refine blk_n ?_
          refine thn_n ?_
          refine WF.seq ?_
          refine WF.region ?_
          refine WL.va rfl rfl rfl (X.moveB rfl) ?_
          refine WL.va rfl rfl rfl (X.not rfl) ?_
          refine WL.nil ?_
          refine thn_n ?_
          refine WF.cond rfl (fun h4_34 => ?_) (fun h4_34 => ?_)
          · have gh4_34 := (of_decide_eq_false (nt h4_34))
            have hnone : rdF m sp q = none := by first | exact rdF11n hq11 (by omega) | exact rdF12n hq12 (hEF gh4_34)
            refine WF.seq ?_
            refine WF.region ?_
            refine WL.va rfl rfl rfl (X.assignB rfl) ?_
            refine WL.nil ?_
            refine thn_n ?_
            refine WF.ret ?_
            refine blk_r ?_
            refine thn_r ?_
            refine blk_r ?_
            refine thn_r ?_
            refine fin_r ?_
            have hF : readF (⟨n, false, [], []⟩ : Mg) s (places (n.getD 0 0)) = none := readF_none hrd0 hnone ⟨(places (n.getD 0 0)).drop (p + 1), by rw [← htk, List.take_append_drop]⟩
            exact ⟨⟨false, rfl, fun q => (by cases q), fun _ => (by rw [hF]; rfl)⟩, hc2⟩
          · have gh4_34 := (of_decide_eq_true (nf h4_34))
            have hfin : ∃ (mN : Mg) (sN : Pk.RS) (aN : Nat) (lN vEN vDN : Value) (EN : List EV) (TN : Nat), Blk w30 g 25 (mc mN.n mN.ok vEN vDN) ∧ readF (⟨n, false, [], []⟩ : Mg) s ((places (n.getD 0 0)).take p ++ [q]) = some (mN, sN) ∧ PR w30 B0 r D L aN sN lN ∧ OwnT w30 (g14 + 1) TN 57 3 vEN EN.length (EN.flatMap EV.c) ∧ MgP D L vDN EN mN := by
              first
                | (have h01 : sp.int.1 = 0 ∨ sp.int.1 = 1 := .inr gh4_34; exact ⟨{ m with ok := decide (sp.int.1 = 1) }, _, _, _, _, _, _, _, hO, (readF_snoc hrd0).trans (rdF11 hq11 h01), hp2, oE, hMP.ok _⟩)
                | (obtain ⟨hnn, hbd, E2, hE2, oE2, hsg2, a2, l2, hp2⟩ := hET gh4_34; have hp3 := hp2.kept gS (.inr fun e => hne _ e rfl) (.inr fun e => hneD _ e rfl); have oE3 := own_keptO oE2 gS (.inl (by omega)); exact ⟨{ m with E := (rdE sp.int.2 sp.int.1.toNat).1 }, _, _, _, _, _, _, _, hO, (readF_snoc hrd0).trans (rdF12 hq12 hnn hbd), hp3, OwnT.of (own_mono oE3 (by omega)), hMP.ent hE2 hsg2 (rdE_rng _ _)⟩)
            obtain ⟨mN, sN, aN, lN, vEN, vDN, EN, TN, hON, hrdN, hpN, oEN, hMN⟩ := hfin
            refine WF.skip ?_
            refine blk_n ?_
            exact thn_n ⟨_, (by omega), p + 1, mN, sN, aN, lN, vEN, vDN, EN, TN, rfl, (by repeat (first | exact hAL0 | refine Agree.put ?_ rfl | refine Agree.named hF9 ?_)), hc2, ⟨hI14, hON, by omega, by rw [htk]; exact hrdN, hpN, oEN, hMN⟩⟩
      · have gh1_15 := (of_decide_eq_false h1_15)
        have hq11 : q ≠ 11 := fun e => by have h1 := hlt.1.2 e; have h2 := gh1_15; omega
        refine WF.seq ?_
        refine WF.region ?_
        refine WL.va rfl rfl rfl (X.eql rfl rfl) ?_
        refine WL.va rfl rfl rfl (X.assignB rfl) ?_
        refine WL.nil ?_
        refine thn_n ?_
        refine WF.cond rfl (fun h2_37 => ?_) (fun h2_37 => ?_)
        · have gh2_37 := (of_decide_eq_true h2_37)
          have hq12 : q = 12 := hlt.2.1.1 (by have := gh2_37; omega)
          refine WF.region ?_
          refine WL.va rfl rfl rfl (X.move ((hAL0.eq 0).trans (congrFun hF9 0))) ?_
          refine WL.va rfl rfl rfl (X.move ((hAL0.eq 1).trans (congrFun hF9 1))) ?_
          refine WL.c rfl rfl rfl (X.call Try.call75 (evl_cons rfl evl_nil)) (entries_ok r D lp L ap B0 sp _ hpn hL) ?_
          rintro v40 w39 ⟨⟨vE2, okE, rfl, oneE, hEF, hET⟩, hx41⟩
          have := World.grownBy.size hx41
          replace hO := hO.keptR hx41 (fun b hb => by have := hrl b hb; have := hne b hb; omega)
          replace hI14 := hI14.kept hx41 (fun b hb => by have := hrl b hb; have := hne b hb; omega)
          replace oE := oE.kept hx41 (fun b hb => by have := hrl b hb; have := hne b hb; omega)
          have hc1 := Chg.row hcn hx41 (fun q hq => hrl q hq)
          refine WL.va rfl rfl rfl (X.move rfl) ?_
          refine WL.va rfl rfl rfl (X.extract rfl rfl) ?_
          refine WL.va rfl rfl rfl (X.extract rfl rfl) ?_
          refine WL.va rfl rfl rfl (X.nilCheck rfl) ?_
          refine WL.va rfl rfl rfl (X.fieldAddrO (off := 15) rfl Try.underlying25 rfl rfl Try.sizeOf22) ?_
          refine WL.op rfl (OW.storeO hO (Nat.le_of_ble_eq_true rfl) rfl rfl oneE Try.sizeOf22 ?_)
          intro w43 hO hx45
          have := World.grownBy.size hx45
          replace hI14 := hI14.keptO hx45 (by omega)
          replace oE := oE.keptO hx45 (by omega)
          replace hO : Blk _ _ _ (mc m.n m.ok vE2 vD) := hO
          have gS := hx45
          have hc2 := Chg.row hc1 hx45 (fun q hq => by injection hq with hq; subst hq; exact ⟨hg, hgT⟩)
          refine WL.va rfl rfl rfl (X.assignB rfl) ?_
          refine WL.nil ?_
          refine blk_n ?_
          refine thn_n ?_
          refine WF.seq ?_
          refine WF.region ?_
          refine WL.va rfl rfl rfl (X.moveB rfl) ?_
          refine WL.va rfl rfl rfl (X.not rfl) ?_
          refine WL.nil ?_
          refine thn_n ?_
          refine WF.cond rfl (fun h4_47 => ?_) (fun h4_47 => ?_)
          · have gh4_47 := (nt h4_47)
            have hnone : rdF m sp q = none := by first | exact rdF11n hq11 (by omega) | exact rdF12n hq12 (hEF gh4_47)
            refine WF.seq ?_
            refine WF.region ?_
            refine WL.va rfl rfl rfl (X.assignB rfl) ?_
            refine WL.nil ?_
            refine thn_n ?_
            refine WF.ret ?_
            refine blk_r ?_
            refine thn_r ?_
            refine blk_r ?_
            refine thn_r ?_
            refine fin_r ?_
            have hF : readF (⟨n, false, [], []⟩ : Mg) s (places (n.getD 0 0)) = none := readF_none hrd0 hnone ⟨(places (n.getD 0 0)).drop (p + 1), by rw [← htk, List.take_append_drop]⟩
            exact ⟨⟨false, rfl, fun q => (by cases q), fun _ => (by rw [hF]; rfl)⟩, hc2⟩
          · have gh4_47 := (nf h4_47)
            have hfin : ∃ (mN : Mg) (sN : Pk.RS) (aN : Nat) (lN vEN vDN : Value) (EN : List EV) (TN : Nat), Blk w43 g 25 (mc mN.n mN.ok vEN vDN) ∧ readF (⟨n, false, [], []⟩ : Mg) s ((places (n.getD 0 0)).take p ++ [q]) = some (mN, sN) ∧ PR w43 B0 r D L aN sN lN ∧ OwnT w43 (g14 + 1) TN 57 3 vEN EN.length (EN.flatMap EV.c) ∧ MgP D L vDN EN mN := by
              first
                | (have h01 : sp.int.1 = 0 ∨ sp.int.1 = 1 := .inr gh4_47; exact ⟨{ m with ok := decide (sp.int.1 = 1) }, _, _, _, _, _, _, _, hO, (readF_snoc hrd0).trans (rdF11 hq11 h01), hp2, oE, hMP.ok _⟩)
                | (obtain ⟨hnn, hbd, E2, hE2, oE2, hsg2, a2, l2, hp2⟩ := hET gh4_47; have hp3 := hp2.kept gS (.inr fun e => hne _ e rfl) (.inr fun e => hneD _ e rfl); have oE3 := own_keptO oE2 gS (.inl (by omega)); exact ⟨{ m with E := (rdE sp.int.2 sp.int.1.toNat).1 }, _, _, _, _, _, _, _, hO, (readF_snoc hrd0).trans (rdF12 hq12 hnn hbd), hp3, OwnT.of (own_mono oE3 (by omega)), hMP.ent hE2 hsg2 (rdE_rng _ _)⟩)
            obtain ⟨mN, sN, aN, lN, vEN, vDN, EN, TN, hON, hrdN, hpN, oEN, hMN⟩ := hfin
            refine WF.skip ?_
            refine blk_n ?_
            exact thn_n ⟨_, (by omega), p + 1, mN, sN, aN, lN, vEN, vDN, EN, TN, rfl, (by repeat (first | exact hAL0 | refine Agree.put ?_ rfl | refine Agree.named hF9 ?_)), hc2, ⟨hI14, hON, by omega, by rw [htk]; exact hrdN, hpN, oEN, hMN⟩⟩
        · have gh2_37 := (of_decide_eq_false h2_37)
          have hq12 : q ≠ 12 := fun e => by have h1 := hlt.2.1.2 e; have h2 := gh2_37; omega
          refine WF.seq ?_
          refine WF.region ?_
          refine WL.va rfl rfl rfl (X.eql rfl rfl) ?_
          refine WL.va rfl rfl rfl (X.assignB rfl) ?_
          refine WL.nil ?_
          refine thn_n ?_
          refine WF.cond rfl (fun h3_50 => ?_) (fun h3_50 => ?_)
          · have gh3_50 := (of_decide_eq_true h3_50)
            have hq13 : q = 13 := hlt.2.2.1.1 (by have := gh3_50; omega)
            refine WF.region ?_
            refine WL.va rfl rfl rfl (X.move ((hAL0.eq 0).trans (congrFun hF9 0))) ?_
            refine WL.va rfl rfl rfl (X.move ((hAL0.eq 1).trans (congrFun hF9 1))) ?_
            refine WL.c rfl rfl rfl (X.call Try.call76 (evl_cons rfl evl_nil)) (rBlob_ok r D lp L ap sp _ B0 hpn) ?_
            rintro v13 w52 ⟨⟨a1, a2, l2, hs2, hb2, hp2⟩, hx53⟩
            have := World.grownBy.size hx53
            replace hO := hO.keptR hx53 (fun b hb => by have := hrl b hb; have := hne b hb; omega)
            replace hI14 := hI14.kept hx53 (fun b hb => by have := hrl b hb; have := hne b hb; omega)
            replace oE := oE.kept hx53 (fun b hb => by have := hrl b hb; have := hne b hb; omega)
            have hc1 := Chg.row hcn hx53 (fun q hq => hrl q hq)
            refine WL.va rfl rfl rfl (X.nilCheck rfl) ?_
            refine WL.va rfl rfl rfl (X.fieldAddrO (off := 16) rfl Try.underlying25 rfl rfl Try.sizeOf23) ?_
            refine WL.op rfl (OW.storeO hO (Nat.le_of_ble_eq_true rfl) rfl rfl (Row.one hb2) Try.sizeOf23 ?_)
            intro w54 hO hx56
            have := World.grownBy.size hx56
            replace hI14 := hI14.keptO hx56 (by omega)
            replace oE := oE.keptO hx56 (by omega)
            replace hO : Blk _ _ _ (mc m.n m.ok vE v13) := hO
            have hc2 := Chg.row hc1 hx56 (fun q hq => by injection hq with hq; subst hq; exact ⟨hg, hgT⟩)
            have hp3 := hp2.kept hx56 (.inr fun e => hne _ e rfl) (.inr fun e => hneD _ e rfl)
            have hfin : ∃ (mN : Mg) (sN : Pk.RS) (aN : Nat) (lN vEN vDN : Value) (EN : List EV) (TN : Nat), Blk w54 g 25 (mc mN.n mN.ok vEN vDN) ∧ readF (⟨n, false, [], []⟩ : Mg) s ((places (n.getD 0 0)).take p ++ [q]) = some (mN, sN) ∧ PR w54 B0 r D L aN sN lN ∧ OwnT w54 (g14 + 1) TN 57 3 vEN EN.length (EN.flatMap EV.c) ∧ MgP D L vDN EN mN := ⟨{ m with D := sp.blob.1 }, _, _, _, _, _, _, _, hO, (readF_snoc hrd0).trans (rdF13 hq13), hp3, oE, hMP.dats ⟨a1, a2, hs2, (by have := hp2.inn; omega), Bytes.inj hb2 (seg_bytes hs2 hp2.own (by have := hp2.inn; omega))⟩⟩
            obtain ⟨mN, sN, aN, lN, vEN, vDN, EN, TN, hON, hrdN, hpN, oEN, hMN⟩ := hfin
            refine WL.nil ?_
            refine blk_n ?_
            refine thn_n ?_
            refine WF.seq ?_
            refine WF.region ?_
            refine WL.va rfl rfl rfl (X.moveB rfl) ?_
            refine WL.va rfl rfl rfl (X.not rfl) ?_
            refine WL.nil ?_
            refine thn_n ?_
            refine WF.cond_f rfl ?_
            refine WF.skip ?_
            refine blk_n ?_
            exact thn_n ⟨_, (by omega), p + 1, mN, sN, aN, lN, vEN, vDN, EN, TN, rfl, (by repeat (first | exact hAL0 | refine Agree.put ?_ rfl | refine Agree.named hF9 ?_)), hc2, ⟨hI14, hON, by omega, by rw [htk]; exact hrdN, hpN, oEN, hMN⟩⟩
          · have gh3_50 := (of_decide_eq_false h3_50)
            have hq13 : q ≠ 13 := fun e => by have h1 := hlt.2.2.1.2 e; have h2 := gh3_50; omega
            have hqn : q < 11 := by omega
            refine WF.region ?_
            refine WL.va rfl rfl rfl (X.move ((hAL0.eq 0).trans (congrFun hF9 0))) ?_
            refine WL.va rfl rfl rfl (X.moveI rfl) ?_
            refine WL.c rfl rfl rfl (X.call Try.call45 (evl_cons rfl (evl_cons rfl evl_nil))) (number_ok2 g _ _ _ hO) ?_
            rintro v60 w59 ⟨rfl, hx61⟩
            have := World.grownBy.size hx61
            have hcn1 := Chg.nw hcn hx61 (fun i hi => by cases hi)
            have hpn1 := hpn.ext hx61
            refine WL.va rfl rfl rfl (X.move ((hAL0.eq 1).trans (congrFun hF9 1))) ?_
            refine WL.c rfl rfl rfl (X.call Try.call53 (evl_cons rfl evl_nil)) (rInt_ok r D lp L ap sp _ B0 hpn1) ?_
            rintro v63 w62 ⟨rfl, ⟨a1, l1, hp1⟩, hx65⟩
            have := World.grownBy.size hx65
            replace hO := (hO.ext hx61).keptR hx65 (fun b hb => by have := hrl b hb; have := hne b hb; omega)
            replace hI14 := (hI14.ext hx61).kept hx65 (fun b hb => by have := hrl b hb; have := hne b hb; omega)
            replace oE := (oE.ext hx61).kept hx65 (fun b hb => by have := hrl b hb; have := hne b hb; omega)
            have hc1 := Chg.row hcn1 hx65 (fun q hq => hrl q hq)
            refine WL.va rfl rfl rfl (X.nilCheck rfl) ?_
            refine WL.op rfl (OW.storeO hO (Nat.lt_of_lt_of_le (nOff_lt _).2 (by show 14 ≤ 17; decide)) rfl rfl rfl Try.sizeOf3 ?_)
            intro w66 hO hx68
            have := World.grownBy.size hx68
            replace hI14 := hI14.keptO hx68 (by omega)
            replace oE := oE.keptO hx68 (by omega)
            replace hO := hO.cast ((congrArg (fun z => (mc m.n m.ok vE vD).set z _) (nOff_place hqn)).trans (mc_set _ hMP.len (cl_lt hqn).2))
            have hc2 := Chg.row hc1 hx68 (fun q hq => by injection hq with hq; subst hq; exact ⟨hg, hgT⟩)
            have hp2 := hp1.kept hx68 (.inr fun e => hne _ e rfl) (.inr fun e => hneD _ e rfl)
            have hfin : ∃ (mN : Mg) (sN : Pk.RS) (aN : Nat) (lN vEN vDN : Value) (EN : List EV) (TN : Nat), Blk w66 g 25 (mc mN.n mN.ok vEN vDN) ∧ readF (⟨n, false, [], []⟩ : Mg) s ((places (n.getD 0 0)).take p ++ [q]) = some (mN, sN) ∧ PR w66 B0 r D L aN sN lN ∧ OwnT w66 (g14 + 1) TN 57 3 vEN EN.length (EN.flatMap EV.c) ∧ MgP D L vDN EN mN := ⟨{ m with n := m.n.set (cl q) sp.int.1 }, _, _, _, _, _, _, _, hO, (readF_snoc hrd0).trans (rdFn hqn), hp2, oE, hMP.num _ (int_rng _)⟩
            obtain ⟨mN, sN, aN, lN, vEN, vDN, EN, TN, hON, hrdN, hpN, oEN, hMN⟩ := hfin
            refine WL.nil ?_
            refine blk_n ?_
            refine thn_n ?_
            refine WF.seq ?_
            refine WF.region ?_
            refine WL.va rfl rfl rfl (X.moveB rfl) ?_
            refine WL.va rfl rfl rfl (X.not rfl) ?_
            refine WL.nil ?_
            refine thn_n ?_
            refine WF.cond_f rfl ?_
            refine WF.skip ?_
            refine blk_n ?_
            exact thn_n ⟨_, (by omega), p + 1, mN, sN, aN, lN, vEN, vDN, EN, TN, rfl, (by repeat (first | exact hAL0 | refine Agree.put ?_ rfl | refine Agree.named hF9 ?_)), hc2, ⟨hI14, hON, by omega, by rw [htk]; exact hrdN, hpN, oEN, hMN⟩⟩
    · refine WL.op rfl (OW.nextEnd hI14 ((hAL0.eq 14).trans (congrFun hF9 14)) (by rw [strL_size, lets_len]; omega) ?_ (by decide))
      refine WL.va rfl rfl rfl (X.extract rfl rfl) ?_
      refine WL.nil ?_
      refine thn_n ?_
      refine WF.seq ?_
      refine WF.cond_f rfl ?_
      refine WF.exit ?_
      refine thn_x ?_
      refine thn_x ?_
      refine blk_eq ?_
      refine thn_n ?_
      refine WF.seq ?_
      refine WF.region ?_
      refine WL.va rfl rfl rfl (X.move ((hAL0.eq 1).trans (congrFun hF9 1))) ?_
      refine WL.c rfl rfl rfl (X.call Try.call77 (evl_cons rfl evl_nil)) (rEnd_ok r D lp L ap sp _ B0 hpp) ?_
      rintro v73 w72 ⟨rfl, rfl⟩
      refine WL.va rfl rfl rfl (X.eql rfl rfl) ?_
      refine WL.va rfl rfl rfl (X.assignB rfl) ?_
      refine WL.nil ?_
      refine thn_n ?_
      refine WF.ret ?_
      refine fin_r ?_
      have hrdK : readF (⟨n, false, [], []⟩ : Mg) s (places (n.getD 0 0)) = some (m, sp) := by rw [List.take_of_length_le (by omega)] at hrd0; exact hrd0
      exact ⟨⟨decide (sp.err = 0), rfl, fun q => ⟨m, sp, vE, vD, E, hrdK, of_decide_eq_true q, hO, hMP, own_mono oE.own (by omega), hpp.own⟩, fun q => (by rw [hrdK]; exact if_pos (of_decide_eq_false q))⟩, hcq⟩

end Go.Proofs.Ytccbpfbcaogcnaa
