/- The walk of the reference's Get. -/
import Derived.Test.YtccbpfbcaogcnaaMgK
import Derived.Test.YtccbpfbcaogcnaaMgI
namespace Go.Proofs.Ytccbpfbcaogcnaa
open Go Go.RowKit Kf
set_option maxRecDepth 20000
/-- a message whose lists are in memory of their own -/
structure MgO (w : World) (B : Nat) (vE vD : Value) (m : Mg) : Prop where
  len : m.n.length = 14
  inn : ∀ k, rng (m.n.getD k 0)
  ein : ∀ e ∈ m.E, rng e.Term ∧ rng e.Kind
  E : ∃ E, E.map Prod.fst = m.E ∧ EOwn w B vE E
  D : OwnB w B 5 vD m.D
section
variable {w w' : World} {B B' : Nat} {vE vD : Value} {m : Mg}
theorem EOwn.mono2 {E : List EV} (h : EOwn w B vE E) (g : B' ≤ B) : EOwn w B' vE E := h.mono g
theorem MgO.at (h : MgO w B vE vD m) : MgAt w vE vD m := by
  obtain ⟨E, hE, hW⟩ := h.E
  exact ⟨h.len, h.inn, h.ein, ⟨E, hE, Row.of_own hW.row, fun e he => Bytes.of_own (hW.data e he)⟩, Row.of_own h.D⟩
theorem MgO.ext (h : MgO w B vE vD m) (g : Ext w w') : MgO w' B vE vD m := by
  obtain ⟨E, hE, hW⟩ := h.E
  exact ⟨h.len, h.inn, h.ein, ⟨E, hE, hW.ext g⟩, own_ext h.D g⟩
theorem EOwn.keptO {g : Nat} {E : List EV} (h : EOwn w B vE E) (k : w.grownBy w' (some g)) (hne : g < B ∨ w.heap.size ≤ g) : EOwn w' B vE E :=
  ⟨own_keptO h.row k hne, fun e he => own_keptO (h.data e he) k hne, h.off, h.pair⟩
theorem MgO.keptO {g : Nat} (h : MgO w B vE vD m) (k : w.grownBy w' (some g)) (hne : g < B ∨ w.heap.size ≤ g) : MgO w' B vE vD m := by
  obtain ⟨E, hE, hW⟩ := h.E
  exact ⟨h.len, h.inn, h.ein, ⟨E, hE, hW.keptO k hne⟩, own_keptO h.D k hne⟩
theorem MgO.mono (h : MgO w B vE vD m) (g : B' ≤ B) : MgO w B' vE vD m := by
  obtain ⟨E, hE, hW⟩ := h.E
  exact ⟨h.len, h.inn, h.ein, ⟨E, hE, hW.mono g⟩, own_mono h.D g⟩
theorem MgO.ones (h : MgO w B vE vD m) : ∀ u ∈ mc m.n m.ok vE vD, u.oneCell' = true := h.at.ones
end
theorem noMg_O (w : World) (B : Nat) : MgO w B (.slice none 0 0) (.slice none 0 0) noMg := ⟨(noMg_P (.slice none 0 0) []).len, (noMg_P (.slice none 0 0) []).inn, (noMg_P (.slice none 0 0) []).ein, ⟨[], rfl, EOwn.nil _ _⟩, World.ownsRow_nil _ _ _ _⟩
theorem n_lt {b : List UInt8} : (((Frm.get b).2.1 : Nat) : Int) < ((b.length : Nat) : Int) → (((Frm.get b).2.1 : Nat) : Int) ≠ ((b.length : Nat) : Int) := fun q => by omega

set_option maxHeartbeats 4000000 in
theorem getR_ok (v : Value) (b : List UInt8) (w : World) (hb : Bytes w v b) : FnOk Try.prog 23 [v] w (fun r w' => (∃ vE vD, r = .tuple #[agg (mc (got b).1.n (got b).1.ok vE vD), i64 (got b).2] ∧ MgO w' w.heap.size vE vD (got b).1) ∧ Ext w w') := by
  have hPl := get_len b
  refine FnOk.enterC (rs := [.cell 2 25, .tmp 3]) Try.func23 rfl Try.ntmps23 Try.results23 rfl rfl ?_
  refine WF.seq ?_
  refine WF.region ?_
  refine WL.op rfl (OW.allocO (cs := [i64 0, i64 0, i64 0, i64 0, i64 0, i64 0, i64 0, i64 0, i64 0, i64 0, i64 0, i64 0, i64 0, i64 0, .bool false, .slice none 0 0, .slice none 0 0]) Try.zeroValue25 rfl ?_ (by decide))
  intro g2 w1 heg2 hlg2 hO2 hx3
  have := World.grownBy.size hx3
  refine WL.va rfl rfl rfl (X.assignI rfl) ?_
  refine WL.nil ?_
  refine thn_n ?_
  refine WF.seq ?_
  refine WF.region ?_
  refine WL.va rfl rfl rfl (X.move rfl) ?_
  refine WL.c rfl rfl rfl (X.call Try.call56 (evl_cons rfl evl_nil)) (frefGet_ok _ b _ (Row.ext hb hx3)) ?_
  rintro v5 wF ⟨⟨vx, rfl, oF⟩, hx6⟩
  have := World.grownBy.size hx6
  have hzF := World.grownBy.size (show Ext w wF from (Ext.trans hx3 hx6))
  refine WL.va rfl rfl rfl (X.move rfl) ?_
  refine WL.va rfl rfl rfl (X.extract rfl rfl) ?_
  refine WL.va rfl rfl rfl (X.extract rfl rfl) ?_
  refine WL.va rfl rfl rfl (X.extract rfl rfl) ?_
  refine WL.va rfl rfl rfl (X.assign rfl) ?_
  refine WL.va rfl rfl rfl (X.assignI rfl) ?_
  refine WL.va rfl rfl rfl (X.assignI rfl) ?_
  refine WL.nil ?_
  refine thn_n ?_
  refine WF.seq ?_
  refine WF.seq ?_
  refine WF.region ?_
  refine WL.va rfl rfl rfl (X.moveI rfl) ?_
  refine WL.va rfl rfl rfl (X.neq rfl rfl) ?_
  refine WL.nil ?_
  refine thn_n ?_
  refine WF.cond rfl (fun h0_7 => ?_) (fun h0_7 => ?_)
  · have gh0_7 := (of_decide_eq_true h0_7)
    have he := gh0_7
    refine WF.seq ?_
    refine WF.region ?_
    refine WL.va rfl rfl rfl (X.buildT (P := Try.prog) (t := 25) (cs := (mc noMg.n noMg.ok (.slice none 0 0) (.slice none 0 0))) (zs := [i64 0, i64 0, i64 0, i64 0, i64 0, i64 0, i64 0, i64 0, i64 0, i64 0, i64 0, i64 0, i64 0, i64 0, .bool false, .slice none 0 0, .slice none 0 0]) (places := [(0, 1), (1, 1), (2, 1), (3, 1), (4, 1), (5, 1), (6, 1), (7, 1), (8, 1), (9, 1), (10, 1), (11, 1), (12, 1), (13, 1), (14, 1), (15, 1), (16, 1)]) (n := 17) evp_nil Try.type25 Try.underlying25 rfl rfl trivial rfl rfl rfl) ?_
    refine WL.va rfl rfl rfl (X.moveI rfl) ?_
    refine WL.op rfl (OW.storeOA (hO2.ext hx6) rfl rfl rfl (mc_ones _ _ rfl rfl) Try.sizeOf25 ?_)
    intro w9 hO2 hx11
    have := World.grownBy.size hx11
    refine WL.va rfl rfl rfl (X.assignI rfl) ?_
    refine WL.nil ?_
    refine thn_n ?_
    refine WF.ret ?_
    refine thn_r ?_
    refine finC_r (vs := [_, _]) ⟨⟨_, rfl, readO hO2 Try.isAgg25 Try.sizeOf25⟩, rfl, trivial⟩ ?_
    rw [got_e he]
    exact ⟨⟨_, _, rfl, noMg_O _ _⟩, (Ext.store (Ext.trans hx3 hx6) hx11 (by omega))⟩
  · have gh0_7 := (Decidable.of_not_not (of_decide_eq_false h0_7))
    have he : (Frm.get b).2.2 = 0 := gh0_7
    refine WF.skip ?_
    refine thn_n ?_
    refine WF.seq ?_
    refine WF.seq ?_
    refine WF.region ?_
    refine WL.va rfl rfl rfl (X.moveI rfl) ?_
    refine WL.va rfl rfl rfl (X.move rfl) ?_
    refine WL.va rfl rfl rfl (X.len hb rfl Try.underlying23) ?_
    refine WL.va rfl rfl rfl (X.lss rfl rfl) ?_
    refine WL.nil ?_
    refine thn_n ?_
    refine WF.cond rfl (fun h1_13 => ?_) (fun h1_13 => ?_)
    · have gh1_13 := (of_decide_eq_true h1_13)
      have hn := n_lt gh1_13
      refine WF.seq ?_
      refine WF.region ?_
      refine WL.va rfl rfl rfl (X.buildT (P := Try.prog) (t := 25) (cs := (mc noMg.n noMg.ok (.slice none 0 0) (.slice none 0 0))) (zs := [i64 0, i64 0, i64 0, i64 0, i64 0, i64 0, i64 0, i64 0, i64 0, i64 0, i64 0, i64 0, i64 0, i64 0, .bool false, .slice none 0 0, .slice none 0 0]) (places := [(0, 1), (1, 1), (2, 1), (3, 1), (4, 1), (5, 1), (6, 1), (7, 1), (8, 1), (9, 1), (10, 1), (11, 1), (12, 1), (13, 1), (14, 1), (15, 1), (16, 1)]) (n := 17) evp_nil Try.type25 Try.underlying25 rfl rfl trivial rfl rfl rfl) ?_
      refine WL.op rfl (OW.storeOA (hO2.ext hx6) rfl rfl rfl (mc_ones _ _ rfl rfl) Try.sizeOf25 ?_)
      intro w15 hO2 hx17
      have := World.grownBy.size hx17
      refine WL.va rfl rfl rfl (X.assignI rfl) ?_
      refine WL.nil ?_
      refine thn_n ?_
      refine WF.ret ?_
      refine thn_r ?_
      refine finC_r (vs := [_, _]) ⟨⟨_, rfl, readO hO2 Try.isAgg25 Try.sizeOf25⟩, rfl, trivial⟩ ?_
      rw [got_n he hn]
      exact ⟨⟨_, _, rfl, noMg_O _ _⟩, (Ext.store (Ext.trans hx3 hx6) hx17 (by omega))⟩
    · have gh1_13 := (of_decide_eq_false h1_13)
      have hn : (((Frm.get b).2.1 : Nat) : Int) = ((b.length : Nat) : Int) := by have h1 := gh1_13; have h2 := (Frm.get_good he).2.2.1; omega
      refine WF.skip ?_
      refine thn_n ?_
      refine WF.seq ?_
      refine WF.region ?_
      refine WL.va rfl rfl rfl (X.move rfl) ?_
      refine WL.c rfl rfl rfl (X.call Try.call57 (evl_cons rfl evl_nil)) (qRead_ok _ (Frm.get b).1 _ (Row.of_own oF) (by omega)) ?_
      rintro vr wr ⟨⟨vbb, hp0⟩, hx19⟩
      have := World.grownBy.size hx19
      have hrl := hp0.lt.1
      have hDl := hp0.lt.2
      have hrw : ∀ i, (asRow vr).ownBlock = some i → w.heap.size ≤ i := fun i hi => by have := hrl i hi; omega
      refine WL.va rfl rfl rfl (X.assign rfl) ?_
      refine WL.nil ?_
      refine thn_n ?_
      refine WF.seq ?_
      refine WF.region ?_
      refine WL.va rfl rfl rfl (X.buildT (P := Try.prog) (t := 25) (cs := (mc noMg.n noMg.ok (.slice none 0 0) (.slice none 0 0))) (zs := [i64 0, i64 0, i64 0, i64 0, i64 0, i64 0, i64 0, i64 0, i64 0, i64 0, i64 0, i64 0, i64 0, i64 0, .bool false, .slice none 0 0, .slice none 0 0]) (places := [(0, 1), (1, 1), (2, 1), (3, 1), (4, 1), (5, 1), (6, 1), (7, 1), (8, 1), (9, 1), (10, 1), (11, 1), (12, 1), (13, 1), (14, 1), (15, 1), (16, 1)]) (n := 17) evp_nil Try.type25 Try.underlying25 rfl rfl trivial rfl rfl rfl) ?_
      refine WL.op rfl (OW.allocO (cs := [i64 0, i64 0, i64 0, i64 0, i64 0, i64 0, i64 0, i64 0, i64 0, i64 0, i64 0, i64 0, i64 0, i64 0, .bool false, .slice none 0 0, .slice none 0 0]) Try.zeroValue25 rfl ?_ (by decide))
      intro g8 w20 heg8 hlg8 hO8 hx22
      have := World.grownBy.size hx22
      have gA := hx22
      refine WL.op rfl (OW.storeOA hO8 rfl rfl rfl (mc_ones _ _ rfl rfl) Try.sizeOf25 ?_)
      intro wA hO8 hx25
      have := World.grownBy.size hx25
      replace hO2 := (hO2.ext (Ext.trans (Ext.trans hx6 hx19) hx22)).keptO hx25 (by omega)
      have hp0s := (hp0.ext gA).kept hx25 (.inr fun e => by have := (hrl _ e).2; omega) (.inr fun e => by have := (hDl _ e).2; omega)
      refine WL.nil ?_
      refine thn_n ?_
      refine WF.seq ?_
      refine WF.region ?_
      refine WL.va rfl rfl rfl (X.move rfl) ?_
      refine WL.c rfl rfl rfl (X.call Try.call58 (evl_cons rfl evl_nil)) (qInt_ok vr _ (Frm.get b).1 _ _ _ _ hp0s) ?_
      rintro v28 w27 ⟨rfl, ⟨a1, hp1⟩, hx29⟩
      have := World.grownBy.size hx29
      replace hO2 := hO2.keptR hx29 (fun b2 hb2 => by have := hrl b2 hb2; omega)
      replace hO8 := hO8.keptR hx29 (fun b2 hb2 => by have := hrl b2 hb2; omega)
      refine WL.va rfl rfl rfl (X.fieldAddrO (off := 0) rfl Try.underlying25 rfl rfl Try.sizeOf3) ?_
      refine WL.op rfl (OW.storeO hO8 (Nat.le_of_ble_eq_true rfl) rfl rfl rfl Try.sizeOf3 ?_)
      intro w30 hO8 hx32
      have := World.grownBy.size hx32
      replace hO2 := hO2.keptO hx32 (by omega)
      replace hO8 : Blk _ _ _ (mc [(⟨(Frm.get b).1, false⟩ : Pk.RS).int.1, 0, 0, 0, 0, 0, 0, 0, 0, 0, 0, 0, 0, 0] false (.slice none 0 0) (.slice none 0 0)) := hO8
      have hp1s := hp1.kept hx32 (.inr fun e => by have := (hrl _ e).2; omega) (.inr fun e => by have := (hDl _ e).2; omega)
      refine WL.nil ?_
      refine thn_n ?_
      refine WF.seq ?_
      refine WF.region ?_
      refine WL.va rfl rfl rfl (X.move rfl) ?_
      refine WL.c rfl rfl rfl (X.call Try.call58 (evl_cons rfl evl_nil)) (qInt_ok vr _ (Frm.get b).1 _ _ _ _ hp1s) ?_
      rintro v35 w34 ⟨rfl, ⟨a2, hp2⟩, hx36⟩
      have := World.grownBy.size hx36
      replace hO2 := hO2.keptR hx36 (fun b2 hb2 => by have := hrl b2 hb2; omega)
      replace hO8 := hO8.keptR hx36 (fun b2 hb2 => by have := hrl b2 hb2; omega)
      refine WL.va rfl rfl rfl (X.fieldAddrO (off := 1) rfl Try.underlying25 rfl rfl Try.sizeOf3) ?_
      refine WL.op rfl (OW.storeO hO8 (Nat.le_of_ble_eq_true rfl) rfl rfl rfl Try.sizeOf3 ?_)
      intro w37 hO8 hx39
      have := World.grownBy.size hx39
      replace hO2 := hO2.keptO hx39 (by omega)
      replace hO8 : Blk _ _ _ (mc [(⟨(Frm.get b).1, false⟩ : Pk.RS).int.1, (⟨(Frm.get b).1, false⟩ : Pk.RS).int.2.int.1, 0, 0, 0, 0, 0, 0, 0, 0, 0, 0, 0, 0] false (.slice none 0 0) (.slice none 0 0)) := hO8
      have hp2s := hp2.kept hx39 (.inr fun e => by have := (hrl _ e).2; omega) (.inr fun e => by have := (hDl _ e).2; omega)
      refine WL.nil ?_
      refine thn_n ?_
      refine WF.seq ?_
      refine WF.region ?_
      refine WL.va rfl rfl rfl (X.move rfl) ?_
      refine WL.c rfl rfl rfl (X.call Try.call58 (evl_cons rfl evl_nil)) (qInt_ok vr _ (Frm.get b).1 _ _ _ _ hp2s) ?_
      rintro v42 w41 ⟨rfl, ⟨a3, hp3⟩, hx43⟩
      have := World.grownBy.size hx43
      replace hO2 := hO2.keptR hx43 (fun b2 hb2 => by have := hrl b2 hb2; omega)
      replace hO8 := hO8.keptR hx43 (fun b2 hb2 => by have := hrl b2 hb2; omega)
      refine WL.va rfl rfl rfl (X.fieldAddrO (off := 2) rfl Try.underlying25 rfl rfl Try.sizeOf3) ?_
      refine WL.op rfl (OW.storeO hO8 (Nat.le_of_ble_eq_true rfl) rfl rfl rfl Try.sizeOf3 ?_)
      intro wG hO8 hx45
      have := World.grownBy.size hx45
      replace hO2 := hO2.keptO hx45 (by omega)
      replace hO8 : Blk _ _ _ (mc (n0 (Frm.get b).1) false (.slice none 0 0) (.slice none 0 0)) := hO8
      have hp3s : RR wG wF.heap.size vr vbb (Frm.get b).1 a3 (s3 (Frm.get b).1) := hp3.kept hx45 (.inr fun e => by have := (hrl _ e).2; omega) (.inr fun e => by have := (hDl _ e).2; omega)
      refine WL.nil ?_
      refine thn_n ?_
      refine WF.seq ?_
      refine WF.seq ?_
      refine WF.region ?_
      refine WL.va rfl rfl rfl (X.move rfl) ?_
      refine WL.va rfl rfl rfl (X.nilCheckV hp3s.var rfl) ?_
      refine WL.va rfl rfl rfl (X.fieldAddr hp3s.var rfl Try.underlying73 rfl rfl Try.sizeOf4) ?_
      refine WL.va rfl rfl rfl (X.loadF hp3s.var (Ext.refl _) rfl rfl Try.isAgg4) ?_
      refine WL.nil ?_
      refine thn_n ?_
      refine WF.cond rfl (fun h2_47 => ?_) (fun h2_47 => ?_)
      · have gh2_47 := h2_47
        have hbd : (s3 (Frm.get b).1).bad = true := gh2_47
        refine WF.seq ?_
        refine WF.region ?_
        refine WL.va rfl rfl rfl (X.buildT (P := Try.prog) (t := 25) (cs := (mc noMg.n noMg.ok (.slice none 0 0) (.slice none 0 0))) (zs := [i64 0, i64 0, i64 0, i64 0, i64 0, i64 0, i64 0, i64 0, i64 0, i64 0, i64 0, i64 0, i64 0, i64 0, .bool false, .slice none 0 0, .slice none 0 0]) (places := [(0, 1), (1, 1), (2, 1), (3, 1), (4, 1), (5, 1), (6, 1), (7, 1), (8, 1), (9, 1), (10, 1), (11, 1), (12, 1), (13, 1), (14, 1), (15, 1), (16, 1)]) (n := 17) evp_nil Try.type25 Try.underlying25 rfl rfl trivial rfl rfl rfl) ?_
        refine WL.op rfl (OW.storeOA hO2 rfl rfl rfl (mc_ones _ _ rfl rfl) Try.sizeOf25 ?_)
        intro w49 hO2 hx51
        have := World.grownBy.size hx51
        replace hO8 := hO8.keptO hx51 (by omega)
        refine WL.va rfl rfl rfl (X.assignI rfl) ?_
        refine WL.nil ?_
        refine thn_n ?_
        refine WF.ret ?_
        refine thn_r ?_
        refine finC_r (vs := [_, _]) ⟨⟨_, rfl, readO hO2 Try.isAgg25 Try.sizeOf25⟩, rfl, trivial⟩ ?_
        rw [got_b he hn hbd]
        exact ⟨⟨_, _, rfl, noMg_O _ _⟩, (Ext.store (Ext.store (grown_trans (Ext.store (grown_trans (Ext.store (grown_trans (Ext.trans (Ext.trans (Ext.trans hx3 hx6) hx19) (Ext.store hx22 hx25 (by omega))) hx29 hrw) hx32 (by omega)) hx36 hrw) hx39 (by omega)) hx43 hrw) hx45 (by omega)) hx51 (by omega))⟩
      · have gh2_47 := h2_47
        have hbd : (s3 (Frm.get b).1).bad = false := gh2_47
        refine WF.skip ?_
        refine thn_n ?_
        refine WF.seq ?_
        refine WF.seq ?_
        refine WF.region ?_
        refine WL.va rfl rfl rfl (X.fieldAddrO (off := 0) rfl Try.underlying25 rfl rfl Try.sizeOf3) ?_
        refine WL.va rfl rfl rfl (X.loadO hO8 (Ext.refl _) rfl rfl Try.isAgg3) ?_
        refine WL.c rfl rfl rfl (X.call Try.call37 (evl_cons rfl evl_nil)) (has_ok ((n0 (Frm.get b).1).getD 0 0) _) ?_
        rintro vh w53 ⟨oh, hx54⟩
        have := World.grownBy.size hx54
        refine WL.va rfl rfl rfl (X.len (Row.of_own oh) rfl Try.underlying45) ?_
        refine WL.va rfl rfl rfl (X.eql rfl rfl) ?_
        refine WL.nil ?_
        refine thn_n ?_
        refine WF.cond rfl (fun h3_55 => ?_) (fun h3_55 => ?_)
        · have gh3_55 := (of_decide_eq_true h3_55)
          have hpl : places ((n0 (Frm.get b).1).getD 0 0) = [] := List.eq_nil_of_length_eq_zero (by have := gh3_55; rw [show (fints (places ((n0 (Frm.get b).1).getD 0 0))).length = (places ((n0 (Frm.get b).1).getD 0 0)).length from List.length_map ..] at this; omega)
          refine WF.seq ?_
          refine WF.region ?_
          refine WL.va rfl rfl rfl (X.buildT (P := Try.prog) (t := 25) (cs := (mc noMg.n noMg.ok (.slice none 0 0) (.slice none 0 0))) (zs := [i64 0, i64 0, i64 0, i64 0, i64 0, i64 0, i64 0, i64 0, i64 0, i64 0, i64 0, i64 0, i64 0, i64 0, .bool false, .slice none 0 0, .slice none 0 0]) (places := [(0, 1), (1, 1), (2, 1), (3, 1), (4, 1), (5, 1), (6, 1), (7, 1), (8, 1), (9, 1), (10, 1), (11, 1), (12, 1), (13, 1), (14, 1), (15, 1), (16, 1)]) (n := 17) evp_nil Try.type25 Try.underlying25 rfl rfl trivial rfl rfl rfl) ?_
          refine WL.op rfl (OW.storeOA (hO2.ext hx54) rfl rfl rfl (mc_ones _ _ rfl rfl) Try.sizeOf25 ?_)
          intro w57 hO2 hx59
          have := World.grownBy.size hx59
          replace hO8 := (hO8.ext hx54).keptO hx59 (by omega)
          refine WL.va rfl rfl rfl (X.assignI rfl) ?_
          refine WL.nil ?_
          refine thn_n ?_
          refine WF.ret ?_
          refine thn_r ?_
          refine finC_r (vs := [_, _]) ⟨⟨_, rfl, readO hO2 Try.isAgg25 Try.sizeOf25⟩, rfl, trivial⟩ ?_
          rw [got_k he hn hbd hpl]
          exact ⟨⟨_, _, rfl, noMg_O _ _⟩, (Ext.store (Ext.trans (Ext.store (grown_trans (Ext.store (grown_trans (Ext.store (grown_trans (Ext.trans (Ext.trans (Ext.trans hx3 hx6) hx19) (Ext.store hx22 hx25 (by omega))) hx29 hrw) hx32 (by omega)) hx36 hrw) hx39 (by omega)) hx43 hrw) hx45 (by omega)) hx54) hx59 (by omega))⟩
        · have gh3_55 := (of_decide_eq_false h3_55)
          have hpl : places ((n0 (Frm.get b).1).getD 0 0) ≠ [] := fun q => by have h1 := gh3_55; rw [q] at h1; exact h1 rfl
          have hgr := got_r he hn hbd hpl
          refine WF.skip ?_
          refine thn_n ?_
          refine WF.seq ?_
          refine WF.region ?_
          have hp5 := hp3s.ext hx54
          refine WL.va rfl rfl rfl (X.loadOA hO8 hx54 rfl rfl Try.isAgg25 Try.sizeOf25) ?_
          refine WL.va rfl rfl rfl (X.move rfl) ?_
          refine WL.c rfl rfl rfl (X.call Try.call59 (evl_cons rfl (evl_cons rfl evl_nil))) (readR_ok (n0 (Frm.get b).1) vr vbb (Frm.get b).1 a3 wF.heap.size (s3 (Frm.get b).1) _ hp5 rfl (n0_rng _) (by omega)) ?_
          rintro vq wR ⟨⟨m, vE, vD, okR, rfl, hoE, hoD, hT, hF⟩, hx61⟩
          have := World.grownBy.size hx61
          replace hO2 := (hO2.ext hx54).keptR hx61 (fun b2 hb2 => by have := hrl b2 hb2; omega)
          replace hO8 := (hO8.ext hx54).keptR hx61 (fun b2 hb2 => by have := hrl b2 hb2; omega)
          refine WL.va rfl rfl rfl (X.move rfl) ?_
          refine WL.va rfl rfl rfl (X.extract rfl rfl) ?_
          refine WL.va rfl rfl rfl (X.extract rfl rfl) ?_
          refine WL.op rfl (OW.storeOA hO8 rfl rfl rfl (mc_ones _ _ hoE hoD) Try.sizeOf25 ?_)
          intro wS hO8 hx65
          have := World.grownBy.size hx65
          replace hO2 := hO2.keptO hx65 (by omega)
          have hSx := hx65
          refine WL.va rfl rfl rfl (X.assignB rfl) ?_
          refine WL.nil ?_
          refine thn_n ?_
          refine WF.seq ?_
          refine WF.seq ?_
          refine WF.region ?_
          refine WL.va rfl rfl rfl (X.moveB rfl) ?_
          refine WL.va rfl rfl rfl (X.not rfl) ?_
          refine WL.nil ?_
          refine thn_n ?_
          refine WF.cond rfl (fun h4_67 => ?_) (fun h4_67 => ?_)
          · have gh4_67 := (nt h4_67)
            have hfb := hF gh4_67
            refine WF.seq ?_
            refine WF.region ?_
            refine WL.va rfl rfl rfl (X.buildT (P := Try.prog) (t := 25) (cs := (mc noMg.n noMg.ok (.slice none 0 0) (.slice none 0 0))) (zs := [i64 0, i64 0, i64 0, i64 0, i64 0, i64 0, i64 0, i64 0, i64 0, i64 0, i64 0, i64 0, i64 0, i64 0, .bool false, .slice none 0 0, .slice none 0 0]) (places := [(0, 1), (1, 1), (2, 1), (3, 1), (4, 1), (5, 1), (6, 1), (7, 1), (8, 1), (9, 1), (10, 1), (11, 1), (12, 1), (13, 1), (14, 1), (15, 1), (16, 1)]) (n := 17) evp_nil Try.type25 Try.underlying25 rfl rfl trivial rfl rfl rfl) ?_
            refine WL.op rfl (OW.storeOA hO2 rfl rfl rfl (mc_ones _ _ rfl rfl) Try.sizeOf25 ?_)
            intro w69 hO2 hx71
            have := World.grownBy.size hx71
            replace hO8 := hO8.keptO hx71 (by omega)
            refine WL.va rfl rfl rfl (X.assignI rfl) ?_
            refine WL.nil ?_
            refine thn_n ?_
            refine WF.ret ?_
            refine thn_r ?_
            refine finC_r (vs := [_, _]) ⟨⟨_, rfl, readO hO2 Try.isAgg25 Try.sizeOf25⟩, rfl, trivial⟩ ?_
            rw [hgr, hfb]
            exact ⟨⟨_, _, rfl, noMg_O _ _⟩, (Ext.store (Ext.store (grown_trans (Ext.trans (Ext.store (grown_trans (Ext.store (grown_trans (Ext.store (grown_trans (Ext.trans (Ext.trans (Ext.trans hx3 hx6) hx19) (Ext.store hx22 hx25 (by omega))) hx29 hrw) hx32 (by omega)) hx36 hrw) hx39 (by omega)) hx43 hrw) hx45 (by omega)) hx54) hx61 hrw) hx65 (by omega)) hx71 (by omega))⟩
          · have gh4_67 := (nf h4_67)
            obtain ⟨sE, E, hrd, herr, hmi, hml, hme, hEm, oE, oD⟩ := hT gh4_67
            have hG : MgO wS wF.heap.size vE vD m := (MgO.keptO (g := g8) ⟨hml, hmi, hme, ⟨E, hEm, oE⟩, oD⟩ hSx (.inl (by omega))).mono (by omega)
            refine WF.skip ?_
            refine thn_n ?_
            refine WF.seq ?_
            refine WF.region ?_
            refine WL.va rfl rfl rfl (X.loadOA hO8 (Ext.refl _) rfl rfl Try.isAgg25 Try.sizeOf25) ?_
            refine WL.c rfl rfl rfl (X.call Try.call14 (evl_cons rfl evl_nil)) (checkR_ok vE vD m _ (hG.at.ext (Ext.refl wS))) ?_
            rintro v74 w73 ⟨rfl, hx75⟩
            have := World.grownBy.size hx75
            refine WL.va rfl rfl rfl (X.assignI rfl) ?_
            refine WL.nil ?_
            refine thn_n ?_
            refine WF.seq ?_
            refine WF.seq ?_
            refine WF.region ?_
            refine WL.va rfl rfl rfl (X.moveI rfl) ?_
            refine WL.va rfl rfl rfl (X.neq rfl rfl) ?_
            refine WL.nil ?_
            refine thn_n ?_
            refine WF.cond rfl (fun h5_76 => ?_) (fun h5_76 => ?_)
            · have gh5_76 := (of_decide_eq_true h5_76)
              have hck := gh5_76
              refine WF.seq ?_
              refine WF.region ?_
              refine WL.va rfl rfl rfl (X.buildT (P := Try.prog) (t := 25) (cs := (mc noMg.n noMg.ok (.slice none 0 0) (.slice none 0 0))) (zs := [i64 0, i64 0, i64 0, i64 0, i64 0, i64 0, i64 0, i64 0, i64 0, i64 0, i64 0, i64 0, i64 0, i64 0, .bool false, .slice none 0 0, .slice none 0 0]) (places := [(0, 1), (1, 1), (2, 1), (3, 1), (4, 1), (5, 1), (6, 1), (7, 1), (8, 1), (9, 1), (10, 1), (11, 1), (12, 1), (13, 1), (14, 1), (15, 1), (16, 1)]) (n := 17) evp_nil Try.type25 Try.underlying25 rfl rfl trivial rfl rfl rfl) ?_
              refine WL.va rfl rfl rfl (X.moveI rfl) ?_
              refine WL.op rfl (OW.storeOA (hO2.ext hx75) rfl rfl rfl (mc_ones _ _ rfl rfl) Try.sizeOf25 ?_)
              intro w78 hO2 hx80
              have := World.grownBy.size hx80
              replace hO8 := (hO8.ext hx75).keptO hx80 (by omega)
              refine WL.va rfl rfl rfl (X.assignI rfl) ?_
              refine WL.nil ?_
              refine thn_n ?_
              refine WF.ret ?_
              refine thn_r ?_
              refine finC_r (vs := [_, _]) ⟨⟨_, rfl, readO hO2 Try.isAgg25 Try.sizeOf25⟩, rfl, trivial⟩ ?_
              rw [hgr, fin_chk hrd herr hck]
              exact ⟨⟨_, _, rfl, noMg_O _ _⟩, (Ext.store (Ext.trans (Ext.store (grown_trans (Ext.trans (Ext.store (grown_trans (Ext.store (grown_trans (Ext.store (grown_trans (Ext.trans (Ext.trans (Ext.trans hx3 hx6) hx19) (Ext.store hx22 hx25 (by omega))) hx29 hrw) hx32 (by omega)) hx36 hrw) hx39 (by omega)) hx43 hrw) hx45 (by omega)) hx54) hx61 hrw) hx65 (by omega)) hx75) hx80 (by omega))⟩
            · have gh5_76 := (Decidable.of_not_not (of_decide_eq_false h5_76))
              have hck := gh5_76
              refine WF.skip ?_
              refine thn_n ?_
              refine WF.seq ?_
              refine WF.region ?_
              refine WL.va rfl rfl rfl (X.loadOA hO8 hx75 rfl rfl Try.isAgg25 Try.sizeOf25) ?_
              have hGX := hG.ext hx75
              refine WL.op rfl (OW.storeOA (hO2.ext hx75) rfl rfl rfl (mc_ones _ _ hoE hoD) Try.sizeOf25 ?_)
              intro w82 hO2 hx84
              have := World.grownBy.size hx84
              replace hO8 := (hO8.ext hx75).keptO hx84 (by omega)
              have hGN := (hGX.keptO hx84 (.inl (by omega)))
              refine WL.va rfl rfl rfl (X.assignI rfl) ?_
              refine WL.nil ?_
              refine thn_n ?_
              refine WF.ret ?_
              refine finC_r (vs := [_, _]) ⟨⟨_, rfl, readO hO2 Try.isAgg25 Try.sizeOf25⟩, rfl, trivial⟩ ?_
              rw [hgr, fin_ok hrd herr hck]
              exact ⟨⟨vE, vD, rfl, hGN.mono (by omega)⟩, (Ext.store (Ext.trans (Ext.store (grown_trans (Ext.trans (Ext.store (grown_trans (Ext.store (grown_trans (Ext.store (grown_trans (Ext.trans (Ext.trans (Ext.trans hx3 hx6) hx19) (Ext.store hx22 hx25 (by omega))) hx29 hrw) hx32 (by omega)) hx36 hrw) hx39 (by omega)) hx43 hrw) hx45 (by omega)) hx54) hx61 hrw) hx65 (by omega)) hx75) hx84 (by omega))⟩

end Go.Proofs.Ytccbpfbcaogcnaa
