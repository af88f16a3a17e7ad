/- The walk of Get. -/
import Derived.Test.YtccbpfbcaogcnaaMgH
namespace Go.Proofs.Ytccbpfbcaogcnaa
open Go Go.RowKit Kf
set_option maxRecDepth 20000
theorem got_e {b : List UInt8} (h : (Frm.get b).2.2 ≠ 0) : got b = (noMg, (Frm.get b).2.2) := if_pos h
theorem got_n {b : List UInt8} (h0 : (Frm.get b).2.2 = 0) (h : (((Frm.get b).2.1 : Nat) : Int) ≠ ((b.length : Nat) : Int)) : got b = (noMg, 2) := by
  unfold got; rw [if_neg (by simp [h0]), if_pos (by omega)]
theorem got_b {b : List UInt8} (h0 : (Frm.get b).2.2 = 0) (h1 : (((Frm.get b).2.1 : Nat) : Int) = ((b.length : Nat) : Int)) (h : (s3 (Frm.get b).1).bad = true) : got b = (noMg, 4) := by
  unfold got; rw [if_neg (by simp [h0]), if_neg (by omega), if_pos h]
theorem got_k {b : List UInt8} (h0 : (Frm.get b).2.2 = 0) (h1 : (((Frm.get b).2.1 : Nat) : Int) = ((b.length : Nat) : Int)) (h2 : (s3 (Frm.get b).1).bad = false) (h : places ((n0 (Frm.get b).1).getD 0 0) = []) : got b = (noMg, 13) := by
  unfold got; rw [if_neg (by simp [h0]), if_neg (by omega), if_neg (by simp [h2]), if_pos h]
theorem got_r {b : List UInt8} (h0 : (Frm.get b).2.2 = 0) (h1 : (((Frm.get b).2.1 : Nat) : Int) = ((b.length : Nat) : Int)) (h2 : (s3 (Frm.get b).1).bad = false) (h : places ((n0 (Frm.get b).1).getD 0 0) ≠ []) : got b = fin1 (readF ⟨n0 (Frm.get b).1, false, [], []⟩ (s3 (Frm.get b).1) (places ((n0 (Frm.get b).1).getD 0 0))) := by
  unfold got; rw [if_neg (by simp [h0]), if_neg (by omega), if_neg (by simp [h2]), if_neg h]
theorem fin_ok {m : Mg} {s : Pk.RS} {x : Option (Mg × Pk.RS)} (h : x = some (m, s)) (h1 : s.err = 0) (h2 : chk m = 0) : fin1 x = (m, 0) := by rw [h]; unfold fin1; simp only; rw [if_neg (by simp [h1]), if_neg (by simp [h2])]
theorem fin_chk {m : Mg} {s : Pk.RS} {x : Option (Mg × Pk.RS)} (h : x = some (m, s)) (h1 : s.err = 0) (h2 : chk m ≠ 0) : fin1 x = (noMg, chk m) := by rw [h]; unfold fin1; simp only; rw [if_neg (by simp [h1]), if_pos h2]
theorem noMg_P (D : Value) (L : List UInt8) : MgP D L (.slice none 0 0) [] noMg :=
  ⟨rfl, (fun k => by
    unfold noMg
    match k with
    | 0 | 1 | 2 | 3 | 4 | 5 | 6 | 7 | 8 | 9 | 10 | 11 | 12 | 13 => exact ⟨by decide, by decide⟩
    | k + 14 => (simp only [List.getD_eq_getElem?_getD]; rw [List.getElem?_eq_none (by simp)]; exact ⟨by decide, by decide⟩)), (fun e he => by cases he), rfl, SegE.nil _ _, ⟨0, 0, Seg.nil _ _, Nat.zero_le _, rfl⟩⟩
theorem apart_nil (v : Value) : Apart (.slice none 0 0) v := fun k h1 _ => by cases h1
theorem noMg_own (w : World) (B : Nat) : MgG w B (.slice none 0 0) (.slice none 0 0) noMg (.slice none 0 0) [] [] := ⟨noMg_P _ _, EOwnR.nil _ _, World.ownsRow_nil _ _ _ _, apart_nil _⟩
/-- how long a payload is -/
theorem get_len (b : List UInt8) : (Frm.get b).1.length ≤ 65536 := by
  by_cases h : (Frm.get b).2.2 = 0
  · exact (Frm.get_good h).1
  · rw [(Frm.get_bad h).1]; exact Nat.zero_le _

set_option maxHeartbeats 4000000 in
theorem get_ok (v : Value) (b : List UInt8) (w : World) (hb : Bytes w v b) (hl : b.length ≤ 1000000) : FnOk Try.prog 22 [v] w (fun r w' => (∃ vE vD, r = .tuple #[agg (mc (got b).1.n (got b).1.ok vE vD), i64 (got b).2] ∧ ∃ D L E, MgG w' w.heap.size vE vD (got b).1 D L E) ∧ Ext w w') := by
  have hPl := get_len b
  refine FnOk.enterC (rs := [.cell 2 25, .tmp 3]) Try.func22 rfl Try.ntmps22 Try.results22 rfl rfl ?_
  refine WF.seq ?_
  refine WF.region ?_
  refine WL.op rfl (OW.allocO (cs := [i64 0, i64 0, i64 0, i64 0, i64 0, i64 0, i64 0, i64 0, i64 0, i64 0, i64 0, i64 0, i64 0, i64 0, .bool false, .slice none 0 0, .slice none 0 0]) Try.zeroValue25 rfl ?_ (by decide))
  intro g2 w1 heg2 hlg2 hO2 hx3
  have := World.grownBy.size hx3
  refine WL.va rfl rfl rfl (X.assignI rfl) ?_
  refine WL.nil ?_
  refine thn_n ?_
  refine WF.seq ?_
  refine WF.region ?_
  refine WL.va rfl rfl rfl (X.move rfl) ?_
  refine WL.c rfl rfl rfl (X.call Try.call51 (evl_cons rfl evl_nil)) (fget_ok _ b _ (Row.ext hb hx3)) ?_
  rintro v5 wF ⟨⟨vx, rfl, oF⟩, hx6⟩
  have := World.grownBy.size hx6
  have hzF := World.grownBy.size (show Ext w wF from (Ext.trans hx3 hx6))
  refine WL.va rfl rfl rfl (X.move rfl) ?_
  refine WL.va rfl rfl rfl (X.extract rfl rfl) ?_
  refine WL.va rfl rfl rfl (X.extract rfl rfl) ?_
  refine WL.va rfl rfl rfl (X.extract rfl rfl) ?_
  refine WL.va rfl rfl rfl (X.assign rfl) ?_
  refine WL.va rfl rfl rfl (X.assignI rfl) ?_
  refine WL.va rfl rfl rfl (X.assignI rfl) ?_
  refine WL.nil ?_
  refine thn_n ?_
  refine WF.seq ?_
  refine WF.seq ?_
  refine WF.region ?_
  refine WL.va rfl rfl rfl (X.moveI rfl) ?_
  refine WL.va rfl rfl rfl (X.neq rfl rfl) ?_
  refine WL.nil ?_
  refine thn_n ?_
  refine WF.cond rfl (fun h0_7 => ?_) (fun h0_7 => ?_)
  · have gh0_7 := (of_decide_eq_true h0_7)
    have he := gh0_7
    refine WF.seq ?_
    refine WF.region ?_
    refine WL.va rfl rfl rfl (X.buildT (P := Try.prog) (t := 25) (cs := (mc noMg.n noMg.ok (.slice none 0 0) (.slice none 0 0))) (zs := [i64 0, i64 0, i64 0, i64 0, i64 0, i64 0, i64 0, i64 0, i64 0, i64 0, i64 0, i64 0, i64 0, i64 0, .bool false, .slice none 0 0, .slice none 0 0]) (places := [(0, 1), (1, 1), (2, 1), (3, 1), (4, 1), (5, 1), (6, 1), (7, 1), (8, 1), (9, 1), (10, 1), (11, 1), (12, 1), (13, 1), (14, 1), (15, 1), (16, 1)]) (n := 17) evp_nil Try.type25 Try.underlying25 rfl rfl trivial rfl rfl rfl) ?_
    refine WL.va rfl rfl rfl (X.moveI rfl) ?_
    refine WL.op rfl (OW.storeOA (hO2.ext hx6) rfl rfl rfl (mc_ones _ _ rfl rfl) Try.sizeOf25 ?_)
    intro w9 hO2 hx11
    have := World.grownBy.size hx11
    refine WL.va rfl rfl rfl (X.assignI rfl) ?_
    refine WL.nil ?_
    refine thn_n ?_
    refine WF.ret ?_
    refine thn_r ?_
    refine finC_r (vs := [_, _]) ⟨⟨_, rfl, readO hO2 Try.isAgg25 Try.sizeOf25⟩, rfl, trivial⟩ ?_
    rw [got_e he]
    exact ⟨⟨_, _, rfl, _, _, _, noMg_own _ _⟩, (Ext.store (Ext.trans hx3 hx6) hx11 (by omega))⟩
  · have gh0_7 := (Decidable.of_not_not (of_decide_eq_false h0_7))
    have he : (Frm.get b).2.2 = 0 := gh0_7
    refine WF.skip ?_
    refine thn_n ?_
    refine WF.seq ?_
    refine WF.seq ?_
    refine WF.region ?_
    refine WL.va rfl rfl rfl (X.moveI rfl) ?_
    refine WL.va rfl rfl rfl (X.move rfl) ?_
    refine WL.va rfl rfl rfl (X.len hb rfl Try.underlying23) ?_
    refine WL.va rfl rfl rfl (X.neq rfl rfl) ?_
    refine WL.nil ?_
    refine thn_n ?_
    refine WF.cond rfl (fun h1_13 => ?_) (fun h1_13 => ?_)
    · have gh1_13 := (of_decide_eq_true h1_13)
      have hn := gh1_13
      refine WF.seq ?_
      refine WF.region ?_
      refine WL.va rfl rfl rfl (X.buildT (P := Try.prog) (t := 25) (cs := (mc noMg.n noMg.ok (.slice none 0 0) (.slice none 0 0))) (zs := [i64 0, i64 0, i64 0, i64 0, i64 0, i64 0, i64 0, i64 0, i64 0, i64 0, i64 0, i64 0, i64 0, i64 0, .bool false, .slice none 0 0, .slice none 0 0]) (places := [(0, 1), (1, 1), (2, 1), (3, 1), (4, 1), (5, 1), (6, 1), (7, 1), (8, 1), (9, 1), (10, 1), (11, 1), (12, 1), (13, 1), (14, 1), (15, 1), (16, 1)]) (n := 17) evp_nil Try.type25 Try.underlying25 rfl rfl trivial rfl rfl rfl) ?_
      refine WL.op rfl (OW.storeOA (hO2.ext hx6) rfl rfl rfl (mc_ones _ _ rfl rfl) Try.sizeOf25 ?_)
      intro w15 hO2 hx17
      have := World.grownBy.size hx17
      refine WL.va rfl rfl rfl (X.assignI rfl) ?_
      refine WL.nil ?_
      refine thn_n ?_
      refine WF.ret ?_
      refine thn_r ?_
      refine finC_r (vs := [_, _]) ⟨⟨_, rfl, readO hO2 Try.isAgg25 Try.sizeOf25⟩, rfl, trivial⟩ ?_
      rw [got_n he hn]
      exact ⟨⟨_, _, rfl, _, _, _, noMg_own _ _⟩, (Ext.store (Ext.trans hx3 hx6) hx17 (by omega))⟩
    · have gh1_13 := (Decidable.of_not_not (of_decide_eq_false h1_13))
      have hn : (((Frm.get b).2.1 : Nat) : Int) = ((b.length : Nat) : Int) := gh1_13
      refine WF.skip ?_
      refine thn_n ?_
      refine WF.seq ?_
      refine WF.region ?_
      refine WL.va rfl rfl rfl (X.move rfl) ?_
      refine WL.c rfl rfl rfl (X.call Try.call52 (evl_cons rfl evl_nil)) (read_ok _ (Frm.get b).1 _ (Row.of_own oF) (by omega)) ?_
      rintro vr wr ⟨⟨D, left0, hp0⟩, hx19⟩
      have := World.grownBy.size hx19
      have hrl := hp0.lt.1
      have hDl := hp0.lt.2
      have hrw : ∀ i, (asRow vr).ownBlock = some i → w.heap.size ≤ i := fun i hi => by have := hrl i hi; omega
      refine WL.va rfl rfl rfl (X.assign rfl) ?_
      refine WL.nil ?_
      refine thn_n ?_
      refine WF.seq ?_
      refine WF.region ?_
      refine WL.va rfl rfl rfl (X.move rfl) ?_
      refine WL.c rfl rfl rfl (X.call Try.call53 (evl_cons rfl evl_nil)) (rInt_ok vr D _ (Frm.get b).1 _ _ _ _ hp0) ?_
      rintro v21 w20 ⟨rfl, ⟨a1, l1, hp1⟩, hx22⟩
      have := World.grownBy.size hx22
      replace hO2 := (hO2.ext (Ext.trans hx6 hx19)).keptR hx22 (fun b2 hb2 => by have := hrl b2 hb2; omega)
      refine WL.va rfl rfl rfl (X.move rfl) ?_
      refine WL.c rfl rfl rfl (X.call Try.call53 (evl_cons rfl evl_nil)) (rInt_ok vr D _ (Frm.get b).1 _ _ _ _ hp1) ?_
      rintro v24 w23 ⟨rfl, ⟨a2, l2, hp2⟩, hx25⟩
      have := World.grownBy.size hx25
      replace hO2 := hO2.keptR hx25 (fun b2 hb2 => by have := hrl b2 hb2; omega)
      refine WL.va rfl rfl rfl (X.move rfl) ?_
      refine WL.c rfl rfl rfl (X.call Try.call53 (evl_cons rfl evl_nil)) (rInt_ok vr D _ (Frm.get b).1 _ _ _ _ hp2) ?_
      rintro v26 w3 ⟨rfl, ⟨a3, l3, hp3⟩, hx27⟩
      have := World.grownBy.size hx27
      replace hO2 := hO2.keptR hx27 (fun b2 hb2 => by have := hrl b2 hb2; omega)
      refine WL.va rfl rfl rfl (X.buildT (P := Try.prog) (t := 25) (cs := (mc (n0 (Frm.get b).1) false (.slice none 0 0) (.slice none 0 0))) (zs := [i64 0, i64 0, i64 0, i64 0, i64 0, i64 0, i64 0, i64 0, i64 0, i64 0, i64 0, i64 0, i64 0, i64 0, .bool false, .slice none 0 0, .slice none 0 0]) (places := [(0, 1), (1, 1), (2, 1), (3, 1), (4, 1), (5, 1), (6, 1), (7, 1), (8, 1), (9, 1), (10, 1), (11, 1), (12, 1), (13, 1), (14, 1), (15, 1), (16, 1)]) (n := 17) (evp_cons rfl (evp_cons rfl (evp_cons rfl evp_nil))) Try.type25 Try.underlying25 rfl rfl ⟨rfl, rfl, rfl, trivial⟩ rfl rfl rfl) ?_
      refine WL.op rfl (OW.allocO (cs := [i64 0, i64 0, i64 0, i64 0, i64 0, i64 0, i64 0, i64 0, i64 0, i64 0, i64 0, i64 0, i64 0, i64 0, .bool false, .slice none 0 0, .slice none 0 0]) Try.zeroValue25 rfl ?_ (by decide))
      intro g8 w28 heg8 hlg8 hO8 hx30
      have := World.grownBy.size hx30
      have gA := hx30
      refine WL.op rfl (OW.storeOA hO8 rfl rfl rfl (mc_ones _ _ rfl rfl) Try.sizeOf25 ?_)
      intro wA hO8 hx33
      have := World.grownBy.size hx33
      replace hO2 := (hO2.ext hx30).keptO hx33 (by omega)
      have hp4 : PR wA wF.heap.size vr D (Frm.get b).1 a3 (s3 (Frm.get b).1) l3 := (hp3.ext gA).kept hx33 (.inr fun e => by have := (hp3.lt.1 _ e).2; omega) (.inr fun e => by have := (hp3.lt.2 _ e).2; omega)
      refine WL.nil ?_
      refine thn_n ?_
      refine WF.seq ?_
      refine WF.block ?_
      refine WF.seq ?_
      refine WF.region ?_
      refine WL.va rfl rfl rfl (X.move rfl) ?_
      refine WL.c rfl rfl rfl (X.call Try.call54 (evl_cons rfl evl_nil)) (rBad_ok vr D l3 (Frm.get b).1 a3 (s3 (Frm.get b).1) _ _ hp4) ?_
      rintro v36 w35 ⟨rfl, rfl⟩
      refine WL.va rfl rfl rfl (X.assignB rfl) ?_
      refine WL.nil ?_
      refine thn_n ?_
      refine WF.cond rfl (fun h2_38 => ?_) (fun h2_38 => ?_)
      · have gh2_38 := h2_38
        have hbd : (s3 (Frm.get b).1).bad = true := gh2_38
        refine WF.seq ?_
        refine WF.region ?_
        refine WL.va rfl rfl rfl (X.buildT (P := Try.prog) (t := 25) (cs := (mc noMg.n noMg.ok (.slice none 0 0) (.slice none 0 0))) (zs := [i64 0, i64 0, i64 0, i64 0, i64 0, i64 0, i64 0, i64 0, i64 0, i64 0, i64 0, i64 0, i64 0, i64 0, .bool false, .slice none 0 0, .slice none 0 0]) (places := [(0, 1), (1, 1), (2, 1), (3, 1), (4, 1), (5, 1), (6, 1), (7, 1), (8, 1), (9, 1), (10, 1), (11, 1), (12, 1), (13, 1), (14, 1), (15, 1), (16, 1)]) (n := 17) evp_nil Try.type25 Try.underlying25 rfl rfl trivial rfl rfl rfl) ?_
        refine WL.op rfl (OW.storeOA hO2 rfl rfl rfl (mc_ones _ _ rfl rfl) Try.sizeOf25 ?_)
        intro w40 hO2 hx42
        have := World.grownBy.size hx42
        replace hO8 := hO8.keptO hx42 (by omega)
        refine WL.va rfl rfl rfl (X.assignI rfl) ?_
        refine WL.nil ?_
        refine thn_n ?_
        refine WF.ret ?_
        refine blk_r ?_
        refine thn_r ?_
        refine finC_r (vs := [_, _]) ⟨⟨_, rfl, readO hO2 Try.isAgg25 Try.sizeOf25⟩, rfl, trivial⟩ ?_
        rw [got_b he hn hbd]
        exact ⟨⟨_, _, rfl, _, _, _, noMg_own _ _⟩, (Ext.store (Ext.trans (grown_trans (grown_trans (grown_trans (Ext.trans (Ext.trans hx3 hx6) hx19) hx22 hrw) hx25 hrw) hx27 hrw) (Ext.store hx30 hx33 (by omega))) hx42 (by omega))⟩
      · have gh2_38 := h2_38
        have hbd : (s3 (Frm.get b).1).bad = false := gh2_38
        refine WF.seq ?_
        refine WF.region ?_
        refine WL.va rfl rfl rfl (X.fieldAddrO (off := 0) rfl Try.underlying25 rfl rfl Try.sizeOf3) ?_
        refine WL.va rfl rfl rfl (X.loadO hO8 (Ext.refl _) rfl rfl Try.isAgg3) ?_
        refine WL.c rfl rfl rfl (X.call Try.call33 (evl_cons rfl evl_nil)) (fields_ok ((n0 (Frm.get b).1).getD 0 0) _) ?_
        rintro v44 wk ⟨rfl, hx45⟩
        have := World.grownBy.size hx45
        refine WL.va rfl rfl rfl (X.eqlS rfl rfl Try.underlying9) ?_
        refine WL.va rfl rfl rfl (X.assignB rfl) ?_
        refine WL.nil ?_
        refine thn_n ?_
        refine WF.cond rfl (fun h3_46 => ?_) (fun h3_46 => ?_)
        · have gh3_46 := h3_46
          have hpl : places ((n0 (Frm.get b).1).getD 0 0) = [] := (places_empty _).2 ((lets_nil _).1 (of_decide_eq_true gh3_46))
          refine WF.seq ?_
          refine WF.region ?_
          refine WL.va rfl rfl rfl (X.buildT (P := Try.prog) (t := 25) (cs := (mc noMg.n noMg.ok (.slice none 0 0) (.slice none 0 0))) (zs := [i64 0, i64 0, i64 0, i64 0, i64 0, i64 0, i64 0, i64 0, i64 0, i64 0, i64 0, i64 0, i64 0, i64 0, .bool false, .slice none 0 0, .slice none 0 0]) (places := [(0, 1), (1, 1), (2, 1), (3, 1), (4, 1), (5, 1), (6, 1), (7, 1), (8, 1), (9, 1), (10, 1), (11, 1), (12, 1), (13, 1), (14, 1), (15, 1), (16, 1)]) (n := 17) evp_nil Try.type25 Try.underlying25 rfl rfl trivial rfl rfl rfl) ?_
          refine WL.op rfl (OW.storeOA (hO2.ext hx45) rfl rfl rfl (mc_ones _ _ rfl rfl) Try.sizeOf25 ?_)
          intro w48 hO2 hx50
          have := World.grownBy.size hx50
          replace hO8 := (hO8.ext hx45).keptO hx50 (by omega)
          refine WL.va rfl rfl rfl (X.assignI rfl) ?_
          refine WL.nil ?_
          refine thn_n ?_
          refine WF.ret ?_
          refine blk_r ?_
          refine thn_r ?_
          refine finC_r (vs := [_, _]) ⟨⟨_, rfl, readO hO2 Try.isAgg25 Try.sizeOf25⟩, rfl, trivial⟩ ?_
          rw [got_k he hn hbd hpl]
          exact ⟨⟨_, _, rfl, _, _, _, noMg_own _ _⟩, (Ext.store (Ext.trans (Ext.trans (grown_trans (grown_trans (grown_trans (Ext.trans (Ext.trans hx3 hx6) hx19) hx22 hrw) hx25 hrw) hx27 hrw) (Ext.store hx30 hx33 (by omega))) hx45) hx50 (by omega))⟩
        · have gh3_46 := h3_46
          have hpl : places ((n0 (Frm.get b).1).getD 0 0) ≠ [] := fun q => absurd ((lets_nil _).2 ((places_empty _).1 q)) (of_decide_eq_false gh3_46)
          have hgr := got_r he hn hbd hpl
          refine WF.seq ?_
          refine WF.region ?_
          refine WL.va rfl rfl rfl (X.move rfl) ?_
          have hO2b := (hO2.ext hx45)
          have hp5 := hp4.ext hx45
          have hBw := World.grownBy.size (show Ext w wk from (Ext.trans (Ext.trans (grown_trans (grown_trans (grown_trans (Ext.trans (Ext.trans hx3 hx6) hx19) hx22 hrw) hx25 hrw) hx27 hrw) (Ext.store hx30 hx33 (by omega))) hx45))
          have hBw0 : wF.heap.size ≤ (wk).heap.size := by omega
          refine WL.c rfl rfl rfl (X.call Try.call55 (evl_cons rfl (evl_cons rfl evl_nil))) (read_ok2 g8 (n0 (Frm.get b).1) vr D l3 (Frm.get b).1 a3 wF.heap.size (s3 (Frm.get b).1) _ (hO8.ext hx45) hp5 rfl (n0_rng _) (by omega) (by omega) (fun b2 hb2 => by have := (hp3.lt.1 b2 hb2).2; omega) (fun b2 hb2 => by have := (hp3.lt.2 b2 hb2).2; omega)) ?_
          rintro v52 wR ⟨⟨okR, rfl, hT, hF⟩, hcR⟩
          have := hcR.size
          have hO2 := hO2b.chg hcR (.inl (by omega))
          refine WL.va rfl rfl rfl (X.not rfl) ?_
          refine WL.va rfl rfl rfl (X.assignB rfl) ?_
          refine WL.nil ?_
          refine thn_n ?_
          refine WF.cond rfl (fun h4_55 => ?_) (fun h4_55 => ?_)
          · have gh4_55 := (nt h4_55)
            have hfb := hF gh4_55
            refine WF.seq ?_
            refine WF.region ?_
            refine WL.va rfl rfl rfl (X.buildT (P := Try.prog) (t := 25) (cs := (mc noMg.n noMg.ok (.slice none 0 0) (.slice none 0 0))) (zs := [i64 0, i64 0, i64 0, i64 0, i64 0, i64 0, i64 0, i64 0, i64 0, i64 0, i64 0, i64 0, i64 0, i64 0, .bool false, .slice none 0 0, .slice none 0 0]) (places := [(0, 1), (1, 1), (2, 1), (3, 1), (4, 1), (5, 1), (6, 1), (7, 1), (8, 1), (9, 1), (10, 1), (11, 1), (12, 1), (13, 1), (14, 1), (15, 1), (16, 1)]) (n := 17) evp_nil Try.type25 Try.underlying25 rfl rfl trivial rfl rfl rfl) ?_
            refine WL.op rfl (OW.storeOA hO2 rfl rfl rfl (mc_ones _ _ rfl rfl) Try.sizeOf25 ?_)
            intro w57 hO2 hx59
            have := World.grownBy.size hx59
            refine WL.va rfl rfl rfl (X.assignI rfl) ?_
            refine WL.nil ?_
            refine thn_n ?_
            refine WF.ret ?_
            refine blk_r ?_
            refine thn_r ?_
            refine finC_r (vs := [_, _]) ⟨⟨_, rfl, readO hO2 Try.isAgg25 Try.sizeOf25⟩, rfl, trivial⟩ ?_
            rw [hgr, hfb]
            exact ⟨⟨_, _, rfl, _, _, _, noMg_own _ _⟩, (Ext.store (Chg.ext (Ext.trans (Ext.trans (grown_trans (grown_trans (grown_trans (Ext.trans (Ext.trans hx3 hx6) hx19) hx22 hrw) hx25 hrw) hx27 hrw) (Ext.store hx30 hx33 (by omega))) hx45) hcR (by omega)) hx59 (by omega))⟩
          · have gh4_55 := (nf h4_55)
            obtain ⟨m, sE, vE, vD, E, hrd, herr, hO8, hMP, oE, oD⟩ := hT gh4_55
            have hG : MgG wR wF.heap.size vE vD m D (Frm.get b).1 E := ⟨hMP, own_mono oE hBw0, oD, fun k h1 h2 => by have h3 := (oE.lt k h1).1; have h4 := (hp5.lt.2 k h2).2; omega⟩
            refine WF.skip ?_
            refine blk_n ?_
            refine thn_n ?_
            refine WF.seq ?_
            refine WF.seq ?_
            refine WF.region ?_
            refine WL.va rfl rfl rfl (X.loadOA hO8 (Ext.refl _) rfl rfl Try.isAgg25 Try.sizeOf25) ?_
            refine WL.c rfl rfl rfl (X.call Try.call13 (evl_cons rfl evl_nil)) (check_ok vE vD m _ (hG.at.ext (Ext.refl wR))) ?_
            rintro v62 w61 ⟨rfl, hx63⟩
            have := World.grownBy.size hx63
            refine WL.va rfl rfl rfl (X.assignI rfl) ?_
            refine WL.nil ?_
            refine thn_n ?_
            refine WF.seq ?_
            refine WF.region ?_
            refine WL.va rfl rfl rfl (X.moveI rfl) ?_
            refine WL.va rfl rfl rfl (X.neq rfl rfl) ?_
            refine WL.nil ?_
            refine thn_n ?_
            refine WF.cond rfl (fun h5_65 => ?_) (fun h5_65 => ?_)
            · have gh5_65 := (of_decide_eq_true h5_65)
              have hck := gh5_65
              refine WF.seq ?_
              refine WF.region ?_
              refine WL.va rfl rfl rfl (X.buildT (P := Try.prog) (t := 25) (cs := (mc noMg.n noMg.ok (.slice none 0 0) (.slice none 0 0))) (zs := [i64 0, i64 0, i64 0, i64 0, i64 0, i64 0, i64 0, i64 0, i64 0, i64 0, i64 0, i64 0, i64 0, i64 0, .bool false, .slice none 0 0, .slice none 0 0]) (places := [(0, 1), (1, 1), (2, 1), (3, 1), (4, 1), (5, 1), (6, 1), (7, 1), (8, 1), (9, 1), (10, 1), (11, 1), (12, 1), (13, 1), (14, 1), (15, 1), (16, 1)]) (n := 17) evp_nil Try.type25 Try.underlying25 rfl rfl trivial rfl rfl rfl) ?_
              refine WL.va rfl rfl rfl (X.moveI rfl) ?_
              refine WL.op rfl (OW.storeOA (hO2.ext hx63) rfl rfl rfl (mc_ones _ _ rfl rfl) Try.sizeOf25 ?_)
              intro w67 hO2 hx69
              have := World.grownBy.size hx69
              replace hO8 := (hO8.ext hx63).keptO hx69 (by omega)
              refine WL.va rfl rfl rfl (X.assignI rfl) ?_
              refine WL.nil ?_
              refine thn_n ?_
              refine WF.ret ?_
              refine thn_r ?_
              refine finC_r (vs := [_, _]) ⟨⟨_, rfl, readO hO2 Try.isAgg25 Try.sizeOf25⟩, rfl, trivial⟩ ?_
              rw [hgr, fin_chk hrd herr hck]
              exact ⟨⟨_, _, rfl, _, _, _, noMg_own _ _⟩, (Ext.store (Ext.trans (Chg.ext (Ext.trans (Ext.trans (grown_trans (grown_trans (grown_trans (Ext.trans (Ext.trans hx3 hx6) hx19) hx22 hrw) hx25 hrw) hx27 hrw) (Ext.store hx30 hx33 (by omega))) hx45) hcR (by omega)) hx63) hx69 (by omega))⟩
            · have gh5_65 := (Decidable.of_not_not (of_decide_eq_false h5_65))
              have hck := gh5_65
              refine WF.skip ?_
              refine thn_n ?_
              refine WF.seq ?_
              refine WF.region ?_
              refine WL.va rfl rfl rfl (X.loadOA hO8 hx63 rfl rfl Try.isAgg25 Try.sizeOf25) ?_
              have hGX := hG.ext hx63
              refine WL.op rfl (OW.storeOA (hO2.ext hx63) rfl rfl rfl hG.at.ones Try.sizeOf25 ?_)
              intro w71 hO2 hx73
              have := World.grownBy.size hx73
              replace hO8 := (hO8.ext hx63).keptO hx73 (by omega)
              have hGN := (hGX.keptO hx73 (by omega)).mono hzF
              refine WL.va rfl rfl rfl (X.assignI rfl) ?_
              refine WL.nil ?_
              refine thn_n ?_
              refine WF.ret ?_
              refine finC_r (vs := [_, _]) ⟨⟨_, rfl, readO hO2 Try.isAgg25 Try.sizeOf25⟩, rfl, trivial⟩ ?_
              rw [hgr, fin_ok hrd herr hck]
              exact ⟨⟨vE, vD, rfl, _, _, _, hGN⟩, (Ext.store (Ext.trans (Chg.ext (Ext.trans (Ext.trans (grown_trans (grown_trans (grown_trans (Ext.trans (Ext.trans hx3 hx6) hx19) hx22 hrw) hx25 hrw) hx27 hrw) (Ext.store hx30 hx33 (by omega))) hx45) hcR (by omega)) hx63) hx73 (by omega))⟩

end Go.Proofs.Ytccbpfbcaogcnaa
