/- The walks of results, and of the reference's with. -/
import Derived.Test.YthaojdpeimlngaaOpX
namespace Go.Proofs.Ythaojdpeimlngaa
open Go Go.RowKit Kf
set_option maxRecDepth 20000

/-- a result's bytes -/
def rbytes (c : Int) (D : List UInt8) : List UInt8 := Pk.enc c ++ Pk.blob D
theorem rbytes_len (c : Int) (D : List UInt8) : (rbytes c D).length = 16 + D.length := by simp [rbytes, Pk.blob, Pk.enc_len]; omega
/-- the result that bytes are -/
def gotR (l : List UInt8) : (Int × List UInt8) × Int :=
  let i := (⟨l, false⟩ : Pk.RS).int; let b := i.2.blob
  if b.2.err ≠ 0 then ((0, []), b.2.err) else ((i.1, b.1), 0)
theorem gotR_err {l : List UInt8} (h : (⟨l, false⟩ : Pk.RS).int.2.blob.2.err ≠ 0) : gotR l = ((0, []), (⟨l, false⟩ : Pk.RS).int.2.blob.2.err) := if_pos h
theorem one2 {c : Int} {v : Value} (h : v.oneCell' = true) : ∀ u ∈ [i64 c, v], u.oneCell' = true := fun u hu => by
  simp only [List.mem_cons, List.not_mem_nil, or_false] at hu
  rcases hu with rfl | rfl
  · rfl
  · exact h
theorem gotR_ok {l : List UInt8} (h : (⟨l, false⟩ : Pk.RS).int.2.blob.2.err = 0) : gotR l = (((⟨l, false⟩ : Pk.RS).int.1, (⟨l, false⟩ : Pk.RS).int.2.blob.1), 0) := if_neg fun q => q h
/-- bytes that are a part of a row of its own -/
def PartG (w : World) (B : Nat) (v : Value) (d : List UInt8) : Prop := ∃ D L, OwnB w B 5 D L ∧ ∃ lo hi, Seg D v lo hi ∧ hi ≤ L.length ∧ d = (L.drop lo).take (hi - lo)
theorem PartG.at {w : World} {B : Nat} {v : Value} {d : List UInt8} (h : PartG w B v d) : Bytes w v d := by
  obtain ⟨D, L, h1, lo, hi, h2, h3, rfl⟩ := h
  exact seg_bytes h2 h1 h3
theorem PartG.ext {w w' : World} {B : Nat} {v : Value} {d : List UInt8} (h : PartG w B v d) (g : Ext w w') : PartG w' B v d := by
  obtain ⟨D, L, h1, q⟩ := h
  exact ⟨D, L, own_ext h1 g, q⟩
theorem PartG.nil (w : World) (B : Nat) : PartG w B (.slice none 0 0) [] := ⟨.slice none 0 0, [], World.ownsRow_nil _ _ _ _, 0, 0, Seg.nil _ _, Nat.le_refl _, rfl⟩
set_option maxHeartbeats 1000000 in
theorem putRes_ok (c : Int) (vD : Value) (D : List UInt8) (w : World) (h : Bytes w vD D) (hm : D.length ≤ 1000000) : FnOk Try.prog 30 [agg [i64 c, vD]] w (fun r w' => OwnB w' w.heap.size 5 r (rbytes c D) ∧ Ext w w') := by
  refine FnOk.enter (rs := [2]) Try.func30 rfl Try.ntmps30 Try.results30 rfl rfl ?_
  refine WF.seq ?_
  refine WF.region ?_
  refine WL.op rfl (OW.boxA (cs := [i64 c, vD]) rfl ?_ (by decide))
  intro g1 w1 heg1 hlg1 hO1 hx3
  have := World.grownBy.size hx3
  refine WL.va rfl rfl rfl (X.assign rfl) ?_
  refine WL.nil ?_
  refine thn_n ?_
  refine WF.seq ?_
  refine WF.drawn (.q 0 (.q 1 (.q 3 (.q 4 (.l 2 (.l 5 (.q 6 .nil))))))) (fun w' => Ext w1 w') 7 (by kernel_rfl) (by kernel_rfl) (Ext.drew _) ?_
  have := World.grownBy.size (Ext.drew w1)
  refine WO.q rfl rfl rfl rfl (fun w' hE5 => (X.fieldAddrO (off := 0) rfl Try.underlying44 rfl rfl Try.sizeOf30)) ?_
  refine WO.q rfl rfl rfl rfl (fun w' hE5 => (X.loadO hO1 hE5 rfl rfl Try.isAgg30)) ?_
  refine WO.q rfl rfl rfl rfl (fun w' hE5 => (X.fieldAddrO (off := 1) rfl Try.underlying44 rfl rfl Try.sizeOf24)) ?_
  refine WO.q rfl rfl rfl rfl (fun w' hE5 => (X.loadO hO1 hE5 rfl rfl Try.isAgg24)) ?_
  refine WO.l ?_
  refine LO.go rfl rfl (OW.enter rfl (by decide) (X.call Try.call33 (evl_cons rfl (evl_cons rfl evl_nil))) (int_ok _ [] _ _ (Bytes.nil _) (by decide)) ?_)
  rintro va wa ⟨oa, hx6⟩
  have := World.grownBy.size hx6
  refine ⟨(Ext.trans (Ext.drew _) hx6), ?_⟩
  refine WO.l ?_
  have hz1 := World.grownBy.size (show Ext w wa from (Ext.trans (Ext.trans hx3 (Ext.drew _)) hx6))
  refine LO.go rfl rfl (OW.enter rfl (by decide) (X.call Try.call37 (evl_cons rfl (evl_cons rfl evl_nil))) (blob_ok _ _ _ _ _ (Row.ext (Row.of_own oa) (Ext.refl wa)) (Row.ext h (Ext.trans (Ext.trans hx3 (Ext.drew _)) hx6)) (by simp [Pk.enc_len]; omega)) ?_)
  rintro vb w7 ⟨ob, hx8⟩
  have := World.grownBy.size hx8
  refine ⟨(Ext.trans (Ext.trans (Ext.drew _) hx6) hx8), ?_⟩
  refine WO.q rfl rfl rfl rfl (fun w' hE5 => (X.assign rfl)) ?_
  refine WO.nil ?_
  refine WL.nil ?_
  refine thn_n ?_
  refine WF.ret ?_
  refine fin_r ?_
  exact ⟨own_mono (by rw [List.nil_append] at ob; exact ob) hz1, (Ext.trans (Ext.trans (Ext.trans hx3 (Ext.drew _)) hx6) hx8)⟩

set_option maxHeartbeats 1000000 in
theorem getRes_ok (v : Value) (l : List UInt8) (w : World) (hb : Bytes w v l) (hl : l.length ≤ 1000000) : FnOk Try.prog 23 [v] w (fun r w' => (∃ vD, r = .tuple #[agg [i64 (gotR l).1.1, vD], i64 (gotR l).2] ∧ PartG w' w.heap.size vD (gotR l).1.2) ∧ Ext w w') := by
  refine FnOk.enterC (rs := [.cell 2 44, .tmp 3]) Try.func23 rfl Try.ntmps23 Try.results23 rfl rfl ?_
  refine WF.seq ?_
  refine WF.region ?_
  refine WL.op rfl (OW.allocO (cs := [i64 0, .slice none 0 0]) Try.zeroValue44 rfl ?_ (by decide))
  intro g2 w1 heg2 hlg2 hO2 hx2
  have := World.grownBy.size hx2
  refine WL.va rfl rfl rfl (X.assignI rfl) ?_
  refine WL.nil ?_
  refine thn_n ?_
  refine WF.seq ?_
  refine WF.region ?_
  refine WL.va rfl rfl rfl (X.move rfl) ?_
  refine WL.c rfl rfl rfl (X.call Try.call59 (evl_cons rfl evl_nil)) (read_ok _ _ _ (Row.ext hb hx2) (by omega)) ?_
  rintro vr wr ⟨⟨D, left0, hp0⟩, hx4⟩
  have := World.grownBy.size hx4
  obtain ⟨B, hBe⟩ : ∃ B, B = w1.heap.size := ⟨_, rfl⟩
  rw [← hBe] at hp0
  have hrl := hp0.lt.1
  have hDl := hp0.lt.2
  have hrw : ∀ i, (asRow vr).ownBlock = some i → w.heap.size ≤ i := fun i hi => by have := hrl i hi; omega
  refine WL.va rfl rfl rfl (X.assign rfl) ?_
  refine WL.nil ?_
  refine thn_n ?_
  refine WF.seq ?_
  refine WF.region ?_
  refine WL.va rfl rfl rfl (X.move rfl) ?_
  refine WL.c rfl rfl rfl (X.call Try.call60 (evl_cons rfl evl_nil)) (rInt_ok vr D _ l _ _ _ _ hp0) ?_
  rintro v5 wq1 ⟨rfl, ⟨a1, left1, hp1⟩, hx6⟩
  have := World.grownBy.size hx6
  replace hO2 := (hO2.ext hx4).keptR hx6 (fun b hb => by have := hrl b hb; omega)
  refine WL.va rfl rfl rfl (X.move rfl) ?_
  refine WL.c rfl rfl rfl (X.call Try.call64 (evl_cons rfl evl_nil)) (rBlob_ok vr D _ l _ _ _ _ hp1) ?_
  rintro vB wq8 ⟨⟨a8, a9, left8, hs8, hb8, hp8⟩, hx7⟩
  have := World.grownBy.size hx7
  replace hO2 := hO2.keptR hx7 (fun b hb => by have := hrl b hb; omega)
  have h9 : PR wq8 B vr D l a9 _ left8 := hp8
  refine WL.va rfl rfl rfl (X.buildL (P := Try.prog) (t := 44) (cs := [i64 (⟨l, false⟩ : Pk.RS).int.1, vB]) (evp_cons rfl (evp_cons rfl evp_nil)) Try.type44 Try.underlying44 rfl rfl ⟨rfl, Row.one hb8, trivial⟩ rfl) ?_
  refine WL.op rfl (OW.allocO (cs := [i64 0, .slice none 0 0]) Try.zeroValue44 rfl ?_ (by decide))
  intro g5 w8 heg5 hlg5 hO5 hx10
  have := World.grownBy.size hx10
  refine WL.op rfl (OW.storeOA hO5 rfl rfl rfl (one2 (Row.one hb8)) Try.sizeOf44 ?_)
  intro w12 hO5 hx14
  have := World.grownBy.size hx14
  replace hO2 := (hO2.ext hx10).keptO hx14 (by omega)
  refine WL.nil ?_
  refine thn_n ?_
  refine WF.seq ?_
  refine WF.seq ?_
  refine WF.region ?_
  refine WL.va rfl rfl rfl (X.move rfl) ?_
  refine WL.c rfl rfl rfl (X.call Try.call65 (evl_cons rfl evl_nil)) (rEnd_ok vr D _ l _ _ _ _ (hp8.ext (Ext.store hx10 hx14 (by omega)))) ?_
  rintro v17 w16 ⟨rfl, rfl⟩
  refine WL.va rfl rfl rfl (X.assignI rfl) ?_
  refine WL.nil ?_
  refine thn_n ?_
  refine WF.seq ?_
  refine WF.region ?_
  refine WL.va rfl rfl rfl (X.moveI rfl) ?_
  refine WL.va rfl rfl rfl (X.neq rfl rfl) ?_
  refine WL.nil ?_
  refine thn_n ?_
  refine WF.cond rfl (fun h0_19 => ?_) (fun h0_19 => ?_)
  · have gh0_19 := (of_decide_eq_true h0_19)
    refine WF.seq ?_
    refine WF.region ?_
    refine WL.va rfl rfl rfl (X.build evp_nil Try.type44 Try.underlying44 rfl rfl trivial rfl) ?_
    refine WL.va rfl rfl rfl (X.moveI rfl) ?_
    refine WL.op rfl (OW.storeOA hO2 rfl rfl rfl (one2 rfl) Try.sizeOf44 ?_)
    intro w21 hO2 hx23
    have := World.grownBy.size hx23
    replace hO5 := hO5.keptO hx23 (by omega)
    refine WL.va rfl rfl rfl (X.assignI rfl) ?_
    refine WL.nil ?_
    refine thn_n ?_
    refine WF.ret ?_
    refine thn_r ?_
    refine finC_r (vs := [_, _]) ⟨⟨_, rfl, readO hO2 Try.isAgg44 Try.sizeOf44⟩, rfl, trivial⟩ ?_
    rw [gotR_err (by assumption)]
    exact ⟨⟨_, rfl, PartG.nil _ _⟩, (Ext.store (Ext.trans (grown_trans (grown_trans (Ext.trans hx2 hx4) hx6 hrw) hx7 hrw) (Ext.store hx10 hx14 (by omega))) hx23 (by omega))⟩
  · have gh0_19 := (Decidable.of_not_not (of_decide_eq_false h0_19))
    refine WF.skip ?_
    refine thn_n ?_
    refine WF.seq ?_
    refine WF.region ?_
    refine WL.va rfl rfl rfl (X.loadOA hO5 (Ext.refl _) rfl rfl Try.isAgg44 Try.sizeOf44) ?_
    have hle9 : a9 ≤ l.length := by have := hp8.inn; omega
    have hPG : PartG wq8 B vB (⟨l, false⟩ : Pk.RS).int.2.blob.1 := ⟨D, l, hp8.own, a8, a9, hs8, hle9, Bytes.inj hb8 (seg_bytes hs8 hp8.own hle9)⟩
    obtain ⟨Dq, Lq, hq1, hq2⟩ := hPG.ext (Ext.store hx10 hx14 (by omega))
    refine WL.op rfl (OW.storeOA hO2 rfl rfl rfl (one2 (Row.one hb8)) Try.sizeOf44 ?_)
    intro w25 hO2 hx27
    have := World.grownBy.size hx27
    replace hO5 := hO5.keptO hx27 (by omega)
    have hS := hx27
    refine WL.va rfl rfl rfl (X.assignI rfl) ?_
    refine WL.nil ?_
    refine thn_n ?_
    refine WF.ret ?_
    refine finC_r (vs := [_, _]) ⟨⟨_, rfl, readO hO2 Try.isAgg44 Try.sizeOf44⟩, rfl, trivial⟩ ?_
    rw [gotR_ok (by assumption)]
    exact ⟨⟨_, rfl, ⟨Dq, Lq, own_mono (own_keptO hq1 hS (.inl (by omega))) (by omega), hq2⟩⟩, (Ext.store (Ext.trans (grown_trans (grown_trans (Ext.trans hx2 hx4) hx6 hrw) hx7 hrw) (Ext.store hx10 hx14 (by omega))) hx27 (by omega))⟩

theorem RR.lt {w : World} {B : Nat} {r vb : Value} {L : List UInt8} {a : Nat} {s : Pk.RS} (h : RR w B r vb L a s) : (∀ b, (asRow r).ownBlock = some b → B ≤ b ∧ b < w.heap.size) ∧ (∀ b, vb.ownBlock = some b → B ≤ b ∧ b < w.heap.size) := ⟨fun b hb => h.var.row.lt b hb, fun b hb => h.own.lt b hb⟩
set_option maxHeartbeats 1000000 in
theorem getResR_ok (v : Value) (l : List UInt8) (w : World) (hb : Bytes w v l) (hl : l.length ≤ 1000000) : FnOk Try.prog 24 [v] w (fun r w' => (∃ vD, r = .tuple #[agg [i64 (gotR l).1.1, vD], i64 (gotR l).2] ∧ Bytes w' vD (gotR l).1.2) ∧ Ext w w') := by
  refine FnOk.enterC (rs := [.cell 2 44, .tmp 3]) Try.func24 rfl Try.ntmps24 Try.results24 rfl rfl ?_
  refine WF.seq ?_
  refine WF.region ?_
  refine WL.op rfl (OW.allocO (cs := [i64 0, .slice none 0 0]) Try.zeroValue44 rfl ?_ (by decide))
  intro g2 w1 heg2 hlg2 hO2 hx2
  have := World.grownBy.size hx2
  refine WL.va rfl rfl rfl (X.assignI rfl) ?_
  refine WL.nil ?_
  refine thn_n ?_
  refine WF.seq ?_
  refine WF.region ?_
  refine WL.va rfl rfl rfl (X.move rfl) ?_
  refine WL.c rfl rfl rfl (X.call Try.call66 (evl_cons rfl evl_nil)) (qRead_ok _ _ _ (Row.ext hb hx2) (by omega)) ?_
  rintro vr wr ⟨⟨vbb, hp0⟩, hx4⟩
  have := World.grownBy.size hx4
  obtain ⟨B, hBe⟩ : ∃ B, B = w1.heap.size := ⟨_, rfl⟩
  rw [← hBe] at hp0
  have hrl := hp0.lt.1
  have hDl := hp0.lt.2
  have hrw : ∀ i, (asRow vr).ownBlock = some i → w.heap.size ≤ i := fun i hi => by have := hrl i hi; omega
  refine WL.va rfl rfl rfl (X.assign rfl) ?_
  refine WL.nil ?_
  refine thn_n ?_
  refine WF.seq ?_
  refine WF.region ?_
  refine WL.va rfl rfl rfl (X.move rfl) ?_
  refine WL.c rfl rfl rfl (X.call Try.call67 (evl_cons rfl evl_nil)) (qInt_ok vr _ l _ _ _ _ hp0) ?_
  rintro v5 wq1 ⟨rfl, ⟨a1, hp1⟩, hx6⟩
  have := World.grownBy.size hx6
  replace hO2 := (hO2.ext hx4).keptR hx6 (fun b hb => by have := hrl b hb; omega)
  refine WL.va rfl rfl rfl (X.buildL (P := Try.prog) (t := 44) (cs := [i64 (⟨l, false⟩ : Pk.RS).int.1, (.slice none 0 0)]) (evp_cons rfl evp_nil) Try.type44 Try.underlying44 rfl rfl ⟨rfl, trivial⟩ rfl) ?_
  refine WL.op rfl (OW.allocO (cs := [i64 0, .slice none 0 0]) Try.zeroValue44 rfl ?_ (by decide))
  intro g5 w7 heg5 hlg5 hO5 hx9
  have := World.grownBy.size hx9
  have gA := hx9
  refine WL.op rfl (OW.storeOA hO5 rfl rfl rfl (one2 rfl) Try.sizeOf44 ?_)
  intro w11 hO5 hx13
  have := World.grownBy.size hx13
  replace hO2 := (hO2.ext hx9).keptO hx13 (by omega)
  have gB := hx13
  refine WL.nil ?_
  refine thn_n ?_
  refine WF.seq ?_
  refine WF.region ?_
  refine WL.va rfl rfl rfl (X.move rfl) ?_
  have hp2 := (hp1.ext gA).kept gB (.inr fun e => by have := (hrl _ e).2; omega) (.inr fun e => by have := (hDl _ e).2; omega)
  refine WL.c rfl rfl rfl (X.call Try.call70 (evl_cons rfl evl_nil)) (qBlob_ok vr _ l _ _ _ _ hp2) ?_
  rintro vB wq8 ⟨ob8, ⟨a9, hp8⟩, hx15⟩
  have := World.grownBy.size hx15
  replace hO2 := hO2.keptR hx15 (fun b hb => by have := hrl b hb; omega)
  replace hO5 := hO5.keptR hx15 (fun b hb => by have := hrl b hb; omega)
  have hle8 := blob_le (⟨l, false⟩ : Pk.RS).int.2
  have hle9 := int_le (⟨l, false⟩ : Pk.RS)
  have hle7 : (⟨l, false⟩ : Pk.RS).left.length = l.length := rfl
  refine WL.c rfl rfl rfl (X.call Try.call20 (evl_cons rfl evl_nil)) (copyBytes_ok _ _ _ (Bytes.of_own ob8) (by omega)) ?_
  rintro vC wC ⟨oC, hx16⟩
  have := World.grownBy.size hx16
  have gC := hx16
  refine WL.va rfl rfl rfl (X.fieldAddrO (off := 1) rfl Try.underlying44 rfl rfl Try.sizeOf24) ?_
  refine WL.op rfl (OW.storeO (hO5.ext hx16) (Nat.le_of_ble_eq_true rfl) rfl rfl (own_one oC) Try.sizeOf24 ?_)
  intro wX hO5 hx18
  have := World.grownBy.size hx18
  replace hO2 := (hO2.ext hx16).keptO hx18 (by omega)
  have hS3 := hx18
  have hp9 := (hp8.ext gC).kept hS3 (.inr fun e => by have := (hrl _ e).2; omega) (.inr fun e => by have := (hDl _ e).2; omega)
  have oC2 := own_keptO oC hS3 (.inl (by omega))
  refine WL.nil ?_
  refine thn_n ?_
  refine WF.seq ?_
  refine WF.region ?_
  refine WL.va rfl rfl rfl (X.move rfl) ?_
  refine WL.c rfl rfl rfl (X.call Try.call71 (evl_cons rfl evl_nil)) (qEnd_ok vr _ l _ _ _ _ hp9) ?_
  rintro v20 wE ⟨rfl, hx21⟩
  have := World.grownBy.size hx21
  refine WL.va rfl rfl rfl (X.assignI rfl) ?_
  refine WL.nil ?_
  refine thn_n ?_
  refine WF.seq ?_
  refine WF.seq ?_
  refine WF.region ?_
  refine WL.va rfl rfl rfl (X.moveI rfl) ?_
  refine WL.va rfl rfl rfl (X.neq rfl rfl) ?_
  refine WL.nil ?_
  refine thn_n ?_
  refine WF.cond rfl (fun h0_22 => ?_) (fun h0_22 => ?_)
  · have gh0_22 := (of_decide_eq_true h0_22)
    refine WF.seq ?_
    refine WF.region ?_
    refine WL.va rfl rfl rfl (X.build evp_nil Try.type44 Try.underlying44 rfl rfl trivial rfl) ?_
    refine WL.va rfl rfl rfl (X.moveI rfl) ?_
    refine WL.op rfl (OW.storeOA (hO2.ext hx21) rfl rfl rfl (one2 rfl) Try.sizeOf44 ?_)
    intro w24 hO2 hx26
    have := World.grownBy.size hx26
    replace hO5 := (hO5.ext hx21).keptO hx26 (by omega)
    refine WL.va rfl rfl rfl (X.assignI rfl) ?_
    refine WL.nil ?_
    refine thn_n ?_
    refine WF.ret ?_
    refine thn_r ?_
    refine finC_r (vs := [_, _]) ⟨⟨_, rfl, readO hO2 Try.isAgg44 Try.sizeOf44⟩, rfl, trivial⟩ ?_
    rw [gotR_err (by assumption)]
    exact ⟨⟨_, rfl, Bytes.nil _⟩, (Ext.store (Ext.trans (Ext.store (Ext.trans (grown_trans (Ext.trans (grown_trans (Ext.trans hx2 hx4) hx6 hrw) (Ext.store hx9 hx13 (by omega))) hx15 hrw) hx16) hx18 (by omega)) hx21) hx26 (by omega))⟩
  · have gh0_22 := (Decidable.of_not_not (of_decide_eq_false h0_22))
    refine WF.skip ?_
    refine thn_n ?_
    refine WF.seq ?_
    refine WF.region ?_
    refine WL.va rfl rfl rfl (X.loadOA hO5 hx21 rfl rfl Try.isAgg44 Try.sizeOf44) ?_
    have oC3 := own_ext oC2 hx21
    refine WL.op rfl (OW.storeOA (hO2.ext hx21) rfl rfl rfl (one2 (own_one oC)) Try.sizeOf44 ?_)
    intro w28 hO2 hx30
    have := World.grownBy.size hx30
    replace hO5 := (hO5.ext hx21).keptO hx30 (by omega)
    have hS := hx30
    refine WL.va rfl rfl rfl (X.assignI rfl) ?_
    refine WL.nil ?_
    refine thn_n ?_
    refine WF.ret ?_
    refine finC_r (vs := [_, _]) ⟨⟨_, rfl, readO hO2 Try.isAgg44 Try.sizeOf44⟩, rfl, trivial⟩ ?_
    rw [gotR_ok (by assumption)]
    exact ⟨⟨_, rfl, Bytes.of_own (own_keptO oC3 hS (.inl (by omega)))⟩, (Ext.store (Ext.trans (Ext.store (Ext.trans (grown_trans (Ext.trans (grown_trans (Ext.trans hx2 hx4) hx6 hrw) (Ext.store hx9 hx13 (by omega))) hx15 hrw) hx16) hx18 (by omega)) hx21) hx30 (by omega))⟩

set_option maxHeartbeats 2000000 in
theorem with_ok (vP vR vW vD : Value) (n : List Int) (f : Nat) (x : Int) (w : World) (hf : f < 10) (hn : n.length = 13) (h1 : ∀ m : List Int, ∀ u ∈ oc m vP vR vW vD, u.oneCell' = true) : FnOk Try.prog 68 [agg (oc n vP vR vW vD), i64 (f : Int), i64 x] w (fun r w' => r = agg (oc (n.set (fo f) x) vP vR vW vD) ∧ Ext w w') := by
  refine FnOk.enterC (rs := [.cell 6 26]) Try.func68 rfl Try.ntmps68 Try.results68 rfl rfl ?_
  refine WF.seq ?_
  refine WF.region ?_
  refine WL.op rfl (OW.boxA (cs := (oc n vP vR vW vD)) rfl ?_ (by decide))
  intro g3 w1 heg3 hlg3 hO3 hx3
  have := World.grownBy.size hx3
  refine WL.op rfl (OW.allocO (cs := [i64 0, i64 0, i64 0, i64 0, i64 0, i64 0, i64 0, i64 0, i64 0, i64 0, i64 0, i64 0, i64 0, .slice none 0 0, .slice none 0 0, .slice none 0 0, .slice none 0 0]) Try.zeroValue26 rfl ?_ (by decide))
  intro g6 w5 heg6 hlg6 hO6 hx7
  have := World.grownBy.size hx7
  refine WL.nil ?_
  refine thn_n ?_
  refine WF.seq ?_
  refine WF.seq ?_
  refine WF.region ?_
  refine WL.va rfl rfl rfl (X.moveI rfl) ?_
  refine WL.nil ?_
  refine thn_n ?_
  refine WF.block ?_
  refine WF.seq ?_
  refine WF.region ?_
  refine WL.va rfl rfl rfl (X.eql rfl rfl) ?_
  refine WL.va rfl rfl rfl (X.assignB rfl) ?_
  refine WL.nil ?_
  refine thn_n ?_
  refine WF.cond rfl (fun h0_9 => ?_) (fun h0_9 => ?_)
  · have gh0_9 := (of_decide_eq_true h0_9)
    have hfk : fo f = 3 := by
      have hk0 : f = 0 := by have := gh0_9; omega
      subst hk0; rfl
    refine WF.region ?_
    refine WL.va rfl rfl rfl (X.moveI rfl) ?_
    refine WL.va rfl rfl rfl (X.fieldAddrO (off := 3) rfl Try.underlying26 rfl rfl Try.sizeOf3) ?_
    refine WL.op rfl (OW.storeO (hO3.ext hx7) (Nat.le_of_ble_eq_true rfl) rfl rfl rfl Try.sizeOf3 ?_)
    intro w11 hO3 hx13
    have := World.grownBy.size hx13
    replace hO6 := hO6.keptO hx13 (by omega)
    replace hO3 := hO3.cast (oc_set x hn (by omega))
    have hones : ∀ u ∈ oc (n.set 3 x) vP vR vW vD, u.oneCell' = true := h1 _
    refine WL.nil ?_
    refine blk_n ?_
    refine thn_n ?_
    refine WF.seq ?_
    refine WF.region ?_
    refine WL.va rfl rfl rfl (X.loadOA hO3 (Ext.refl _) rfl rfl Try.isAgg26 Try.sizeOf26) ?_
    refine WL.op rfl (OW.storeOA hO6 rfl rfl rfl hones Try.sizeOf26 ?_)
    intro w15 hO6 hx17
    have := World.grownBy.size hx17
    replace hO3 := hO3.keptO hx17 (by omega)
    refine WL.nil ?_
    refine thn_n ?_
    refine WF.ret ?_
    refine finC_r (vs := [_]) ⟨⟨_, rfl, readO hO6 Try.isAgg26 Try.sizeOf26⟩, trivial⟩ ?_
    exact ⟨(by rw [hfk]; rfl), (Ext.store (Ext.store (Ext.trans hx3 hx7) hx13 (by omega)) hx17 (by omega))⟩
  · have gh0_9 := (of_decide_eq_false h0_9)
    refine WF.seq ?_
    refine WF.region ?_
    refine WL.va rfl rfl rfl (X.eql rfl rfl) ?_
    refine WL.va rfl rfl rfl (X.assignB rfl) ?_
    refine WL.nil ?_
    refine thn_n ?_
    refine WF.cond rfl (fun h1_19 => ?_) (fun h1_19 => ?_)
    · have gh1_19 := (of_decide_eq_true h1_19)
      have hfk : fo f = 4 := by
        have hk0 : f = 1 := by have := gh1_19; omega
        subst hk0; rfl
      refine WF.region ?_
      refine WL.va rfl rfl rfl (X.moveI rfl) ?_
      refine WL.va rfl rfl rfl (X.fieldAddrO (off := 4) rfl Try.underlying26 rfl rfl Try.sizeOf3) ?_
      refine WL.op rfl (OW.storeO (hO3.ext hx7) (Nat.le_of_ble_eq_true rfl) rfl rfl rfl Try.sizeOf3 ?_)
      intro w21 hO3 hx23
      have := World.grownBy.size hx23
      replace hO6 := hO6.keptO hx23 (by omega)
      replace hO3 := hO3.cast (oc_set x hn (by omega))
      have hones : ∀ u ∈ oc (n.set 4 x) vP vR vW vD, u.oneCell' = true := h1 _
      refine WL.nil ?_
      refine blk_n ?_
      refine thn_n ?_
      refine WF.seq ?_
      refine WF.region ?_
      refine WL.va rfl rfl rfl (X.loadOA hO3 (Ext.refl _) rfl rfl Try.isAgg26 Try.sizeOf26) ?_
      refine WL.op rfl (OW.storeOA hO6 rfl rfl rfl hones Try.sizeOf26 ?_)
      intro w25 hO6 hx27
      have := World.grownBy.size hx27
      replace hO3 := hO3.keptO hx27 (by omega)
      refine WL.nil ?_
      refine thn_n ?_
      refine WF.ret ?_
      refine finC_r (vs := [_]) ⟨⟨_, rfl, readO hO6 Try.isAgg26 Try.sizeOf26⟩, trivial⟩ ?_
      exact ⟨(by rw [hfk]; rfl), (Ext.store (Ext.store (Ext.trans hx3 hx7) hx23 (by omega)) hx27 (by omega))⟩
    · have gh1_19 := (of_decide_eq_false h1_19)
      refine WF.seq ?_
      refine WF.region ?_
      refine WL.va rfl rfl rfl (X.eql rfl rfl) ?_
      refine WL.va rfl rfl rfl (X.assignB rfl) ?_
      refine WL.nil ?_
      refine thn_n ?_
      refine WF.cond rfl (fun h2_29 => ?_) (fun h2_29 => ?_)
      · have gh2_29 := (of_decide_eq_true h2_29)
        have hfk : fo f = 5 := by
          have hk0 : f = 2 := by have := gh2_29; omega
          subst hk0; rfl
        refine WF.region ?_
        refine WL.va rfl rfl rfl (X.moveI rfl) ?_
        refine WL.va rfl rfl rfl (X.fieldAddrO (off := 5) rfl Try.underlying26 rfl rfl Try.sizeOf3) ?_
        refine WL.op rfl (OW.storeO (hO3.ext hx7) (Nat.le_of_ble_eq_true rfl) rfl rfl rfl Try.sizeOf3 ?_)
        intro w31 hO3 hx33
        have := World.grownBy.size hx33
        replace hO6 := hO6.keptO hx33 (by omega)
        replace hO3 := hO3.cast (oc_set x hn (by omega))
        have hones : ∀ u ∈ oc (n.set 5 x) vP vR vW vD, u.oneCell' = true := h1 _
        refine WL.nil ?_
        refine blk_n ?_
        refine thn_n ?_
        refine WF.seq ?_
        refine WF.region ?_
        refine WL.va rfl rfl rfl (X.loadOA hO3 (Ext.refl _) rfl rfl Try.isAgg26 Try.sizeOf26) ?_
        refine WL.op rfl (OW.storeOA hO6 rfl rfl rfl hones Try.sizeOf26 ?_)
        intro w35 hO6 hx37
        have := World.grownBy.size hx37
        replace hO3 := hO3.keptO hx37 (by omega)
        refine WL.nil ?_
        refine thn_n ?_
        refine WF.ret ?_
        refine finC_r (vs := [_]) ⟨⟨_, rfl, readO hO6 Try.isAgg26 Try.sizeOf26⟩, trivial⟩ ?_
        exact ⟨(by rw [hfk]; rfl), (Ext.store (Ext.store (Ext.trans hx3 hx7) hx33 (by omega)) hx37 (by omega))⟩
      · have gh2_29 := (of_decide_eq_false h2_29)
        refine WF.seq ?_
        refine WF.region ?_
        refine WL.va rfl rfl rfl (X.eql rfl rfl) ?_
        refine WL.va rfl rfl rfl (X.assignB rfl) ?_
        refine WL.nil ?_
        refine thn_n ?_
        refine WF.cond rfl (fun h3_39 => ?_) (fun h3_39 => ?_)
        · have gh3_39 := (of_decide_eq_true h3_39)
          have hfk : fo f = 9 := by
            have hk0 : f = 3 := by have := gh3_39; omega
            subst hk0; rfl
          refine WF.region ?_
          refine WL.va rfl rfl rfl (X.moveI rfl) ?_
          refine WL.va rfl rfl rfl (X.fieldAddrO (off := 9) rfl Try.underlying26 rfl rfl Try.sizeOf3) ?_
          refine WL.op rfl (OW.storeO (hO3.ext hx7) (Nat.le_of_ble_eq_true rfl) rfl rfl rfl Try.sizeOf3 ?_)
          intro w41 hO3 hx43
          have := World.grownBy.size hx43
          replace hO6 := hO6.keptO hx43 (by omega)
          replace hO3 := hO3.cast (oc_set x hn (by omega))
          have hones : ∀ u ∈ oc (n.set 9 x) vP vR vW vD, u.oneCell' = true := h1 _
          refine WL.nil ?_
          refine blk_n ?_
          refine thn_n ?_
          refine WF.seq ?_
          refine WF.region ?_
          refine WL.va rfl rfl rfl (X.loadOA hO3 (Ext.refl _) rfl rfl Try.isAgg26 Try.sizeOf26) ?_
          refine WL.op rfl (OW.storeOA hO6 rfl rfl rfl hones Try.sizeOf26 ?_)
          intro w45 hO6 hx47
          have := World.grownBy.size hx47
          replace hO3 := hO3.keptO hx47 (by omega)
          refine WL.nil ?_
          refine thn_n ?_
          refine WF.ret ?_
          refine finC_r (vs := [_]) ⟨⟨_, rfl, readO hO6 Try.isAgg26 Try.sizeOf26⟩, trivial⟩ ?_
          exact ⟨(by rw [hfk]; rfl), (Ext.store (Ext.store (Ext.trans hx3 hx7) hx43 (by omega)) hx47 (by omega))⟩
        · have gh3_39 := (of_decide_eq_false h3_39)
          refine WF.seq ?_
          refine WF.region ?_
          refine WL.va rfl rfl rfl (X.eql rfl rfl) ?_
          refine WL.va rfl rfl rfl (X.assignB rfl) ?_
          refine WL.nil ?_
          refine thn_n ?_
          refine WF.cond rfl (fun h4_49 => ?_) (fun h4_49 => ?_)
          · have gh4_49 := (of_decide_eq_true h4_49)
            have hfk : fo f = 6 := by
              have hk0 : f = 4 := by have := gh4_49; omega
              subst hk0; rfl
            refine WF.region ?_
            refine WL.va rfl rfl rfl (X.moveI rfl) ?_
            refine WL.va rfl rfl rfl (X.fieldAddrO (off := 6) rfl Try.underlying26 rfl rfl Try.sizeOf3) ?_
            refine WL.op rfl (OW.storeO (hO3.ext hx7) (Nat.le_of_ble_eq_true rfl) rfl rfl rfl Try.sizeOf3 ?_)
            intro w51 hO3 hx53
            have := World.grownBy.size hx53
            replace hO6 := hO6.keptO hx53 (by omega)
            replace hO3 := hO3.cast (oc_set x hn (by omega))
            have hones : ∀ u ∈ oc (n.set 6 x) vP vR vW vD, u.oneCell' = true := h1 _
            refine WL.nil ?_
            refine blk_n ?_
            refine thn_n ?_
            refine WF.seq ?_
            refine WF.region ?_
            refine WL.va rfl rfl rfl (X.loadOA hO3 (Ext.refl _) rfl rfl Try.isAgg26 Try.sizeOf26) ?_
            refine WL.op rfl (OW.storeOA hO6 rfl rfl rfl hones Try.sizeOf26 ?_)
            intro w55 hO6 hx57
            have := World.grownBy.size hx57
            replace hO3 := hO3.keptO hx57 (by omega)
            refine WL.nil ?_
            refine thn_n ?_
            refine WF.ret ?_
            refine finC_r (vs := [_]) ⟨⟨_, rfl, readO hO6 Try.isAgg26 Try.sizeOf26⟩, trivial⟩ ?_
            exact ⟨(by rw [hfk]; rfl), (Ext.store (Ext.store (Ext.trans hx3 hx7) hx53 (by omega)) hx57 (by omega))⟩
          · have gh4_49 := (of_decide_eq_false h4_49)
            refine WF.seq ?_
            refine WF.region ?_
            refine WL.va rfl rfl rfl (X.eql rfl rfl) ?_
            refine WL.va rfl rfl rfl (X.assignB rfl) ?_
            refine WL.nil ?_
            refine thn_n ?_
            refine WF.cond rfl (fun h5_59 => ?_) (fun h5_59 => ?_)
            · have gh5_59 := (of_decide_eq_true h5_59)
              have hfk : fo f = 7 := by
                have hk0 : f = 5 := by have := gh5_59; omega
                subst hk0; rfl
              refine WF.region ?_
              refine WL.va rfl rfl rfl (X.moveI rfl) ?_
              refine WL.va rfl rfl rfl (X.fieldAddrO (off := 7) rfl Try.underlying26 rfl rfl Try.sizeOf3) ?_
              refine WL.op rfl (OW.storeO (hO3.ext hx7) (Nat.le_of_ble_eq_true rfl) rfl rfl rfl Try.sizeOf3 ?_)
              intro w61 hO3 hx63
              have := World.grownBy.size hx63
              replace hO6 := hO6.keptO hx63 (by omega)
              replace hO3 := hO3.cast (oc_set x hn (by omega))
              have hones : ∀ u ∈ oc (n.set 7 x) vP vR vW vD, u.oneCell' = true := h1 _
              refine WL.nil ?_
              refine blk_n ?_
              refine thn_n ?_
              refine WF.seq ?_
              refine WF.region ?_
              refine WL.va rfl rfl rfl (X.loadOA hO3 (Ext.refl _) rfl rfl Try.isAgg26 Try.sizeOf26) ?_
              refine WL.op rfl (OW.storeOA hO6 rfl rfl rfl hones Try.sizeOf26 ?_)
              intro w66 hO6 hx68
              have := World.grownBy.size hx68
              replace hO3 := hO3.keptO hx68 (by omega)
              refine WL.nil ?_
              refine thn_n ?_
              refine WF.ret ?_
              refine finC_r (vs := [_]) ⟨⟨_, rfl, readO hO6 Try.isAgg26 Try.sizeOf26⟩, trivial⟩ ?_
              exact ⟨(by rw [hfk]; rfl), (Ext.store (Ext.store (Ext.trans hx3 hx7) hx63 (by omega)) hx68 (by omega))⟩
            · have gh5_59 := (of_decide_eq_false h5_59)
              refine WF.seq ?_
              refine WF.region ?_
              refine WL.va rfl rfl rfl (X.eql rfl rfl) ?_
              refine WL.va rfl rfl rfl (X.assignB rfl) ?_
              refine WL.nil ?_
              refine thn_n ?_
              refine WF.cond rfl (fun h6_70 => ?_) (fun h6_70 => ?_)
              · have gh6_70 := (of_decide_eq_true h6_70)
                have hfk : fo f = 8 := by
                  have hk0 : f = 6 := by have := gh6_70; omega
                  subst hk0; rfl
                refine WF.region ?_
                refine WL.va rfl rfl rfl (X.moveI rfl) ?_
                refine WL.va rfl rfl rfl (X.fieldAddrO (off := 8) rfl Try.underlying26 rfl rfl Try.sizeOf3) ?_
                refine WL.op rfl (OW.storeO (hO3.ext hx7) (Nat.le_of_ble_eq_true rfl) rfl rfl rfl Try.sizeOf3 ?_)
                intro w72 hO3 hx74
                have := World.grownBy.size hx74
                replace hO6 := hO6.keptO hx74 (by omega)
                replace hO3 := hO3.cast (oc_set x hn (by omega))
                have hones : ∀ u ∈ oc (n.set 8 x) vP vR vW vD, u.oneCell' = true := h1 _
                refine WL.nil ?_
                refine blk_n ?_
                refine thn_n ?_
                refine WF.seq ?_
                refine WF.region ?_
                refine WL.va rfl rfl rfl (X.loadOA hO3 (Ext.refl _) rfl rfl Try.isAgg26 Try.sizeOf26) ?_
                refine WL.op rfl (OW.storeOA hO6 rfl rfl rfl hones Try.sizeOf26 ?_)
                intro w76 hO6 hx78
                have := World.grownBy.size hx78
                replace hO3 := hO3.keptO hx78 (by omega)
                refine WL.nil ?_
                refine thn_n ?_
                refine WF.ret ?_
                refine finC_r (vs := [_]) ⟨⟨_, rfl, readO hO6 Try.isAgg26 Try.sizeOf26⟩, trivial⟩ ?_
                exact ⟨(by rw [hfk]; rfl), (Ext.store (Ext.store (Ext.trans hx3 hx7) hx74 (by omega)) hx78 (by omega))⟩
              · have gh6_70 := (of_decide_eq_false h6_70)
                refine WF.seq ?_
                refine WF.region ?_
                refine WL.va rfl rfl rfl (X.eql rfl rfl) ?_
                refine WL.va rfl rfl rfl (X.assignB rfl) ?_
                refine WL.nil ?_
                refine thn_n ?_
                refine WF.cond rfl (fun h7_80 => ?_) (fun h7_80 => ?_)
                · have gh7_80 := (of_decide_eq_true h7_80)
                  have hfk : fo f = 10 := by
                    have hk0 : f = 7 := by have := gh7_80; omega
                    subst hk0; rfl
                  refine WF.region ?_
                  refine WL.va rfl rfl rfl (X.moveI rfl) ?_
                  refine WL.va rfl rfl rfl (X.fieldAddrO (off := 10) rfl Try.underlying26 rfl rfl Try.sizeOf3) ?_
                  refine WL.op rfl (OW.storeO (hO3.ext hx7) (Nat.le_of_ble_eq_true rfl) rfl rfl rfl Try.sizeOf3 ?_)
                  intro w82 hO3 hx84
                  have := World.grownBy.size hx84
                  replace hO6 := hO6.keptO hx84 (by omega)
                  replace hO3 := hO3.cast (oc_set x hn (by omega))
                  have hones : ∀ u ∈ oc (n.set 10 x) vP vR vW vD, u.oneCell' = true := h1 _
                  refine WL.nil ?_
                  refine blk_n ?_
                  refine thn_n ?_
                  refine WF.seq ?_
                  refine WF.region ?_
                  refine WL.va rfl rfl rfl (X.loadOA hO3 (Ext.refl _) rfl rfl Try.isAgg26 Try.sizeOf26) ?_
                  refine WL.op rfl (OW.storeOA hO6 rfl rfl rfl hones Try.sizeOf26 ?_)
                  intro w86 hO6 hx88
                  have := World.grownBy.size hx88
                  replace hO3 := hO3.keptO hx88 (by omega)
                  refine WL.nil ?_
                  refine thn_n ?_
                  refine WF.ret ?_
                  refine finC_r (vs := [_]) ⟨⟨_, rfl, readO hO6 Try.isAgg26 Try.sizeOf26⟩, trivial⟩ ?_
                  exact ⟨(by rw [hfk]; rfl), (Ext.store (Ext.store (Ext.trans hx3 hx7) hx84 (by omega)) hx88 (by omega))⟩
                · have gh7_80 := (of_decide_eq_false h7_80)
                  refine WF.seq ?_
                  refine WF.region ?_
                  refine WL.va rfl rfl rfl (X.eql rfl rfl) ?_
                  refine WL.va rfl rfl rfl (X.assignB rfl) ?_
                  refine WL.nil ?_
                  refine thn_n ?_
                  refine WF.cond rfl (fun h8_90 => ?_) (fun h8_90 => ?_)
                  · have gh8_90 := (of_decide_eq_true h8_90)
                    have hfk : fo f = 11 := by
                      have hk0 : f = 8 := by have := gh8_90; omega
                      subst hk0; rfl
                    refine WF.region ?_
                    refine WL.va rfl rfl rfl (X.moveI rfl) ?_
                    refine WL.va rfl rfl rfl (X.fieldAddrO (off := 11) rfl Try.underlying26 rfl rfl Try.sizeOf3) ?_
                    refine WL.op rfl (OW.storeO (hO3.ext hx7) (Nat.le_of_ble_eq_true rfl) rfl rfl rfl Try.sizeOf3 ?_)
                    intro w92 hO3 hx94
                    have := World.grownBy.size hx94
                    replace hO6 := hO6.keptO hx94 (by omega)
                    replace hO3 := hO3.cast (oc_set x hn (by omega))
                    have hones : ∀ u ∈ oc (n.set 11 x) vP vR vW vD, u.oneCell' = true := h1 _
                    refine WL.nil ?_
                    refine blk_n ?_
                    refine thn_n ?_
                    refine WF.seq ?_
                    refine WF.region ?_
                    refine WL.va rfl rfl rfl (X.loadOA hO3 (Ext.refl _) rfl rfl Try.isAgg26 Try.sizeOf26) ?_
                    refine WL.op rfl (OW.storeOA hO6 rfl rfl rfl hones Try.sizeOf26 ?_)
                    intro w96 hO6 hx98
                    have := World.grownBy.size hx98
                    replace hO3 := hO3.keptO hx98 (by omega)
                    refine WL.nil ?_
                    refine thn_n ?_
                    refine WF.ret ?_
                    refine finC_r (vs := [_]) ⟨⟨_, rfl, readO hO6 Try.isAgg26 Try.sizeOf26⟩, trivial⟩ ?_
                    exact ⟨(by rw [hfk]; rfl), (Ext.store (Ext.store (Ext.trans hx3 hx7) hx94 (by omega)) hx98 (by omega))⟩
                  · have gh8_90 := (of_decide_eq_false h8_90)
                    refine WF.seq ?_
                    refine WF.region ?_
                    refine WL.va rfl rfl rfl (X.eql rfl rfl) ?_
                    refine WL.va rfl rfl rfl (X.assignB rfl) ?_
                    refine WL.nil ?_
                    refine thn_n ?_
                    refine WF.cond rfl (fun h9_100 => ?_) (fun h9_100 => ?_)
                    · have gh9_100 := (of_decide_eq_true h9_100)
                      have hfk : fo f = 12 := by
                        have hk0 : f = 9 := by have := gh9_100; omega
                        subst hk0; rfl
                      refine WF.region ?_
                      refine WL.va rfl rfl rfl (X.moveI rfl) ?_
                      refine WL.va rfl rfl rfl (X.fieldAddrO (off := 12) rfl Try.underlying26 rfl rfl Try.sizeOf3) ?_
                      refine WL.op rfl (OW.storeO (hO3.ext hx7) (Nat.le_of_ble_eq_true rfl) rfl rfl rfl Try.sizeOf3 ?_)
                      intro w102 hO3 hx104
                      have := World.grownBy.size hx104
                      replace hO6 := hO6.keptO hx104 (by omega)
                      replace hO3 := hO3.cast (oc_set x hn (by omega))
                      have hones : ∀ u ∈ oc (n.set 12 x) vP vR vW vD, u.oneCell' = true := h1 _
                      refine WL.nil ?_
                      refine blk_n ?_
                      refine thn_n ?_
                      refine WF.seq ?_
                      refine WF.region ?_
                      refine WL.va rfl rfl rfl (X.loadOA hO3 (Ext.refl _) rfl rfl Try.isAgg26 Try.sizeOf26) ?_
                      refine WL.op rfl (OW.storeOA hO6 rfl rfl rfl hones Try.sizeOf26 ?_)
                      intro w106 hO6 hx108
                      have := World.grownBy.size hx108
                      replace hO3 := hO3.keptO hx108 (by omega)
                      refine WL.nil ?_
                      refine thn_n ?_
                      refine WF.ret ?_
                      refine finC_r (vs := [_]) ⟨⟨_, rfl, readO hO6 Try.isAgg26 Try.sizeOf26⟩, trivial⟩ ?_
                      exact ⟨(by rw [hfk]; rfl), (Ext.store (Ext.store (Ext.trans hx3 hx7) hx104 (by omega)) hx108 (by omega))⟩
                    · have gh9_100 := (of_decide_eq_false h9_100)
                      have := gh9_100; omega

end Go.Proofs.Ythaojdpeimlngaa
