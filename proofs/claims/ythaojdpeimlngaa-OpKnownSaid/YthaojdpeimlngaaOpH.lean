/- The walk of Get. -/
import Derived.Test.YthaojdpeimlngaaOpW
import Derived.Test.YthaojdpeimlngaaGet2
namespace Go.Proofs.Ythaojdpeimlngaa
open Go Go.RowKit Kf
set_option maxRecDepth 20000

/-- an operation in memory of its own -/
structure OpG (w : World) (B : Nat) (vP vR vW vD : Value) (o : Od) : Prop where
  len : o.n.length = 13
  inn : ∀ k, -9223372036854775808 ≤ o.n.getD k 0 ∧ o.n.getD k 0 ≤ 9223372036854775807
  P : OwnI w B 3 vP o.P
  R : OwnI w B 3 vR o.R
  W : ∃ D L E, E.map Prod.fst = o.W ∧ WOwnR w B vW E ∧ SegD D L E ∧ OwnB w B 5 D L ∧ (∃ lo hi, Seg D vD lo hi ∧ hi ≤ L.length ∧ o.D = (L.drop lo).take (hi - lo)) ∧ Apart vP D ∧ Apart vR D ∧ Apart vW D
  ap : Apart vP vR ∧ Apart vP vW ∧ Apart vR vW
theorem OpG.at {w : World} {B : Nat} {vP vR vW vD : Value} {o : Od} (h : OpG w B vP vR vW vD o) : OpAt w vP vR vW vD o := by
  obtain ⟨D, L, E, e, hw, hs, hd, ⟨lo, hi, h1, h2, h3⟩, _⟩ := h.W
  exact ⟨h.len, h.inn, Row.of_own h.P, Row.of_own h.R, ⟨E, e, Row.of_own hw, hs.dat hd⟩, by rw [h3]; exact seg_bytes h1 hd h2⟩
theorem OpG.ext {w w' : World} {B : Nat} {vP vR vW vD : Value} {o : Od} (h : OpG w B vP vR vW vD o) (g : Ext w w') : OpG w' B vP vR vW vD o := by
  obtain ⟨D, L, E, e, hw, hs, hd, q⟩ := h.W
  exact ⟨h.len, h.inn, own_ext h.P g, own_ext h.R g, ⟨D, L, E, e, own_ext hw g, hs, own_ext hd g, q⟩, h.ap⟩
theorem OpG.keptO {w w' : World} {B B' b : Nat} {vP vR vW vD : Value} {o : Od} (h : OpG w B vP vR vW vD o) (g : w.grownBy w' (some b)) (hb : b < B) (hB : B' ≤ B) : OpG w' B' vP vR vW vD o := by
  obtain ⟨D, L, E, e, hw, hs, hd, q⟩ := h.W
  exact ⟨h.len, h.inn, own_mono (own_keptO h.P g (.inl hb)) hB, own_mono (own_keptO h.R g (.inl hb)) hB, ⟨D, L, E, e, own_mono (own_keptO hw g (.inl hb)) hB, hs, own_mono (own_keptO hd g (.inl hb)) hB, q⟩, h.ap⟩
theorem apart_nil (v : Value) : Apart (.slice none 0 0) v := fun k h1 _ => by cases h1
theorem noOp_own (w : World) (B : Nat) : OpG w B (.slice none 0 0) (.slice none 0 0) (.slice none 0 0) (.slice none 0 0) noOp :=
  ⟨rfl, (fun k => by unfold noOp; match k with | 0 | 1 | 2 | 3 | 4 | 5 | 6 | 7 | 8 | 9 | 10 | 11 | 12 => exact ⟨by decide, by decide⟩ | k + 13 => (simp only [List.getD_eq_getElem?_getD]; rw [List.getElem?_eq_none (by simp)]; exact ⟨by decide, by decide⟩)),
   World.ownsRow_nil _ _ _ _, World.ownsRow_nil _ _ _ _, ⟨.slice none 0 0, [], [], rfl, WOwnR.nil _ _, SegD.nil _ _, World.ownsRow_nil _ _ _ _, ⟨0, 0, Seg.nil _ _, Nat.le_refl _, rfl⟩, apart_nil _, apart_nil _, apart_nil _⟩, apart_nil _, apart_nil _, apart_nil _⟩
theorem got_n1 {l : List UInt8} (h : (offs ((n0 l).getD 0 0)).isSome = false) : got l = (noOp, 4) := got_none (by cases hq : offs ((n0 l).getD 0 0) with
  | none => rfl
  | some L => rw [hq] at h; cases h)
theorem got_s {l : List UInt8} (h : (offs ((n0 l).getD 0 0)).isSome = true) : got l = fin1 (getB (getN (n0 l) (s3 l) (offL ((n0 l).getD 0 0))).1 (getN (n0 l) (s3 l) (offL ((n0 l).getD 0 0))).2) := by
  cases hq : offs ((n0 l).getD 0 0) with
  | none => rw [hq] at h; cases h
  | some L => rw [got_some hq, offL_eq hq]
theorem getL_none {n : List Int} {s : Pk.RS} (h : s.ints.2.ints.2.int.1 < 0 ∨ ((s.ints.2.ints.2.int.2.left.length / 8 : Nat) : Int) < s.ints.2.ints.2.int.1 ∨ (rdW s.ints.2.ints.2.int.2 s.ints.2.ints.2.int.1.toNat).2.bad = true) : getL n s = none := by
  unfold getL; exact if_pos h
theorem getL_some {n : List Int} {s : Pk.RS} (h : ¬ (s.ints.2.ints.2.int.1 < 0 ∨ ((s.ints.2.ints.2.int.2.left.length / 8 : Nat) : Int) < s.ints.2.ints.2.int.1)) :
    getL n s = some (⟨n, s.ints.1, s.ints.2.ints.1, (rdW s.ints.2.ints.2.int.2 s.ints.2.ints.2.int.1.toNat).1, []⟩, (rdW s.ints.2.ints.2.int.2 s.ints.2.ints.2.int.1.toNat).2) ∨ (getL n s = none ∧ (rdW s.ints.2.ints.2.int.2 s.ints.2.ints.2.int.1.toNat).2.bad = true) := by
  by_cases hb : (rdW s.ints.2.ints.2.int.2 s.ints.2.ints.2.int.1.toNat).2.bad = true
  · exact .inr ⟨getL_none (.inr (.inr hb)), hb⟩
  · left
    unfold getL
    exact if_neg (fun q => by rcases q with q | q | q; exact h (.inl q); exact h (.inr q); exact hb q)
theorem getB_two {n : List Int} {s : Pk.RS} (h : n.getD 0 0 = 2) : getB n s = getL n s := if_pos h
theorem getB_six {n : List Int} {s : Pk.RS} (h : n.getD 0 0 = 6) : getB n s = some (⟨n, [], [], [], s.blob.1⟩, s.blob.2) := by
  unfold getB; rw [if_neg (by omega), if_pos h]
theorem getB_else {n : List Int} {s : Pk.RS} (h : n.getD 0 0 ≠ 2) (h6 : n.getD 0 0 ≠ 6) : getB n s = some (⟨n, [], [], [], []⟩, s) := by
  unfold getB; rw [if_neg h, if_neg h6]
theorem fin_err {x : Option (Od × Pk.RS)} {o : Od} {s : Pk.RS} (h : x = some (o, s) ∨ (x = none ∧ s.bad = true)) (he : s.err ≠ 0) : fin1 x = (noOp, s.err) := by
  rcases h with rfl | ⟨rfl, hb⟩
  · exact if_pos he
  · show (noOp, (4 : Int)) = (noOp, s.err)
    unfold Pk.RS.err; rw [if_pos hb]
theorem not_bad {s : Pk.RS} (he : s.err = 0) : ¬ s.bad = true := fun hb => by
  unfold Pk.RS.err at he; rw [if_pos hb] at he; cases he
theorem fin_chk {x : Option (Od × Pk.RS)} {o : Od} {s : Pk.RS} (h : x = some (o, s) ∨ (x = none ∧ s.bad = true)) (he : s.err = 0) (hc : chk o ≠ 0) : fin1 x = (noOp, chk o) := by
  rcases h with rfl | ⟨rfl, hb⟩
  · show (if s.err ≠ 0 then _ else if chk o ≠ 0 then _ else _) = _
    rw [if_neg (not_not_intro he), if_pos hc]
  · exact absurd hb (not_bad he)
theorem fin_ok {x : Option (Od × Pk.RS)} {o : Od} {s : Pk.RS} (h : x = some (o, s) ∨ (x = none ∧ s.bad = true)) (he : s.err = 0) (hc : chk o = 0) : fin1 x = (o, 0) := by
  rcases h with rfl | ⟨rfl, hb⟩
  · show (if s.err ≠ 0 then _ else if chk o ≠ 0 then _ else _) = _
    rw [if_neg (not_not_intro he), if_neg (not_not_intro hc)]
  · exact absurd hb (not_bad he)
theorem oc_ones0 (n : List Int) : ∀ u ∈ oc n (.slice none 0 0) (.slice none 0 0) (.slice none 0 0) (.slice none 0 0), u.oneCell' = true := by
  intro u hu
  simp only [oc, List.mem_cons, List.not_mem_nil, or_false] at hu
  rcases hu with rfl | rfl | rfl | rfl | rfl | rfl | rfl | rfl | rfl | rfl | rfl | rfl | rfl | rfl | rfl | rfl | rfl <;> rfl
set_option maxHeartbeats 4000000 in
theorem get_ok (v : Value) (l : List UInt8) (w : World) (hb : Bytes w v l) (hl : l.length ≤ 1000000) : FnOk Try.prog 18 [v] w (fun r w' => (∃ vP vR vW vD, r = .tuple #[agg (oc (got l).1.n vP vR vW vD), i64 (got l).2] ∧ OpG w' w.heap.size vP vR vW vD (got l).1) ∧ Ext w w') := by
  refine FnOk.enterC (rs := [.cell 2 26, .tmp 3]) Try.func18 rfl Try.ntmps18 Try.results18 rfl rfl ?_
  refine WF.seq ?_
  refine WF.region ?_
  refine WL.op rfl (OW.allocO (cs := [i64 0, i64 0, i64 0, i64 0, i64 0, i64 0, i64 0, i64 0, i64 0, i64 0, i64 0, i64 0, i64 0, .slice none 0 0, .slice none 0 0, .slice none 0 0, .slice none 0 0]) Try.zeroValue26 rfl ?_ (by decide))
  intro g2 w1 heg2 hlg2 hO2 hx2
  have := World.grownBy.size hx2
  refine WL.va rfl rfl rfl (X.assignI rfl) ?_
  refine WL.nil ?_
  refine thn_n ?_
  refine WF.seq ?_
  refine WF.region ?_
  refine WL.va rfl rfl rfl (X.move rfl) ?_
  refine WL.c rfl rfl rfl (X.call Try.call59 (evl_cons rfl evl_nil)) (read_ok _ _ _ (Row.ext hb hx2) (by omega)) ?_
  rintro vr wr ⟨⟨D, left0, hp0⟩, hx4⟩
  have := World.grownBy.size hx4
  obtain ⟨B, hBe⟩ : ∃ B, B = w1.heap.size := ⟨_, rfl⟩
  rw [← hBe] at hp0
  have hrl := hp0.lt.1
  have hDl := hp0.lt.2
  have hrw : ∀ i, (asRow vr).ownBlock = some i → w.heap.size ≤ i := fun i hi => by have := hrl i hi; omega
  refine WL.op rfl (OW.allocO (cs := [.pointer none]) Try.zeroValue76 rfl ?_ (by decide))
  intro g4 w5 heg4 hlg4 hO4 hx7
  have := World.grownBy.size hx7
  have gA := hx7
  refine WL.op rfl (OW.storeO hO4 (Nat.le_of_ble_eq_true rfl) rfl rfl (by obtain ⟨b, rfl⟩ := hp0.var.ptr; rfl) Try.sizeOf76 ?_)
  intro w1s hO4 hx10
  have := World.grownBy.size hx10
  replace hO2 := (hO2.ext (Ext.trans hx4 hx7)).keptO hx10 (by omega)
  have gB := hx10
  have hp1 := (hp0.ext gA).kept gB (.inr fun e => by have := (hrl _ e).2; omega) (.inr fun e => by have := (hDl _ e).2; omega)
  refine WL.nil ?_
  refine thn_n ?_
  refine WF.named (fun F12 hF13 => ?_)
  refine WF.cut (fun f' w' => ∃ (g5 ac : Nat) (leftc : Value), f' 5 = at_ g5 ∧ Agree [0, 2, 3, 4, 9, 10] f' F12 ∧ Ext w w' ∧ Blk w' g2 26 (oc noOp.n (.slice none 0 0) (.slice none 0 0) (.slice none 0 0) (.slice none 0 0)) ∧ Blk w' g4 76 [vr] ∧ Blk w' g5 26 (oc (n0 l) (.slice none 0 0) (.slice none 0 0) (.slice none 0 0) (.slice none 0 0)) ∧ PR w' B vr D l ac (s3 l) leftc ∧ w1s.heap.size ≤ g5) ?_ ?_
  · refine WF.drawn (.q 0 (.q 2 (.q 4 (.b 1 7 (.b 3 7 (.b 5 7 (.q 6 (.l 7 .nil)) (.l 5 (.q 6 .nil))) (.l 3 (.l 5 (.q 6 .nil)))) (.l 1 (.l 3 (.l 5 (.q 6 .nil)))))))) (fun w' => Ext w w' ∧ Blk w' g4 76 [vr]) 8 (by kernel_rfl) (by kernel_rfl) ⟨Ext.trans (Ext.trans (Ext.trans hx2 hx4) (Ext.store hx7 hx10 (by omega))) (Ext.drew _), (hO4).ext (Ext.drew _)⟩ ?_
    have := World.grownBy.size (Ext.drew w1s)
    refine WO.q rfl rfl rfl rfl (fun w' hE14 => (X.loadO (off := 0) hE14.2 (Ext.refl _) (congrFun hF13 4) rfl Try.isAgg76)) ?_
    refine WO.q rfl rfl rfl rfl (fun w' hE14 => (X.loadO (off := 0) hE14.2 (Ext.refl _) (congrFun hF13 4) rfl Try.isAgg76)) ?_
    refine WO.q rfl rfl rfl rfl (fun w' hE14 => (X.loadO (off := 0) hE14.2 (Ext.refl _) (congrFun hF13 4) rfl Try.isAgg76)) ?_
    refine WO.b2 ?_ ?_
    · refine LO.go rfl rfl (OW.enter rfl (by decide) (X.call Try.call60 (evl_cons rfl evl_nil)) (rInt_ok vr D _ l _ _ _ _ (hp1.ext (Ext.drew _))) ?_)
      rintro v15 wq1 ⟨rfl, ⟨a1, left1, hq1⟩, hx16⟩
      have := World.grownBy.size hx16
      replace hO2 := (hO2.ext (Ext.drew _)).keptR hx16 (fun b hb => by have := hrl b hb; omega)
      replace hO4 := (hO4.ext (Ext.drew _)).keptR hx16 (fun b hb => by have := hrl b hb; omega)
      refine ⟨⟨(grown_trans (Ext.trans (Ext.trans (Ext.trans hx2 hx4) (Ext.store hx7 hx10 (by omega))) (Ext.drew _)) hx16 hrw), hO4⟩, ?_⟩
      refine WO.b2 ?_ ?_
      · refine LO.go rfl rfl (OW.enter rfl (by decide) (X.call Try.call60 (evl_cons rfl evl_nil)) (rInt_ok vr D _ l _ _ _ _ (hq1.ext (Ext.refl wq1))) ?_)
        rintro v17 wq2 ⟨rfl, ⟨a2, left2, hq2⟩, hx18⟩
        have := World.grownBy.size hx18
        replace hO2 := hO2.keptR hx18 (fun b hb => by have := hrl b hb; omega)
        replace hO4 := hO4.keptR hx18 (fun b hb => by have := hrl b hb; omega)
        refine ⟨⟨(grown_trans (grown_trans (Ext.trans (Ext.trans (Ext.trans hx2 hx4) (Ext.store hx7 hx10 (by omega))) (Ext.drew _)) hx16 hrw) hx18 hrw), hO4⟩, ?_⟩
        refine WO.b2 ?_ ?_
        · refine LO.go rfl rfl (OW.enter rfl (by decide) (X.call Try.call60 (evl_cons rfl evl_nil)) (rInt_ok vr D _ l _ _ _ _ (hq2.ext (Ext.refl wq2))) ?_)
          rintro v19 wq3 ⟨rfl, ⟨a3, left3, hq3⟩, hx20⟩
          have := World.grownBy.size hx20
          replace hO2 := hO2.keptR hx20 (fun b hb => by have := hrl b hb; omega)
          replace hO4 := hO4.keptR hx20 (fun b hb => by have := hrl b hb; omega)
          refine ⟨⟨(grown_trans (grown_trans (grown_trans (Ext.trans (Ext.trans (Ext.trans hx2 hx4) (Ext.store hx7 hx10 (by omega))) (Ext.drew _)) hx16 hrw) hx18 hrw) hx20 hrw), hO4⟩, ?_⟩
          refine WO.q rfl rfl rfl rfl (fun w' hE14 => (X.buildL (P := Try.prog) (t := 26) (cs := (oc (n0 l) (.slice none 0 0) (.slice none 0 0) (.slice none 0 0) (.slice none 0 0))) (evp_cons rfl (evp_cons rfl (evp_cons rfl evp_nil))) Try.type26 Try.underlying26 rfl rfl ⟨rfl, rfl, rfl, trivial⟩ rfl)) ?_
          refine WO.l ?_
          refine LO.go rfl rfl (OW.allocO (cs := [i64 0, i64 0, i64 0, i64 0, i64 0, i64 0, i64 0, i64 0, i64 0, i64 0, i64 0, i64 0, i64 0, .slice none 0 0, .slice none 0 0, .slice none 0 0, .slice none 0 0]) Try.zeroValue26 rfl ?_ (by decide))
          intro g5 w21 heg5 hlg5 hO5 hx23
          have := World.grownBy.size hx23
          refine ⟨⟨(Ext.trans (grown_trans (grown_trans (grown_trans (Ext.trans (Ext.trans (Ext.trans hx2 hx4) (Ext.store hx7 hx10 (by omega))) (Ext.drew _)) hx16 hrw) hx18 hrw) hx20 hrw) hx23), (hO4.ext hx23)⟩, ?_⟩
          refine WO.nil ?_
          have hq3x := hq3.ext hx23
          refine WL.op rfl (OW.storeOA hO5 rfl rfl rfl (oc_ones0 _) Try.sizeOf26 ?_)
          intro w25 hO5 hx27
          have := World.grownBy.size hx27
          replace hO2 := (hO2.ext hx23).keptO hx27 (by omega)
          replace hO4 := (hO4.ext hx23).keptO hx27 (by omega)
          have hpc := hq3x.kept hx27 (.inr fun e => by have := (hrl _ e).2; omega) (.inr fun e => by have := (hDl _ e).2; omega)
          refine WL.nil ?_
          refine thn_n ?_
          exact ⟨_, _, _, rfl, (by repeat (first | exact (Agree.refl _ F12) | refine Agree.put ?_ rfl | refine Agree.named hF13 ?_)), (Ext.trans (grown_trans (grown_trans (grown_trans (Ext.trans (Ext.trans (Ext.trans hx2 hx4) (Ext.store hx7 hx10 (by omega))) (Ext.drew _)) hx16 hrw) hx18 hrw) hx20 hrw) (Ext.store hx23 hx27 (by omega))), ⟨hO2, hO4, hO5, hpc, by omega⟩⟩
        · refine LO.go rfl rfl (OW.allocO (cs := [i64 0, i64 0, i64 0, i64 0, i64 0, i64 0, i64 0, i64 0, i64 0, i64 0, i64 0, i64 0, i64 0, .slice none 0 0, .slice none 0 0, .slice none 0 0, .slice none 0 0]) Try.zeroValue26 rfl ?_ (by decide))
          intro g5 w29 heg5 hlg5 hO5 hx31
          have := World.grownBy.size hx31
          refine ⟨⟨(Ext.trans (grown_trans (grown_trans (Ext.trans (Ext.trans (Ext.trans hx2 hx4) (Ext.store hx7 hx10 (by omega))) (Ext.drew _)) hx16 hrw) hx18 hrw) hx31), (hO4.ext hx31)⟩, ?_⟩
          refine WO.l ?_
          refine LO.go rfl rfl (OW.enter rfl (by decide) (X.call Try.call60 (evl_cons rfl evl_nil)) (rInt_ok vr D _ l _ _ _ _ (hq2.ext hx31)) ?_)
          rintro v33 wq3 ⟨rfl, ⟨a3, left3, hq3⟩, hx34⟩
          have := World.grownBy.size hx34
          replace hO2 := (hO2.ext hx31).keptR hx34 (fun b hb => by have := hrl b hb; omega)
          replace hO4 := (hO4.ext hx31).keptR hx34 (fun b hb => by have := hrl b hb; omega)
          replace hO5 := hO5.keptR hx34 (fun b hb => by have := hrl b hb; omega)
          refine ⟨⟨(grown_trans (Ext.trans (grown_trans (grown_trans (Ext.trans (Ext.trans (Ext.trans hx2 hx4) (Ext.store hx7 hx10 (by omega))) (Ext.drew _)) hx16 hrw) hx18 hrw) hx31) hx34 hrw), hO4⟩, ?_⟩
          refine WO.q rfl rfl rfl rfl (fun w' hE14 => (X.buildL (P := Try.prog) (t := 26) (cs := (oc (n0 l) (.slice none 0 0) (.slice none 0 0) (.slice none 0 0) (.slice none 0 0))) (evp_cons rfl (evp_cons rfl (evp_cons rfl evp_nil))) Try.type26 Try.underlying26 rfl rfl ⟨rfl, rfl, rfl, trivial⟩ rfl)) ?_
          refine WO.nil ?_
          have hq3x := hq3.ext (Ext.refl wq3)
          refine WL.op rfl (OW.storeOA hO5 rfl rfl rfl (oc_ones0 _) Try.sizeOf26 ?_)
          intro w35 hO5 hx37
          have := World.grownBy.size hx37
          replace hO2 := hO2.keptO hx37 (by omega)
          replace hO4 := hO4.keptO hx37 (by omega)
          have hpc := hq3x.kept hx37 (.inr fun e => by have := (hrl _ e).2; omega) (.inr fun e => by have := (hDl _ e).2; omega)
          refine WL.nil ?_
          refine thn_n ?_
          exact ⟨_, _, _, rfl, (by repeat (first | exact (Agree.refl _ F12) | refine Agree.put ?_ rfl | refine Agree.named hF13 ?_)), (Ext.store (grown_trans (Ext.trans (grown_trans (grown_trans (Ext.trans (Ext.trans (Ext.trans hx2 hx4) (Ext.store hx7 hx10 (by omega))) (Ext.drew _)) hx16 hrw) hx18 hrw) hx31) hx34 hrw) hx37 (by omega)), ⟨hO2, hO4, hO5, hpc, by omega⟩⟩
      · refine LO.go rfl rfl (OW.allocO (cs := [i64 0, i64 0, i64 0, i64 0, i64 0, i64 0, i64 0, i64 0, i64 0, i64 0, i64 0, i64 0, i64 0, .slice none 0 0, .slice none 0 0, .slice none 0 0, .slice none 0 0]) Try.zeroValue26 rfl ?_ (by decide))
        intro g5 w39 heg5 hlg5 hO5 hx41
        have := World.grownBy.size hx41
        refine ⟨⟨(Ext.trans (grown_trans (Ext.trans (Ext.trans (Ext.trans hx2 hx4) (Ext.store hx7 hx10 (by omega))) (Ext.drew _)) hx16 hrw) hx41), (hO4.ext hx41)⟩, ?_⟩
        refine WO.l ?_
        refine LO.go rfl rfl (OW.enter rfl (by decide) (X.call Try.call60 (evl_cons rfl evl_nil)) (rInt_ok vr D _ l _ _ _ _ (hq1.ext hx41)) ?_)
        rintro v43 wq2 ⟨rfl, ⟨a2, left2, hq2⟩, hx44⟩
        have := World.grownBy.size hx44
        replace hO2 := (hO2.ext hx41).keptR hx44 (fun b hb => by have := hrl b hb; omega)
        replace hO4 := (hO4.ext hx41).keptR hx44 (fun b hb => by have := hrl b hb; omega)
        replace hO5 := hO5.keptR hx44 (fun b hb => by have := hrl b hb; omega)
        refine ⟨⟨(grown_trans (Ext.trans (grown_trans (Ext.trans (Ext.trans (Ext.trans hx2 hx4) (Ext.store hx7 hx10 (by omega))) (Ext.drew _)) hx16 hrw) hx41) hx44 hrw), hO4⟩, ?_⟩
        refine WO.l ?_
        refine LO.go rfl rfl (OW.enter rfl (by decide) (X.call Try.call60 (evl_cons rfl evl_nil)) (rInt_ok vr D _ l _ _ _ _ (hq2.ext (Ext.refl wq2))) ?_)
        rintro v45 wq3 ⟨rfl, ⟨a3, left3, hq3⟩, hx46⟩
        have := World.grownBy.size hx46
        replace hO2 := hO2.keptR hx46 (fun b hb => by have := hrl b hb; omega)
        replace hO4 := hO4.keptR hx46 (fun b hb => by have := hrl b hb; omega)
        replace hO5 := hO5.keptR hx46 (fun b hb => by have := hrl b hb; omega)
        refine ⟨⟨(grown_trans (grown_trans (Ext.trans (grown_trans (Ext.trans (Ext.trans (Ext.trans hx2 hx4) (Ext.store hx7 hx10 (by omega))) (Ext.drew _)) hx16 hrw) hx41) hx44 hrw) hx46 hrw), hO4⟩, ?_⟩
        refine WO.q rfl rfl rfl rfl (fun w' hE14 => (X.buildL (P := Try.prog) (t := 26) (cs := (oc (n0 l) (.slice none 0 0) (.slice none 0 0) (.slice none 0 0) (.slice none 0 0))) (evp_cons rfl (evp_cons rfl (evp_cons rfl evp_nil))) Try.type26 Try.underlying26 rfl rfl ⟨rfl, rfl, rfl, trivial⟩ rfl)) ?_
        refine WO.nil ?_
        have hq3x := hq3.ext (Ext.refl wq3)
        refine WL.op rfl (OW.storeOA hO5 rfl rfl rfl (oc_ones0 _) Try.sizeOf26 ?_)
        intro w47 hO5 hx49
        have := World.grownBy.size hx49
        replace hO2 := hO2.keptO hx49 (by omega)
        replace hO4 := hO4.keptO hx49 (by omega)
        have hpc := hq3x.kept hx49 (.inr fun e => by have := (hrl _ e).2; omega) (.inr fun e => by have := (hDl _ e).2; omega)
        refine WL.nil ?_
        refine thn_n ?_
        exact ⟨_, _, _, rfl, (by repeat (first | exact (Agree.refl _ F12) | refine Agree.put ?_ rfl | refine Agree.named hF13 ?_)), (Ext.store (grown_trans (grown_trans (Ext.trans (grown_trans (Ext.trans (Ext.trans (Ext.trans hx2 hx4) (Ext.store hx7 hx10 (by omega))) (Ext.drew _)) hx16 hrw) hx41) hx44 hrw) hx46 hrw) hx49 (by omega)), ⟨hO2, hO4, hO5, hpc, by omega⟩⟩
    · refine LO.go rfl rfl (OW.allocO (cs := [i64 0, i64 0, i64 0, i64 0, i64 0, i64 0, i64 0, i64 0, i64 0, i64 0, i64 0, i64 0, i64 0, .slice none 0 0, .slice none 0 0, .slice none 0 0, .slice none 0 0]) Try.zeroValue26 rfl ?_ (by decide))
      intro g5 w51 heg5 hlg5 hO5 hx53
      have := World.grownBy.size hx53
      refine ⟨⟨(Ext.trans (Ext.trans (Ext.trans (Ext.trans hx2 hx4) (Ext.store hx7 hx10 (by omega))) (Ext.drew _)) hx53), (hO4.ext (Ext.trans (Ext.drew _) hx53))⟩, ?_⟩
      refine WO.l ?_
      refine LO.go rfl rfl (OW.enter rfl (by decide) (X.call Try.call60 (evl_cons rfl evl_nil)) (rInt_ok vr D _ l _ _ _ _ (hp1.ext (Ext.trans (Ext.drew _) hx53))) ?_)
      rintro v55 wq1 ⟨rfl, ⟨a1, left1, hq1⟩, hx56⟩
      have := World.grownBy.size hx56
      replace hO2 := (hO2.ext (Ext.trans (Ext.drew _) hx53)).keptR hx56 (fun b hb => by have := hrl b hb; omega)
      replace hO4 := (hO4.ext (Ext.trans (Ext.drew _) hx53)).keptR hx56 (fun b hb => by have := hrl b hb; omega)
      replace hO5 := hO5.keptR hx56 (fun b hb => by have := hrl b hb; omega)
      refine ⟨⟨(grown_trans (Ext.trans (Ext.trans (Ext.trans (Ext.trans hx2 hx4) (Ext.store hx7 hx10 (by omega))) (Ext.drew _)) hx53) hx56 hrw), hO4⟩, ?_⟩
      refine WO.l ?_
      refine LO.go rfl rfl (OW.enter rfl (by decide) (X.call Try.call60 (evl_cons rfl evl_nil)) (rInt_ok vr D _ l _ _ _ _ (hq1.ext (Ext.refl wq1))) ?_)
      rintro v57 wq2 ⟨rfl, ⟨a2, left2, hq2⟩, hx58⟩
      have := World.grownBy.size hx58
      replace hO2 := hO2.keptR hx58 (fun b hb => by have := hrl b hb; omega)
      replace hO4 := hO4.keptR hx58 (fun b hb => by have := hrl b hb; omega)
      replace hO5 := hO5.keptR hx58 (fun b hb => by have := hrl b hb; omega)
      refine ⟨⟨(grown_trans (grown_trans (Ext.trans (Ext.trans (Ext.trans (Ext.trans hx2 hx4) (Ext.store hx7 hx10 (by omega))) (Ext.drew _)) hx53) hx56 hrw) hx58 hrw), hO4⟩, ?_⟩
      refine WO.l ?_
      refine LO.go rfl rfl (OW.enter rfl (by decide) (X.call Try.call60 (evl_cons rfl evl_nil)) (rInt_ok vr D _ l _ _ _ _ (hq2.ext (Ext.refl wq2))) ?_)
      rintro v59 wq3 ⟨rfl, ⟨a3, left3, hq3⟩, hx60⟩
      have := World.grownBy.size hx60
      replace hO2 := hO2.keptR hx60 (fun b hb => by have := hrl b hb; omega)
      replace hO4 := hO4.keptR hx60 (fun b hb => by have := hrl b hb; omega)
      replace hO5 := hO5.keptR hx60 (fun b hb => by have := hrl b hb; omega)
      refine ⟨⟨(grown_trans (grown_trans (grown_trans (Ext.trans (Ext.trans (Ext.trans (Ext.trans hx2 hx4) (Ext.store hx7 hx10 (by omega))) (Ext.drew _)) hx53) hx56 hrw) hx58 hrw) hx60 hrw), hO4⟩, ?_⟩
      refine WO.q rfl rfl rfl rfl (fun w' hE14 => (X.buildL (P := Try.prog) (t := 26) (cs := (oc (n0 l) (.slice none 0 0) (.slice none 0 0) (.slice none 0 0) (.slice none 0 0))) (evp_cons rfl (evp_cons rfl (evp_cons rfl evp_nil))) Try.type26 Try.underlying26 rfl rfl ⟨rfl, rfl, rfl, trivial⟩ rfl)) ?_
      refine WO.nil ?_
      have hq3x := hq3.ext (Ext.refl wq3)
      refine WL.op rfl (OW.storeOA hO5 rfl rfl rfl (oc_ones0 _) Try.sizeOf26 ?_)
      intro w61 hO5 hx63
      have := World.grownBy.size hx63
      replace hO2 := hO2.keptO hx63 (by omega)
      replace hO4 := hO4.keptO hx63 (by omega)
      have hpc := hq3x.kept hx63 (.inr fun e => by have := (hrl _ e).2; omega) (.inr fun e => by have := (hDl _ e).2; omega)
      refine WL.nil ?_
      refine thn_n ?_
      exact ⟨_, _, _, rfl, (by repeat (first | exact (Agree.refl _ F12) | refine Agree.put ?_ rfl | refine Agree.named hF13 ?_)), (Ext.store (grown_trans (grown_trans (grown_trans (Ext.trans (Ext.trans (Ext.trans (Ext.trans hx2 hx4) (Ext.store hx7 hx10 (by omega))) (Ext.drew _)) hx53) hx56 hrw) hx58 hrw) hx60 hrw) hx63 (by omega)), ⟨hO2, hO4, hO5, hpc, by omega⟩⟩
  · rintro fCr2 wCr2 ⟨g5, ac, leftc, e5_Cr2, hACr2, hwCr2, ⟨hO2, hO4, hO5, hpc, hg5⟩⟩
    have := World.grownBy.size hwCr2
    have hg5l := hO5.lt
    refine WF.seq ?_
    refine WF.region ?_
    refine WL.va rfl rfl rfl (X.makeFunc (evl_cons ((hACr2.eq 4).trans (congrFun hF13 4)) evl_nil)) ?_
    have hg5w : w.heap.size ≤ g5 := by omega
    have hI0 : (Blk wCr2 g5 26 (oc (getN (n0 l) (s3 l) ((offL ((n0 l).getD 0 0)).take 0)).1 (.slice none 0 0) (.slice none 0 0) (.slice none 0 0) (.slice none 0 0)) ∧ Blk wCr2 g4 76 [vr] ∧ Blk wCr2 g2 26 (oc noOp.n (.slice none 0 0) (.slice none 0 0) (.slice none 0 0) (.slice none 0 0)) ∧ (∃ aq lq, PR wCr2 B vr D l aq (getN (n0 l) (s3 l) ((offL ((n0 l).getD 0 0)).take 0)).2 lq) ∧ Ext w wCr2) := ⟨hO5, hO4, hO2, ⟨_, _, hpc⟩, hwCr2⟩
    have hIst : ∀ (j : Nat) (wa wb : World), (Blk wa g5 26 (oc (getN (n0 l) (s3 l) ((offL ((n0 l).getD 0 0)).take j)).1 (.slice none 0 0) (.slice none 0 0) (.slice none 0 0) (.slice none 0 0)) ∧ Blk wa g4 76 [vr] ∧ Blk wa g2 26 (oc noOp.n (.slice none 0 0) (.slice none 0 0) (.slice none 0 0) (.slice none 0 0)) ∧ (∃ aq lq, PR wa B vr D l aq (getN (n0 l) (s3 l) ((offL ((n0 l).getD 0 0)).take j)).2 lq) ∧ Ext w wa) → Ext wa wb → (Blk wb g5 26 (oc (getN (n0 l) (s3 l) ((offL ((n0 l).getD 0 0)).take j)).1 (.slice none 0 0) (.slice none 0 0) (.slice none 0 0) (.slice none 0 0)) ∧ Blk wb g4 76 [vr] ∧ Blk wb g2 26 (oc noOp.n (.slice none 0 0) (.slice none 0 0) (.slice none 0 0) (.slice none 0 0)) ∧ (∃ aq lq, PR wb B vr D l aq (getN (n0 l) (s3 l) ((offL ((n0 l).getD 0 0)).take j)).2 lq) ∧ Ext w wb) := fun j wa wb hh hx => ⟨hh.1.ext hx, hh.2.1.ext hx, hh.2.2.1.ext hx, (by obtain ⟨aq, lq, hq⟩ := hh.2.2.2.1; exact ⟨aq, lq, hq.ext hx⟩), Ext.trans hh.2.2.2.2 hx⟩
    have hst : ∀ L, offs ((n0 l).getD 0 0) = some L → ∀ j wq, (hj : j < L.length) → (Blk wq g5 26 (oc (getN (n0 l) (s3 l) ((offL ((n0 l).getD 0 0)).take j)).1 (.slice none 0 0) (.slice none 0 0) (.slice none 0 0) (.slice none 0 0)) ∧ Blk wq g4 76 [vr] ∧ Blk wq g2 26 (oc noOp.n (.slice none 0 0) (.slice none 0 0) (.slice none 0 0) (.slice none 0 0)) ∧ (∃ aq lq, PR wq B vr D l aq (getN (n0 l) (s3 l) ((offL ((n0 l).getD 0 0)).take j)).2 lq) ∧ Ext w wq) → Chg 0 wCr2.heap.size wCr2 wq → CloOk Try.prog (.func (.func 61) #[] [at_ g4].toArray) [.pointer (some ⟨g5, L[j], none⟩)] wq (fun _ w2 => (Blk w2 g5 26 (oc (getN (n0 l) (s3 l) ((offL ((n0 l).getD 0 0)).take (j + 1))).1 (.slice none 0 0) (.slice none 0 0) (.slice none 0 0) (.slice none 0 0)) ∧ Blk w2 g4 76 [vr] ∧ Blk w2 g2 26 (oc noOp.n (.slice none 0 0) (.slice none 0 0) (.slice none 0 0) (.slice none 0 0)) ∧ (∃ aq lq, PR w2 B vr D l aq (getN (n0 l) (s3 l) ((offL ((n0 l).getD 0 0)).take (j + 1))).2 lq) ∧ Ext w w2) ∧ Chg 0 wCr2.heap.size wq w2) := fun L hL j wq hj hh hch => by
      have hin := offs_in hL hj
      obtain ⟨k1, k2, k3, ⟨aq, lq, k4⟩, k5⟩ := hh
      have hsz := hch.size
      refine ⟨_, _, rfl, Try.call61, (getLit_ok g5 L[j] g4 _ vr D lq l aq B _ wq k1 (show L[j] < 17 by omega) k2 k4 (by omega) (fun b hb => by have := hrl b hb; omega) (fun b hb => by have := hDl b hb; omega)).mono fun _ w2 h2 => ?_⟩
      obtain ⟨m1, m2, ⟨aq2, lq2, m3⟩, wm, m4, m5⟩ := h2
      refine ⟨⟨m1.cast ?_, m2, (k3.keptR m4 (fun b hb => by have := hrl b hb; omega)).kept m5 (fun e => by injection e with e; omega), ⟨aq2, lq2, ?_⟩, Ext.store (grown_trans k5 m4 hrw) m5 hg5w⟩, Chg.trans (Chg.of m4 fun b hb => by have := hrl b hb; omega) (Chg.of m5 (fun q hq => by injection hq with hq; subst hq; exact ⟨Nat.zero_le _, by omega⟩))⟩
      · rw [offL_eq hL, getN_snoc hj]
        exact oc_set _ (by rw [getN_len]; rfl) (by omega)
      · rw [offL_eq hL] at m3 ⊢
        rw [getN_snoc hj]; exact m3
    refine WL.c rfl rfl rfl (X.call Try.call34 (evl_cons e5_Cr2 (evl_cons rfl evl_nil))) (numbers_ok g5 _ ((n0 l).getD 0 0) _ _ (fun j wq => (Blk wq g5 26 (oc (getN (n0 l) (s3 l) ((offL ((n0 l).getD 0 0)).take j)).1 (.slice none 0 0) (.slice none 0 0) (.slice none 0 0) (.slice none 0 0)) ∧ Blk wq g4 76 [vr] ∧ Blk wq g2 26 (oc noOp.n (.slice none 0 0) (.slice none 0 0) (.slice none 0 0) (.slice none 0 0)) ∧ (∃ aq lq, PR wq B vr D l aq (getN (n0 l) (s3 l) ((offL ((n0 l).getD 0 0)).take j)).2 lq) ∧ Ext w wq)) hO5 rfl hI0 hIst hst) ?_
    rintro _ wn ⟨rfl, hq1, hq2, hcg⟩
    obtain ⟨hO5, hO4, hO2, ⟨a6, left6, hp6⟩, hxz⟩ := offs_end (I := (fun j wq => (Blk wq g5 26 (oc (getN (n0 l) (s3 l) ((offL ((n0 l).getD 0 0)).take j)).1 (.slice none 0 0) (.slice none 0 0) (.slice none 0 0) (.slice none 0 0)) ∧ Blk wq g4 76 [vr] ∧ Blk wq g2 26 (oc noOp.n (.slice none 0 0) (.slice none 0 0) (.slice none 0 0) (.slice none 0 0)) ∧ (∃ aq lq, PR wq B vr D l aq (getN (n0 l) (s3 l) ((offL ((n0 l).getD 0 0)).take j)).2 lq) ∧ Ext w wq))) hq1 hq2 hI0 hIst
    rw [List.take_length] at hO5 hp6
    have := World.grownBy.size hxz
    have hg5n := hO5.lt
    have hle6 : ((getN (n0 l) (s3 l) (offL ((n0 l).getD 0 0))).2).left.length ≤ l.length := Nat.le_trans (getN_le _ _ _) (s3_le l)
    have hlN : ((getN (n0 l) (s3 l) (offL ((n0 l).getD 0 0))).1).length = 13 := by rw [getN_len]; rfl
    have hrN := getN_rng (offL ((n0 l).getD 0 0)) (n0 l) (s3 l) (n0_rng l)
    refine WL.va rfl rfl rfl (X.assignB rfl) ?_
    refine WL.nil ?_
    refine thn_n ?_
    refine WF.named (fun F69 hF70 => ?_)
    refine WF.cut (fun f' w' => ∃ (bF : Bool) (oF : Od) (vPF vRF vWF vDF : Value), f' 6 = .bool bF ∧ Agree [0, 2, 3, 4, 5, 9, 10, 18, 19] f' F69 ∧ Ext w w' ∧ Blk w' g2 26 (oc noOp.n (.slice none 0 0) (.slice none 0 0) (.slice none 0 0) (.slice none 0 0)) ∧ Blk w' g5 26 (oc oF.n vPF vRF vWF vDF) ∧ Blk w' g4 76 [vr] ∧ (bF = false → got l = (noOp, 4)) ∧ (bF = true → (offs ((n0 l).getD 0 0)).isSome = true ∧ ∃ sF aF leftF, PR w' B vr D l aF sF leftF ∧ (getB (getN (n0 l) (s3 l) (offL ((n0 l).getD 0 0))).1 (getN (n0 l) (s3 l) (offL ((n0 l).getD 0 0))).2 = some (oF, sF) ∨ (getB (getN (n0 l) (s3 l) (offL ((n0 l).getD 0 0))).1 (getN (n0 l) (s3 l) (offL ((n0 l).getD 0 0))).2 = none ∧ sF.bad = true)) ∧ OpG w' w1.heap.size vPF vRF vWF vDF oF ∧ Od.small oF)) ?_ ?_
    · refine WF.seq ?_
      refine WF.region ?_
      refine WL.va rfl rfl rfl (X.fieldAddrO (off := 0) ((congrFun hF70 5).trans e5_Cr2) Try.underlying26 rfl rfl Try.sizeOf3) ?_
      refine WL.va rfl rfl rfl (X.loadO hO5 (Ext.refl _) rfl rfl Try.isAgg3) ?_
      refine WL.nil ?_
      refine thn_n ?_
      refine WF.block ?_
      refine WF.seq ?_
      refine WF.region ?_
      refine WL.va rfl rfl rfl (X.eql rfl rfl) ?_
      refine WL.va rfl rfl rfl (X.assignB rfl) ?_
      refine WL.nil ?_
      refine thn_n ?_
      refine WF.cond rfl (fun h0_71 => ?_) (fun h0_71 => ?_)
      · have gh0_71 := (of_decide_eq_true h0_71)
        have hk2 : (getN (n0 l) (s3 l) (offL ((n0 l).getD 0 0))).1.getD 0 0 = 2 := gh0_71
        refine WF.seq ?_
        refine WF.drawn (.q 0 (.q 2 (.l 1 (.l 3 (.q 4 .nil))))) (fun w' => Ext w w' ∧ Blk w' g4 76 [vr]) 5 (by kernel_rfl) (by kernel_rfl) ⟨Ext.trans (hxz) (Ext.drew _), (hO4).ext (Ext.drew _)⟩ ?_
        have := World.grownBy.size (Ext.drew wn)
        refine WO.q rfl rfl rfl rfl (fun w' hE73 => (X.loadO (off := 0) hE73.2 (Ext.refl _) ((congrFun hF70 4).trans ((hACr2.eq 4).trans (congrFun hF13 4))) rfl Try.isAgg76)) ?_
        refine WO.q rfl rfl rfl rfl (fun w' hE73 => (X.loadO (off := 0) hE73.2 (Ext.refl _) ((congrFun hF70 4).trans ((hACr2.eq 4).trans (congrFun hF13 4))) rfl Try.isAgg76)) ?_
        refine WO.l ?_
        refine LO.go rfl rfl (OW.enter rfl (by decide) (X.call Try.call62 (evl_cons rfl evl_nil)) (rInts_ok vr D _ l _ _ _ _ (hp6.ext (Ext.drew _))) ?_)
        rintro vP wq5 ⟨⟨a7, left7, oP0, hp7⟩, hx74⟩
        have := World.grownBy.size hx74
        replace hO2 := (hO2.ext (Ext.drew _)).keptR hx74 (fun b hb => by have := hrl b hb; omega)
        replace hO4 := (hO4.ext (Ext.drew _)).keptR hx74 (fun b hb => by have := hrl b hb; omega)
        replace hO5 := (hO5.ext (Ext.drew _)).keptR hx74 (fun b hb => by have := hrl b hb; omega)
        refine ⟨⟨(grown_trans (Ext.trans (hxz) (Ext.drew _)) hx74 hrw), hO4⟩, ?_⟩
        have oP := OwnT.of oP0
        refine WO.l ?_
        refine LO.go rfl rfl (OW.enter rfl (by decide) (X.call Try.call62 (evl_cons rfl evl_nil)) (rInts_ok vr D _ l _ _ _ _ (hp7.ext (Ext.refl wq5))) ?_)
        rintro vR wq6 ⟨⟨a8, left8, oR0, hp8⟩, hx75⟩
        have := World.grownBy.size hx75
        replace hO2 := hO2.keptR hx75 (fun b hb => by have := hrl b hb; omega)
        replace hO4 := hO4.keptR hx75 (fun b hb => by have := hrl b hb; omega)
        replace hO5 := hO5.keptR hx75 (fun b hb => by have := hrl b hb; omega)
        replace oP := oP.kept hx75 (fun b hb => by have := hrl b hb; omega)
        refine ⟨⟨(grown_trans (grown_trans (Ext.trans (hxz) (Ext.drew _)) hx74 hrw) hx75 hrw), hO4⟩, ?_⟩
        have oR := OwnT.of oR0
        refine WO.q rfl rfl rfl rfl (fun w' hE73 => (X.fieldAddrO (off := 13) ((congrFun hF70 5).trans e5_Cr2) Try.underlying26 rfl rfl Try.sizeOf22)) ?_
        refine WO.nil ?_
        refine WL.op rfl (OW.storeO hO5 (Nat.le_of_ble_eq_true rfl) rfl rfl (own_one oP.own) Try.sizeOf22 ?_)
        intro w76 hO5 hx78
        have := World.grownBy.size hx78
        replace hO2 := hO2.keptO hx78 (by omega)
        replace hO4 := hO4.keptO hx78 (by omega)
        replace oP := oP.keptO hx78 (by omega)
        replace oR := oR.keptO hx78 (by omega)
        replace hO5 : Blk _ _ _ (oc (getN (n0 l) (s3 l) (offL ((n0 l).getD 0 0))).1 vP (.slice none 0 0) (.slice none 0 0) (.slice none 0 0)) := hO5
        have hp9 := hp8.kept hx78 (.inr fun e => by have := (hrl _ e).2; omega) (.inr fun e => by have := (hDl _ e).2; omega)
        refine WL.va rfl rfl rfl (X.fieldAddrO (off := 14) ((congrFun hF70 5).trans e5_Cr2) Try.underlying26 rfl rfl Try.sizeOf22) ?_
        refine WL.op rfl (OW.storeO hO5 (Nat.le_of_ble_eq_true rfl) rfl rfl (own_one oR.own) Try.sizeOf22 ?_)
        intro w80 hO5 hx82
        have := World.grownBy.size hx82
        replace hO2 := hO2.keptO hx82 (by omega)
        replace hO4 := hO4.keptO hx82 (by omega)
        replace oP := oP.keptO hx82 (by omega)
        replace oR := oR.keptO hx82 (by omega)
        replace hO5 : Blk _ _ _ (oc (getN (n0 l) (s3 l) (offL ((n0 l).getD 0 0))).1 vP vR (.slice none 0 0) (.slice none 0 0)) := hO5
        have hp10 := hp9.kept hx82 (.inr fun e => by have := (hrl _ e).2; omega) (.inr fun e => by have := (hDl _ e).2; omega)
        refine WL.nil ?_
        refine thn_n ?_
        refine WF.seq ?_
        refine WF.region ?_
        refine WL.va rfl rfl rfl (X.assignB rfl) ?_
        refine WL.nil ?_
        refine thn_n ?_
        refine WF.seq ?_
        refine WF.region ?_
        refine WL.va rfl rfl rfl (X.loadO hO4 (Ext.refl _) ((congrFun hF70 4).trans ((hACr2.eq 4).trans (congrFun hF13 4))) rfl Try.isAgg76) ?_
        refine WL.c rfl rfl rfl (X.call Try.call63 (evl_cons rfl evl_nil)) (writes_ok vr D _ l _ B _ _ hp10 hl) ?_
        rintro vws wq7 ⟨⟨vW, okw, rfl, oneW, hwf, hwt⟩, hx85⟩
        have := World.grownBy.size hx85
        replace hO2 := hO2.keptR hx85 (fun b hb => by have := hrl b hb; omega)
        replace hO4 := hO4.keptR hx85 (fun b hb => by have := hrl b hb; omega)
        replace hO5 := hO5.keptR hx85 (fun b hb => by have := hrl b hb; omega)
        replace oP := oP.kept hx85 (fun b hb => by have := hrl b hb; omega)
        replace oR := oR.kept hx85 (fun b hb => by have := hrl b hb; omega)
        refine WL.va rfl rfl rfl (X.move rfl) ?_
        refine WL.va rfl rfl rfl (X.extract rfl rfl) ?_
        refine WL.va rfl rfl rfl (X.extract rfl rfl) ?_
        refine WL.va rfl rfl rfl (X.fieldAddrO (off := 15) ((congrFun hF70 5).trans e5_Cr2) Try.underlying26 rfl rfl Try.sizeOf23) ?_
        refine WL.op rfl (OW.storeO hO5 (Nat.le_of_ble_eq_true rfl) rfl rfl oneW Try.sizeOf23 ?_)
        intro w87 hO5 hx89
        have := World.grownBy.size hx89
        replace hO2 := hO2.keptO hx89 (by omega)
        replace hO4 := hO4.keptO hx89 (by omega)
        replace oP := oP.keptO hx89 (by omega)
        replace oR := oR.keptO hx89 (by omega)
        replace hO5 : Blk _ _ _ (oc (getN (n0 l) (s3 l) (offL ((n0 l).getD 0 0))).1 vP vR vW (.slice none 0 0)) := hO5
        have gS := hx89
        let oF : Od := (⟨(getN (n0 l) (s3 l) (offL ((n0 l).getD 0 0))).1, (getN (n0 l) (s3 l) (offL ((n0 l).getD 0 0))).2.ints.1, (getN (n0 l) (s3 l) (offL ((n0 l).getD 0 0))).2.ints.2.ints.1, (rdW (getN (n0 l) (s3 l) (offL ((n0 l).getD 0 0))).2.ints.2.ints.2.int.2 (getN (n0 l) (s3 l) (offL ((n0 l).getD 0 0))).2.ints.2.ints.2.int.1.toNat).1, []⟩ : Od)
        let vPF : Value := vP
        let vRF : Value := vR
        let vWF : Value := vW
        let vDF : Value := (.slice none 0 0)
        have hF2 : okw = false → (offs ((n0 l).getD 0 0)).isSome = true → got l = (noOp, 4) := fun q hs => by rw [got_s hs, getB_two hk2, getL_none (hwf q)]; rfl
        have hT2 : okw = true → ∃ sF aF leftF, PR w87 B vr D l aF sF leftF ∧ (getB (getN (n0 l) (s3 l) (offL ((n0 l).getD 0 0))).1 (getN (n0 l) (s3 l) (offL ((n0 l).getD 0 0))).2 = some (oF, sF) ∨ (getB (getN (n0 l) (s3 l) (offL ((n0 l).getD 0 0))).1 (getN (n0 l) (s3 l) (offL ((n0 l).getD 0 0))).2 = none ∧ sF.bad = true)) ∧ OpG w87 w1.heap.size vPF vRF vWF vDF oF ∧ Od.small oF := fun q => by
          obtain ⟨hc, E, hE, oW, hsg, a9, left9, hp11⟩ := hwt q
          have hp12 := hp11.kept gS (.inr fun e => by have := (hrl _ e).2; omega) (.inr fun e => by have := (hDl _ e).2; omega)
          have oW2 := own_keptO oW gS (.inl (by omega))
          have le1 := ints_le (getN (n0 l) (s3 l) (offL ((n0 l).getD 0 0))).2
          have le2 := ints_le ((getN (n0 l) (s3 l) (offL ((n0 l).getD 0 0))).2).ints.2
          have le3 := int_le ((getN (n0 l) (s3 l) (offL ((n0 l).getD 0 0))).2).ints.2.ints.2
          have le4 := rdW_le ((getN (n0 l) (s3 l) (offL ((n0 l).getD 0 0))).2).ints.2.ints.2.int.2 ((getN (n0 l) (s3 l) (offL ((n0 l).getD 0 0))).2).ints.2.ints.2.int.1.toNat
          refine ⟨_, _, _, hp12, (by rw [getB_two hk2]; exact getL_some hc), ?_, ?_⟩
          · exact ⟨hlN, hrN, own_mono oP.own (by omega), own_mono oR.own (by omega), ⟨D, l, E, hE, own_mono oW2 (by omega), hsg, own_mono hp12.own (by omega), ⟨0, 0, Seg.nil _ _, Nat.zero_le _, rfl⟩, (fun k h1 h2 => by have := (oP.own.lt k h1).1; have := hDl k h2; omega), (fun k h1 h2 => by have := (oR.own.lt k h1).1; have := hDl k h2; omega), (fun k h1 h2 => by have := (oW2.lt k h1).1; have := hDl k h2; omega)⟩, (fun k h1 h2 => by have := oP.top k h1; have := (oR.own.lt k h2).1; omega), (fun k h1 h2 => by have := oP.top k h1; have := (oW2.lt k h2).1; omega), (fun k h1 h2 => by have := oR.top k h1; have := (oW2.lt k h2).1; omega)⟩
          · exact ⟨(by show ((getN (n0 l) (s3 l) (offL ((n0 l).getD 0 0))).2).ints.1.length ≤ _; omega), (by show ((getN (n0 l) (s3 l) (offL ((n0 l).getD 0 0))).2).ints.2.ints.1.length ≤ _; omega), (by show (rdW _ _).1.length ≤ _; rw [rdW_len]; omega), Nat.zero_le _, fun x hx => by have := le4.2 x hx; omega⟩
        refine WL.va rfl rfl rfl (X.assignB rfl) ?_
        refine WL.nil ?_
        refine thn_n ?_
        refine WF.region ?_
        refine WL.va rfl rfl rfl (X.moveB (congrFun hF70 6)) ?_
        refine WL.va rfl rfl rfl (X.moveB rfl) ?_
        refine WL.split (j := 1) rfl (fun h91 => ?_) (fun h91 => ?_)
        · have gh91 := h91
          have hIV : (okw = false → got l = (noOp, 4)) ∧ (okw = true → (offs ((n0 l).getD 0 0)).isSome = true ∧ ∃ sF aF leftF, PR w87 B vr D l aF sF leftF ∧ (getB (getN (n0 l) (s3 l) (offL ((n0 l).getD 0 0))).1 (getN (n0 l) (s3 l) (offL ((n0 l).getD 0 0))).2 = some (oF, sF) ∨ (getB (getN (n0 l) (s3 l) (offL ((n0 l).getD 0 0))).1 (getN (n0 l) (s3 l) (offL ((n0 l).getD 0 0))).2 = none ∧ sF.bad = true)) ∧ OpG w87 w1.heap.size vPF vRF vWF vDF oF ∧ Od.small oF) := ⟨fun q => hF2 q gh91, fun q => ⟨gh91, hT2 q⟩⟩
          refine WL.vg rfl (congrArg some h91) rfl rfl (X.moveB rfl) ?_
          refine WL.va rfl rfl rfl (X.pickT rfl h91 rfl) ?_
          refine WL.va rfl rfl rfl (X.assignB rfl) ?_
          refine WL.nil ?_
          refine blk_n ?_
          refine thn_n ?_
          exact ⟨_, oF, vPF, vRF, vWF, vDF, rfl, (by repeat (first | exact (Agree.refl _ F69) | refine Agree.put ?_ rfl | refine Agree.sub hACr2 rfl ?_ | refine Agree.named hF70 ?_ | refine Agree.named hF13 ?_)), (Ext.store (grown_trans (Ext.store (Ext.store (grown_trans (grown_trans (Ext.trans (hxz) (Ext.drew _)) hx74 hrw) hx75 hrw) hx78 (by omega)) hx82 (by omega)) hx85 hrw) hx89 (by omega)), ⟨hO2, hO5, hO4, hIV⟩⟩
        · have gh91 := h91
          have hIV : (false = false → got l = (noOp, 4)) ∧ (false = true → (offs ((n0 l).getD 0 0)).isSome = true ∧ ∃ sF aF leftF, PR w87 B vr D l aF sF leftF ∧ (getB (getN (n0 l) (s3 l) (offL ((n0 l).getD 0 0))).1 (getN (n0 l) (s3 l) (offL ((n0 l).getD 0 0))).2 = some (oF, sF) ∨ (getB (getN (n0 l) (s3 l) (offL ((n0 l).getD 0 0))).1 (getN (n0 l) (s3 l) (offL ((n0 l).getD 0 0))).2 = none ∧ sF.bad = true)) ∧ OpG w87 w1.heap.size vPF vRF vWF vDF oF ∧ Od.small oF) := ⟨fun _ => got_n1 gh91, fun q => (by cases q)⟩
          refine WL.p rfl rfl rfl (congrArg some h91) ?_
          refine WL.va rfl rfl rfl (X.pickF rfl h91 rfl) ?_
          refine WL.va rfl rfl rfl (X.assignB rfl) ?_
          refine WL.nil ?_
          refine blk_n ?_
          refine thn_n ?_
          exact ⟨_, oF, vPF, vRF, vWF, vDF, rfl, (by repeat (first | exact (Agree.refl _ F69) | refine Agree.put ?_ rfl | refine Agree.sub hACr2 rfl ?_ | refine Agree.named hF70 ?_ | refine Agree.named hF13 ?_)), (Ext.store (grown_trans (Ext.store (Ext.store (grown_trans (grown_trans (Ext.trans (hxz) (Ext.drew _)) hx74 hrw) hx75 hrw) hx78 (by omega)) hx82 (by omega)) hx85 hrw) hx89 (by omega)), ⟨hO2, hO5, hO4, hIV⟩⟩
      · have gh0_71 := (of_decide_eq_false h0_71)
        have hk2 : (getN (n0 l) (s3 l) (offL ((n0 l).getD 0 0))).1.getD 0 0 ≠ 2 := gh0_71
        refine WF.seq ?_
        refine WF.region ?_
        refine WL.va rfl rfl rfl (X.eql rfl rfl) ?_
        refine WL.va rfl rfl rfl (X.assignB rfl) ?_
        refine WL.nil ?_
        refine thn_n ?_
        refine WF.cond rfl (fun h1_93 => ?_) (fun h1_93 => ?_)
        · have gh1_93 := (of_decide_eq_true h1_93)
          have hk6 : (getN (n0 l) (s3 l) (offL ((n0 l).getD 0 0))).1.getD 0 0 = 6 := gh1_93
          refine WF.region ?_
          refine WL.va rfl rfl rfl (X.loadO hO4 (Ext.refl _) ((congrFun hF70 4).trans ((hACr2.eq 4).trans (congrFun hF13 4))) rfl Try.isAgg76) ?_
          refine WL.c rfl rfl rfl (X.call Try.call64 (evl_cons rfl evl_nil)) (rBlob_ok vr D _ l _ _ _ _ hp6) ?_
          rintro vB wq8 ⟨⟨a8, a9, left8, hs8, hb8, hp8⟩, hx95⟩
          have := World.grownBy.size hx95
          replace hO2 := hO2.keptR hx95 (fun b hb => by have := hrl b hb; omega)
          replace hO4 := hO4.keptR hx95 (fun b hb => by have := hrl b hb; omega)
          replace hO5 := hO5.keptR hx95 (fun b hb => by have := hrl b hb; omega)
          refine WL.va rfl rfl rfl (X.fieldAddrO (off := 16) ((congrFun hF70 5).trans e5_Cr2) Try.underlying26 rfl rfl Try.sizeOf24) ?_
          refine WL.op rfl (OW.storeO hO5 (Nat.le_of_ble_eq_true rfl) rfl rfl (Row.one hb8) Try.sizeOf24 ?_)
          intro w96 hO5 hx98
          have := World.grownBy.size hx98
          replace hO2 := hO2.keptO hx98 (by omega)
          replace hO4 := hO4.keptO hx98 (by omega)
          replace hO5 : Blk _ _ _ (oc (getN (n0 l) (s3 l) (offL ((n0 l).getD 0 0))).1 (.slice none 0 0) (.slice none 0 0) (.slice none 0 0) vB) := hO5
          have gS := hx98
          let oF : Od := (⟨(getN (n0 l) (s3 l) (offL ((n0 l).getD 0 0))).1, [], [], [], (getN (n0 l) (s3 l) (offL ((n0 l).getD 0 0))).2.blob.1⟩ : Od)
          let vPF : Value := (.slice none 0 0)
          let vRF : Value := (.slice none 0 0)
          let vWF : Value := (.slice none 0 0)
          let vDF : Value := vB
          have hp9 := hp8.kept gS (.inr fun e => by have := (hrl _ e).2; omega) (.inr fun e => by have := (hDl _ e).2; omega)
          have le1 := blob_le (getN (n0 l) (s3 l) (offL ((n0 l).getD 0 0))).2
          have hle9 : a9 ≤ l.length := by have := hp8.inn; omega
          have hIV : ((offs ((n0 l).getD 0 0)).isSome = false → got l = (noOp, 4)) ∧ ((offs ((n0 l).getD 0 0)).isSome = true → (offs ((n0 l).getD 0 0)).isSome = true ∧ ∃ sF aF leftF, PR w96 B vr D l aF sF leftF ∧ (getB (getN (n0 l) (s3 l) (offL ((n0 l).getD 0 0))).1 (getN (n0 l) (s3 l) (offL ((n0 l).getD 0 0))).2 = some (oF, sF) ∨ (getB (getN (n0 l) (s3 l) (offL ((n0 l).getD 0 0))).1 (getN (n0 l) (s3 l) (offL ((n0 l).getD 0 0))).2 = none ∧ sF.bad = true)) ∧ OpG w96 w1.heap.size vPF vRF vWF vDF oF ∧ Od.small oF) := ⟨fun q => got_n1 q, fun q => ⟨q, _, _, _, hp9, .inl (getB_six hk6), ⟨hlN, hrN, World.ownsRow_nil _ _ _ _, World.ownsRow_nil _ _ _ _, ⟨D, l, [], rfl, WOwnR.nil _ _, SegD.nil _ _, own_mono hp9.own (by omega), ⟨a8, a9, hs8, hle9, Bytes.inj hb8 (seg_bytes hs8 hp8.own hle9)⟩, apart_nil _, apart_nil _, apart_nil _⟩, apart_nil _, apart_nil _, apart_nil _⟩, ⟨Nat.zero_le _, Nat.zero_le _, Nat.zero_le _, (by show ((getN (n0 l) (s3 l) (offL ((n0 l).getD 0 0))).2).blob.1.length ≤ _; omega), fun x hx => by cases hx⟩⟩⟩
          refine WL.nil ?_
          refine blk_n ?_
          refine thn_n ?_
          exact ⟨_, oF, vPF, vRF, vWF, vDF, (congrFun hF70 6), (by repeat (first | exact (Agree.refl _ F69) | refine Agree.put ?_ rfl | refine Agree.sub hACr2 rfl ?_ | refine Agree.named hF70 ?_ | refine Agree.named hF13 ?_)), (Ext.store (grown_trans (hxz) hx95 hrw) hx98 (by omega)), ⟨hO2, hO5, hO4, hIV⟩⟩
        · have gh1_93 := (of_decide_eq_false h1_93)
          have hk6 : (getN (n0 l) (s3 l) (offL ((n0 l).getD 0 0))).1.getD 0 0 ≠ 6 := gh1_93
          let oF : Od := (⟨(getN (n0 l) (s3 l) (offL ((n0 l).getD 0 0))).1, [], [], [], []⟩ : Od)
          let vPF : Value := (.slice none 0 0)
          let vRF : Value := (.slice none 0 0)
          let vWF : Value := (.slice none 0 0)
          let vDF : Value := (.slice none 0 0)
          have hIV : ((offs ((n0 l).getD 0 0)).isSome = false → got l = (noOp, 4)) ∧ ((offs ((n0 l).getD 0 0)).isSome = true → (offs ((n0 l).getD 0 0)).isSome = true ∧ ∃ sF aF leftF, PR wn B vr D l aF sF leftF ∧ (getB (getN (n0 l) (s3 l) (offL ((n0 l).getD 0 0))).1 (getN (n0 l) (s3 l) (offL ((n0 l).getD 0 0))).2 = some (oF, sF) ∨ (getB (getN (n0 l) (s3 l) (offL ((n0 l).getD 0 0))).1 (getN (n0 l) (s3 l) (offL ((n0 l).getD 0 0))).2 = none ∧ sF.bad = true)) ∧ OpG wn w1.heap.size vPF vRF vWF vDF oF ∧ Od.small oF) := ⟨fun q => got_n1 q, fun q => ⟨q, _, _, _, hp6, .inl (getB_else hk2 hk6), ⟨hlN, hrN, World.ownsRow_nil _ _ _ _, World.ownsRow_nil _ _ _ _, ⟨D, l, [], rfl, WOwnR.nil _ _, SegD.nil _ _, own_mono hp6.own (by omega), ⟨0, 0, Seg.nil _ _, Nat.zero_le _, rfl⟩, apart_nil _, apart_nil _, apart_nil _⟩, apart_nil _, apart_nil _, apart_nil _⟩, ⟨Nat.zero_le _, Nat.zero_le _, Nat.zero_le _, Nat.zero_le _, fun x hx => by cases hx⟩⟩⟩
          refine WF.skip ?_
          refine blk_n ?_
          refine thn_n ?_
          exact ⟨_, oF, vPF, vRF, vWF, vDF, (congrFun hF70 6), (by repeat (first | exact (Agree.refl _ F69) | refine Agree.put ?_ rfl | refine Agree.sub hACr2 rfl ?_ | refine Agree.named hF70 ?_ | refine Agree.named hF13 ?_)), (hxz), ⟨hO2, hO5, hO4, hIV⟩⟩
    · rintro fCs4 wCs4 ⟨bF, oF, vPF, vRF, vWF, vDF, e6_Cs4, hACs4, hwCs4, ⟨hO2, hO5, hO4, hIF, hIT⟩⟩
      have := World.grownBy.size hwCs4
      refine WF.seq ?_
      refine WF.seq ?_
      refine WF.region ?_
      refine WL.va rfl rfl rfl (X.moveB e6_Cs4) ?_
      refine WL.va rfl rfl rfl (X.not rfl) ?_
      refine WL.nil ?_
      refine thn_n ?_
      refine WF.cond rfl (fun h2_101 => ?_) (fun h2_101 => ?_)
      · have gh2_101 := (nt h2_101)
        refine WF.seq ?_
        refine WF.region ?_
        refine WL.va rfl rfl rfl (X.buildL (P := Try.prog) (t := 26) (cs := (oc noOp.n (.slice none 0 0) (.slice none 0 0) (.slice none 0 0) (.slice none 0 0))) evp_nil Try.type26 Try.underlying26 rfl rfl trivial rfl) ?_
        refine WL.op rfl (OW.storeOA hO2 ((hACs4.eq 2).trans ((congrFun hF70 2).trans ((hACr2.eq 2).trans (congrFun hF13 2)))) rfl rfl (oc_ones0 _) Try.sizeOf26 ?_)
        intro w103 hO2 hx105
        have := World.grownBy.size hx105
        replace hO4 := hO4.keptO hx105 (by omega)
        replace hO5 := hO5.keptO hx105 (by omega)
        refine WL.va rfl rfl rfl (X.assignI rfl) ?_
        refine WL.nil ?_
        refine thn_n ?_
        refine WF.ret ?_
        refine thn_r ?_
        refine finC_r (vs := [_, _]) ⟨⟨_, ((hACs4.eq 2).trans ((congrFun hF70 2).trans ((hACr2.eq 2).trans (congrFun hF13 2)))), readO hO2 Try.isAgg26 Try.sizeOf26⟩, rfl, trivial⟩ ?_
        rw [hIF (by assumption)]
        exact ⟨⟨_, _, _, _, rfl, noOp_own _ _⟩, (Ext.store hwCs4 hx105 (by omega))⟩
      · have gh2_101 := (nf h2_101)
        obtain ⟨hsm, sF, aF, leftF, hpF, hgB, hGF, hsF⟩ := hIT gh2_101
        have hgs := got_s hsm
        refine WF.skip ?_
        refine thn_n ?_
        refine WF.seq ?_
        refine WF.region ?_
        refine WL.va rfl rfl rfl (X.loadO hO4 (Ext.refl _) ((hACs4.eq 4).trans ((congrFun hF70 4).trans ((hACr2.eq 4).trans (congrFun hF13 4)))) rfl Try.isAgg76) ?_
        refine WL.c rfl rfl rfl (X.call Try.call65 (evl_cons rfl evl_nil)) (rEnd_ok vr D _ l _ _ _ _ hpF) ?_
        rintro v108 w107 ⟨rfl, rfl⟩
        refine WL.va rfl rfl rfl (X.assignI rfl) ?_
        refine WL.nil ?_
        refine thn_n ?_
        refine WF.seq ?_
        refine WF.seq ?_
        refine WF.region ?_
        refine WL.va rfl rfl rfl (X.moveI rfl) ?_
        refine WL.va rfl rfl rfl (X.eql rfl rfl) ?_
        refine WL.nil ?_
        refine thn_n ?_
        refine WF.cond rfl (fun h3_110 => ?_) (fun h3_110 => ?_)
        · have gh3_110 := (of_decide_eq_true h3_110)
          refine WF.region ?_
          refine WL.va rfl rfl rfl (X.loadOA hO5 (Ext.refl _) ((hACs4.eq 5).trans ((congrFun hF70 5).trans e5_Cr2)) rfl Try.isAgg26 Try.sizeOf26) ?_
          refine WL.c rfl rfl rfl (X.call Try.call14 (evl_cons rfl evl_nil)) (check_ok vPF vRF vWF vDF oF _ hGF.at hsF) ?_
          rintro v113 w112 ⟨rfl, hx114⟩
          have := World.grownBy.size hx114
          refine WL.va rfl rfl rfl (X.assignI rfl) ?_
          refine WL.nil ?_
          refine thn_n ?_
          refine WF.seq ?_
          refine WF.seq ?_
          refine WF.region ?_
          refine WL.va rfl rfl rfl (X.moveI rfl) ?_
          refine WL.va rfl rfl rfl (X.neq rfl rfl) ?_
          refine WL.nil ?_
          refine thn_n ?_
          refine WF.cond rfl (fun h4_115 => ?_) (fun h4_115 => ?_)
          · have gh4_115 := (of_decide_eq_true h4_115)
            refine WF.seq ?_
            refine WF.region ?_
            refine WL.va rfl rfl rfl (X.buildL (P := Try.prog) (t := 26) (cs := (oc noOp.n (.slice none 0 0) (.slice none 0 0) (.slice none 0 0) (.slice none 0 0))) evp_nil Try.type26 Try.underlying26 rfl rfl trivial rfl) ?_
            refine WL.va rfl rfl rfl (X.moveI rfl) ?_
            refine WL.op rfl (OW.storeOA (hO2.ext hx114) ((hACs4.eq 2).trans ((congrFun hF70 2).trans ((hACr2.eq 2).trans (congrFun hF13 2)))) rfl rfl (oc_ones0 _) Try.sizeOf26 ?_)
            intro w117 hO2 hx119
            have := World.grownBy.size hx119
            replace hO4 := (hO4.ext hx114).keptO hx119 (by omega)
            replace hO5 := (hO5.ext hx114).keptO hx119 (by omega)
            refine WL.va rfl rfl rfl (X.assignI rfl) ?_
            refine WL.nil ?_
            refine thn_n ?_
            refine WF.ret ?_
            refine thn_r ?_
            refine finC_r (vs := [_, _]) ⟨⟨_, ((hACs4.eq 2).trans ((congrFun hF70 2).trans ((hACr2.eq 2).trans (congrFun hF13 2)))), readO hO2 Try.isAgg26 Try.sizeOf26⟩, rfl, trivial⟩ ?_
            first | (rw [hgs, fin_chk hgB (by assumption) (by assumption)]; exact ⟨⟨_, _, _, _, rfl, noOp_own _ _⟩, (Ext.store (Ext.trans hwCs4 hx114) hx119 (by omega))⟩) | (rw [hgs, fin_err hgB (by assumption)]; exact ⟨⟨_, _, _, _, rfl, noOp_own _ _⟩, (Ext.store (Ext.trans hwCs4 hx114) hx119 (by omega))⟩)
          · have gh4_115 := (Decidable.of_not_not (of_decide_eq_false h4_115))
            refine WF.skip ?_
            refine thn_n ?_
            refine WF.seq ?_
            refine WF.region ?_
            refine WL.va rfl rfl rfl (X.loadOA hO5 hx114 ((hACs4.eq 5).trans ((congrFun hF70 5).trans e5_Cr2)) rfl Try.isAgg26 Try.sizeOf26) ?_
            have hGX := hGF.ext hx114
            refine WL.op rfl (OW.storeOA (hO2.ext hx114) ((hACs4.eq 2).trans ((congrFun hF70 2).trans ((hACr2.eq 2).trans (congrFun hF13 2)))) rfl rfl (hGF.at.ones _) Try.sizeOf26 ?_)
            intro w121 hO2 hx123
            have := World.grownBy.size hx123
            replace hO4 := (hO4.ext hx114).keptO hx123 (by omega)
            replace hO5 := (hO5.ext hx114).keptO hx123 (by omega)
            have hGN := hGX.keptO hx123 (by omega) (show w.heap.size ≤ w1.heap.size by omega)
            refine WL.va rfl rfl rfl (X.assignI rfl) ?_
            refine WL.nil ?_
            refine thn_n ?_
            refine WF.ret ?_
            refine finC_r (vs := [_, _]) ⟨⟨_, ((hACs4.eq 2).trans ((congrFun hF70 2).trans ((hACr2.eq 2).trans (congrFun hF13 2)))), readO hO2 Try.isAgg26 Try.sizeOf26⟩, rfl, trivial⟩ ?_
            first | (rw [hgs, fin_ok hgB (by assumption) (by assumption)]; exact ⟨⟨vPF, vRF, vWF, vDF, rfl, hGN⟩, (Ext.store (Ext.trans hwCs4 hx114) hx123 (by omega))⟩) | exact absurd (show sF.err = 0 by assumption) (show ¬ sF.err = 0 by assumption)
        · have gh3_110 := (of_decide_eq_false h3_110)
          refine WF.skip ?_
          refine thn_n ?_
          refine WF.seq ?_
          refine WF.seq ?_
          refine WF.region ?_
          refine WL.va rfl rfl rfl (X.moveI rfl) ?_
          refine WL.va rfl rfl rfl (X.neq rfl rfl) ?_
          refine WL.nil ?_
          refine thn_n ?_
          refine WF.cond rfl (fun h4_125 => ?_) (fun h4_125 => ?_)
          · have gh4_125 := (of_decide_eq_true h4_125)
            refine WF.seq ?_
            refine WF.region ?_
            refine WL.va rfl rfl rfl (X.buildL (P := Try.prog) (t := 26) (cs := (oc noOp.n (.slice none 0 0) (.slice none 0 0) (.slice none 0 0) (.slice none 0 0))) evp_nil Try.type26 Try.underlying26 rfl rfl trivial rfl) ?_
            refine WL.va rfl rfl rfl (X.moveI rfl) ?_
            refine WL.op rfl (OW.storeOA hO2 ((hACs4.eq 2).trans ((congrFun hF70 2).trans ((hACr2.eq 2).trans (congrFun hF13 2)))) rfl rfl (oc_ones0 _) Try.sizeOf26 ?_)
            intro w127 hO2 hx129
            have := World.grownBy.size hx129
            replace hO4 := hO4.keptO hx129 (by omega)
            replace hO5 := hO5.keptO hx129 (by omega)
            refine WL.va rfl rfl rfl (X.assignI rfl) ?_
            refine WL.nil ?_
            refine thn_n ?_
            refine WF.ret ?_
            refine thn_r ?_
            refine finC_r (vs := [_, _]) ⟨⟨_, ((hACs4.eq 2).trans ((congrFun hF70 2).trans ((hACr2.eq 2).trans (congrFun hF13 2)))), readO hO2 Try.isAgg26 Try.sizeOf26⟩, rfl, trivial⟩ ?_
            first | (rw [hgs, fin_chk hgB (by assumption) (by assumption)]; exact ⟨⟨_, _, _, _, rfl, noOp_own _ _⟩, (Ext.store hwCs4 hx129 (by omega))⟩) | (rw [hgs, fin_err hgB (by assumption)]; exact ⟨⟨_, _, _, _, rfl, noOp_own _ _⟩, (Ext.store hwCs4 hx129 (by omega))⟩)
          · have gh4_125 := (Decidable.of_not_not (of_decide_eq_false h4_125))
            refine WF.skip ?_
            refine thn_n ?_
            refine WF.seq ?_
            refine WF.region ?_
            refine WL.va rfl rfl rfl (X.loadOA hO5 (Ext.refl _) ((hACs4.eq 5).trans ((congrFun hF70 5).trans e5_Cr2)) rfl Try.isAgg26 Try.sizeOf26) ?_
            have hGX := hGF.ext (Ext.refl wCs4)
            refine WL.op rfl (OW.storeOA hO2 ((hACs4.eq 2).trans ((congrFun hF70 2).trans ((hACr2.eq 2).trans (congrFun hF13 2)))) rfl rfl (hGF.at.ones _) Try.sizeOf26 ?_)
            intro w131 hO2 hx133
            have := World.grownBy.size hx133
            replace hO4 := hO4.keptO hx133 (by omega)
            replace hO5 := hO5.keptO hx133 (by omega)
            have hGN := hGX.keptO hx133 (by omega) (show w.heap.size ≤ w1.heap.size by omega)
            refine WL.va rfl rfl rfl (X.assignI rfl) ?_
            refine WL.nil ?_
            refine thn_n ?_
            refine WF.ret ?_
            refine finC_r (vs := [_, _]) ⟨⟨_, ((hACs4.eq 2).trans ((congrFun hF70 2).trans ((hACr2.eq 2).trans (congrFun hF13 2)))), readO hO2 Try.isAgg26 Try.sizeOf26⟩, rfl, trivial⟩ ?_
            first | (rw [hgs, fin_ok hgB (by assumption) (by assumption)]; exact ⟨⟨vPF, vRF, vWF, vDF, rfl, hGN⟩, (Ext.store hwCs4 hx133 (by omega))⟩) | exact absurd (show sF.err = 0 by assumption) (show ¬ sF.err = 0 by assumption)

end Go.Proofs.Ythaojdpeimlngaa
