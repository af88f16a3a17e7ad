/- The walk of Put. -/
import Derived.Test.YthaojdpeimlngaaOpE
import Derived.Test.YthaojdpeimlngaaPut
namespace Go.Proofs.Ythaojdpeimlngaa
open Go Go.RowKit Kf
set_option maxRecDepth 20000

theorem putLit_ok (g off gb : Nat) (cs : List Value) (x : Int) (vb : Value) (l : List UInt8) (w : World) (hO : Blk w g 26 cs) (hu : cs[off]? = some (i64 x)) (hb : Blk w gb 24 [vb]) (hv : Bytes w vb l) (hl : l.length + 8 ≤ 140737488355320) (hne : g ≠ gb) :
    FnOk Try.prog 35 [.pointer (some ⟨g, off, none⟩), at_ gb] w (fun _ w' => ∃ vb2, Blk w' gb 24 [vb2] ∧ OwnB w' w.heap.size 5 vb2 (l ++ Pk.enc x) ∧ Blk w' g 26 cs ∧ ∃ wm, Ext w wm ∧ wm.grownBy w' (some gb)) := by
  have hgl := hb.lt
  have hgo2 := hO.lt
  refine FnOk.enter (rs := []) Try.func35 rfl Try.ntmps35 Try.results35 rfl rfl ?_
  refine WF.drawn (.q 0 (.q 1 (.q 2 (.q 3 (.l 4 .nil))))) (fun w' => Ext w w') 5 (by kernel_rfl) (by kernel_rfl) (Ext.drew _) ?_
  have := World.grownBy.size (Ext.drew w)
  refine WO.q rfl rfl rfl rfl (fun w' hE1 => (X.loadO hb hE1 rfl rfl Try.isAgg24)) ?_
  refine WO.q rfl rfl rfl rfl (fun w' hE1 => (X.move rfl)) ?_
  refine WO.q rfl rfl rfl rfl (fun w' hE1 => (X.nilCheck rfl)) ?_
  refine WO.q rfl rfl rfl rfl (fun w' hE1 => (X.loadO hO hE1 rfl hu Try.isAgg3)) ?_
  refine WO.l ?_
  have hz0 := World.grownBy.size (show Ext w w.drew from (Ext.drew _))
  refine LO.go rfl rfl (OW.enter rfl (by decide) (X.call Try.call33 (evl_cons rfl (evl_cons rfl evl_nil))) (int_ok _ _ _ _ (Row.ext hv (Ext.drew _)) hl) ?_)
  rintro vb2 w2 ⟨o1, hx3⟩
  have := World.grownBy.size hx3
  refine ⟨(Ext.trans (Ext.drew _) hx3), ?_⟩
  have hwm := (Ext.trans (Ext.drew _) hx3)
  refine WO.nil ?_
  refine WL.op rfl (OW.storeO (hb.ext (Ext.trans (Ext.drew _) hx3)) (Nat.le_of_ble_eq_true rfl) rfl rfl (own_one o1) Try.sizeOf24 ?_)
  intro w4 hb hx6
  have := World.grownBy.size hx6
  replace hO := (hO.ext (Ext.trans (Ext.drew _) hx3)).keptO hx6 (by omega)
  have hgo := hx6
  refine WL.nil ?_
  refine fin_n ?_
  exact ⟨vb2, hb, own_mono (own_keptO o1 hgo (.inl (by omega))) hz0, hO, _, hwm, hgo⟩

set_option maxHeartbeats 4000000 in
theorem put_ok (vP vR vW vD : Value) (o : Od) (w : World) (h : OpAt w vP vR vW vD o) (hm : o.small) : FnOk Try.prog 12 [agg (oc o.n vP vR vW vD)] w (fun r w' => (∃ v, r = .tuple #[v, i64 (chk o)] ∧ (chk o = 0 → OwnB w' w.heap.size 5 v (obytes o)) ∧ (chk o ≠ 0 → v = .slice none 0 0)) ∧ Ext w w') := by
  have hm0 := hm
  obtain ⟨hmP, hmR, hmW, hmD, hmWD⟩ := hm
  obtain ⟨E, hE, rE, dE⟩ := h.W
  have hEl : E.length = o.W.length := by rw [← hE]; simp
  refine FnOk.enter (rs := [2, 3]) Try.func12 rfl Try.ntmps12 Try.results12 rfl rfl ?_
  refine WF.seq ?_
  refine WF.region ?_
  refine WL.op rfl (OW.boxA (cs := (oc o.n vP vR vW vD)) rfl ?_ (by decide))
  intro g1 w1 heg1 hlg1 hO1 hx3
  have := World.grownBy.size hx3
  refine WL.va rfl rfl rfl (X.assign rfl) ?_
  refine WL.va rfl rfl rfl (X.assignI rfl) ?_
  refine WL.nil ?_
  refine thn_n ?_
  refine WF.seq ?_
  refine WF.seq ?_
  refine WF.region ?_
  refine WL.va rfl rfl rfl (X.loadOA hO1 (Ext.refl _) rfl rfl Try.isAgg26 Try.sizeOf26) ?_
  refine WL.c rfl rfl rfl (X.call Try.call14 (evl_cons rfl evl_nil)) (check_ok vP vR vW vD o _ (h.ext hx3) hm0) ?_
  rintro v6 w5 ⟨rfl, hx7⟩
  have := World.grownBy.size hx7
  refine WL.va rfl rfl rfl (X.assignI rfl) ?_
  refine WL.nil ?_
  refine thn_n ?_
  refine WF.seq ?_
  refine WF.region ?_
  refine WL.va rfl rfl rfl (X.moveI rfl) ?_
  refine WL.va rfl rfl rfl (X.neq rfl rfl) ?_
  refine WL.nil ?_
  refine thn_n ?_
  refine WF.cond rfl (fun h0_8 => ?_) (fun h0_8 => ?_)
  · have gh0_8 := (of_decide_eq_true h0_8)
    refine WF.seq ?_
    refine WF.region ?_
    refine WL.va rfl rfl rfl (X.moveI rfl) ?_
    refine WL.va rfl rfl rfl (X.assign rfl) ?_
    refine WL.va rfl rfl rfl (X.assignI rfl) ?_
    refine WL.nil ?_
    refine thn_n ?_
    refine WF.ret ?_
    refine thn_r ?_
    refine fin_r ?_
    exact ⟨⟨_, rfl, fun q => absurd q (by assumption), fun _ => rfl⟩, (Ext.trans hx3 hx7)⟩
  · have gh0_8 := (Decidable.of_not_not (of_decide_eq_false h0_8))
    have hc0 : chk o = 0 := gh0_8
    obtain ⟨c0, c1, ⟨cP, cR, cW⟩, cD, c4, c5, c6⟩ := chk_ok hc0
    have hfw : ∀ k, (flatW ((E.map Prod.fst).take k)).length ≤ 160 := fun k => flatW_le k (by rw [hE]; exact c5) (by rw [hE]; exact cW)
    have hll := lists2_len o
    refine WF.skip ?_
    refine thn_n ?_
    refine WF.seq ?_
    refine WF.drawn (.q 0 (.q 1 (.q 3 (.q 4 (.q 6 (.q 7 (.b 2 9 (.b 5 9 (.b 8 9 (.l 9 .nil) (.l 8 .nil)) (.l 5 (.l 8 .nil))) (.l 2 (.l 5 (.l 8 .nil)))))))))) (fun w' => Ext w5 w') 10 (by kernel_rfl) (by kernel_rfl) (Ext.drew _) ?_
    have := World.grownBy.size (Ext.drew w5)
    refine WO.q rfl rfl rfl rfl (fun w' hE10 => (X.fieldAddrO (off := 0) rfl Try.underlying26 rfl rfl Try.sizeOf3)) ?_
    refine WO.q rfl rfl rfl rfl (fun w' hE10 => (X.loadO hO1 (Ext.trans hx7 hE10) rfl rfl Try.isAgg3)) ?_
    refine WO.q rfl rfl rfl rfl (fun w' hE10 => (X.fieldAddrO (off := 1) rfl Try.underlying26 rfl rfl Try.sizeOf3)) ?_
    refine WO.q rfl rfl rfl rfl (fun w' hE10 => (X.loadO hO1 (Ext.trans hx7 hE10) rfl rfl Try.isAgg3)) ?_
    refine WO.q rfl rfl rfl rfl (fun w' hE10 => (X.fieldAddrO (off := 2) rfl Try.underlying26 rfl rfl Try.sizeOf3)) ?_
    refine WO.q rfl rfl rfl rfl (fun w' hE10 => (X.loadO hO1 (Ext.trans hx7 hE10) rfl rfl Try.isAgg3)) ?_
    refine WO.b2 ?_ ?_
    · refine LO.go rfl rfl (OW.enter rfl (by decide) (X.call Try.call33 (evl_cons rfl (evl_cons rfl evl_nil))) (int_ok _ [] _ _ (Bytes.nil _) (by decide)) ?_)
      rintro va1 wa1 ⟨oa1, hx11⟩
      have := World.grownBy.size hx11
      refine ⟨(Ext.trans (Ext.drew _) hx11), ?_⟩
      refine WO.b2 ?_ ?_
      · refine LO.go rfl rfl (OW.enter rfl (by decide) (X.call Try.call33 (evl_cons rfl (evl_cons rfl evl_nil))) (int_ok _ _ _ _ (Row.ext (Row.of_own oa1) (Ext.refl wa1)) (by simp [Pk.enc_len])) ?_)
        rintro va2 wa2 ⟨oa2, hx12⟩
        have := World.grownBy.size hx12
        refine ⟨(Ext.trans (Ext.trans (Ext.drew _) hx11) hx12), ?_⟩
        refine WO.b2 ?_ ?_
        · refine LO.go rfl rfl (OW.enter rfl (by decide) (X.call Try.call33 (evl_cons rfl (evl_cons rfl evl_nil))) (int_ok _ _ _ _ (Row.ext (Row.of_own oa2) (Ext.refl wa2)) (by simp [Pk.enc_len])) ?_)
          rintro va3 w13 ⟨oa3, hx14⟩
          have := World.grownBy.size hx14
          refine ⟨(Ext.trans (Ext.trans (Ext.trans (Ext.drew _) hx11) hx12) hx14), ?_⟩
          have ob0 : OwnT w13 _ w13.heap.size 5 1 va3 (head0 o.n).length ((head0 o.n).map u8) := OwnT.of (show OwnB w13 _ 5 va3 (head0 o.n) from by rw [List.nil_append] at oa3; exact oa3)
          refine WO.l ?_
          refine LO.go rfl rfl (OW.allocO (cs := [.slice none 0 0]) Try.zeroValue24 rfl ?_ (by decide))
          intro g5 w15 heg5 hlg5 hO5 hx17
          have := World.grownBy.size hx17
          refine ⟨(Ext.trans (Ext.trans (Ext.trans (Ext.trans (Ext.drew _) hx11) hx12) hx14) hx17), ?_⟩
          refine WO.nil ?_
          refine WL.op rfl (OW.storeO hO5 (Nat.le_of_ble_eq_true rfl) rfl rfl (own_one ob0.own) Try.sizeOf24 ?_)
          intro w19 hO5 hx21
          have := World.grownBy.size hx21
          replace hO1 := (hO1.ext (Ext.trans (Ext.trans (Ext.trans (Ext.trans (Ext.trans hx7 (Ext.drew _)) hx11) hx12) hx14) hx17)).keptO hx21 (by omega)
          replace ob0 := (ob0.ext hx17).keptO hx21 (by omega)
          refine WL.nil ?_
          refine thn_n ?_
          refine WF.seq ?_
          refine WF.region ?_
          refine WL.va rfl rfl rfl (X.makeFunc (evl_cons rfl evl_nil)) ?_
          have hg1w : w.heap.size ≤ g1 := by omega
          have hg5w : w.heap.size ≤ g5 := by omega
          have hI0 : (Blk w19 g1 26 (oc o.n vP vR vW vD) ∧ (∃ vb, Blk w19 g5 24 [vb] ∧ OwnB w19 w.heap.size 5 vb (head0 o.n ++ flatN o.n ((offL (o.g 0)).take 0))) ∧ Ext w w19) := ⟨hO1, ⟨_, hO5, by rw [List.take_zero]; show OwnB _ _ _ _ (head0 o.n ++ []); rw [List.append_nil]; exact own_mono (ob0).own (by omega)⟩, (Ext.trans (Ext.trans (Ext.trans (Ext.trans (Ext.trans (Ext.trans hx3 hx7) (Ext.drew _)) hx11) hx12) hx14) (Ext.store hx17 hx21 (by omega)))⟩
          have hIst : ∀ (j : Nat) (wa wb : World), (Blk wa g1 26 (oc o.n vP vR vW vD) ∧ (∃ vb, Blk wa g5 24 [vb] ∧ OwnB wa w.heap.size 5 vb (head0 o.n ++ flatN o.n ((offL (o.g 0)).take j))) ∧ Ext w wa) → Ext wa wb → (Blk wb g1 26 (oc o.n vP vR vW vD) ∧ (∃ vb, Blk wb g5 24 [vb] ∧ OwnB wb w.heap.size 5 vb (head0 o.n ++ flatN o.n ((offL (o.g 0)).take j))) ∧ Ext w wb) := fun j wa wb hh hx => ⟨hh.1.ext hx, (by obtain ⟨vb, h1, h2⟩ := hh.2.1; exact ⟨vb, h1.ext hx, own_ext h2 hx⟩), Ext.trans hh.2.2 hx⟩
          have hst : ∀ L, offs (o.g 0) = some L → ∀ j wq, (hj : j < L.length) → (Blk wq g1 26 (oc o.n vP vR vW vD) ∧ (∃ vb, Blk wq g5 24 [vb] ∧ OwnB wq w.heap.size 5 vb (head0 o.n ++ flatN o.n ((offL (o.g 0)).take j))) ∧ Ext w wq) → Chg 0 w19.heap.size w19 wq → CloOk Try.prog (.func (.func 35) #[] [at_ g5].toArray) [.pointer (some ⟨g1, L[j], none⟩)] wq (fun _ w2 => (Blk w2 g1 26 (oc o.n vP vR vW vD) ∧ (∃ vb, Blk w2 g5 24 [vb] ∧ OwnB w2 w.heap.size 5 vb (head0 o.n ++ flatN o.n ((offL (o.g 0)).take (j + 1)))) ∧ Ext w w2) ∧ Chg 0 w19.heap.size wq w2) := fun L hL j wq hj hh hch => by
            have hin := offs_in hL hj
            have hL6 := offs_len hL
            obtain ⟨hh1, ⟨vb, hh2, hh3⟩, hh4⟩ := hh
            refine ⟨_, _, rfl, Try.call35, (putLit_ok g1 L[j] g5 _ (o.n.getD L[j] 0) vb _ wq hh1 (oc_get h.len (by omega)) hh2 (Bytes.of_own hh3) (by rw [List.length_append, head0_len, flatN_len]; simp only [List.length_take]; omega) (by omega)).mono fun _ w2 h2 => ?_⟩
            obtain ⟨vb2, k1, k2, k3, wm, k4, k5⟩ := h2
            refine ⟨⟨k3, ⟨vb2, k1, ?_⟩, Ext.store (Ext.trans hh4 k4) k5 hg5w⟩, Chg.trans (chg_ext k4) (Chg.of k5 (fun q hq => by injection hq with hq; subst hq; exact ⟨Nat.zero_le _, by omega⟩))⟩
            rw [offL_eq hL, flatN_snoc hj, ← List.append_assoc]
            rw [offL_eq hL] at k2
            exact own_mono k2 (World.grownBy.size hh4)
          refine WL.c rfl rfl rfl (X.call Try.call34 (evl_cons rfl (evl_cons rfl evl_nil))) (numbers_ok g1 _ (o.g 0) _ _ (fun j wq => Blk wq g1 26 (oc o.n vP vR vW vD) ∧ (∃ vb, Blk wq g5 24 [vb] ∧ OwnB wq w.heap.size 5 vb (head0 o.n ++ flatN o.n ((offL (o.g 0)).take j))) ∧ Ext w wq) hO1 rfl hI0 hIst hst) ?_
          rintro _ wn ⟨_, hq1, hq2, hcg⟩
          obtain ⟨hO1, ⟨vb, hO5, ob⟩, hxz⟩ := offs_end (I := (fun j wq => Blk wq g1 26 (oc o.n vP vR vW vD) ∧ (∃ vb, Blk wq g5 24 [vb] ∧ OwnB wq w.heap.size 5 vb (head0 o.n ++ flatN o.n ((offL (o.g 0)).take j))) ∧ Ext w wq)) hq1 hq2 hI0 hIst
          rw [List.take_length] at ob
          have ob : OwnB _ _ _ _ (headN o) := ob
          have hhl := headN_len o
          have hg5l := hO5.lt
          have := World.grownBy.size hxz
          refine WL.nil ?_
          refine thn_n ?_
          refine WF.seq ?_
          refine WF.seq ?_
          refine WF.region ?_
          refine WL.va rfl rfl rfl (X.fieldAddrO (off := 0) rfl Try.underlying26 rfl rfl Try.sizeOf3) ?_
          refine WL.va rfl rfl rfl (X.loadO hO1 (Ext.refl _) rfl rfl Try.isAgg3) ?_
          refine WL.nil ?_
          refine thn_n ?_
          refine WF.block ?_
          refine WF.seq ?_
          refine WF.region ?_
          refine WL.va rfl rfl rfl (X.eql rfl rfl) ?_
          refine WL.va rfl rfl rfl (X.assignB rfl) ?_
          refine WL.nil ?_
          refine thn_n ?_
          refine WF.cond rfl (fun h1_26 => ?_) (fun h1_26 => ?_)
          · have gh1_26 := (of_decide_eq_true h1_26)
            have hk2 : o.g 0 = 2 := gh1_26
            refine WF.seq ?_
            refine WF.drawn (.q 0 (.q 1 (.q 2 (.q 4 (.q 5 (.q 7 (.q 8 (.q 9 (.l 3 (.l 6 (.l 10 .nil))))))))))) (fun w' => Ext wn w') 11 (by kernel_rfl) (by kernel_rfl) (Ext.drew _) ?_
            have := World.grownBy.size (Ext.drew wn)
            refine WO.q rfl rfl rfl rfl (fun w' hE28 => (X.loadO hO5 hE28 rfl rfl Try.isAgg24)) ?_
            refine WO.q rfl rfl rfl rfl (fun w' hE28 => (X.fieldAddrO (off := 13) rfl Try.underlying26 rfl rfl Try.sizeOf22)) ?_
            refine WO.q rfl rfl rfl rfl (fun w' hE28 => (X.loadO hO1 hE28 rfl rfl Try.isAgg22)) ?_
            refine WO.q rfl rfl rfl rfl (fun w' hE28 => (X.fieldAddrO (off := 14) rfl Try.underlying26 rfl rfl Try.sizeOf22)) ?_
            refine WO.q rfl rfl rfl rfl (fun w' hE28 => (X.loadO hO1 hE28 rfl rfl Try.isAgg22)) ?_
            refine WO.q rfl rfl rfl rfl (fun w' hE28 => (X.fieldAddrO (off := 15) rfl Try.underlying26 rfl rfl Try.sizeOf23)) ?_
            refine WO.q rfl rfl rfl rfl (fun w' hE28 => (X.loadO hO1 hE28 rfl rfl Try.isAgg23)) ?_
            refine WO.q rfl rfl rfl rfl (fun w' hE28 => (X.len rE rfl Try.underlying23)) ?_
            refine WO.l ?_
            refine LO.go rfl rfl (OW.enter rfl (by decide) (X.call Try.call36 (evl_cons rfl (evl_cons rfl evl_nil))) (ints_ok _ (headN o) _ o.P _ (Row.ext (Row.of_own ob) (Ext.drew _)) (Row.ext h.P (Ext.trans (hxz) (Ext.drew _))) (by omega)) ?_)
            rintro vc1 wc1 ⟨oc1, hx29⟩
            have := World.grownBy.size hx29
            refine ⟨(Ext.trans (Ext.drew _) hx29), ?_⟩
            refine WO.l ?_
            refine LO.go rfl rfl (OW.enter rfl (by decide) (X.call Try.call36 (evl_cons rfl (evl_cons rfl evl_nil))) (ints_ok _ _ _ o.R _ (Row.ext (Row.of_own oc1) (Ext.refl wc1)) (Row.ext h.R (Ext.trans (Ext.trans (hxz) (Ext.drew _)) hx29)) (by rw [List.length_append, pints_len]; omega)) ?_)
            rintro vc2 wc2 ⟨oc2, hx30⟩
            have := World.grownBy.size hx30
            refine ⟨(Ext.trans (Ext.trans (Ext.drew _) hx29) hx30), ?_⟩
            refine WO.l ?_
            refine LO.go rfl rfl (OW.enter rfl (by decide) (X.call Try.call33 (evl_cons rfl (evl_cons rfl evl_nil))) (int_ok _ _ _ _ (Row.ext (Row.of_own oc2) (Ext.refl wc2)) (by rw [List.length_append, List.length_append, pints_len, pints_len]; omega)) ?_)
            rintro vc3 wc3 ⟨oc3, hx31⟩
            have := World.grownBy.size hx31
            refine ⟨(Ext.trans (Ext.trans (Ext.trans (Ext.drew _) hx29) hx30) hx31), ?_⟩
            refine WO.nil ?_
            refine WL.op rfl (OW.storeO (hO5.ext (Ext.trans (Ext.trans (Ext.trans (Ext.drew _) hx29) hx30) hx31)) (Nat.le_of_ble_eq_true rfl) rfl rfl (own_one oc3) Try.sizeOf24 ?_)
            intro w32 hO5 hx34
            have := World.grownBy.size hx34
            replace hO1 := (hO1.ext (Ext.trans (Ext.trans (Ext.trans (Ext.drew _) hx29) hx30) hx31)).keptO hx34 (by omega)
            have obk0 : OwnB w32 w.heap.size 5 vc3 (headN o ++ lists2 o) := own_mono (own_keptO (by rw [hEl, List.append_assoc, List.append_assoc, ← List.append_assoc (Pk.ints o.P)] at oc3; exact oc3) hx34 (.inl (by omega))) (by omega)
            refine WL.nil ?_
            refine thn_n ?_
            refine WF.seq ?_
            refine WF.region ?_
            refine WL.va rfl rfl rfl (X.fieldAddrO (off := 15) rfl Try.underlying26 rfl rfl Try.sizeOf23) ?_
            refine WL.va rfl rfl rfl (X.loadO hO1 (Ext.refl _) rfl rfl Try.isAgg23) ?_
            refine WL.va rfl rfl rfl (X.len rE rfl Try.underlying23) ?_
            refine WL.va rfl rfl rfl (X.moveI rfl) ?_
            refine WL.nil ?_
            refine thn_n ?_
            refine WF.block ?_
            refine WF.named (fun F36 hF37 => ?_)
            refine WF.loopN (fun mL0 f' w' => ∃ (k : Nat) (vk : Value), mL0 = E.length - k ∧ f' 42 = .int .i64 (k : Int) ∧ Agree [0, 1, 2, 3, 4, 5, 8, 9, 10, 11, 13, 14, 15, 16, 17, 18, 19, 20, 21, 22, 24, 25, 26, 27, 28, 29, 30, 31, 32, 33, 34, 35, 36, 37, 38, 39, 40, 41] f' F36 ∧ Ext w w' ∧ k ≤ E.length ∧ Blk w' g1 26 (oc o.n vP vR vW vD) ∧ Blk w' g5 24 [vk] ∧ OwnB w' w.heap.size 5 vk (headN o ++ lists2 o ++ flatW ((E.map Prod.fst).take k))) ?_ ?_
            · exact ⟨_, 0, _, rfl, (congrFun hF37 42), (Agree.refl _ _), (Ext.store (Ext.trans (Ext.trans (Ext.trans (Ext.trans (hxz) (Ext.drew _)) hx29) hx30) hx31) hx34 (by omega)), ⟨Nat.zero_le _, hO1, hO5, by rw [List.take_zero]; show OwnB _ _ _ _ (_ ++ []); rw [List.append_nil]; exact obk0⟩⟩
            · rintro mL0 fL0 wL0 ⟨k, vk, hmL0, e42_L0, hAL0, hwL0, ⟨hk0, hO1, hO5, obk⟩⟩
              have := World.grownBy.size hwL0
              have hg5l := hO5.lt
              refine WF.seq ?_
              refine WF.region ?_
              refine WL.va rfl rfl rfl (X.lss e42_L0 ((hAL0.eq 41).trans (congrFun hF37 41))) ?_
              refine WL.nil ?_
              refine thn_n ?_
              refine WF.seq ?_
              refine WF.cond rfl (fun h2_38 => ?_) (fun h2_38 => ?_)
              · have gh2_38 := (of_decide_eq_true h2_38)
                have hk : k < E.length := by omega
                have hd4 : (E[k]'hk).1.Data.length = 4 := c5 _ (hE ▸ List.mem_map.2 ⟨_, List.getElem_mem hk, rfl⟩)
                refine WF.skip ?_
                refine thn_n ?_
                refine WF.seq ?_
                refine WF.block ?_
                refine WF.seq ?_
                refine WF.region ?_
                refine WL.va rfl rfl rfl (X.idx rE ((hAL0.eq 40).trans (congrFun hF37 40)) e42_L0 (by omega) Try.underlying23 Try.sizeOf52) ?_
                refine WL.va rfl rfl rfl (X.loadEl rE hwL0 rfl (by omega) (WRow.el hk) Try.isAgg52 Try.sizeOf52) ?_
                refine WL.op rfl (OW.allocO (cs := [i64 0, .slice none 0 0]) Try.zeroValue52 rfl ?_ (by decide))
                intro g7 w40 heg7 hlg7 hO7 hx42
                have := World.grownBy.size hx42
                refine WL.op rfl (OW.storeOA hO7 rfl rfl rfl (WDat.one1 dE hk) Try.sizeOf52 ?_)
                intro w44 hO7 hx46
                have := World.grownBy.size hx46
                replace hO1 := (hO1.ext hx42).keptO hx46 (by omega)
                replace hO5 := (hO5.ext hx42).keptO hx46 (by omega)
                replace hO7 : Blk _ _ _ (WV.c (E[k]'hk)) := hO7
                refine WL.nil ?_
                refine thn_n ?_
                refine WF.drawn (.q 0 (.q 1 (.q 2 (.q 4 (.q 5 (.l 3 (.l 6 .nil))))))) (fun w' => Ext w44 w') 7 (by kernel_rfl) (by kernel_rfl) (Ext.drew _) ?_
                have := World.grownBy.size (Ext.drew w44)
                refine WO.q rfl rfl rfl rfl (fun w' hE48 => (X.loadO hO5 hE48 ((hAL0.eq 5).trans (congrFun hF37 5)) rfl Try.isAgg24)) ?_
                refine WO.q rfl rfl rfl rfl (fun w' hE48 => (X.fieldAddrO (off := 0) rfl Try.underlying52 rfl rfl Try.sizeOf3)) ?_
                refine WO.q rfl rfl rfl rfl (fun w' hE48 => (X.loadO hO7 hE48 rfl rfl Try.isAgg3)) ?_
                refine WO.q rfl rfl rfl rfl (fun w' hE48 => (X.fieldAddrO (off := 1) rfl Try.underlying52 rfl rfl Try.sizeOf24)) ?_
                refine WO.q rfl rfl rfl rfl (fun w' hE48 => (X.loadO hO7 hE48 rfl rfl Try.isAgg24)) ?_
                refine WO.l ?_
                refine LO.go rfl rfl (OW.enter rfl (by decide) (X.call Try.call33 (evl_cons rfl (evl_cons rfl evl_nil))) (int_ok _ _ _ _ (Row.ext (Row.of_own obk) (Ext.trans (Ext.store hx42 hx46 (by omega)) (Ext.drew _))) (by have := hfw k; simp only [List.length_append]; omega)) ?_)
                rintro vd1 wd1 ⟨od1, hx49⟩
                have := World.grownBy.size hx49
                refine ⟨(Ext.trans (Ext.drew _) hx49), ?_⟩
                refine WO.l ?_
                refine LO.go rfl rfl (OW.enter rfl (by decide) (X.call Try.call37 (evl_cons rfl (evl_cons rfl evl_nil))) (blob_ok _ _ _ (E[k]'hk).1.Data _ (Row.ext (Row.of_own od1) (Ext.refl wd1)) (Row.ext (dE _ (List.getElem_mem hk)) (Ext.trans (Ext.trans (Ext.trans hwL0 (Ext.store hx42 hx46 (by omega))) (Ext.drew _)) hx49)) (by have := hfw k; simp only [List.length_append, Pk.enc_len]; omega)) ?_)
                rintro vd2 wd2 ⟨od2, hx50⟩
                have := World.grownBy.size hx50
                refine ⟨(Ext.trans (Ext.trans (Ext.drew _) hx49) hx50), ?_⟩
                refine WO.nil ?_
                refine WL.op rfl (OW.storeO (hO5.ext (Ext.trans (Ext.trans (Ext.drew _) hx49) hx50)) (Nat.le_of_ble_eq_true rfl) ((hAL0.eq 5).trans (congrFun hF37 5)) rfl (own_one od2) Try.sizeOf24 ?_)
                intro w51 hO5 hx53
                have := World.grownBy.size hx53
                replace hO1 := (hO1.ext (Ext.trans (Ext.trans (Ext.drew _) hx49) hx50)).keptO hx53 (by omega)
                replace hO7 := (hO7.ext (Ext.trans (Ext.trans (Ext.drew _) hx49) hx50)).keptO hx53 (by omega)
                have obk2 := own_mono (own_keptO od2 hx53 (.inl (by omega))) (show w.heap.size ≤ _ by omega)
                refine WL.nil ?_
                refine blk_n ?_
                refine thn_n ?_
                refine WF.region ?_
                refine WL.va rfl rfl rfl (X.add e42_L0 rfl (w64 (by omega))) ?_
                refine WL.va rfl rfl rfl (X.moveI rfl) ?_
                refine WL.nil ?_
                exact thn_n ⟨_, (by omega), k + 1, _, rfl, rfl, (by repeat (first | exact hAL0 | refine Agree.put ?_ rfl | refine Agree.named hF37 ?_)), (Ext.store (Ext.trans (Ext.trans (Ext.trans (Ext.trans hwL0 (Ext.store hx42 hx46 (by omega))) (Ext.drew _)) hx49) hx50) hx53 (by omega)), ⟨by omega, hO1, hO5, by rw [flatW_snoc hk, ← List.append_assoc, ← List.append_assoc]; exact obk2⟩⟩
              · have gh2_38 := (of_decide_eq_false h2_38)
                have ofin : OwnB wL0 w.heap.size 5 vk (obytes o) := by
                  rw [obytes2 hk2, ← List.append_assoc]
                  rw [List.take_of_length_le (by simp; omega), hE] at obk
                  exact obk
                refine WF.exit ?_
                refine thn_x ?_
                refine thn_x ?_
                refine blk_eq ?_
                refine blk_n ?_
                refine thn_n ?_
                refine WF.seq ?_
                refine WF.region ?_
                refine WL.va rfl rfl rfl (X.loadO hO5 (Ext.refl _) ((hAL0.eq 5).trans (congrFun hF37 5)) rfl Try.isAgg24) ?_
                refine WL.va rfl rfl rfl (X.assign rfl) ?_
                refine WL.va rfl rfl rfl (X.assignI rfl) ?_
                refine WL.nil ?_
                refine thn_n ?_
                refine WF.ret ?_
                refine fin_r ?_
                refine ⟨?_, hwL0⟩
                rw [hc0]
                exact ⟨_, rfl, fun _ => ofin, fun q => absurd rfl q⟩
          · have gh1_26 := (of_decide_eq_false h1_26)
            have hk2 : o.g 0 ≠ 2 := gh1_26
            refine WF.seq ?_
            refine WF.region ?_
            refine WL.va rfl rfl rfl (X.eql rfl rfl) ?_
            refine WL.va rfl rfl rfl (X.assignB rfl) ?_
            refine WL.nil ?_
            refine thn_n ?_
            refine WF.cond rfl (fun h3_55 => ?_) (fun h3_55 => ?_)
            · have gh3_55 := (of_decide_eq_true h3_55)
              have hk6 : o.g 0 = 6 := gh3_55
              refine WF.region ?_
              refine WL.va rfl rfl rfl (X.loadO hO5 (Ext.refl _) rfl rfl Try.isAgg24) ?_
              refine WL.va rfl rfl rfl (X.fieldAddrO (off := 16) rfl Try.underlying26 rfl rfl Try.sizeOf24) ?_
              refine WL.va rfl rfl rfl (X.loadO hO1 (Ext.refl _) rfl rfl Try.isAgg24) ?_
              refine WL.c rfl rfl rfl (X.call Try.call37 (evl_cons rfl (evl_cons rfl evl_nil))) (blob_ok _ (headN o) _ o.D _ (Row.ext (Row.of_own ob) (Ext.refl wn)) (Row.ext h.D (hxz)) (by omega)) ?_
              rintro ve1 we1 ⟨oe1, hx57⟩
              have := World.grownBy.size hx57
              refine WL.op rfl (OW.storeO (hO5.ext hx57) (Nat.le_of_ble_eq_true rfl) rfl rfl (own_one oe1) Try.sizeOf24 ?_)
              intro w58 hO5 hx60
              have := World.grownBy.size hx60
              replace hO1 := (hO1.ext hx57).keptO hx60 (by omega)
              have ofin : OwnB w58 w.heap.size 5 ve1 (obytes o) := by
                rw [obytes6 hk6]
                exact own_mono (own_keptO oe1 hx60 (.inl (by omega))) (by omega)
              refine WL.nil ?_
              refine blk_n ?_
              refine thn_n ?_
              refine WF.seq ?_
              refine WF.region ?_
              refine WL.va rfl rfl rfl (X.loadO hO5 (Ext.refl _) rfl rfl Try.isAgg24) ?_
              refine WL.va rfl rfl rfl (X.assign rfl) ?_
              refine WL.va rfl rfl rfl (X.assignI rfl) ?_
              refine WL.nil ?_
              refine thn_n ?_
              refine WF.ret ?_
              refine fin_r ?_
              refine ⟨?_, (Ext.store (Ext.trans (hxz) hx57) hx60 (by omega))⟩
              rw [hc0]
              exact ⟨_, rfl, fun _ => ofin, fun q => absurd rfl q⟩
            · have gh3_55 := (of_decide_eq_false h3_55)
              have hk6 : o.g 0 ≠ 6 := gh3_55
              have ofin : OwnB wn w.heap.size 5 vb (obytes o) := by rw [obytes0 hk2 hk6]; exact ob
              refine WF.skip ?_
              refine blk_n ?_
              refine thn_n ?_
              refine WF.seq ?_
              refine WF.region ?_
              refine WL.va rfl rfl rfl (X.loadO hO5 (Ext.refl _) rfl rfl Try.isAgg24) ?_
              refine WL.va rfl rfl rfl (X.assign rfl) ?_
              refine WL.va rfl rfl rfl (X.assignI rfl) ?_
              refine WL.nil ?_
              refine thn_n ?_
              refine WF.ret ?_
              refine fin_r ?_
              refine ⟨?_, (hxz)⟩
              rw [hc0]
              exact ⟨_, rfl, fun _ => ofin, fun q => absurd rfl q⟩
        · refine LO.go rfl rfl (OW.allocO (cs := [.slice none 0 0]) Try.zeroValue24 rfl ?_ (by decide))
          intro g5 w62 heg5 hlg5 hO5 hx65
          have := World.grownBy.size hx65
          refine ⟨(Ext.trans (Ext.trans (Ext.trans (Ext.drew _) hx11) hx12) hx65), ?_⟩
          refine WO.l ?_
          refine LO.go rfl rfl (OW.enter rfl (by decide) (X.call Try.call33 (evl_cons rfl (evl_cons rfl evl_nil))) (int_ok _ _ _ _ (Row.ext (Row.of_own oa2) hx65) (by simp [Pk.enc_len])) ?_)
          rintro va3 w67 ⟨oa3, hx68⟩
          have := World.grownBy.size hx68
          refine ⟨(Ext.trans (Ext.trans (Ext.trans (Ext.trans (Ext.drew _) hx11) hx12) hx65) hx68), ?_⟩
          have ob0 : OwnT w67 _ w67.heap.size 5 1 va3 (head0 o.n).length ((head0 o.n).map u8) := OwnT.of (show OwnB w67 _ 5 va3 (head0 o.n) from by rw [List.nil_append] at oa3; exact oa3)
          refine WO.nil ?_
          refine WL.op rfl (OW.storeO (hO5.ext hx68) (Nat.le_of_ble_eq_true rfl) rfl rfl (own_one ob0.own) Try.sizeOf24 ?_)
          intro w69 hO5 hx71
          have := World.grownBy.size hx71
          replace hO1 := (hO1.ext (Ext.trans (Ext.trans (Ext.trans (Ext.trans (Ext.trans hx7 (Ext.drew _)) hx11) hx12) hx65) hx68)).keptO hx71 (by omega)
          replace ob0 := ob0.keptO hx71 (by omega)
          refine WL.nil ?_
          refine thn_n ?_
          refine WF.seq ?_
          refine WF.region ?_
          refine WL.va rfl rfl rfl (X.makeFunc (evl_cons rfl evl_nil)) ?_
          have hg1w : w.heap.size ≤ g1 := by omega
          have hg5w : w.heap.size ≤ g5 := by omega
          have hI0 : (Blk w69 g1 26 (oc o.n vP vR vW vD) ∧ (∃ vb, Blk w69 g5 24 [vb] ∧ OwnB w69 w.heap.size 5 vb (head0 o.n ++ flatN o.n ((offL (o.g 0)).take 0))) ∧ Ext w w69) := ⟨hO1, ⟨_, hO5, by rw [List.take_zero]; show OwnB _ _ _ _ (head0 o.n ++ []); rw [List.append_nil]; exact own_mono (ob0).own (by omega)⟩, (Ext.trans (Ext.trans (Ext.trans (Ext.trans (Ext.trans hx3 hx7) (Ext.drew _)) hx11) hx12) (Ext.store (Ext.trans hx65 hx68) hx71 (by omega)))⟩
          have hIst : ∀ (j : Nat) (wa wb : World), (Blk wa g1 26 (oc o.n vP vR vW vD) ∧ (∃ vb, Blk wa g5 24 [vb] ∧ OwnB wa w.heap.size 5 vb (head0 o.n ++ flatN o.n ((offL (o.g 0)).take j))) ∧ Ext w wa) → Ext wa wb → (Blk wb g1 26 (oc o.n vP vR vW vD) ∧ (∃ vb, Blk wb g5 24 [vb] ∧ OwnB wb w.heap.size 5 vb (head0 o.n ++ flatN o.n ((offL (o.g 0)).take j))) ∧ Ext w wb) := fun j wa wb hh hx => ⟨hh.1.ext hx, (by obtain ⟨vb, h1, h2⟩ := hh.2.1; exact ⟨vb, h1.ext hx, own_ext h2 hx⟩), Ext.trans hh.2.2 hx⟩
          have hst : ∀ L, offs (o.g 0) = some L → ∀ j wq, (hj : j < L.length) → (Blk wq g1 26 (oc o.n vP vR vW vD) ∧ (∃ vb, Blk wq g5 24 [vb] ∧ OwnB wq w.heap.size 5 vb (head0 o.n ++ flatN o.n ((offL (o.g 0)).take j))) ∧ Ext w wq) → Chg 0 w69.heap.size w69 wq → CloOk Try.prog (.func (.func 35) #[] [at_ g5].toArray) [.pointer (some ⟨g1, L[j], none⟩)] wq (fun _ w2 => (Blk w2 g1 26 (oc o.n vP vR vW vD) ∧ (∃ vb, Blk w2 g5 24 [vb] ∧ OwnB w2 w.heap.size 5 vb (head0 o.n ++ flatN o.n ((offL (o.g 0)).take (j + 1)))) ∧ Ext w w2) ∧ Chg 0 w69.heap.size wq w2) := fun L hL j wq hj hh hch => by
            have hin := offs_in hL hj
            have hL6 := offs_len hL
            obtain ⟨hh1, ⟨vb, hh2, hh3⟩, hh4⟩ := hh
            refine ⟨_, _, rfl, Try.call35, (putLit_ok g1 L[j] g5 _ (o.n.getD L[j] 0) vb _ wq hh1 (oc_get h.len (by omega)) hh2 (Bytes.of_own hh3) (by rw [List.length_append, head0_len, flatN_len]; simp only [List.length_take]; omega) (by omega)).mono fun _ w2 h2 => ?_⟩
            obtain ⟨vb2, k1, k2, k3, wm, k4, k5⟩ := h2
            refine ⟨⟨k3, ⟨vb2, k1, ?_⟩, Ext.store (Ext.trans hh4 k4) k5 hg5w⟩, Chg.trans (chg_ext k4) (Chg.of k5 (fun q hq => by injection hq with hq; subst hq; exact ⟨Nat.zero_le _, by omega⟩))⟩
            rw [offL_eq hL, flatN_snoc hj, ← List.append_assoc]
            rw [offL_eq hL] at k2
            exact own_mono k2 (World.grownBy.size hh4)
          refine WL.c rfl rfl rfl (X.call Try.call34 (evl_cons rfl (evl_cons rfl evl_nil))) (numbers_ok g1 _ (o.g 0) _ _ (fun j wq => Blk wq g1 26 (oc o.n vP vR vW vD) ∧ (∃ vb, Blk wq g5 24 [vb] ∧ OwnB wq w.heap.size 5 vb (head0 o.n ++ flatN o.n ((offL (o.g 0)).take j))) ∧ Ext w wq) hO1 rfl hI0 hIst hst) ?_
          rintro _ wn ⟨_, hq1, hq2, hcg⟩
          obtain ⟨hO1, ⟨vb, hO5, ob⟩, hxz⟩ := offs_end (I := (fun j wq => Blk wq g1 26 (oc o.n vP vR vW vD) ∧ (∃ vb, Blk wq g5 24 [vb] ∧ OwnB wq w.heap.size 5 vb (head0 o.n ++ flatN o.n ((offL (o.g 0)).take j))) ∧ Ext w wq)) hq1 hq2 hI0 hIst
          rw [List.take_length] at ob
          have ob : OwnB _ _ _ _ (headN o) := ob
          have hhl := headN_len o
          have hg5l := hO5.lt
          have := World.grownBy.size hxz
          refine WL.nil ?_
          refine thn_n ?_
          refine WF.seq ?_
          refine WF.seq ?_
          refine WF.region ?_
          refine WL.va rfl rfl rfl (X.fieldAddrO (off := 0) rfl Try.underlying26 rfl rfl Try.sizeOf3) ?_
          refine WL.va rfl rfl rfl (X.loadO hO1 (Ext.refl _) rfl rfl Try.isAgg3) ?_
          refine WL.nil ?_
          refine thn_n ?_
          refine WF.block ?_
          refine WF.seq ?_
          refine WF.region ?_
          refine WL.va rfl rfl rfl (X.eql rfl rfl) ?_
          refine WL.va rfl rfl rfl (X.assignB rfl) ?_
          refine WL.nil ?_
          refine thn_n ?_
          refine WF.cond rfl (fun h1_76 => ?_) (fun h1_76 => ?_)
          · have gh1_76 := (of_decide_eq_true h1_76)
            have hk2 : o.g 0 = 2 := gh1_76
            refine WF.seq ?_
            refine WF.drawn (.q 0 (.q 1 (.q 2 (.q 4 (.q 5 (.q 7 (.q 8 (.q 9 (.l 3 (.l 6 (.l 10 .nil))))))))))) (fun w' => Ext wn w') 11 (by kernel_rfl) (by kernel_rfl) (Ext.drew _) ?_
            have := World.grownBy.size (Ext.drew wn)
            refine WO.q rfl rfl rfl rfl (fun w' hE78 => (X.loadO hO5 hE78 rfl rfl Try.isAgg24)) ?_
            refine WO.q rfl rfl rfl rfl (fun w' hE78 => (X.fieldAddrO (off := 13) rfl Try.underlying26 rfl rfl Try.sizeOf22)) ?_
            refine WO.q rfl rfl rfl rfl (fun w' hE78 => (X.loadO hO1 hE78 rfl rfl Try.isAgg22)) ?_
            refine WO.q rfl rfl rfl rfl (fun w' hE78 => (X.fieldAddrO (off := 14) rfl Try.underlying26 rfl rfl Try.sizeOf22)) ?_
            refine WO.q rfl rfl rfl rfl (fun w' hE78 => (X.loadO hO1 hE78 rfl rfl Try.isAgg22)) ?_
            refine WO.q rfl rfl rfl rfl (fun w' hE78 => (X.fieldAddrO (off := 15) rfl Try.underlying26 rfl rfl Try.sizeOf23)) ?_
            refine WO.q rfl rfl rfl rfl (fun w' hE78 => (X.loadO hO1 hE78 rfl rfl Try.isAgg23)) ?_
            refine WO.q rfl rfl rfl rfl (fun w' hE78 => (X.len rE rfl Try.underlying23)) ?_
            refine WO.l ?_
            refine LO.go rfl rfl (OW.enter rfl (by decide) (X.call Try.call36 (evl_cons rfl (evl_cons rfl evl_nil))) (ints_ok _ (headN o) _ o.P _ (Row.ext (Row.of_own ob) (Ext.drew _)) (Row.ext h.P (Ext.trans (hxz) (Ext.drew _))) (by omega)) ?_)
            rintro vc1 wc1 ⟨oc1, hx79⟩
            have := World.grownBy.size hx79
            refine ⟨(Ext.trans (Ext.drew _) hx79), ?_⟩
            refine WO.l ?_
            refine LO.go rfl rfl (OW.enter rfl (by decide) (X.call Try.call36 (evl_cons rfl (evl_cons rfl evl_nil))) (ints_ok _ _ _ o.R _ (Row.ext (Row.of_own oc1) (Ext.refl wc1)) (Row.ext h.R (Ext.trans (Ext.trans (hxz) (Ext.drew _)) hx79)) (by rw [List.length_append, pints_len]; omega)) ?_)
            rintro vc2 wc2 ⟨oc2, hx80⟩
            have := World.grownBy.size hx80
            refine ⟨(Ext.trans (Ext.trans (Ext.drew _) hx79) hx80), ?_⟩
            refine WO.l ?_
            refine LO.go rfl rfl (OW.enter rfl (by decide) (X.call Try.call33 (evl_cons rfl (evl_cons rfl evl_nil))) (int_ok _ _ _ _ (Row.ext (Row.of_own oc2) (Ext.refl wc2)) (by rw [List.length_append, List.length_append, pints_len, pints_len]; omega)) ?_)
            rintro vc3 wc3 ⟨oc3, hx81⟩
            have := World.grownBy.size hx81
            refine ⟨(Ext.trans (Ext.trans (Ext.trans (Ext.drew _) hx79) hx80) hx81), ?_⟩
            refine WO.nil ?_
            refine WL.op rfl (OW.storeO (hO5.ext (Ext.trans (Ext.trans (Ext.trans (Ext.drew _) hx79) hx80) hx81)) (Nat.le_of_ble_eq_true rfl) rfl rfl (own_one oc3) Try.sizeOf24 ?_)
            intro w82 hO5 hx84
            have := World.grownBy.size hx84
            replace hO1 := (hO1.ext (Ext.trans (Ext.trans (Ext.trans (Ext.drew _) hx79) hx80) hx81)).keptO hx84 (by omega)
            have obk0 : OwnB w82 w.heap.size 5 vc3 (headN o ++ lists2 o) := own_mono (own_keptO (by rw [hEl, List.append_assoc, List.append_assoc, ← List.append_assoc (Pk.ints o.P)] at oc3; exact oc3) hx84 (.inl (by omega))) (by omega)
            refine WL.nil ?_
            refine thn_n ?_
            refine WF.seq ?_
            refine WF.region ?_
            refine WL.va rfl rfl rfl (X.fieldAddrO (off := 15) rfl Try.underlying26 rfl rfl Try.sizeOf23) ?_
            refine WL.va rfl rfl rfl (X.loadO hO1 (Ext.refl _) rfl rfl Try.isAgg23) ?_
            refine WL.va rfl rfl rfl (X.len rE rfl Try.underlying23) ?_
            refine WL.va rfl rfl rfl (X.moveI rfl) ?_
            refine WL.nil ?_
            refine thn_n ?_
            refine WF.block ?_
            refine WF.named (fun F86 hF87 => ?_)
            refine WF.loopN (fun mL0 f' w' => ∃ (k : Nat) (vk : Value), mL0 = E.length - k ∧ f' 42 = .int .i64 (k : Int) ∧ Agree [0, 1, 2, 3, 4, 5, 8, 9, 10, 11, 13, 14, 15, 16, 17, 18, 19, 20, 21, 22, 24, 25, 26, 27, 28, 29, 30, 31, 32, 33, 34, 35, 36, 37, 38, 39, 40, 41] f' F86 ∧ Ext w w' ∧ k ≤ E.length ∧ Blk w' g1 26 (oc o.n vP vR vW vD) ∧ Blk w' g5 24 [vk] ∧ OwnB w' w.heap.size 5 vk (headN o ++ lists2 o ++ flatW ((E.map Prod.fst).take k))) ?_ ?_
            · exact ⟨_, 0, _, rfl, (congrFun hF87 42), (Agree.refl _ _), (Ext.store (Ext.trans (Ext.trans (Ext.trans (Ext.trans (hxz) (Ext.drew _)) hx79) hx80) hx81) hx84 (by omega)), ⟨Nat.zero_le _, hO1, hO5, by rw [List.take_zero]; show OwnB _ _ _ _ (_ ++ []); rw [List.append_nil]; exact obk0⟩⟩
            · rintro mL0 fL0 wL0 ⟨k, vk, hmL0, e42_L0, hAL0, hwL0, ⟨hk0, hO1, hO5, obk⟩⟩
              have := World.grownBy.size hwL0
              have hg5l := hO5.lt
              refine WF.seq ?_
              refine WF.region ?_
              refine WL.va rfl rfl rfl (X.lss e42_L0 ((hAL0.eq 41).trans (congrFun hF87 41))) ?_
              refine WL.nil ?_
              refine thn_n ?_
              refine WF.seq ?_
              refine WF.cond rfl (fun h2_88 => ?_) (fun h2_88 => ?_)
              · have gh2_88 := (of_decide_eq_true h2_88)
                have hk : k < E.length := by omega
                have hd4 : (E[k]'hk).1.Data.length = 4 := c5 _ (hE ▸ List.mem_map.2 ⟨_, List.getElem_mem hk, rfl⟩)
                refine WF.skip ?_
                refine thn_n ?_
                refine WF.seq ?_
                refine WF.block ?_
                refine WF.seq ?_
                refine WF.region ?_
                refine WL.va rfl rfl rfl (X.idx rE ((hAL0.eq 40).trans (congrFun hF87 40)) e42_L0 (by omega) Try.underlying23 Try.sizeOf52) ?_
                refine WL.va rfl rfl rfl (X.loadEl rE hwL0 rfl (by omega) (WRow.el hk) Try.isAgg52 Try.sizeOf52) ?_
                refine WL.op rfl (OW.allocO (cs := [i64 0, .slice none 0 0]) Try.zeroValue52 rfl ?_ (by decide))
                intro g7 w90 heg7 hlg7 hO7 hx92
                have := World.grownBy.size hx92
                refine WL.op rfl (OW.storeOA hO7 rfl rfl rfl (WDat.one1 dE hk) Try.sizeOf52 ?_)
                intro w94 hO7 hx96
                have := World.grownBy.size hx96
                replace hO1 := (hO1.ext hx92).keptO hx96 (by omega)
                replace hO5 := (hO5.ext hx92).keptO hx96 (by omega)
                replace hO7 : Blk _ _ _ (WV.c (E[k]'hk)) := hO7
                refine WL.nil ?_
                refine thn_n ?_
                refine WF.drawn (.q 0 (.q 1 (.q 2 (.q 4 (.q 5 (.l 3 (.l 6 .nil))))))) (fun w' => Ext w94 w') 7 (by kernel_rfl) (by kernel_rfl) (Ext.drew _) ?_
                have := World.grownBy.size (Ext.drew w94)
                refine WO.q rfl rfl rfl rfl (fun w' hE98 => (X.loadO hO5 hE98 ((hAL0.eq 5).trans (congrFun hF87 5)) rfl Try.isAgg24)) ?_
                refine WO.q rfl rfl rfl rfl (fun w' hE98 => (X.fieldAddrO (off := 0) rfl Try.underlying52 rfl rfl Try.sizeOf3)) ?_
                refine WO.q rfl rfl rfl rfl (fun w' hE98 => (X.loadO hO7 hE98 rfl rfl Try.isAgg3)) ?_
                refine WO.q rfl rfl rfl rfl (fun w' hE98 => (X.fieldAddrO (off := 1) rfl Try.underlying52 rfl rfl Try.sizeOf24)) ?_
                refine WO.q rfl rfl rfl rfl (fun w' hE98 => (X.loadO hO7 hE98 rfl rfl Try.isAgg24)) ?_
                refine WO.l ?_
                refine LO.go rfl rfl (OW.enter rfl (by decide) (X.call Try.call33 (evl_cons rfl (evl_cons rfl evl_nil))) (int_ok _ _ _ _ (Row.ext (Row.of_own obk) (Ext.trans (Ext.store hx92 hx96 (by omega)) (Ext.drew _))) (by have := hfw k; simp only [List.length_append]; omega)) ?_)
                rintro vd1 wd1 ⟨od1, hx99⟩
                have := World.grownBy.size hx99
                refine ⟨(Ext.trans (Ext.drew _) hx99), ?_⟩
                refine WO.l ?_
                refine LO.go rfl rfl (OW.enter rfl (by decide) (X.call Try.call37 (evl_cons rfl (evl_cons rfl evl_nil))) (blob_ok _ _ _ (E[k]'hk).1.Data _ (Row.ext (Row.of_own od1) (Ext.refl wd1)) (Row.ext (dE _ (List.getElem_mem hk)) (Ext.trans (Ext.trans (Ext.trans hwL0 (Ext.store hx92 hx96 (by omega))) (Ext.drew _)) hx99)) (by have := hfw k; simp only [List.length_append, Pk.enc_len]; omega)) ?_)
                rintro vd2 wd2 ⟨od2, hx100⟩
                have := World.grownBy.size hx100
                refine ⟨(Ext.trans (Ext.trans (Ext.drew _) hx99) hx100), ?_⟩
                refine WO.nil ?_
                refine WL.op rfl (OW.storeO (hO5.ext (Ext.trans (Ext.trans (Ext.drew _) hx99) hx100)) (Nat.le_of_ble_eq_true rfl) ((hAL0.eq 5).trans (congrFun hF87 5)) rfl (own_one od2) Try.sizeOf24 ?_)
                intro w101 hO5 hx103
                have := World.grownBy.size hx103
                replace hO1 := (hO1.ext (Ext.trans (Ext.trans (Ext.drew _) hx99) hx100)).keptO hx103 (by omega)
                replace hO7 := (hO7.ext (Ext.trans (Ext.trans (Ext.drew _) hx99) hx100)).keptO hx103 (by omega)
                have obk2 := own_mono (own_keptO od2 hx103 (.inl (by omega))) (show w.heap.size ≤ _ by omega)
                refine WL.nil ?_
                refine blk_n ?_
                refine thn_n ?_
                refine WF.region ?_
                refine WL.va rfl rfl rfl (X.add e42_L0 rfl (w64 (by omega))) ?_
                refine WL.va rfl rfl rfl (X.moveI rfl) ?_
                refine WL.nil ?_
                exact thn_n ⟨_, (by omega), k + 1, _, rfl, rfl, (by repeat (first | exact hAL0 | refine Agree.put ?_ rfl | refine Agree.named hF87 ?_)), (Ext.store (Ext.trans (Ext.trans (Ext.trans (Ext.trans hwL0 (Ext.store hx92 hx96 (by omega))) (Ext.drew _)) hx99) hx100) hx103 (by omega)), ⟨by omega, hO1, hO5, by rw [flatW_snoc hk, ← List.append_assoc, ← List.append_assoc]; exact obk2⟩⟩
              · have gh2_88 := (of_decide_eq_false h2_88)
                have ofin : OwnB wL0 w.heap.size 5 vk (obytes o) := by
                  rw [obytes2 hk2, ← List.append_assoc]
                  rw [List.take_of_length_le (by simp; omega), hE] at obk
                  exact obk
                refine WF.exit ?_
                refine thn_x ?_
                refine thn_x ?_
                refine blk_eq ?_
                refine blk_n ?_
                refine thn_n ?_
                refine WF.seq ?_
                refine WF.region ?_
                refine WL.va rfl rfl rfl (X.loadO hO5 (Ext.refl _) ((hAL0.eq 5).trans (congrFun hF87 5)) rfl Try.isAgg24) ?_
                refine WL.va rfl rfl rfl (X.assign rfl) ?_
                refine WL.va rfl rfl rfl (X.assignI rfl) ?_
                refine WL.nil ?_
                refine thn_n ?_
                refine WF.ret ?_
                refine fin_r ?_
                refine ⟨?_, hwL0⟩
                rw [hc0]
                exact ⟨_, rfl, fun _ => ofin, fun q => absurd rfl q⟩
          · have gh1_76 := (of_decide_eq_false h1_76)
            have hk2 : o.g 0 ≠ 2 := gh1_76
            refine WF.seq ?_
            refine WF.region ?_
            refine WL.va rfl rfl rfl (X.eql rfl rfl) ?_
            refine WL.va rfl rfl rfl (X.assignB rfl) ?_
            refine WL.nil ?_
            refine thn_n ?_
            refine WF.cond rfl (fun h3_105 => ?_) (fun h3_105 => ?_)
            · have gh3_105 := (of_decide_eq_true h3_105)
              have hk6 : o.g 0 = 6 := gh3_105
              refine WF.region ?_
              refine WL.va rfl rfl rfl (X.loadO hO5 (Ext.refl _) rfl rfl Try.isAgg24) ?_
              refine WL.va rfl rfl rfl (X.fieldAddrO (off := 16) rfl Try.underlying26 rfl rfl Try.sizeOf24) ?_
              refine WL.va rfl rfl rfl (X.loadO hO1 (Ext.refl _) rfl rfl Try.isAgg24) ?_
              refine WL.c rfl rfl rfl (X.call Try.call37 (evl_cons rfl (evl_cons rfl evl_nil))) (blob_ok _ (headN o) _ o.D _ (Row.ext (Row.of_own ob) (Ext.refl wn)) (Row.ext h.D (hxz)) (by omega)) ?_
              rintro ve1 we1 ⟨oe1, hx107⟩
              have := World.grownBy.size hx107
              refine WL.op rfl (OW.storeO (hO5.ext hx107) (Nat.le_of_ble_eq_true rfl) rfl rfl (own_one oe1) Try.sizeOf24 ?_)
              intro w108 hO5 hx110
              have := World.grownBy.size hx110
              replace hO1 := (hO1.ext hx107).keptO hx110 (by omega)
              have ofin : OwnB w108 w.heap.size 5 ve1 (obytes o) := by
                rw [obytes6 hk6]
                exact own_mono (own_keptO oe1 hx110 (.inl (by omega))) (by omega)
              refine WL.nil ?_
              refine blk_n ?_
              refine thn_n ?_
              refine WF.seq ?_
              refine WF.region ?_
              refine WL.va rfl rfl rfl (X.loadO hO5 (Ext.refl _) rfl rfl Try.isAgg24) ?_
              refine WL.va rfl rfl rfl (X.assign rfl) ?_
              refine WL.va rfl rfl rfl (X.assignI rfl) ?_
              refine WL.nil ?_
              refine thn_n ?_
              refine WF.ret ?_
              refine fin_r ?_
              refine ⟨?_, (Ext.store (Ext.trans (hxz) hx107) hx110 (by omega))⟩
              rw [hc0]
              exact ⟨_, rfl, fun _ => ofin, fun q => absurd rfl q⟩
            · have gh3_105 := (of_decide_eq_false h3_105)
              have hk6 : o.g 0 ≠ 6 := gh3_105
              have ofin : OwnB wn w.heap.size 5 vb (obytes o) := by rw [obytes0 hk2 hk6]; exact ob
              refine WF.skip ?_
              refine blk_n ?_
              refine thn_n ?_
              refine WF.seq ?_
              refine WF.region ?_
              refine WL.va rfl rfl rfl (X.loadO hO5 (Ext.refl _) rfl rfl Try.isAgg24) ?_
              refine WL.va rfl rfl rfl (X.assign rfl) ?_
              refine WL.va rfl rfl rfl (X.assignI rfl) ?_
              refine WL.nil ?_
              refine thn_n ?_
              refine WF.ret ?_
              refine fin_r ?_
              refine ⟨?_, (hxz)⟩
              rw [hc0]
              exact ⟨_, rfl, fun _ => ofin, fun q => absurd rfl q⟩
      · refine LO.go rfl rfl (OW.allocO (cs := [.slice none 0 0]) Try.zeroValue24 rfl ?_ (by decide))
        intro g5 w112 heg5 hlg5 hO5 hx114
        have := World.grownBy.size hx114
        refine ⟨(Ext.trans (Ext.trans (Ext.drew _) hx11) hx114), ?_⟩
        refine WO.l ?_
        refine LO.go rfl rfl (OW.enter rfl (by decide) (X.call Try.call33 (evl_cons rfl (evl_cons rfl evl_nil))) (int_ok _ _ _ _ (Row.ext (Row.of_own oa1) hx114) (by simp [Pk.enc_len])) ?_)
        rintro va2 wa2 ⟨oa2, hx116⟩
        have := World.grownBy.size hx116
        refine ⟨(Ext.trans (Ext.trans (Ext.trans (Ext.drew _) hx11) hx114) hx116), ?_⟩
        refine WO.l ?_
        refine LO.go rfl rfl (OW.enter rfl (by decide) (X.call Try.call33 (evl_cons rfl (evl_cons rfl evl_nil))) (int_ok _ _ _ _ (Row.ext (Row.of_own oa2) (Ext.refl wa2)) (by simp [Pk.enc_len])) ?_)
        rintro va3 w117 ⟨oa3, hx118⟩
        have := World.grownBy.size hx118
        refine ⟨(Ext.trans (Ext.trans (Ext.trans (Ext.trans (Ext.drew _) hx11) hx114) hx116) hx118), ?_⟩
        have ob0 : OwnT w117 _ w117.heap.size 5 1 va3 (head0 o.n).length ((head0 o.n).map u8) := OwnT.of (show OwnB w117 _ 5 va3 (head0 o.n) from by rw [List.nil_append] at oa3; exact oa3)
        refine WO.nil ?_
        refine WL.op rfl (OW.storeO (hO5.ext (Ext.trans hx116 hx118)) (Nat.le_of_ble_eq_true rfl) rfl rfl (own_one ob0.own) Try.sizeOf24 ?_)
        intro w119 hO5 hx121
        have := World.grownBy.size hx121
        replace hO1 := (hO1.ext (Ext.trans (Ext.trans (Ext.trans (Ext.trans (Ext.trans hx7 (Ext.drew _)) hx11) hx114) hx116) hx118)).keptO hx121 (by omega)
        replace ob0 := ob0.keptO hx121 (by omega)
        refine WL.nil ?_
        refine thn_n ?_
        refine WF.seq ?_
        refine WF.region ?_
        refine WL.va rfl rfl rfl (X.makeFunc (evl_cons rfl evl_nil)) ?_
        have hg1w : w.heap.size ≤ g1 := by omega
        have hg5w : w.heap.size ≤ g5 := by omega
        have hI0 : (Blk w119 g1 26 (oc o.n vP vR vW vD) ∧ (∃ vb, Blk w119 g5 24 [vb] ∧ OwnB w119 w.heap.size 5 vb (head0 o.n ++ flatN o.n ((offL (o.g 0)).take 0))) ∧ Ext w w119) := ⟨hO1, ⟨_, hO5, by rw [List.take_zero]; show OwnB _ _ _ _ (head0 o.n ++ []); rw [List.append_nil]; exact own_mono (ob0).own (by omega)⟩, (Ext.trans (Ext.trans (Ext.trans (Ext.trans hx3 hx7) (Ext.drew _)) hx11) (Ext.store (Ext.trans (Ext.trans hx114 hx116) hx118) hx121 (by omega)))⟩
        have hIst : ∀ (j : Nat) (wa wb : World), (Blk wa g1 26 (oc o.n vP vR vW vD) ∧ (∃ vb, Blk wa g5 24 [vb] ∧ OwnB wa w.heap.size 5 vb (head0 o.n ++ flatN o.n ((offL (o.g 0)).take j))) ∧ Ext w wa) → Ext wa wb → (Blk wb g1 26 (oc o.n vP vR vW vD) ∧ (∃ vb, Blk wb g5 24 [vb] ∧ OwnB wb w.heap.size 5 vb (head0 o.n ++ flatN o.n ((offL (o.g 0)).take j))) ∧ Ext w wb) := fun j wa wb hh hx => ⟨hh.1.ext hx, (by obtain ⟨vb, h1, h2⟩ := hh.2.1; exact ⟨vb, h1.ext hx, own_ext h2 hx⟩), Ext.trans hh.2.2 hx⟩
        have hst : ∀ L, offs (o.g 0) = some L → ∀ j wq, (hj : j < L.length) → (Blk wq g1 26 (oc o.n vP vR vW vD) ∧ (∃ vb, Blk wq g5 24 [vb] ∧ OwnB wq w.heap.size 5 vb (head0 o.n ++ flatN o.n ((offL (o.g 0)).take j))) ∧ Ext w wq) → Chg 0 w119.heap.size w119 wq → CloOk Try.prog (.func (.func 35) #[] [at_ g5].toArray) [.pointer (some ⟨g1, L[j], none⟩)] wq (fun _ w2 => (Blk w2 g1 26 (oc o.n vP vR vW vD) ∧ (∃ vb, Blk w2 g5 24 [vb] ∧ OwnB w2 w.heap.size 5 vb (head0 o.n ++ flatN o.n ((offL (o.g 0)).take (j + 1)))) ∧ Ext w w2) ∧ Chg 0 w119.heap.size wq w2) := fun L hL j wq hj hh hch => by
          have hin := offs_in hL hj
          have hL6 := offs_len hL
          obtain ⟨hh1, ⟨vb, hh2, hh3⟩, hh4⟩ := hh
          refine ⟨_, _, rfl, Try.call35, (putLit_ok g1 L[j] g5 _ (o.n.getD L[j] 0) vb _ wq hh1 (oc_get h.len (by omega)) hh2 (Bytes.of_own hh3) (by rw [List.length_append, head0_len, flatN_len]; simp only [List.length_take]; omega) (by omega)).mono fun _ w2 h2 => ?_⟩
          obtain ⟨vb2, k1, k2, k3, wm, k4, k5⟩ := h2
          refine ⟨⟨k3, ⟨vb2, k1, ?_⟩, Ext.store (Ext.trans hh4 k4) k5 hg5w⟩, Chg.trans (chg_ext k4) (Chg.of k5 (fun q hq => by injection hq with hq; subst hq; exact ⟨Nat.zero_le _, by omega⟩))⟩
          rw [offL_eq hL, flatN_snoc hj, ← List.append_assoc]
          rw [offL_eq hL] at k2
          exact own_mono k2 (World.grownBy.size hh4)
        refine WL.c rfl rfl rfl (X.call Try.call34 (evl_cons rfl (evl_cons rfl evl_nil))) (numbers_ok g1 _ (o.g 0) _ _ (fun j wq => Blk wq g1 26 (oc o.n vP vR vW vD) ∧ (∃ vb, Blk wq g5 24 [vb] ∧ OwnB wq w.heap.size 5 vb (head0 o.n ++ flatN o.n ((offL (o.g 0)).take j))) ∧ Ext w wq) hO1 rfl hI0 hIst hst) ?_
        rintro _ wn ⟨_, hq1, hq2, hcg⟩
        obtain ⟨hO1, ⟨vb, hO5, ob⟩, hxz⟩ := offs_end (I := (fun j wq => Blk wq g1 26 (oc o.n vP vR vW vD) ∧ (∃ vb, Blk wq g5 24 [vb] ∧ OwnB wq w.heap.size 5 vb (head0 o.n ++ flatN o.n ((offL (o.g 0)).take j))) ∧ Ext w wq)) hq1 hq2 hI0 hIst
        rw [List.take_length] at ob
        have ob : OwnB _ _ _ _ (headN o) := ob
        have hhl := headN_len o
        have hg5l := hO5.lt
        have := World.grownBy.size hxz
        refine WL.nil ?_
        refine thn_n ?_
        refine WF.seq ?_
        refine WF.seq ?_
        refine WF.region ?_
        refine WL.va rfl rfl rfl (X.fieldAddrO (off := 0) rfl Try.underlying26 rfl rfl Try.sizeOf3) ?_
        refine WL.va rfl rfl rfl (X.loadO hO1 (Ext.refl _) rfl rfl Try.isAgg3) ?_
        refine WL.nil ?_
        refine thn_n ?_
        refine WF.block ?_
        refine WF.seq ?_
        refine WF.region ?_
        refine WL.va rfl rfl rfl (X.eql rfl rfl) ?_
        refine WL.va rfl rfl rfl (X.assignB rfl) ?_
        refine WL.nil ?_
        refine thn_n ?_
        refine WF.cond rfl (fun h1_126 => ?_) (fun h1_126 => ?_)
        · have gh1_126 := (of_decide_eq_true h1_126)
          have hk2 : o.g 0 = 2 := gh1_126
          refine WF.seq ?_
          refine WF.drawn (.q 0 (.q 1 (.q 2 (.q 4 (.q 5 (.q 7 (.q 8 (.q 9 (.l 3 (.l 6 (.l 10 .nil))))))))))) (fun w' => Ext wn w') 11 (by kernel_rfl) (by kernel_rfl) (Ext.drew _) ?_
          have := World.grownBy.size (Ext.drew wn)
          refine WO.q rfl rfl rfl rfl (fun w' hE128 => (X.loadO hO5 hE128 rfl rfl Try.isAgg24)) ?_
          refine WO.q rfl rfl rfl rfl (fun w' hE128 => (X.fieldAddrO (off := 13) rfl Try.underlying26 rfl rfl Try.sizeOf22)) ?_
          refine WO.q rfl rfl rfl rfl (fun w' hE128 => (X.loadO hO1 hE128 rfl rfl Try.isAgg22)) ?_
          refine WO.q rfl rfl rfl rfl (fun w' hE128 => (X.fieldAddrO (off := 14) rfl Try.underlying26 rfl rfl Try.sizeOf22)) ?_
          refine WO.q rfl rfl rfl rfl (fun w' hE128 => (X.loadO hO1 hE128 rfl rfl Try.isAgg22)) ?_
          refine WO.q rfl rfl rfl rfl (fun w' hE128 => (X.fieldAddrO (off := 15) rfl Try.underlying26 rfl rfl Try.sizeOf23)) ?_
          refine WO.q rfl rfl rfl rfl (fun w' hE128 => (X.loadO hO1 hE128 rfl rfl Try.isAgg23)) ?_
          refine WO.q rfl rfl rfl rfl (fun w' hE128 => (X.len rE rfl Try.underlying23)) ?_
          refine WO.l ?_
          refine LO.go rfl rfl (OW.enter rfl (by decide) (X.call Try.call36 (evl_cons rfl (evl_cons rfl evl_nil))) (ints_ok _ (headN o) _ o.P _ (Row.ext (Row.of_own ob) (Ext.drew _)) (Row.ext h.P (Ext.trans (hxz) (Ext.drew _))) (by omega)) ?_)
          rintro vc1 wc1 ⟨oc1, hx129⟩
          have := World.grownBy.size hx129
          refine ⟨(Ext.trans (Ext.drew _) hx129), ?_⟩
          refine WO.l ?_
          refine LO.go rfl rfl (OW.enter rfl (by decide) (X.call Try.call36 (evl_cons rfl (evl_cons rfl evl_nil))) (ints_ok _ _ _ o.R _ (Row.ext (Row.of_own oc1) (Ext.refl wc1)) (Row.ext h.R (Ext.trans (Ext.trans (hxz) (Ext.drew _)) hx129)) (by rw [List.length_append, pints_len]; omega)) ?_)
          rintro vc2 wc2 ⟨oc2, hx130⟩
          have := World.grownBy.size hx130
          refine ⟨(Ext.trans (Ext.trans (Ext.drew _) hx129) hx130), ?_⟩
          refine WO.l ?_
          refine LO.go rfl rfl (OW.enter rfl (by decide) (X.call Try.call33 (evl_cons rfl (evl_cons rfl evl_nil))) (int_ok _ _ _ _ (Row.ext (Row.of_own oc2) (Ext.refl wc2)) (by rw [List.length_append, List.length_append, pints_len, pints_len]; omega)) ?_)
          rintro vc3 wc3 ⟨oc3, hx131⟩
          have := World.grownBy.size hx131
          refine ⟨(Ext.trans (Ext.trans (Ext.trans (Ext.drew _) hx129) hx130) hx131), ?_⟩
          refine WO.nil ?_
          refine WL.op rfl (OW.storeO (hO5.ext (Ext.trans (Ext.trans (Ext.trans (Ext.drew _) hx129) hx130) hx131)) (Nat.le_of_ble_eq_true rfl) rfl rfl (own_one oc3) Try.sizeOf24 ?_)
          intro w132 hO5 hx134
          have := World.grownBy.size hx134
          replace hO1 := (hO1.ext (Ext.trans (Ext.trans (Ext.trans (Ext.drew _) hx129) hx130) hx131)).keptO hx134 (by omega)
          have obk0 : OwnB w132 w.heap.size 5 vc3 (headN o ++ lists2 o) := own_mono (own_keptO (by rw [hEl, List.append_assoc, List.append_assoc, ← List.append_assoc (Pk.ints o.P)] at oc3; exact oc3) hx134 (.inl (by omega))) (by omega)
          refine WL.nil ?_
          refine thn_n ?_
          refine WF.seq ?_
          refine WF.region ?_
          refine WL.va rfl rfl rfl (X.fieldAddrO (off := 15) rfl Try.underlying26 rfl rfl Try.sizeOf23) ?_
          refine WL.va rfl rfl rfl (X.loadO hO1 (Ext.refl _) rfl rfl Try.isAgg23) ?_
          refine WL.va rfl rfl rfl (X.len rE rfl Try.underlying23) ?_
          refine WL.va rfl rfl rfl (X.moveI rfl) ?_
          refine WL.nil ?_
          refine thn_n ?_
          refine WF.block ?_
          refine WF.named (fun F136 hF137 => ?_)
          refine WF.loopN (fun mL0 f' w' => ∃ (k : Nat) (vk : Value), mL0 = E.length - k ∧ f' 42 = .int .i64 (k : Int) ∧ Agree [0, 1, 2, 3, 4, 5, 8, 9, 10, 11, 13, 14, 15, 16, 17, 18, 19, 20, 21, 22, 24, 25, 26, 27, 28, 29, 30, 31, 32, 33, 34, 35, 36, 37, 38, 39, 40, 41] f' F136 ∧ Ext w w' ∧ k ≤ E.length ∧ Blk w' g1 26 (oc o.n vP vR vW vD) ∧ Blk w' g5 24 [vk] ∧ OwnB w' w.heap.size 5 vk (headN o ++ lists2 o ++ flatW ((E.map Prod.fst).take k))) ?_ ?_
          · exact ⟨_, 0, _, rfl, (congrFun hF137 42), (Agree.refl _ _), (Ext.store (Ext.trans (Ext.trans (Ext.trans (Ext.trans (hxz) (Ext.drew _)) hx129) hx130) hx131) hx134 (by omega)), ⟨Nat.zero_le _, hO1, hO5, by rw [List.take_zero]; show OwnB _ _ _ _ (_ ++ []); rw [List.append_nil]; exact obk0⟩⟩
          · rintro mL0 fL0 wL0 ⟨k, vk, hmL0, e42_L0, hAL0, hwL0, ⟨hk0, hO1, hO5, obk⟩⟩
            have := World.grownBy.size hwL0
            have hg5l := hO5.lt
            refine WF.seq ?_
            refine WF.region ?_
            refine WL.va rfl rfl rfl (X.lss e42_L0 ((hAL0.eq 41).trans (congrFun hF137 41))) ?_
            refine WL.nil ?_
            refine thn_n ?_
            refine WF.seq ?_
            refine WF.cond rfl (fun h2_138 => ?_) (fun h2_138 => ?_)
            · have gh2_138 := (of_decide_eq_true h2_138)
              have hk : k < E.length := by omega
              have hd4 : (E[k]'hk).1.Data.length = 4 := c5 _ (hE ▸ List.mem_map.2 ⟨_, List.getElem_mem hk, rfl⟩)
              refine WF.skip ?_
              refine thn_n ?_
              refine WF.seq ?_
              refine WF.block ?_
              refine WF.seq ?_
              refine WF.region ?_
              refine WL.va rfl rfl rfl (X.idx rE ((hAL0.eq 40).trans (congrFun hF137 40)) e42_L0 (by omega) Try.underlying23 Try.sizeOf52) ?_
              refine WL.va rfl rfl rfl (X.loadEl rE hwL0 rfl (by omega) (WRow.el hk) Try.isAgg52 Try.sizeOf52) ?_
              refine WL.op rfl (OW.allocO (cs := [i64 0, .slice none 0 0]) Try.zeroValue52 rfl ?_ (by decide))
              intro g7 w140 heg7 hlg7 hO7 hx142
              have := World.grownBy.size hx142
              refine WL.op rfl (OW.storeOA hO7 rfl rfl rfl (WDat.one1 dE hk) Try.sizeOf52 ?_)
              intro w144 hO7 hx146
              have := World.grownBy.size hx146
              replace hO1 := (hO1.ext hx142).keptO hx146 (by omega)
              replace hO5 := (hO5.ext hx142).keptO hx146 (by omega)
              replace hO7 : Blk _ _ _ (WV.c (E[k]'hk)) := hO7
              refine WL.nil ?_
              refine thn_n ?_
              refine WF.drawn (.q 0 (.q 1 (.q 2 (.q 4 (.q 5 (.l 3 (.l 6 .nil))))))) (fun w' => Ext w144 w') 7 (by kernel_rfl) (by kernel_rfl) (Ext.drew _) ?_
              have := World.grownBy.size (Ext.drew w144)
              refine WO.q rfl rfl rfl rfl (fun w' hE148 => (X.loadO hO5 hE148 ((hAL0.eq 5).trans (congrFun hF137 5)) rfl Try.isAgg24)) ?_
              refine WO.q rfl rfl rfl rfl (fun w' hE148 => (X.fieldAddrO (off := 0) rfl Try.underlying52 rfl rfl Try.sizeOf3)) ?_
              refine WO.q rfl rfl rfl rfl (fun w' hE148 => (X.loadO hO7 hE148 rfl rfl Try.isAgg3)) ?_
              refine WO.q rfl rfl rfl rfl (fun w' hE148 => (X.fieldAddrO (off := 1) rfl Try.underlying52 rfl rfl Try.sizeOf24)) ?_
              refine WO.q rfl rfl rfl rfl (fun w' hE148 => (X.loadO hO7 hE148 rfl rfl Try.isAgg24)) ?_
              refine WO.l ?_
              refine LO.go rfl rfl (OW.enter rfl (by decide) (X.call Try.call33 (evl_cons rfl (evl_cons rfl evl_nil))) (int_ok _ _ _ _ (Row.ext (Row.of_own obk) (Ext.trans (Ext.store hx142 hx146 (by omega)) (Ext.drew _))) (by have := hfw k; simp only [List.length_append]; omega)) ?_)
              rintro vd1 wd1 ⟨od1, hx149⟩
              have := World.grownBy.size hx149
              refine ⟨(Ext.trans (Ext.drew _) hx149), ?_⟩
              refine WO.l ?_
              refine LO.go rfl rfl (OW.enter rfl (by decide) (X.call Try.call37 (evl_cons rfl (evl_cons rfl evl_nil))) (blob_ok _ _ _ (E[k]'hk).1.Data _ (Row.ext (Row.of_own od1) (Ext.refl wd1)) (Row.ext (dE _ (List.getElem_mem hk)) (Ext.trans (Ext.trans (Ext.trans hwL0 (Ext.store hx142 hx146 (by omega))) (Ext.drew _)) hx149)) (by have := hfw k; simp only [List.length_append, Pk.enc_len]; omega)) ?_)
              rintro vd2 wd2 ⟨od2, hx150⟩
              have := World.grownBy.size hx150
              refine ⟨(Ext.trans (Ext.trans (Ext.drew _) hx149) hx150), ?_⟩
              refine WO.nil ?_
              refine WL.op rfl (OW.storeO (hO5.ext (Ext.trans (Ext.trans (Ext.drew _) hx149) hx150)) (Nat.le_of_ble_eq_true rfl) ((hAL0.eq 5).trans (congrFun hF137 5)) rfl (own_one od2) Try.sizeOf24 ?_)
              intro w151 hO5 hx153
              have := World.grownBy.size hx153
              replace hO1 := (hO1.ext (Ext.trans (Ext.trans (Ext.drew _) hx149) hx150)).keptO hx153 (by omega)
              replace hO7 := (hO7.ext (Ext.trans (Ext.trans (Ext.drew _) hx149) hx150)).keptO hx153 (by omega)
              have obk2 := own_mono (own_keptO od2 hx153 (.inl (by omega))) (show w.heap.size ≤ _ by omega)
              refine WL.nil ?_
              refine blk_n ?_
              refine thn_n ?_
              refine WF.region ?_
              refine WL.va rfl rfl rfl (X.add e42_L0 rfl (w64 (by omega))) ?_
              refine WL.va rfl rfl rfl (X.moveI rfl) ?_
              refine WL.nil ?_
              exact thn_n ⟨_, (by omega), k + 1, _, rfl, rfl, (by repeat (first | exact hAL0 | refine Agree.put ?_ rfl | refine Agree.named hF137 ?_)), (Ext.store (Ext.trans (Ext.trans (Ext.trans (Ext.trans hwL0 (Ext.store hx142 hx146 (by omega))) (Ext.drew _)) hx149) hx150) hx153 (by omega)), ⟨by omega, hO1, hO5, by rw [flatW_snoc hk, ← List.append_assoc, ← List.append_assoc]; exact obk2⟩⟩
            · have gh2_138 := (of_decide_eq_false h2_138)
              have ofin : OwnB wL0 w.heap.size 5 vk (obytes o) := by
                rw [obytes2 hk2, ← List.append_assoc]
                rw [List.take_of_length_le (by simp; omega), hE] at obk
                exact obk
              refine WF.exit ?_
              refine thn_x ?_
              refine thn_x ?_
              refine blk_eq ?_
              refine blk_n ?_
              refine thn_n ?_
              refine WF.seq ?_
              refine WF.region ?_
              refine WL.va rfl rfl rfl (X.loadO hO5 (Ext.refl _) ((hAL0.eq 5).trans (congrFun hF137 5)) rfl Try.isAgg24) ?_
              refine WL.va rfl rfl rfl (X.assign rfl) ?_
              refine WL.va rfl rfl rfl (X.assignI rfl) ?_
              refine WL.nil ?_
              refine thn_n ?_
              refine WF.ret ?_
              refine fin_r ?_
              refine ⟨?_, hwL0⟩
              rw [hc0]
              exact ⟨_, rfl, fun _ => ofin, fun q => absurd rfl q⟩
        · have gh1_126 := (of_decide_eq_false h1_126)
          have hk2 : o.g 0 ≠ 2 := gh1_126
          refine WF.seq ?_
          refine WF.region ?_
          refine WL.va rfl rfl rfl (X.eql rfl rfl) ?_
          refine WL.va rfl rfl rfl (X.assignB rfl) ?_
          refine WL.nil ?_
          refine thn_n ?_
          refine WF.cond rfl (fun h3_155 => ?_) (fun h3_155 => ?_)
          · have gh3_155 := (of_decide_eq_true h3_155)
            have hk6 : o.g 0 = 6 := gh3_155
            refine WF.region ?_
            refine WL.va rfl rfl rfl (X.loadO hO5 (Ext.refl _) rfl rfl Try.isAgg24) ?_
            refine WL.va rfl rfl rfl (X.fieldAddrO (off := 16) rfl Try.underlying26 rfl rfl Try.sizeOf24) ?_
            refine WL.va rfl rfl rfl (X.loadO hO1 (Ext.refl _) rfl rfl Try.isAgg24) ?_
            refine WL.c rfl rfl rfl (X.call Try.call37 (evl_cons rfl (evl_cons rfl evl_nil))) (blob_ok _ (headN o) _ o.D _ (Row.ext (Row.of_own ob) (Ext.refl wn)) (Row.ext h.D (hxz)) (by omega)) ?_
            rintro ve1 we1 ⟨oe1, hx157⟩
            have := World.grownBy.size hx157
            refine WL.op rfl (OW.storeO (hO5.ext hx157) (Nat.le_of_ble_eq_true rfl) rfl rfl (own_one oe1) Try.sizeOf24 ?_)
            intro w158 hO5 hx160
            have := World.grownBy.size hx160
            replace hO1 := (hO1.ext hx157).keptO hx160 (by omega)
            have ofin : OwnB w158 w.heap.size 5 ve1 (obytes o) := by
              rw [obytes6 hk6]
              exact own_mono (own_keptO oe1 hx160 (.inl (by omega))) (by omega)
            refine WL.nil ?_
            refine blk_n ?_
            refine thn_n ?_
            refine WF.seq ?_
            refine WF.region ?_
            refine WL.va rfl rfl rfl (X.loadO hO5 (Ext.refl _) rfl rfl Try.isAgg24) ?_
            refine WL.va rfl rfl rfl (X.assign rfl) ?_
            refine WL.va rfl rfl rfl (X.assignI rfl) ?_
            refine WL.nil ?_
            refine thn_n ?_
            refine WF.ret ?_
            refine fin_r ?_
            refine ⟨?_, (Ext.store (Ext.trans (hxz) hx157) hx160 (by omega))⟩
            rw [hc0]
            exact ⟨_, rfl, fun _ => ofin, fun q => absurd rfl q⟩
          · have gh3_155 := (of_decide_eq_false h3_155)
            have hk6 : o.g 0 ≠ 6 := gh3_155
            have ofin : OwnB wn w.heap.size 5 vb (obytes o) := by rw [obytes0 hk2 hk6]; exact ob
            refine WF.skip ?_
            refine blk_n ?_
            refine thn_n ?_
            refine WF.seq ?_
            refine WF.region ?_
            refine WL.va rfl rfl rfl (X.loadO hO5 (Ext.refl _) rfl rfl Try.isAgg24) ?_
            refine WL.va rfl rfl rfl (X.assign rfl) ?_
            refine WL.va rfl rfl rfl (X.assignI rfl) ?_
            refine WL.nil ?_
            refine thn_n ?_
            refine WF.ret ?_
            refine fin_r ?_
            refine ⟨?_, (hxz)⟩
            rw [hc0]
            exact ⟨_, rfl, fun _ => ofin, fun q => absurd rfl q⟩
    · refine LO.go rfl rfl (OW.allocO (cs := [.slice none 0 0]) Try.zeroValue24 rfl ?_ (by decide))
      intro g5 w162 heg5 hlg5 hO5 hx164
      have := World.grownBy.size hx164
      refine ⟨(Ext.trans (Ext.drew _) hx164), ?_⟩
      refine WO.l ?_
      refine LO.go rfl rfl (OW.enter rfl (by decide) (X.call Try.call33 (evl_cons rfl (evl_cons rfl evl_nil))) (int_ok _ [] _ _ (Bytes.nil _) (by decide)) ?_)
      rintro va1 wa1 ⟨oa1, hx166⟩
      have := World.grownBy.size hx166
      refine ⟨(Ext.trans (Ext.trans (Ext.drew _) hx164) hx166), ?_⟩
      refine WO.l ?_
      refine LO.go rfl rfl (OW.enter rfl (by decide) (X.call Try.call33 (evl_cons rfl (evl_cons rfl evl_nil))) (int_ok _ _ _ _ (Row.ext (Row.of_own oa1) (Ext.refl wa1)) (by simp [Pk.enc_len])) ?_)
      rintro va2 wa2 ⟨oa2, hx167⟩
      have := World.grownBy.size hx167
      refine ⟨(Ext.trans (Ext.trans (Ext.trans (Ext.drew _) hx164) hx166) hx167), ?_⟩
      refine WO.l ?_
      refine LO.go rfl rfl (OW.enter rfl (by decide) (X.call Try.call33 (evl_cons rfl (evl_cons rfl evl_nil))) (int_ok _ _ _ _ (Row.ext (Row.of_own oa2) (Ext.refl wa2)) (by simp [Pk.enc_len])) ?_)
      rintro va3 w168 ⟨oa3, hx169⟩
      have := World.grownBy.size hx169
      refine ⟨(Ext.trans (Ext.trans (Ext.trans (Ext.trans (Ext.drew _) hx164) hx166) hx167) hx169), ?_⟩
      have ob0 : OwnT w168 _ w168.heap.size 5 1 va3 (head0 o.n).length ((head0 o.n).map u8) := OwnT.of (show OwnB w168 _ 5 va3 (head0 o.n) from by rw [List.nil_append] at oa3; exact oa3)
      refine WO.nil ?_
      refine WL.op rfl (OW.storeO (hO5.ext (Ext.trans (Ext.trans hx166 hx167) hx169)) (Nat.le_of_ble_eq_true rfl) rfl rfl (own_one ob0.own) Try.sizeOf24 ?_)
      intro w170 hO5 hx172
      have := World.grownBy.size hx172
      replace hO1 := (hO1.ext (Ext.trans (Ext.trans (Ext.trans (Ext.trans (Ext.trans hx7 (Ext.drew _)) hx164) hx166) hx167) hx169)).keptO hx172 (by omega)
      replace ob0 := ob0.keptO hx172 (by omega)
      refine WL.nil ?_
      refine thn_n ?_
      refine WF.seq ?_
      refine WF.region ?_
      refine WL.va rfl rfl rfl (X.makeFunc (evl_cons rfl evl_nil)) ?_
      have hg1w : w.heap.size ≤ g1 := by omega
      have hg5w : w.heap.size ≤ g5 := by omega
      have hI0 : (Blk w170 g1 26 (oc o.n vP vR vW vD) ∧ (∃ vb, Blk w170 g5 24 [vb] ∧ OwnB w170 w.heap.size 5 vb (head0 o.n ++ flatN o.n ((offL (o.g 0)).take 0))) ∧ Ext w w170) := ⟨hO1, ⟨_, hO5, by rw [List.take_zero]; show OwnB _ _ _ _ (head0 o.n ++ []); rw [List.append_nil]; exact own_mono (ob0).own (by omega)⟩, (Ext.trans (Ext.trans (Ext.trans hx3 hx7) (Ext.drew _)) (Ext.store (Ext.trans (Ext.trans (Ext.trans hx164 hx166) hx167) hx169) hx172 (by omega)))⟩
      have hIst : ∀ (j : Nat) (wa wb : World), (Blk wa g1 26 (oc o.n vP vR vW vD) ∧ (∃ vb, Blk wa g5 24 [vb] ∧ OwnB wa w.heap.size 5 vb (head0 o.n ++ flatN o.n ((offL (o.g 0)).take j))) ∧ Ext w wa) → Ext wa wb → (Blk wb g1 26 (oc o.n vP vR vW vD) ∧ (∃ vb, Blk wb g5 24 [vb] ∧ OwnB wb w.heap.size 5 vb (head0 o.n ++ flatN o.n ((offL (o.g 0)).take j))) ∧ Ext w wb) := fun j wa wb hh hx => ⟨hh.1.ext hx, (by obtain ⟨vb, h1, h2⟩ := hh.2.1; exact ⟨vb, h1.ext hx, own_ext h2 hx⟩), Ext.trans hh.2.2 hx⟩
      have hst : ∀ L, offs (o.g 0) = some L → ∀ j wq, (hj : j < L.length) → (Blk wq g1 26 (oc o.n vP vR vW vD) ∧ (∃ vb, Blk wq g5 24 [vb] ∧ OwnB wq w.heap.size 5 vb (head0 o.n ++ flatN o.n ((offL (o.g 0)).take j))) ∧ Ext w wq) → Chg 0 w170.heap.size w170 wq → CloOk Try.prog (.func (.func 35) #[] [at_ g5].toArray) [.pointer (some ⟨g1, L[j], none⟩)] wq (fun _ w2 => (Blk w2 g1 26 (oc o.n vP vR vW vD) ∧ (∃ vb, Blk w2 g5 24 [vb] ∧ OwnB w2 w.heap.size 5 vb (head0 o.n ++ flatN o.n ((offL (o.g 0)).take (j + 1)))) ∧ Ext w w2) ∧ Chg 0 w170.heap.size wq w2) := fun L hL j wq hj hh hch => by
        have hin := offs_in hL hj
        have hL6 := offs_len hL
        obtain ⟨hh1, ⟨vb, hh2, hh3⟩, hh4⟩ := hh
        refine ⟨_, _, rfl, Try.call35, (putLit_ok g1 L[j] g5 _ (o.n.getD L[j] 0) vb _ wq hh1 (oc_get h.len (by omega)) hh2 (Bytes.of_own hh3) (by rw [List.length_append, head0_len, flatN_len]; simp only [List.length_take]; omega) (by omega)).mono fun _ w2 h2 => ?_⟩
        obtain ⟨vb2, k1, k2, k3, wm, k4, k5⟩ := h2
        refine ⟨⟨k3, ⟨vb2, k1, ?_⟩, Ext.store (Ext.trans hh4 k4) k5 hg5w⟩, Chg.trans (chg_ext k4) (Chg.of k5 (fun q hq => by injection hq with hq; subst hq; exact ⟨Nat.zero_le _, by omega⟩))⟩
        rw [offL_eq hL, flatN_snoc hj, ← List.append_assoc]
        rw [offL_eq hL] at k2
        exact own_mono k2 (World.grownBy.size hh4)
      refine WL.c rfl rfl rfl (X.call Try.call34 (evl_cons rfl (evl_cons rfl evl_nil))) (numbers_ok g1 _ (o.g 0) _ _ (fun j wq => Blk wq g1 26 (oc o.n vP vR vW vD) ∧ (∃ vb, Blk wq g5 24 [vb] ∧ OwnB wq w.heap.size 5 vb (head0 o.n ++ flatN o.n ((offL (o.g 0)).take j))) ∧ Ext w wq) hO1 rfl hI0 hIst hst) ?_
      rintro _ wn ⟨_, hq1, hq2, hcg⟩
      obtain ⟨hO1, ⟨vb, hO5, ob⟩, hxz⟩ := offs_end (I := (fun j wq => Blk wq g1 26 (oc o.n vP vR vW vD) ∧ (∃ vb, Blk wq g5 24 [vb] ∧ OwnB wq w.heap.size 5 vb (head0 o.n ++ flatN o.n ((offL (o.g 0)).take j))) ∧ Ext w wq)) hq1 hq2 hI0 hIst
      rw [List.take_length] at ob
      have ob : OwnB _ _ _ _ (headN o) := ob
      have hhl := headN_len o
      have hg5l := hO5.lt
      have := World.grownBy.size hxz
      refine WL.nil ?_
      refine thn_n ?_
      refine WF.seq ?_
      refine WF.seq ?_
      refine WF.region ?_
      refine WL.va rfl rfl rfl (X.fieldAddrO (off := 0) rfl Try.underlying26 rfl rfl Try.sizeOf3) ?_
      refine WL.va rfl rfl rfl (X.loadO hO1 (Ext.refl _) rfl rfl Try.isAgg3) ?_
      refine WL.nil ?_
      refine thn_n ?_
      refine WF.block ?_
      refine WF.seq ?_
      refine WF.region ?_
      refine WL.va rfl rfl rfl (X.eql rfl rfl) ?_
      refine WL.va rfl rfl rfl (X.assignB rfl) ?_
      refine WL.nil ?_
      refine thn_n ?_
      refine WF.cond rfl (fun h1_177 => ?_) (fun h1_177 => ?_)
      · have gh1_177 := (of_decide_eq_true h1_177)
        have hk2 : o.g 0 = 2 := gh1_177
        refine WF.seq ?_
        refine WF.drawn (.q 0 (.q 1 (.q 2 (.q 4 (.q 5 (.q 7 (.q 8 (.q 9 (.l 3 (.l 6 (.l 10 .nil))))))))))) (fun w' => Ext wn w') 11 (by kernel_rfl) (by kernel_rfl) (Ext.drew _) ?_
        have := World.grownBy.size (Ext.drew wn)
        refine WO.q rfl rfl rfl rfl (fun w' hE179 => (X.loadO hO5 hE179 rfl rfl Try.isAgg24)) ?_
        refine WO.q rfl rfl rfl rfl (fun w' hE179 => (X.fieldAddrO (off := 13) rfl Try.underlying26 rfl rfl Try.sizeOf22)) ?_
        refine WO.q rfl rfl rfl rfl (fun w' hE179 => (X.loadO hO1 hE179 rfl rfl Try.isAgg22)) ?_
        refine WO.q rfl rfl rfl rfl (fun w' hE179 => (X.fieldAddrO (off := 14) rfl Try.underlying26 rfl rfl Try.sizeOf22)) ?_
        refine WO.q rfl rfl rfl rfl (fun w' hE179 => (X.loadO hO1 hE179 rfl rfl Try.isAgg22)) ?_
        refine WO.q rfl rfl rfl rfl (fun w' hE179 => (X.fieldAddrO (off := 15) rfl Try.underlying26 rfl rfl Try.sizeOf23)) ?_
        refine WO.q rfl rfl rfl rfl (fun w' hE179 => (X.loadO hO1 hE179 rfl rfl Try.isAgg23)) ?_
        refine WO.q rfl rfl rfl rfl (fun w' hE179 => (X.len rE rfl Try.underlying23)) ?_
        refine WO.l ?_
        refine LO.go rfl rfl (OW.enter rfl (by decide) (X.call Try.call36 (evl_cons rfl (evl_cons rfl evl_nil))) (ints_ok _ (headN o) _ o.P _ (Row.ext (Row.of_own ob) (Ext.drew _)) (Row.ext h.P (Ext.trans (hxz) (Ext.drew _))) (by omega)) ?_)
        rintro vc1 wc1 ⟨oc1, hx180⟩
        have := World.grownBy.size hx180
        refine ⟨(Ext.trans (Ext.drew _) hx180), ?_⟩
        refine WO.l ?_
        refine LO.go rfl rfl (OW.enter rfl (by decide) (X.call Try.call36 (evl_cons rfl (evl_cons rfl evl_nil))) (ints_ok _ _ _ o.R _ (Row.ext (Row.of_own oc1) (Ext.refl wc1)) (Row.ext h.R (Ext.trans (Ext.trans (hxz) (Ext.drew _)) hx180)) (by rw [List.length_append, pints_len]; omega)) ?_)
        rintro vc2 wc2 ⟨oc2, hx181⟩
        have := World.grownBy.size hx181
        refine ⟨(Ext.trans (Ext.trans (Ext.drew _) hx180) hx181), ?_⟩
        refine WO.l ?_
        refine LO.go rfl rfl (OW.enter rfl (by decide) (X.call Try.call33 (evl_cons rfl (evl_cons rfl evl_nil))) (int_ok _ _ _ _ (Row.ext (Row.of_own oc2) (Ext.refl wc2)) (by rw [List.length_append, List.length_append, pints_len, pints_len]; omega)) ?_)
        rintro vc3 wc3 ⟨oc3, hx182⟩
        have := World.grownBy.size hx182
        refine ⟨(Ext.trans (Ext.trans (Ext.trans (Ext.drew _) hx180) hx181) hx182), ?_⟩
        refine WO.nil ?_
        refine WL.op rfl (OW.storeO (hO5.ext (Ext.trans (Ext.trans (Ext.trans (Ext.drew _) hx180) hx181) hx182)) (Nat.le_of_ble_eq_true rfl) rfl rfl (own_one oc3) Try.sizeOf24 ?_)
        intro w183 hO5 hx185
        have := World.grownBy.size hx185
        replace hO1 := (hO1.ext (Ext.trans (Ext.trans (Ext.trans (Ext.drew _) hx180) hx181) hx182)).keptO hx185 (by omega)
        have obk0 : OwnB w183 w.heap.size 5 vc3 (headN o ++ lists2 o) := own_mono (own_keptO (by rw [hEl, List.append_assoc, List.append_assoc, ← List.append_assoc (Pk.ints o.P)] at oc3; exact oc3) hx185 (.inl (by omega))) (by omega)
        refine WL.nil ?_
        refine thn_n ?_
        refine WF.seq ?_
        refine WF.region ?_
        refine WL.va rfl rfl rfl (X.fieldAddrO (off := 15) rfl Try.underlying26 rfl rfl Try.sizeOf23) ?_
        refine WL.va rfl rfl rfl (X.loadO hO1 (Ext.refl _) rfl rfl Try.isAgg23) ?_
        refine WL.va rfl rfl rfl (X.len rE rfl Try.underlying23) ?_
        refine WL.va rfl rfl rfl (X.moveI rfl) ?_
        refine WL.nil ?_
        refine thn_n ?_
        refine WF.block ?_
        refine WF.named (fun F187 hF188 => ?_)
        refine WF.loopN (fun mL0 f' w' => ∃ (k : Nat) (vk : Value), mL0 = E.length - k ∧ f' 42 = .int .i64 (k : Int) ∧ Agree [0, 1, 2, 3, 4, 5, 8, 9, 10, 11, 13, 14, 15, 16, 17, 18, 19, 20, 21, 22, 24, 25, 26, 27, 28, 29, 30, 31, 32, 33, 34, 35, 36, 37, 38, 39, 40, 41] f' F187 ∧ Ext w w' ∧ k ≤ E.length ∧ Blk w' g1 26 (oc o.n vP vR vW vD) ∧ Blk w' g5 24 [vk] ∧ OwnB w' w.heap.size 5 vk (headN o ++ lists2 o ++ flatW ((E.map Prod.fst).take k))) ?_ ?_
        · exact ⟨_, 0, _, rfl, (congrFun hF188 42), (Agree.refl _ _), (Ext.store (Ext.trans (Ext.trans (Ext.trans (Ext.trans (hxz) (Ext.drew _)) hx180) hx181) hx182) hx185 (by omega)), ⟨Nat.zero_le _, hO1, hO5, by rw [List.take_zero]; show OwnB _ _ _ _ (_ ++ []); rw [List.append_nil]; exact obk0⟩⟩
        · rintro mL0 fL0 wL0 ⟨k, vk, hmL0, e42_L0, hAL0, hwL0, ⟨hk0, hO1, hO5, obk⟩⟩
          have := World.grownBy.size hwL0
          have hg5l := hO5.lt
          refine WF.seq ?_
          refine WF.region ?_
          refine WL.va rfl rfl rfl (X.lss e42_L0 ((hAL0.eq 41).trans (congrFun hF188 41))) ?_
          refine WL.nil ?_
          refine thn_n ?_
          refine WF.seq ?_
          refine WF.cond rfl (fun h2_189 => ?_) (fun h2_189 => ?_)
          · have gh2_189 := (of_decide_eq_true h2_189)
            have hk : k < E.length := by omega
            have hd4 : (E[k]'hk).1.Data.length = 4 := c5 _ (hE ▸ List.mem_map.2 ⟨_, List.getElem_mem hk, rfl⟩)
            refine WF.skip ?_
            refine thn_n ?_
            refine WF.seq ?_
            refine WF.block ?_
            refine WF.seq ?_
            refine WF.region ?_
            refine WL.va rfl rfl rfl (X.idx rE ((hAL0.eq 40).trans (congrFun hF188 40)) e42_L0 (by omega) Try.underlying23 Try.sizeOf52) ?_
            refine WL.va rfl rfl rfl (X.loadEl rE hwL0 rfl (by omega) (WRow.el hk) Try.isAgg52 Try.sizeOf52) ?_
            refine WL.op rfl (OW.allocO (cs := [i64 0, .slice none 0 0]) Try.zeroValue52 rfl ?_ (by decide))
            intro g7 w191 heg7 hlg7 hO7 hx193
            have := World.grownBy.size hx193
            refine WL.op rfl (OW.storeOA hO7 rfl rfl rfl (WDat.one1 dE hk) Try.sizeOf52 ?_)
            intro w195 hO7 hx197
            have := World.grownBy.size hx197
            replace hO1 := (hO1.ext hx193).keptO hx197 (by omega)
            replace hO5 := (hO5.ext hx193).keptO hx197 (by omega)
            replace hO7 : Blk _ _ _ (WV.c (E[k]'hk)) := hO7
            refine WL.nil ?_
            refine thn_n ?_
            refine WF.drawn (.q 0 (.q 1 (.q 2 (.q 4 (.q 5 (.l 3 (.l 6 .nil))))))) (fun w' => Ext w195 w') 7 (by kernel_rfl) (by kernel_rfl) (Ext.drew _) ?_
            have := World.grownBy.size (Ext.drew w195)
            refine WO.q rfl rfl rfl rfl (fun w' hE199 => (X.loadO hO5 hE199 ((hAL0.eq 5).trans (congrFun hF188 5)) rfl Try.isAgg24)) ?_
            refine WO.q rfl rfl rfl rfl (fun w' hE199 => (X.fieldAddrO (off := 0) rfl Try.underlying52 rfl rfl Try.sizeOf3)) ?_
            refine WO.q rfl rfl rfl rfl (fun w' hE199 => (X.loadO hO7 hE199 rfl rfl Try.isAgg3)) ?_
            refine WO.q rfl rfl rfl rfl (fun w' hE199 => (X.fieldAddrO (off := 1) rfl Try.underlying52 rfl rfl Try.sizeOf24)) ?_
            refine WO.q rfl rfl rfl rfl (fun w' hE199 => (X.loadO hO7 hE199 rfl rfl Try.isAgg24)) ?_
            refine WO.l ?_
            refine LO.go rfl rfl (OW.enter rfl (by decide) (X.call Try.call33 (evl_cons rfl (evl_cons rfl evl_nil))) (int_ok _ _ _ _ (Row.ext (Row.of_own obk) (Ext.trans (Ext.store hx193 hx197 (by omega)) (Ext.drew _))) (by have := hfw k; simp only [List.length_append]; omega)) ?_)
            rintro vd1 wd1 ⟨od1, hx200⟩
            have := World.grownBy.size hx200
            refine ⟨(Ext.trans (Ext.drew _) hx200), ?_⟩
            refine WO.l ?_
            refine LO.go rfl rfl (OW.enter rfl (by decide) (X.call Try.call37 (evl_cons rfl (evl_cons rfl evl_nil))) (blob_ok _ _ _ (E[k]'hk).1.Data _ (Row.ext (Row.of_own od1) (Ext.refl wd1)) (Row.ext (dE _ (List.getElem_mem hk)) (Ext.trans (Ext.trans (Ext.trans hwL0 (Ext.store hx193 hx197 (by omega))) (Ext.drew _)) hx200)) (by have := hfw k; simp only [List.length_append, Pk.enc_len]; omega)) ?_)
            rintro vd2 wd2 ⟨od2, hx201⟩
            have := World.grownBy.size hx201
            refine ⟨(Ext.trans (Ext.trans (Ext.drew _) hx200) hx201), ?_⟩
            refine WO.nil ?_
            refine WL.op rfl (OW.storeO (hO5.ext (Ext.trans (Ext.trans (Ext.drew _) hx200) hx201)) (Nat.le_of_ble_eq_true rfl) ((hAL0.eq 5).trans (congrFun hF188 5)) rfl (own_one od2) Try.sizeOf24 ?_)
            intro w202 hO5 hx204
            have := World.grownBy.size hx204
            replace hO1 := (hO1.ext (Ext.trans (Ext.trans (Ext.drew _) hx200) hx201)).keptO hx204 (by omega)
            replace hO7 := (hO7.ext (Ext.trans (Ext.trans (Ext.drew _) hx200) hx201)).keptO hx204 (by omega)
            have obk2 := own_mono (own_keptO od2 hx204 (.inl (by omega))) (show w.heap.size ≤ _ by omega)
            refine WL.nil ?_
            refine blk_n ?_
            refine thn_n ?_
            refine WF.region ?_
            refine WL.va rfl rfl rfl (X.add e42_L0 rfl (w64 (by omega))) ?_
            refine WL.va rfl rfl rfl (X.moveI rfl) ?_
            refine WL.nil ?_
            exact thn_n ⟨_, (by omega), k + 1, _, rfl, rfl, (by repeat (first | exact hAL0 | refine Agree.put ?_ rfl | refine Agree.named hF188 ?_)), (Ext.store (Ext.trans (Ext.trans (Ext.trans (Ext.trans hwL0 (Ext.store hx193 hx197 (by omega))) (Ext.drew _)) hx200) hx201) hx204 (by omega)), ⟨by omega, hO1, hO5, by rw [flatW_snoc hk, ← List.append_assoc, ← List.append_assoc]; exact obk2⟩⟩
          · have gh2_189 := (of_decide_eq_false h2_189)
            have ofin : OwnB wL0 w.heap.size 5 vk (obytes o) := by
              rw [obytes2 hk2, ← List.append_assoc]
              rw [List.take_of_length_le (by simp; omega), hE] at obk
              exact obk
            refine WF.exit ?_
            refine thn_x ?_
            refine thn_x ?_
            refine blk_eq ?_
            refine blk_n ?_
            refine thn_n ?_
            refine WF.seq ?_
            refine WF.region ?_
            refine WL.va rfl rfl rfl (X.loadO hO5 (Ext.refl _) ((hAL0.eq 5).trans (congrFun hF188 5)) rfl Try.isAgg24) ?_
            refine WL.va rfl rfl rfl (X.assign rfl) ?_
            refine WL.va rfl rfl rfl (X.assignI rfl) ?_
            refine WL.nil ?_
            refine thn_n ?_
            refine WF.ret ?_
            refine fin_r ?_
            refine ⟨?_, hwL0⟩
            rw [hc0]
            exact ⟨_, rfl, fun _ => ofin, fun q => absurd rfl q⟩
      · have gh1_177 := (of_decide_eq_false h1_177)
        have hk2 : o.g 0 ≠ 2 := gh1_177
        refine WF.seq ?_
        refine WF.region ?_
        refine WL.va rfl rfl rfl (X.eql rfl rfl) ?_
        refine WL.va rfl rfl rfl (X.assignB rfl) ?_
        refine WL.nil ?_
        refine thn_n ?_
        refine WF.cond rfl (fun h3_206 => ?_) (fun h3_206 => ?_)
        · have gh3_206 := (of_decide_eq_true h3_206)
          have hk6 : o.g 0 = 6 := gh3_206
          refine WF.region ?_
          refine WL.va rfl rfl rfl (X.loadO hO5 (Ext.refl _) rfl rfl Try.isAgg24) ?_
          refine WL.va rfl rfl rfl (X.fieldAddrO (off := 16) rfl Try.underlying26 rfl rfl Try.sizeOf24) ?_
          refine WL.va rfl rfl rfl (X.loadO hO1 (Ext.refl _) rfl rfl Try.isAgg24) ?_
          refine WL.c rfl rfl rfl (X.call Try.call37 (evl_cons rfl (evl_cons rfl evl_nil))) (blob_ok _ (headN o) _ o.D _ (Row.ext (Row.of_own ob) (Ext.refl wn)) (Row.ext h.D (hxz)) (by omega)) ?_
          rintro ve1 we1 ⟨oe1, hx208⟩
          have := World.grownBy.size hx208
          refine WL.op rfl (OW.storeO (hO5.ext hx208) (Nat.le_of_ble_eq_true rfl) rfl rfl (own_one oe1) Try.sizeOf24 ?_)
          intro w209 hO5 hx211
          have := World.grownBy.size hx211
          replace hO1 := (hO1.ext hx208).keptO hx211 (by omega)
          have ofin : OwnB w209 w.heap.size 5 ve1 (obytes o) := by
            rw [obytes6 hk6]
            exact own_mono (own_keptO oe1 hx211 (.inl (by omega))) (by omega)
          refine WL.nil ?_
          refine blk_n ?_
          refine thn_n ?_
          refine WF.seq ?_
          refine WF.region ?_
          refine WL.va rfl rfl rfl (X.loadO hO5 (Ext.refl _) rfl rfl Try.isAgg24) ?_
          refine WL.va rfl rfl rfl (X.assign rfl) ?_
          refine WL.va rfl rfl rfl (X.assignI rfl) ?_
          refine WL.nil ?_
          refine thn_n ?_
          refine WF.ret ?_
          refine fin_r ?_
          refine ⟨?_, (Ext.store (Ext.trans (hxz) hx208) hx211 (by omega))⟩
          rw [hc0]
          exact ⟨_, rfl, fun _ => ofin, fun q => absurd rfl q⟩
        · have gh3_206 := (of_decide_eq_false h3_206)
          have hk6 : o.g 0 ≠ 6 := gh3_206
          have ofin : OwnB wn w.heap.size 5 vb (obytes o) := by rw [obytes0 hk2 hk6]; exact ob
          refine WF.skip ?_
          refine blk_n ?_
          refine thn_n ?_
          refine WF.seq ?_
          refine WF.region ?_
          refine WL.va rfl rfl rfl (X.loadO hO5 (Ext.refl _) rfl rfl Try.isAgg24) ?_
          refine WL.va rfl rfl rfl (X.assign rfl) ?_
          refine WL.va rfl rfl rfl (X.assignI rfl) ?_
          refine WL.nil ?_
          refine thn_n ?_
          refine WF.ret ?_
          refine fin_r ?_
          refine ⟨?_, (hxz)⟩
          rw [hc0]
          exact ⟨_, rfl, fun _ => ofin, fun q => absurd rfl q⟩

end Go.Proofs.Ythaojdpeimlngaa
