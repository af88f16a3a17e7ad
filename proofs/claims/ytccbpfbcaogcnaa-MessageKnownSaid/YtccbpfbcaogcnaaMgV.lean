/- The walks of MessageTurned and MessageUnlike. -/
import Derived.Test.YtccbpfbcaogcnaaMgT
namespace Go.Proofs.Ytccbpfbcaogcnaa
open Go Go.RowKit Kf
set_option maxRecDepth 20000
theorem q8m (q : Nat) : (q : Int).tmod 8 = ((q % 8 : Nat) : Int) := by
  rw [Int.tmod_eq_emod_of_nonneg (by omega)]; omega

set_option maxHeartbeats 4000000 in
theorem messageTurned_walk (vE vD : Value) (m : Mg) (bit cut x0 : Int) (w : World) (h : MgAt w vE vD m) (hbit : -9223372036854775808 ≤ bit ∧ bit ≤ 9223372036854775807) (hcut : -9223372036854775808 ≤ cut ∧ cut ≤ 9223372036854775807) (hx0 : 0 ≤ x0 ∧ x0 ≤ 255) : FnOk Try.prog 8 [agg (mc m.n m.ok vE vD), i64 bit, i64 cut, .int .u8 x0] w (fun r w' => r = .bool true ∧ Ext w w') := by
  obtain ⟨x, rfl⟩ : ∃ x : UInt8, x0 = (x.toNat : Int) := ⟨UInt8.ofNat x0.toNat, by simp; omega⟩
  refine FnOk.enter (rs := [8]) Try.func8 rfl Try.ntmps8 Try.results8 rfl rfl ?_
  refine WF.seq ?_
  refine WF.region ?_
  refine WL.op rfl (OW.boxA (cs := (mc m.n m.ok vE vD)) rfl ?_ (by decide))
  intro g4 w1 heg4 hlg4 hO4 hx3
  have := World.grownBy.size hx3
  refine WL.va rfl rfl rfl (X.assignB rfl) ?_
  refine WL.nil ?_
  refine thn_n ?_
  refine WF.seq ?_
  refine WF.seq ?_
  refine WF.region ?_
  refine WL.va rfl rfl rfl (X.loadOA hO4 (Ext.refl _) rfl rfl Try.isAgg25 Try.sizeOf25) ?_
  refine WL.c rfl rfl rfl (X.call Try.call11 (evl_cons rfl evl_nil)) (big_ok vE vD m _ (h.ext hx3)) ?_
  rintro v7 w6 ⟨⟨bb, rfl, hbb⟩, hx8⟩
  have := World.grownBy.size hx8
  refine WL.nil ?_
  refine thn_n ?_
  refine WF.cond rfl (fun h0_9 => ?_) (fun h0_9 => ?_)
  · have gh0_9 := h0_9
    refine WF.seq ?_
    refine WF.region ?_
    refine WL.c rfl rfl rfl (X.call Try.call12 evl_nil) (works_ok _) ?_
    rintro v12 w11 ⟨rfl, hx13⟩
    have := World.grownBy.size hx13
    refine WL.va rfl rfl rfl (X.assignB rfl) ?_
    refine WL.nil ?_
    refine thn_n ?_
    refine WF.ret ?_
    refine thn_r ?_
    refine fin_r ?_
    exact ⟨rfl, (Ext.trans (Ext.trans hx3 hx8) hx13)⟩
  · have gh0_9 := h0_9
    have hsm := hbb gh0_9
    refine WF.skip ?_
    refine thn_n ?_
    refine WF.seq ?_
    refine WF.region ?_
    refine WL.va rfl rfl rfl (X.loadOA hO4 hx8 rfl rfl Try.isAgg25 Try.sizeOf25) ?_
    refine WL.c rfl rfl rfl (X.call Try.call16 (evl_cons rfl evl_nil)) (put_ob (h.ext (Ext.trans hx3 hx8))) ?_
    rintro v15 wb ⟨⟨vb, rfl, hb0⟩, hx16⟩
    have := World.grownBy.size hx16
    refine WL.va rfl rfl rfl (X.move rfl) ?_
    refine WL.va rfl rfl rfl (X.extract rfl rfl) ?_
    refine WL.va rfl rfl rfl (X.extract rfl rfl) ?_
    refine WL.va rfl rfl rfl (X.assign rfl) ?_
    refine WL.va rfl rfl rfl (X.assignI rfl) ?_
    refine WL.nil ?_
    refine thn_n ?_
    refine WF.seq ?_
    refine WF.seq ?_
    refine WF.region ?_
    refine WL.va rfl rfl rfl (X.moveI rfl) ?_
    refine WL.va rfl rfl rfl (X.neq rfl rfl) ?_
    refine WL.nil ?_
    refine thn_n ?_
    refine WF.cond rfl (fun h1_17 => ?_) (fun h1_17 => ?_)
    · have gh1_17 := (of_decide_eq_true h1_17)
      refine WF.seq ?_
      refine WF.region ?_
      refine WL.c rfl rfl rfl (X.call Try.call12 evl_nil) (works_ok _) ?_
      rintro v20 w19 ⟨rfl, hx21⟩
      have := World.grownBy.size hx21
      refine WL.va rfl rfl rfl (X.assignB rfl) ?_
      refine WL.nil ?_
      refine thn_n ?_
      refine WF.ret ?_
      refine thn_r ?_
      refine fin_r ?_
      exact ⟨rfl, (Ext.trans (Ext.trans (Ext.trans hx3 hx8) hx16) hx21)⟩
    · have gh1_17 := (Decidable.of_not_not (of_decide_eq_false h1_17))
      have hc0 : chk m = 0 := gh1_17
      have fb : Bytes wb vb (mput m) := by have := Bytes.of_own hb0; rwa [pb_ok hc0] at this
      have hol := mput_le hc0
      have hol2 := mput_len m
      refine WF.skip ?_
      refine thn_n ?_
      refine WF.seq ?_
      refine WF.seq ?_
      refine WF.region ?_
      refine WL.va rfl rfl rfl (X.move rfl) ?_
      refine WL.va rfl rfl rfl (X.len fb rfl Try.underlying23) ?_
      refine WL.va rfl rfl rfl (X.eql rfl rfl) ?_
      refine WL.nil ?_
      refine thn_n ?_
      refine WF.cond rfl (fun h2_23 => ?_) (fun h2_23 => ?_)
      · have gh2_23 := (of_decide_eq_true h2_23)
        exfalso; omega
      · have gh2_23 := (of_decide_eq_false h2_23)
        refine WF.skip ?_
        refine thn_n ?_
        refine WF.seq ?_
        refine WF.region ?_
        refine WL.va rfl rfl rfl (X.moveI rfl) ?_
        refine WL.va rfl rfl rfl (X.move rfl) ?_
        refine WL.va rfl rfl rfl (X.len fb rfl Try.underlying23) ?_
        refine WL.va rfl rfl rfl (X.mul rfl rfl (w64 (by omega))) ?_
        refine WL.c rfl rfl rfl (X.call Try.call26 (evl_cons rfl (evl_cons rfl evl_nil))) (pick_ok _ _ _ hbit (by omega)) ?_
        rintro v26 w25 ⟨⟨q0, rfl, hp0, hp1⟩, rfl⟩
        have hq := hp1 (by omega)
        obtain ⟨q, rfl⟩ := Int.eq_ofNat_of_zero_le hq.1
        refine WL.va rfl rfl rfl (X.assignI rfl) ?_
        refine WL.nil ?_
        refine thn_n ?_
        refine WF.seq ?_
        refine WF.region ?_
        refine WL.va rfl rfl rfl (X.move rfl) ?_
        refine WL.c rfl rfl rfl (X.call Try.call27 (evl_cons rfl evl_nil)) (copyBytes_ok _ _ _ (Row.ext fb (Ext.refl wb)) (by omega)) ?_
        rintro vc w28 ⟨oc, hx29⟩
        have := World.grownBy.size hx29
        refine WL.va rfl rfl rfl (X.assign rfl) ?_
        refine WL.nil ?_
        refine thn_n ?_
        refine WF.seq ?_
        refine WF.region ?_
        refine WL.va rfl rfl rfl (X.move rfl) ?_
        refine WL.va rfl rfl rfl (X.moveI rfl) ?_
        refine WL.va rfl rfl rfl (X.quo rfl rfl (by omega) (q8 (by omega))) ?_
        refine WL.va rfl rfl rfl (X.move rfl) ?_
        refine WL.va rfl rfl rfl (X.moveI rfl) ?_
        refine WL.va rfl rfl rfl (X.quo rfl rfl (by omega) (q8 (by omega))) ?_
        refine WL.va rfl rfl rfl (X.idx (Bytes.of_own oc) rfl rfl (by omega) Try.underlying23 Try.sizeOf5) ?_
        refine WL.va rfl rfl rfl (X.loadB (Bytes.of_own oc) (Ext.refl _) rfl (by omega) Try.isAgg5) ?_
        refine WL.va rfl rfl rfl (X.moveI rfl) ?_
        refine WL.va rfl rfl rfl (X.rem rfl rfl (by omega) (q8m _)) ?_
        refine WL.va rfl rfl rfl (X.conv rfl (congrArg Option.isSome Try.underlying3) Try.underlying43 (wu64 (by omega))) ?_
        refine WL.va rfl rfl rfl (X.shl rfl rfl (by omega) (shl8 _ (by omega) (by omega))) ?_
        refine WL.va rfl rfl rfl (X.xor rfl rfl (xor8 _ _)) ?_
        refine WL.va rfl rfl rfl (X.idx (Bytes.of_own oc) rfl rfl (by omega) Try.underlying23 Try.sizeOf5) ?_
        refine WL.op rfl (OW.storeB oc (by omega) rfl rfl Try.sizeOf5 ?_)
        intro wt ho32 hx31
        obtain ⟨C, hC, oC⟩ : ∃ C, C = (mput m).set (q / 8) ((mput m).getD (q / 8) 0 ^^^ one8 (q % 8)) ∧ OwnB wt wb.heap.size 5 vc C := ⟨_, rfl, ho32⟩
        have hCl : C.length = (mput m).length := by rw [hC, List.length_set]
        have hgC : (got C).2 ≠ 0 := by rw [hC]; exact got_turned (mbytes_len hc0) (by omega)
        have := World.grownBy.size hx31
        refine WL.nil ?_
        refine thn_n ?_
        refine WF.seq ?_
        refine WF.region ?_
        refine WL.va rfl rfl rfl (X.move rfl) ?_
        refine WL.c rfl rfl rfl (X.call Try.call22 (evl_cons rfl evl_nil)) (get_ok _ C _ (Row.ext (Bytes.of_own oC) (Ext.refl wt)) (by omega)) ?_
        rintro v34 w33 ⟨⟨p1, p2, rfl, D1, L1, E1, hG1⟩, hx35⟩
        have := World.grownBy.size hx35
        refine WL.va rfl rfl rfl (X.move rfl) ?_
        refine WL.va rfl rfl rfl (X.extract rfl rfl) ?_
        refine WL.va rfl rfl rfl (X.extract rfl rfl) ?_
        refine WL.op rfl (OW.allocO (cs := [i64 0, i64 0, i64 0, i64 0, i64 0, i64 0, i64 0, i64 0, i64 0, i64 0, i64 0, i64 0, i64 0, i64 0, .bool false, .slice none 0 0, .slice none 0 0]) Try.zeroValue25 rfl ?_ (by decide))
        intro g13 w36 heg13 hlg13 hO13 hx38
        have := World.grownBy.size hx38
        refine WL.op rfl (OW.storeOA hO13 rfl rfl rfl hG1.at.ones Try.sizeOf25 ?_)
        intro w40 hO13 hx42
        have := World.grownBy.size hx42
        replace hO4 := (hO4.ext (Ext.trans (Ext.trans (Ext.trans (Ext.trans hx8 hx16) (Ext.own hx29 oc (Nat.le_refl _) hx31)) hx35) hx38)).keptO hx42 (by omega)
        refine WL.va rfl rfl rfl (X.assignI rfl) ?_
        refine WL.nil ?_
        refine thn_n ?_
        refine WF.seq ?_
        refine WF.region ?_
        refine WL.va rfl rfl rfl (X.move rfl) ?_
        refine WL.va rfl rfl rfl (X.moveI rfl) ?_
        refine WL.va rfl rfl rfl (X.move rfl) ?_
        refine WL.va rfl rfl rfl (X.len fb rfl Try.underlying23) ?_
        refine WL.c rfl rfl rfl (X.call Try.call26 (evl_cons rfl (evl_cons rfl evl_nil))) (pick_ok _ _ _ hcut (by omega)) ?_
        rintro v45 w44 ⟨⟨q20, rfl, hp20, hp21⟩, rfl⟩
        have hq2 := hp21 (by omega)
        obtain ⟨q2, rfl⟩ := Int.eq_ofNat_of_zero_le hq2.1
        have hgT := got_cut (mbytes_len hc0) (q := q2) (by omega)
        refine WL.va rfl rfl rfl (X.slH fb rfl rfl (by omega) Try.underlying23 Try.sizeOf5) ?_
        refine WL.c rfl rfl rfl (X.call Try.call22 (evl_cons rfl evl_nil)) (get_ok _ ((mput m).take q2) _ (by have := Bytes.part (Row.ext fb (Ext.trans (Ext.trans (Ext.own hx29 oc (Nat.le_refl _) hx31) hx35) (Ext.store hx38 hx42 (by omega)))) 0 q2 (Nat.zero_le _) (by omega); exact this) (by simp; omega)) ?_
        rintro v48 w47 ⟨⟨p3, p4, rfl, D2, L2, E2, hG2⟩, hx49⟩
        have := World.grownBy.size hx49
        refine WL.va rfl rfl rfl (X.move rfl) ?_
        refine WL.va rfl rfl rfl (X.extract rfl rfl) ?_
        refine WL.va rfl rfl rfl (X.extract rfl rfl) ?_
        refine WL.op rfl (OW.allocO (cs := [i64 0, i64 0, i64 0, i64 0, i64 0, i64 0, i64 0, i64 0, i64 0, i64 0, i64 0, i64 0, i64 0, i64 0, .bool false, .slice none 0 0, .slice none 0 0]) Try.zeroValue25 rfl ?_ (by decide))
        intro g15 w50 heg15 hlg15 hO15 hx52
        have := World.grownBy.size hx52
        refine WL.op rfl (OW.storeOA hO15 rfl rfl rfl hG2.at.ones Try.sizeOf25 ?_)
        intro wK hO15 hx55
        have := World.grownBy.size hx55
        replace hO4 := (hO4.ext (Ext.trans hx49 hx52)).keptO hx55 (by omega)
        replace hO13 := (hO13.ext (Ext.trans hx49 hx52)).keptO hx55 (by omega)
        refine WL.va rfl rfl rfl (X.assignI rfl) ?_
        refine WL.nil ?_
        refine thn_n ?_
        refine WF.seq ?_
        refine WF.region ?_
        refine WL.va rfl rfl rfl (X.move rfl) ?_
        refine WL.c rfl rfl rfl (X.call Try.call27 (evl_cons rfl evl_nil)) (copyBytes_ok _ _ _ (Row.ext fb (Ext.trans (Ext.trans (Ext.trans (Ext.trans (Ext.own hx29 oc (Nat.le_refl _) hx31) hx35) (Ext.store hx38 hx42 (by omega))) hx49) (Ext.store hx52 hx55 (by omega)))) (by omega)) ?_
        rintro v58 w57 ⟨oD, hx59⟩
        have := World.grownBy.size hx59
        refine WL.va rfl rfl rfl (X.moveI rfl) ?_
        refine WL.op rfl (OW.lits (vs := [.int .u8 (x.toNat : Int)]) (evp_cons rfl evp_nil) Try.underlying23 Try.sizeOf5 Try.zeroValue5 ⟨rfl, trivial⟩ rfl rfl rfl ?_ (by decide))
        intro v61 w60 ho63 hx62
        have := World.grownBy.size hx62
        have oC1 := oD.ext hx62
        have oX : World.ownsRow w60 _ 5 1 v61 ([x] : List UInt8).length (([x] : List UInt8).map u8) := ho63
        refine WL.op rfl (OW.appendB oC1 (Row.of_own oX) rfl rfl Try.underlying23 Try.type5 rfl rfl rfl rfl (by simp; omega) (World.grownBy.size (Ext.trans hx59 hx62)) ?_ (by decide))
        intro v66 w65 ho68 hx67 hmvhx67
        have fc := Bytes.of_own ho68
        have := World.grownBy.size hx67
        refine WL.c rfl rfl rfl (X.call Try.call22 (evl_cons rfl evl_nil)) (get_ok _ (mput m ++ [x]) _ fc (by simp; omega)) ?_
        rintro v70 w69 ⟨⟨p5, p6, rfl, D3, L3, E3, hG3⟩, hx71⟩
        have := World.grownBy.size hx71
        have hgM := got_more (mbytes_len hc0) x
        refine WL.va rfl rfl rfl (X.move rfl) ?_
        refine WL.va rfl rfl rfl (X.extract rfl rfl) ?_
        refine WL.va rfl rfl rfl (X.extract rfl rfl) ?_
        refine WL.op rfl (OW.allocO (cs := [i64 0, i64 0, i64 0, i64 0, i64 0, i64 0, i64 0, i64 0, i64 0, i64 0, i64 0, i64 0, i64 0, i64 0, .bool false, .slice none 0 0, .slice none 0 0]) Try.zeroValue25 rfl ?_ (by decide))
        intro g17 w72 heg17 hlg17 hO17 hx74
        have := World.grownBy.size hx74
        refine WL.op rfl (OW.storeOA hO17 rfl rfl rfl hG3.at.ones Try.sizeOf25 ?_)
        intro w76 hO17 hx78
        have := World.grownBy.size hx78
        replace hO4 := (hO4.ext (Ext.trans (Ext.trans (Ext.own (Ext.trans hx59 hx62) oC1 (Nat.le_refl _) hx67) hx71) hx74)).keptO hx78 (by omega)
        replace hO13 := (hO13.ext (Ext.trans (Ext.trans (Ext.own (Ext.trans hx59 hx62) oC1 (Nat.le_refl _) hx67) hx71) hx74)).keptO hx78 (by omega)
        replace hO15 := (hO15.ext (Ext.trans (Ext.trans (Ext.own (Ext.trans hx59 hx62) oC1 (Nat.le_refl _) hx67) hx71) hx74)).keptO hx78 (by omega)
        refine WL.va rfl rfl rfl (X.assignI rfl) ?_
        refine WL.nil ?_
        refine thn_n ?_
        refine WF.seq ?_
        refine WF.region ?_
        refine WL.va rfl rfl rfl (X.moveI rfl) ?_
        refine WL.va rfl rfl rfl (X.neq rfl rfl) ?_
        refine WL.va rfl rfl rfl (X.moveB rfl) ?_
        refine WL.split (j := 2) rfl (fun h81 => ?_) (fun h81 => ?_)
        · have gh81 := (of_decide_eq_true h81)
          refine WL.vg rfl (congrArg some h81) rfl rfl (X.moveI rfl) ?_
          refine WL.vg rfl (congrArg some h81) rfl rfl (X.neq rfl rfl) ?_
          refine WL.va rfl rfl rfl (X.pickT rfl h81 rfl) ?_
          refine WL.va rfl rfl rfl (X.moveB rfl) ?_
          refine WL.split (j := 6) rfl (fun h83 => ?_) (fun h83 => ?_)
          · have gh83 := (of_decide_eq_true h83)
            refine WL.vg rfl (congrArg some h83) rfl rfl (X.moveI rfl) ?_
            refine WL.vg rfl (congrArg some h83) rfl rfl (X.eql rfl rfl) ?_
            refine WL.va rfl rfl rfl (X.pickT rfl h83 rfl) ?_
            refine WL.va rfl rfl rfl (X.moveB rfl) ?_
            refine WL.split (j := 10) rfl (fun h85 => ?_) (fun h85 => ?_)
            · have gh85 := (of_decide_eq_true h85)
              refine WL.cg rfl (congrArg some h85) rfl rfl (X.call Try.call12 evl_nil) (works_ok _) ?_
              rintro v87 w86 ⟨rfl, hx88⟩
              have := World.grownBy.size hx88
              refine WL.va rfl rfl rfl (X.pickT rfl h85 rfl) ?_
              refine WL.va rfl rfl rfl (X.assignB rfl) ?_
              refine WL.nil ?_
              refine thn_n ?_
              refine WF.ret ?_
              refine fin_r ?_
              exact ⟨rfl, (Ext.trans (Ext.trans (Ext.trans (Ext.trans (Ext.trans (Ext.trans (Ext.trans (Ext.trans (Ext.trans (Ext.trans (Ext.trans hx3 hx8) hx16) (Ext.own hx29 oc (Nat.le_refl _) hx31)) hx35) (Ext.store hx38 hx42 (by omega))) hx49) (Ext.store hx52 hx55 (by omega))) (Ext.own (Ext.trans hx59 hx62) oC1 (Nat.le_refl _) hx67)) hx71) (Ext.store hx74 hx78 (by omega))) hx88)⟩
            · have gh85 := (of_decide_eq_false h85)
              exact absurd hgM gh85
          · have gh83 := (Decidable.of_not_not (of_decide_eq_false h83))
            exact absurd gh83 hgT
        · have gh81 := (Decidable.of_not_not (of_decide_eq_false h81))
          exact absurd gh81 hgC

theorem sameMsg_un {w : World} {a b : Mg} {a1 a2 b1 b2 : Value} (ha : MgAt w a1 a2 a) (hb : MgAt w b1 b2 b) (hc1 : chk a = 0) (hc2 : chk b = 0) : FnOk Try.prog 20 [agg (mc a.n a.ok a1 a2), agg (mc b.n b.ok b1 b2)] w (fun r w' => r = .bool (decide ((mput a).take (min (mput a).length (mput b).length) = (mput b).take (min (mput a).length (mput b).length))) ∧ Ext w w') := by
  have := sameMsg_ok a b _ _ _ _ w ha hb
  rwa [← decide_eq_decide.2 (unlike (got_back ha.len ha.inn ha.ein hc1) (got_back hb.len hb.inn hb.ein hc2) (mbytes_len hc1) (mbytes_len hc2))] at this
theorem part_take {w : World} {v : Value} {l : List UInt8} (h : Bytes w v l) {n : Nat} (hn : n ≤ l.length) : Bytes w (Kf.part v 0 n 1) (l.take n) := by
  have := Bytes.part h 0 n (Nat.zero_le _) hn
  simpa using this
set_option maxHeartbeats 4000000 in
theorem messageUnlike_walk (uE uD : Value) (a : Mg) (vE vD : Value) (b : Mg) (w : World) (ha : MgAt w uE uD a) (hb : MgAt w vE vD b) : FnOk Try.prog 10 [agg (mc a.n a.ok uE uD), agg (mc b.n b.ok vE vD)] w (fun r w' => r = .bool true ∧ Ext w w') := by
  refine FnOk.enter (rs := [4]) Try.func10 rfl Try.ntmps10 Try.results10 rfl rfl ?_
  refine WF.seq ?_
  refine WF.region ?_
  refine WL.op rfl (OW.boxA (cs := (mc a.n a.ok uE uD)) rfl ?_ (by decide))
  intro g2 w1 heg2 hlg2 hO2 hx3
  have := World.grownBy.size hx3
  refine WL.op rfl (OW.boxA (cs := (mc b.n b.ok vE vD)) rfl ?_ (by decide))
  intro g3 w5 heg3 hlg3 hO3 hx7
  have := World.grownBy.size hx7
  refine WL.va rfl rfl rfl (X.assignB rfl) ?_
  refine WL.nil ?_
  refine thn_n ?_
  refine WF.seq ?_
  refine WF.seq ?_
  refine WF.region ?_
  refine WL.va rfl rfl rfl (X.loadOA hO2 hx7 rfl rfl Try.isAgg25 Try.sizeOf25) ?_
  refine WL.c rfl rfl rfl (X.call Try.call11 (evl_cons rfl evl_nil)) (big_ok _ _ a _ (ha.ext (Ext.trans hx3 hx7))) ?_
  rintro v11 w10 ⟨⟨b1, rfl, hb1⟩, hx12⟩
  have := World.grownBy.size hx12
  refine WL.va rfl rfl rfl (X.moveB rfl) ?_
  refine WL.split (j := 2) rfl (fun h14 => ?_) (fun h14 => ?_)
  · have gh14 := h14
    refine WL.p rfl rfl rfl (congrArg some h14) ?_
    refine WL.p rfl rfl rfl (congrArg some h14) ?_
    refine WL.va rfl rfl rfl (X.pickT rfl h14 rfl) ?_
    refine WL.nil ?_
    refine thn_n ?_
    refine WF.cond_t rfl ?_
    refine WF.seq ?_
    refine WF.region ?_
    refine WL.c rfl rfl rfl (X.call Try.call12 evl_nil) (works_ok _) ?_
    rintro v17 w16 ⟨rfl, hx18⟩
    have := World.grownBy.size hx18
    refine WL.va rfl rfl rfl (X.assignB rfl) ?_
    refine WL.nil ?_
    refine thn_n ?_
    refine WF.ret ?_
    refine thn_r ?_
    refine fin_r ?_
    first | exact ⟨rfl, (Ext.trans (Ext.trans (Ext.trans hx3 hx7) hx12) hx18)⟩ | exact absurd (show (decide ((mput a).take (min (mput a).length (mput b).length) = (mput b).take (min (mput a).length (mput b).length)) == decide ((mput a).take (min (mput a).length (mput b).length) = (mput b).take (min (mput a).length (mput b).length))) = false by assumption) (by simp)
  · have gh14 := h14
    refine WL.vg rfl (congrArg some h14) rfl rfl (X.loadOA hO3 hx12 rfl rfl Try.isAgg25 Try.sizeOf25) ?_
    refine WL.cg rfl (congrArg some h14) rfl rfl (X.call Try.call11 (evl_cons rfl evl_nil)) (big_ok _ _ b _ (hb.ext (Ext.trans (Ext.trans hx3 hx7) hx12))) ?_
    rintro v21 w20 ⟨⟨b2, rfl, hb2⟩, hx22⟩
    have := World.grownBy.size hx22
    refine WL.va rfl rfl rfl (X.pickF rfl h14 rfl) ?_
    refine WL.nil ?_
    refine thn_n ?_
    refine WF.cond rfl (fun h0_23 => ?_) (fun h0_23 => ?_)
    · have gh0_23 := h0_23
      refine WF.seq ?_
      refine WF.region ?_
      refine WL.c rfl rfl rfl (X.call Try.call12 evl_nil) (works_ok _) ?_
      rintro v26 w25 ⟨rfl, hx27⟩
      have := World.grownBy.size hx27
      refine WL.va rfl rfl rfl (X.assignB rfl) ?_
      refine WL.nil ?_
      refine thn_n ?_
      refine WF.ret ?_
      refine thn_r ?_
      refine fin_r ?_
      first | exact ⟨rfl, (Ext.trans (Ext.trans (Ext.trans (Ext.trans hx3 hx7) hx12) hx22) hx27)⟩ | exact absurd (show (decide ((mput a).take (min (mput a).length (mput b).length) = (mput b).take (min (mput a).length (mput b).length)) == decide ((mput a).take (min (mput a).length (mput b).length) = (mput b).take (min (mput a).length (mput b).length))) = false by assumption) (by simp)
    · have gh0_23 := h0_23
      refine WF.skip ?_
      refine thn_n ?_
      refine WF.seq ?_
      refine WF.region ?_
      refine WL.va rfl rfl rfl (X.loadOA hO2 (Ext.trans (Ext.trans hx7 hx12) hx22) rfl rfl Try.isAgg25 Try.sizeOf25) ?_
      refine WL.c rfl rfl rfl (X.call Try.call16 (evl_cons rfl evl_nil)) (put_ob (ha.ext (Ext.trans (Ext.trans (Ext.trans hx3 hx7) hx12) hx22))) ?_
      rintro v29 wa ⟨⟨v1, rfl, o1⟩, hx30⟩
      have := World.grownBy.size hx30
      refine WL.va rfl rfl rfl (X.move rfl) ?_
      refine WL.va rfl rfl rfl (X.extract rfl rfl) ?_
      refine WL.va rfl rfl rfl (X.extract rfl rfl) ?_
      refine WL.va rfl rfl rfl (X.assign rfl) ?_
      refine WL.va rfl rfl rfl (X.assignI rfl) ?_
      refine WL.nil ?_
      refine thn_n ?_
      refine WF.seq ?_
      refine WF.region ?_
      refine WL.va rfl rfl rfl (X.loadOA hO3 (Ext.trans (Ext.trans hx12 hx22) hx30) rfl rfl Try.isAgg25 Try.sizeOf25) ?_
      refine WL.c rfl rfl rfl (X.call Try.call16 (evl_cons rfl evl_nil)) (put_ob (hb.ext (Ext.trans (Ext.trans (Ext.trans (Ext.trans hx3 hx7) hx12) hx22) hx30))) ?_
      rintro v31 wb ⟨⟨v2, rfl, o2⟩, hx32⟩
      have := World.grownBy.size hx32
      refine WL.va rfl rfl rfl (X.move rfl) ?_
      refine WL.va rfl rfl rfl (X.extract rfl rfl) ?_
      refine WL.va rfl rfl rfl (X.extract rfl rfl) ?_
      refine WL.va rfl rfl rfl (X.assign rfl) ?_
      refine WL.va rfl rfl rfl (X.assignI rfl) ?_
      refine WL.nil ?_
      refine thn_n ?_
      refine WF.seq ?_
      refine WF.seq ?_
      refine WF.region ?_
      refine WL.va rfl rfl rfl (X.moveI rfl) ?_
      refine WL.va rfl rfl rfl (X.neq rfl rfl) ?_
      refine WL.va rfl rfl rfl (X.moveB rfl) ?_
      refine WL.split (j := 2) rfl (fun h34 => ?_) (fun h34 => ?_)
      · have gh34 := (of_decide_eq_true h34)
        refine WL.p rfl rfl rfl (congrArg some h34) ?_
        refine WL.p rfl rfl rfl (congrArg some h34) ?_
        refine WL.va rfl rfl rfl (X.pickT rfl h34 rfl) ?_
        refine WL.nil ?_
        refine thn_n ?_
        refine WF.cond_t rfl ?_
        refine WF.seq ?_
        refine WF.region ?_
        refine WL.c rfl rfl rfl (X.call Try.call12 evl_nil) (works_ok _) ?_
        rintro v37 w36 ⟨rfl, hx38⟩
        have := World.grownBy.size hx38
        refine WL.va rfl rfl rfl (X.assignB rfl) ?_
        refine WL.nil ?_
        refine thn_n ?_
        refine WF.ret ?_
        refine thn_r ?_
        refine fin_r ?_
        first | exact ⟨rfl, (Ext.trans (Ext.trans (Ext.trans (Ext.trans (Ext.trans (Ext.trans hx3 hx7) hx12) hx22) hx30) hx32) hx38)⟩ | exact absurd (show (decide ((mput a).take (min (mput a).length (mput b).length) = (mput b).take (min (mput a).length (mput b).length)) == decide ((mput a).take (min (mput a).length (mput b).length) = (mput b).take (min (mput a).length (mput b).length))) = false by assumption) (by simp)
      · have gh34 := (Decidable.of_not_not (of_decide_eq_false h34))
        refine WL.vg rfl (congrArg some h34) rfl rfl (X.moveI rfl) ?_
        refine WL.vg rfl (congrArg some h34) rfl rfl (X.neq rfl rfl) ?_
        refine WL.va rfl rfl rfl (X.pickF rfl h34 rfl) ?_
        refine WL.nil ?_
        refine thn_n ?_
        refine WF.cond rfl (fun h1_40 => ?_) (fun h1_40 => ?_)
        · have gh1_40 := (of_decide_eq_true h1_40)
          refine WF.seq ?_
          refine WF.region ?_
          refine WL.c rfl rfl rfl (X.call Try.call12 evl_nil) (works_ok _) ?_
          rintro v43 w42 ⟨rfl, hx44⟩
          have := World.grownBy.size hx44
          refine WL.va rfl rfl rfl (X.assignB rfl) ?_
          refine WL.nil ?_
          refine thn_n ?_
          refine WF.ret ?_
          refine thn_r ?_
          refine fin_r ?_
          first | exact ⟨rfl, (Ext.trans (Ext.trans (Ext.trans (Ext.trans (Ext.trans (Ext.trans hx3 hx7) hx12) hx22) hx30) hx32) hx44)⟩ | exact absurd (show (decide ((mput a).take (min (mput a).length (mput b).length) = (mput b).take (min (mput a).length (mput b).length)) == decide ((mput a).take (min (mput a).length (mput b).length) = (mput b).take (min (mput a).length (mput b).length))) = false by assumption) (by simp)
        · have gh1_40 := (Decidable.of_not_not (of_decide_eq_false h1_40))
          have hc1 : chk a = 0 := by assumption
          have hc2 : chk b = 0 := by assumption
          have f1 : Bytes wb v1 (mput a) := by have := Bytes.of_own o1; rw [pb_ok hc1] at this; exact Row.ext this hx32
          have f2 : Bytes wb v2 (mput b) := by have := Bytes.of_own o2; rwa [pb_ok hc2] at this
          have hl1 := mput_le hc1
          have hl2 := mput_le hc2
          refine WF.skip ?_
          refine thn_n ?_
          refine WF.seq ?_
          refine WF.region ?_
          refine WL.va rfl rfl rfl (X.move rfl) ?_
          refine WL.va rfl rfl rfl (X.len f1 rfl Try.underlying23) ?_
          refine WL.va rfl rfl rfl (X.move rfl) ?_
          refine WL.va rfl rfl rfl (X.len f2 rfl Try.underlying23) ?_
          refine WL.va rfl rfl rfl (X.min2N (a := (mput a).length) (b := (mput b).length) rfl rfl) ?_
          refine WL.va rfl rfl rfl (X.assignI rfl) ?_
          refine WL.nil ?_
          refine thn_n ?_
          refine WF.seq ?_
          refine WF.drawn (.q 0 (.q 1 (.q 2 (.q 3 (.q 4 (.q 5 (.q 7 (.q 8 (.l 6 (.l 9 (.q 10 (.q 11 (.l 12 (.q 13 (.q 14 .nil))))))))))))))) (fun w' => Ext wb w') 15 (by kernel_rfl) (by kernel_rfl) (Ext.drew _) ?_
          have := World.grownBy.size (Ext.drew wb)
          refine WO.q rfl rfl rfl rfl (fun w' hE46 => (X.move rfl)) ?_
          refine WO.q rfl rfl rfl rfl (fun w' hE46 => (X.moveI rfl)) ?_
          refine WO.q rfl rfl rfl rfl (fun w' hE46 => (X.slH f1 rfl rfl (Nat.min_le_left _ _) Try.underlying23 Try.sizeOf5)) ?_
          refine WO.q rfl rfl rfl rfl (fun w' hE46 => (X.move rfl)) ?_
          refine WO.q rfl rfl rfl rfl (fun w' hE46 => (X.moveI rfl)) ?_
          refine WO.q rfl rfl rfl rfl (fun w' hE46 => (X.slH f2 rfl rfl (Nat.min_le_right _ _) Try.underlying23 Try.sizeOf5)) ?_
          refine WO.q rfl rfl rfl rfl (fun w' hE46 => (X.loadOA hO2 (Ext.trans (Ext.trans (Ext.trans (Ext.trans (Ext.trans hx7 hx12) hx22) hx30) hx32) hE46) rfl rfl Try.isAgg25 Try.sizeOf25)) ?_
          refine WO.q rfl rfl rfl rfl (fun w' hE46 => (X.loadOA hO3 (Ext.trans (Ext.trans (Ext.trans (Ext.trans hx12 hx22) hx30) hx32) hE46) rfl rfl Try.isAgg25 Try.sizeOf25)) ?_
          refine WO.l ?_
          refine LO.go rfl rfl (OW.enter rfl (by decide) (X.call Try.call18 (evl_cons rfl (evl_cons rfl evl_nil))) (sameBytes_ok _ _ ((mput a).take (min (mput a).length (mput b).length)) ((mput b).take (min (mput a).length (mput b).length)) _ (part_take (Row.ext f1 (Ext.drew _)) (Nat.min_le_left _ _)) (part_take (Row.ext f2 (Ext.drew _)) (Nat.min_le_right _ _))) ?_)
          rintro v48 w47 ⟨rfl, hx49⟩
          have := World.grownBy.size hx49
          refine ⟨(Ext.trans (Ext.drew _) hx49), ?_⟩
          refine WO.l ?_
          refine LO.go rfl rfl (OW.enter rfl (by decide) (X.call Try.call20 (evl_cons rfl (evl_cons rfl evl_nil))) (sameMsg_un (ha.ext (Ext.trans (Ext.trans (Ext.trans (Ext.trans (Ext.trans (Ext.trans (Ext.trans hx3 hx7) hx12) hx22) hx30) hx32) (Ext.drew _)) hx49)) (hb.ext (Ext.trans (Ext.trans (Ext.trans (Ext.trans (Ext.trans (Ext.trans (Ext.trans hx3 hx7) hx12) hx22) hx30) hx32) (Ext.drew _)) hx49)) hc1 hc2) ?_)
          rintro v52 w51 ⟨rfl, hx53⟩
          have := World.grownBy.size hx53
          refine ⟨(Ext.trans (Ext.trans (Ext.drew _) hx49) hx53), ?_⟩
          refine WO.q rfl rfl rfl rfl (fun w' hE46 => (X.eqlB rfl rfl Try.underlying4)) ?_
          refine WO.q rfl rfl rfl rfl (fun w' hE46 => (X.moveB rfl)) ?_
          refine WO.l ?_
          refine LO.split (j := 11) rfl (fun h56 => ?_) (fun h56 => ?_)
          · have gh56 := h56
            refine LO.gog rfl rfl (congrArg some h56) (OW.enter rfl (by decide) (X.call Try.call12 evl_nil) (works_ok _) ?_)
            rintro v58 w57 ⟨rfl, hx59⟩
            have := World.grownBy.size hx59
            refine ⟨(Ext.trans (Ext.trans (Ext.trans (Ext.drew _) hx49) hx53) hx59), ?_⟩
            refine WO.q rfl rfl rfl rfl (fun w' hE46 => (X.pickT rfl h56 rfl)) ?_
            refine WO.q rfl rfl rfl rfl (fun w' hE46 => (X.assignB rfl)) ?_
            refine WO.nil ?_
            refine WL.nil ?_
            refine thn_n ?_
            refine WF.ret ?_
            refine fin_r ?_
            first | exact ⟨rfl, (Ext.trans (Ext.trans (Ext.trans (Ext.trans (Ext.trans (Ext.trans (Ext.trans (Ext.trans (Ext.trans hx3 hx7) hx12) hx22) hx30) hx32) (Ext.drew _)) hx49) hx53) hx59)⟩ | exact absurd (show (decide ((mput a).take (min (mput a).length (mput b).length) = (mput b).take (min (mput a).length (mput b).length)) == decide ((mput a).take (min (mput a).length (mput b).length) = (mput b).take (min (mput a).length (mput b).length))) = false by assumption) (by simp)
          · have gh56 := h56
            refine LO.pass rfl (Ext.trans (Ext.trans (Ext.drew _) hx49) hx53) rfl rfl rfl (congrArg some h56) ?_
            refine WO.q rfl rfl rfl rfl (fun w' hE46 => (X.pickF rfl h56 rfl)) ?_
            refine WO.q rfl rfl rfl rfl (fun w' hE46 => (X.assignB rfl)) ?_
            refine WO.nil ?_
            refine WL.nil ?_
            refine thn_n ?_
            refine WF.ret ?_
            refine fin_r ?_
            first | exact ⟨rfl, (Ext.trans (Ext.trans (Ext.trans (Ext.trans (Ext.trans (Ext.trans (Ext.trans (Ext.trans hx3 hx7) hx12) hx22) hx30) hx32) (Ext.drew _)) hx49) hx53)⟩ | exact absurd (show (decide ((mput a).take (min (mput a).length (mput b).length) = (mput b).take (min (mput a).length (mput b).length)) == decide ((mput a).take (min (mput a).length (mput b).length) = (mput b).take (min (mput a).length (mput b).length))) = false by assumption) (by simp)

end Go.Proofs.Ytccbpfbcaogcnaa
