/- The walks of works and PackPuts. -/
import Derived.Test.YtlcgjeebgjiebaaPackR
namespace Go.Proofs.Ytlcgjeebgjiebaa
open Go Go.RowKit Kf

theorem wk_blob : [9] ++ Pk.blob [7] = [9, 0, 0, 0, 0, 0, 0, 0, 1, 7] := by decide +kernel
theorem wk_read : (⟨[0, 0, 0, 0, 0, 0, 0, 1, 7], false⟩ : Pk.RS).blob = ([7], ⟨[], false⟩) := by rfl
theorem works_ok (w : World) : FnOk Try.prog 9 [] w (fun r w' => r = .bool true ∧ Ext w w') := by
  refine FnOk.enter (rs := [0]) Try.func9 rfl Try.ntmps9 Try.results9 rfl rfl ?_
  refine WF.seq ?_
  refine WF.region ?_
  refine WL.va rfl rfl rfl (X.assignB rfl) ?_
  refine WL.nil ?_
  refine thn_n ?_
  refine WF.seq ?_
  refine WF.region ?_
  refine WL.op rfl (OW.lits (vs := [u8 9]) (evp_cons rfl evp_nil) Try.underlying22 Try.sizeOf5 Try.zeroValue5 ⟨rfl, trivial⟩ rfl rfl rfl ?_ (by decide))
  intro v3 w2 ho5 hx4
  refine WL.op rfl (OW.lits (vs := [u8 7]) (evp_cons rfl evp_nil) Try.underlying22 Try.sizeOf5 Try.zeroValue5 ⟨rfl, trivial⟩ rfl rfl rfl ?_ (by decide))
  intro v7 w6 ho9 hx8
  refine WL.c rfl rfl rfl (X.call Try.call13 (evl_cons rfl (evl_cons rfl evl_nil))) (blob_ok _ _ _ _ _ (Row.ext (show Bytes _ _ [9] from Row.of_own ho5) hx8) (show Bytes _ _ [7] from Row.of_own ho9) (by decide)) ?_
  rintro v11 w10 ⟨o1, hx12⟩
  rw [wk_blob] at o1
  have f1 := Bytes.of_own o1
  refine WL.va rfl rfl rfl (X.assign rfl) ?_
  refine WL.nil ?_
  refine thn_n ?_
  refine WF.seq ?_
  refine WF.seq ?_
  refine WF.region ?_
  refine WL.va rfl rfl rfl (X.move rfl) ?_
  refine WL.op rfl (OW.lits (vs := [u8 9, u8 0, u8 0, u8 0, u8 0, u8 0, u8 0, u8 0, u8 1, u8 7]) (evp_cons rfl (evp_cons rfl (evp_cons rfl (evp_cons rfl (evp_cons rfl (evp_cons rfl (evp_cons rfl (evp_cons rfl (evp_cons rfl (evp_cons rfl evp_nil)))))))))) Try.underlying22 Try.sizeOf5 Try.zeroValue5 ⟨rfl, rfl, rfl, rfl, rfl, rfl, rfl, rfl, rfl, rfl, trivial⟩ rfl rfl rfl ?_ (by decide))
  intro v14 w13 ho16 hx15
  have o1 := o1.ext hx15
  refine WL.c rfl rfl rfl (X.call Try.call15 (evl_cons rfl (evl_cons rfl evl_nil))) (sameBytes_ok _ _ _ _ _ (Row.ext f1 hx15) (show Bytes _ _ [9, 0, 0, 0, 0, 0, 0, 0, 1, 7] from Row.of_own ho16)) ?_
  rintro v18 w17 ⟨rfl, hx19⟩
  have o1 := o1.ext hx19
  refine WL.va rfl rfl rfl (X.not rfl) ?_
  refine WL.nil ?_
  refine thn_n ?_
  refine WF.cond rfl (fun h0_21 => ?_) (fun h0_21 => ?_)
  · have gh0_21 := (of_decide_eq_false (nt h0_21))
    exact absurd rfl gh0_21
  · have gh0_21 := (of_decide_eq_true (nf h0_21))
    refine WF.skip ?_
    refine thn_n ?_
    refine WF.seq ?_
    refine WF.region ?_
    refine WL.va rfl rfl rfl (X.move rfl) ?_
    refine WL.va rfl rfl rfl (X.slL f1 rfl rfl (by decide) Try.underlying22 Try.sizeOf5) ?_
    have hszA := World.grownBy.size (Ext.trans (Ext.trans (Ext.trans (Ext.trans hx4 hx8) hx12) hx15) hx19)
    refine WL.c rfl rfl rfl (X.call Try.call22 (evl_cons rfl evl_nil)) (read_ok _ _ _ (show Bytes _ _ [0, 0, 0, 0, 0, 0, 0, 1, 7] from Bytes.part (Bytes.of_own o1) 1 10 (by decide) (by decide)) (by decide)) ?_
    rintro vr w23 ⟨⟨D, left, hp⟩, hx24⟩
    refine WL.va rfl rfl rfl (X.assign rfl) ?_
    refine WL.nil ?_
    refine thn_n ?_
    refine WF.seq ?_
    refine WF.region ?_
    refine WL.va rfl rfl rfl (X.move rfl) ?_
    refine WL.va rfl rfl rfl (X.neqNil hp.var rfl rfl Try.underlying34) ?_
    refine WL.va rfl rfl rfl (X.moveB rfl) ?_
    refine WL.vg rfl rfl rfl rfl (X.move rfl) ?_
    refine WL.cg rfl rfl rfl rfl (X.call Try.call37 (evl_cons rfl evl_nil)) (rBlob_ok vr _ _ _ _ _ _ _ hp) ?_
    rintro vbl w26 ⟨⟨a1, a2, left2, _, hbl, hp2⟩, hx27⟩
    rw [wk_read] at hbl hp2
    refine WL.opg rfl rfl (OW.lits (vs := [u8 7]) (evp_cons rfl evp_nil) Try.underlying22 Try.sizeOf5 Try.zeroValue5 ⟨rfl, trivial⟩ rfl rfl rfl ?_ (by decide))
    intro v29 w28 ho31 hx30
    have hp2 := hp2.ext hx30
    refine WL.cg rfl rfl rfl rfl (X.call Try.call15 (evl_cons rfl (evl_cons rfl evl_nil))) (sameBytes_ok _ _ _ _ _ (Row.ext hbl hx30) (show Bytes _ _ [7] from Row.of_own ho31)) ?_
    rintro v33 w32 ⟨rfl, hx34⟩
    have hp3 := hp2.ext hx34
    refine WL.va rfl rfl rfl (X.pickT rfl rfl rfl) ?_
    refine WL.va rfl rfl rfl (X.moveB rfl) ?_
    refine WL.split (j := 8) rfl (fun h36 => ?_) (fun h36 => ?_)
    · have gh36 := (of_decide_eq_true h36)
      refine WL.vg rfl (congrArg some h36) rfl rfl (X.move rfl) ?_
      refine WL.cg rfl (congrArg some h36) rfl rfl (X.call Try.call25 (evl_cons rfl evl_nil)) (rLeft_ok vr _ _ _ _ _ _ _ hp3) ?_
      rintro v38 w37 ⟨rfl, rfl⟩
      refine WL.vg rfl (congrArg some h36) rfl rfl (X.eql rfl rfl) ?_
      refine WL.va rfl rfl rfl (X.pickT rfl h36 rfl) ?_
      refine WL.va rfl rfl rfl (X.moveB rfl) ?_
      refine WL.split (j := 13) rfl (fun h41 => ?_) (fun h41 => ?_)
      · have gh41 := (of_decide_eq_true h41)
        refine WL.vg rfl (congrArg some h41) rfl rfl (X.move rfl) ?_
        refine WL.cg rfl (congrArg some h41) rfl rfl (X.call Try.call28 (evl_cons rfl evl_nil)) (rEnd_ok vr _ _ _ _ _ _ _ hp3) ?_
        rintro v43 w42 ⟨rfl, rfl⟩
        refine WL.vg rfl (congrArg some h41) rfl rfl (X.eql rfl rfl) ?_
        refine WL.va rfl rfl rfl (X.pickT rfl h41 rfl) ?_
        refine WL.va rfl rfl rfl (X.assignB rfl) ?_
        refine WL.nil ?_
        refine thn_n ?_
        refine WF.ret ?_
        refine fin_r ?_
        exact ⟨rfl, (Ext.trans (Ext.trans (Ext.own (Ext.trans (Ext.trans (Ext.trans (Ext.trans (Ext.trans hx4 hx8) hx12) hx15) hx19) hx24) hp.var.row hszA hx27) hx30) hx34)⟩
      · have gh41 := (of_decide_eq_false h41)
        exact absurd rfl gh41
    · have gh36 := (of_decide_eq_false h36)
      exact absurd rfl gh36

theorem packPuts_walk (vb : Value) (b : List UInt8) (vp : Value) (p : List UInt8) (n : Int) (vl : Value) (l : List Int) (w : World) (hb : Bytes w vb b) (hzb : b.length ≤ 140737488351232) (hp : Bytes w vp p) (hzp : p.length ≤ 140737488351232) (_hn : -9223372036854775808 ≤ n ∧ n ≤ 9223372036854775807) (hl : Ints w vl l) (_hil : In64 l) (hzl : l.length ≤ 17592186043904) : FnOk Try.prog 3 [vb, vp, i64 n, vl] w (fun r w' => r = .bool true ∧ Ext w w') := by
  refine FnOk.enter (rs := [8]) Try.func3 rfl Try.ntmps3 Try.results3 rfl rfl ?_
  refine WF.seq ?_
  refine WF.region ?_
  refine WL.va rfl rfl rfl (X.assignB rfl) ?_
  refine WL.nil ?_
  refine thn_n ?_
  refine WF.seq ?_
  refine WF.seq ?_
  refine WF.region ?_
  refine WL.va rfl rfl rfl (X.move rfl) ?_
  refine WL.va rfl rfl rfl (X.len hb rfl Try.underlying22) ?_
  refine WL.va rfl rfl rfl (X.gtr rfl rfl) ?_
  refine WL.va rfl rfl rfl (X.moveB rfl) ?_
  refine WL.split (j := 3) rfl (fun h3 => ?_) (fun h3 => ?_)
  · have gh3 := (of_decide_eq_true h3)
    refine WL.p rfl rfl rfl (congrArg some h3) ?_
    refine WL.p rfl rfl rfl (congrArg some h3) ?_
    refine WL.p rfl rfl rfl (congrArg some h3) ?_
    refine WL.va rfl rfl rfl (X.pickT rfl h3 rfl) ?_
    refine WL.va rfl rfl rfl (X.moveB rfl) ?_
    refine WL.p rfl rfl rfl rfl ?_
    refine WL.p rfl rfl rfl rfl ?_
    refine WL.p rfl rfl rfl rfl ?_
    refine WL.va rfl rfl rfl (X.pickT rfl rfl rfl) ?_
    refine WL.nil ?_
    refine thn_n ?_
    refine WF.cond_t rfl ?_
    refine WF.seq ?_
    refine WF.region ?_
    refine WL.c rfl rfl rfl (X.call Try.call9 evl_nil) (works_ok _) ?_
    rintro v7 w6 ⟨rfl, hx8⟩
    refine WL.va rfl rfl rfl (X.assignB rfl) ?_
    refine WL.nil ?_
    refine thn_n ?_
    refine WF.ret ?_
    refine thn_r ?_
    refine fin_r ?_
    exact ⟨rfl, hx8⟩
  · have gh3 := (of_decide_eq_false h3)
    refine WL.vg rfl (congrArg some h3) rfl rfl (X.move rfl) ?_
    refine WL.vg rfl (congrArg some h3) rfl rfl (X.len hp rfl Try.underlying22) ?_
    refine WL.vg rfl (congrArg some h3) rfl rfl (X.gtr rfl rfl) ?_
    refine WL.va rfl rfl rfl (X.pickF rfl h3 rfl) ?_
    refine WL.va rfl rfl rfl (X.moveB rfl) ?_
    refine WL.split (j := 8) rfl (fun h11 => ?_) (fun h11 => ?_)
    · have gh11 := (of_decide_eq_true h11)
      refine WL.p rfl rfl rfl (congrArg some h11) ?_
      refine WL.p rfl rfl rfl (congrArg some h11) ?_
      refine WL.p rfl rfl rfl (congrArg some h11) ?_
      refine WL.va rfl rfl rfl (X.pickT rfl h11 rfl) ?_
      refine WL.nil ?_
      refine thn_n ?_
      refine WF.cond_t rfl ?_
      refine WF.seq ?_
      refine WF.region ?_
      refine WL.c rfl rfl rfl (X.call Try.call9 evl_nil) (works_ok _) ?_
      rintro v14 w13 ⟨rfl, hx15⟩
      refine WL.va rfl rfl rfl (X.assignB rfl) ?_
      refine WL.nil ?_
      refine thn_n ?_
      refine WF.ret ?_
      refine thn_r ?_
      refine fin_r ?_
      exact ⟨rfl, hx15⟩
    · have gh11 := (of_decide_eq_false h11)
      refine WL.vg rfl (congrArg some h11) rfl rfl (X.move rfl) ?_
      refine WL.vg rfl (congrArg some h11) rfl rfl (X.len hl rfl Try.underlying23) ?_
      refine WL.vg rfl (congrArg some h11) rfl rfl (X.gtr rfl rfl) ?_
      refine WL.va rfl rfl rfl (X.pickF rfl h11 rfl) ?_
      refine WL.nil ?_
      refine thn_n ?_
      refine WF.cond rfl (fun h0_17 => ?_) (fun h0_17 => ?_)
      · have gh0_17 := (of_decide_eq_true h0_17)
        refine WF.seq ?_
        refine WF.region ?_
        refine WL.c rfl rfl rfl (X.call Try.call9 evl_nil) (works_ok _) ?_
        rintro v20 w19 ⟨rfl, hx21⟩
        refine WL.va rfl rfl rfl (X.assignB rfl) ?_
        refine WL.nil ?_
        refine thn_n ?_
        refine WF.ret ?_
        refine thn_r ?_
        refine fin_r ?_
        exact ⟨rfl, hx21⟩
      · have gh0_17 := (of_decide_eq_false h0_17)
        refine WF.skip ?_
        refine thn_n ?_
        refine WF.seq ?_
        refine WF.region ?_
        refine WL.va rfl rfl rfl (X.move rfl) ?_
        refine WL.c rfl rfl rfl (X.call Try.call10 (evl_cons rfl evl_nil)) (lentBytes_ok _ _ _ hb (by omega)) ?_
        rintro v24 w23 ⟨ox, hx25⟩
        refine WL.va rfl rfl rfl (X.assign rfl) ?_
        refine WL.nil ?_
        refine thn_n ?_
        refine WF.seq ?_
        refine WF.region ?_
        refine WL.va rfl rfl rfl (X.move rfl) ?_
        refine WL.c rfl rfl rfl (X.call Try.call10 (evl_cons rfl evl_nil)) (lentBytes_ok _ _ _ (hp.ext hx25) (by omega)) ?_
        rintro v27 w26 ⟨oy, hx28⟩
        first | have ox := ox.ext hx28 | have ox := (ox.ext (Ext.drew _)).ext hx28
        refine WL.va rfl rfl rfl (X.assign rfl) ?_
        refine WL.nil ?_
        refine thn_n ?_
        refine WF.seq ?_
        refine WF.region ?_
        refine WL.va rfl rfl rfl (X.move rfl) ?_
        refine WL.c rfl rfl rfl (X.call Try.call11 (evl_cons rfl evl_nil)) (lentInts_ok _ _ _ (Row.ext hl (Ext.trans hx25 hx28)) (by omega)) ?_
        rintro v30 w29 ⟨oz, hx31⟩
        first | have ox := ox.ext hx31 | have ox := (ox.ext (Ext.drew _)).ext hx31
        first | have oy := oy.ext hx31 | have oy := (oy.ext (Ext.drew _)).ext hx31
        refine WL.va rfl rfl rfl (X.assign rfl) ?_
        refine WL.nil ?_
        refine thn_n ?_
        refine WF.seq ?_
        refine WF.region ?_
        refine WL.va rfl rfl rfl (X.move rfl) ?_
        refine WL.va rfl rfl rfl (X.move rfl) ?_
        refine WL.va rfl rfl rfl (X.len hb rfl Try.underlying22) ?_
        refine WL.va rfl rfl rfl (X.slH (Bytes.of_own ox) rfl rfl (by simp) Try.underlying22 Try.sizeOf5) ?_
        refine WL.va rfl rfl rfl (X.moveI rfl) ?_
        have s1 := World.grownBy.size (Ext.trans (Ext.trans hx25 hx28) hx31)
        refine WL.c rfl rfl rfl (X.call Try.call12 (evl_cons rfl (evl_cons rfl evl_nil))) (int_ok _ _ n _ (lent_part ox) (by omega)) ?_
        rintro v33 w32 ⟨o1, hx34⟩
        have ax1 := own_apart ox o1 (Nat.le_refl _)
        have ay1 := own_apart oy o1 (Nat.le_refl _)
        have az1 := own_apart oz o1 (Nat.le_refl _)
        first | have ox := ox.ext hx34 | have ox := (ox.ext (Ext.drew _)).ext hx34
        first | have oy := oy.ext hx34 | have oy := (oy.ext (Ext.drew _)).ext hx34
        first | have oz := oz.ext hx34 | have oz := (oz.ext (Ext.drew _)).ext hx34
        have f1 := Bytes.of_own o1
        refine WL.va rfl rfl rfl (X.assign rfl) ?_
        refine WL.nil ?_
        refine thn_n ?_
        refine WF.seq ?_
        refine WF.drawn (.q 0 (.q 1 (.q 2 (.q 3 (.q 4 (.q 5 (.q 6 (.q 7 (.l 8 (.q 9 .nil)))))))))) (fun w' => Ext w32 w') 10 (by kernel_rfl) (by kernel_rfl) (Ext.drew _) ?_
        refine WO.q rfl rfl rfl rfl (fun w' hE35 => (X.move rfl)) ?_
        refine WO.q rfl rfl rfl rfl (fun w' hE35 => (X.move rfl)) ?_
        refine WO.q rfl rfl rfl rfl (fun w' hE35 => (X.len hb rfl Try.underlying22)) ?_
        refine WO.q rfl rfl rfl rfl (fun w' hE35 => (X.slH (Bytes.of_own ox) rfl rfl (by simp) Try.underlying22 Try.sizeOf5)) ?_
        refine WO.q rfl rfl rfl rfl (fun w' hE35 => (X.move rfl)) ?_
        refine WO.q rfl rfl rfl rfl (fun w' hE35 => (X.move rfl)) ?_
        refine WO.q rfl rfl rfl rfl (fun w' hE35 => (X.len hp rfl Try.underlying22)) ?_
        refine WO.q rfl rfl rfl rfl (fun w' hE35 => (X.slH (Bytes.of_own oy) rfl rfl (by simp) Try.underlying22 Try.sizeOf5)) ?_
        refine WO.l ?_
        have s2 := World.grownBy.size (Ext.trans (Ext.trans (Ext.trans (Ext.trans hx25 hx28) hx31) hx34) (Ext.drew _))
        refine LO.go rfl rfl (OW.enter rfl (by decide) (X.call Try.call13 (evl_cons rfl (evl_cons rfl evl_nil))) (blob_ok _ _ _ _ _ (Row.ext (lent_part ox) (Ext.drew _)) (Row.ext (lent_part oy) (Ext.drew _)) (by omega)) ?_)
        rintro v37 w36 ⟨o2, hx38⟩
        refine ⟨(Ext.trans (Ext.drew _) hx38), ?_⟩
        have ax2 := own_apart ox o2 (Nat.le_refl _)
        have ay2 := own_apart oy o2 (Nat.le_refl _)
        have az2 := own_apart oz o2 (Nat.le_refl _)
        have a12 := own_apart o1 o2 (Nat.le_refl _)
        first | have ox := ox.ext hx38 | have ox := (ox.ext (Ext.drew _)).ext hx38
        first | have oy := oy.ext hx38 | have oy := (oy.ext (Ext.drew _)).ext hx38
        first | have oz := oz.ext hx38 | have oz := (oz.ext (Ext.drew _)).ext hx38
        first | have o1 := o1.ext hx38 | have o1 := (o1.ext (Ext.drew _)).ext hx38
        have f2 := Bytes.of_own o2
        refine WO.q rfl rfl rfl rfl (fun w' hE35 => (X.assign rfl)) ?_
        refine WO.nil ?_
        refine WL.nil ?_
        refine thn_n ?_
        refine WF.seq ?_
        refine WF.drawn (.q 0 (.q 1 (.q 2 (.q 3 (.q 4 (.q 5 (.q 6 (.q 7 (.l 8 (.q 9 .nil)))))))))) (fun w' => Ext w36 w') 10 (by kernel_rfl) (by kernel_rfl) (Ext.drew _) ?_
        refine WO.q rfl rfl rfl rfl (fun w' hE39 => (X.move rfl)) ?_
        refine WO.q rfl rfl rfl rfl (fun w' hE39 => (X.move rfl)) ?_
        refine WO.q rfl rfl rfl rfl (fun w' hE39 => (X.len hb rfl Try.underlying22)) ?_
        refine WO.q rfl rfl rfl rfl (fun w' hE39 => (X.slH (Bytes.of_own ox) rfl rfl (by simp) Try.underlying22 Try.sizeOf5)) ?_
        refine WO.q rfl rfl rfl rfl (fun w' hE39 => (X.move rfl)) ?_
        refine WO.q rfl rfl rfl rfl (fun w' hE39 => (X.move rfl)) ?_
        refine WO.q rfl rfl rfl rfl (fun w' hE39 => (X.len hl rfl Try.underlying23)) ?_
        refine WO.q rfl rfl rfl rfl (fun w' hE39 => (X.slH (Ints.of_own oz) rfl rfl (by simp) Try.underlying23 Try.sizeOf3)) ?_
        refine WO.l ?_
        have s3 := World.grownBy.size (Ext.trans (Ext.trans (Ext.trans (Ext.trans (Ext.trans (Ext.trans hx25 hx28) hx31) hx34) (Ext.drew _)) hx38) (Ext.drew _))
        refine LO.go rfl rfl (OW.enter rfl (by decide) (X.call Try.call14 (evl_cons rfl (evl_cons rfl evl_nil))) (ints_ok _ _ _ _ _ (Row.ext (lent_part ox) (Ext.drew _)) (Row.ext (lentI_part oz) (Ext.drew _)) (by omega)) ?_)
        rintro v41 w40 ⟨o3, hx42⟩
        refine ⟨(Ext.trans (Ext.drew _) hx42), ?_⟩
        have ax3 := own_apart ox o3 (Nat.le_refl _)
        have ay3 := own_apart oy o3 (Nat.le_refl _)
        have az3 := own_apart oz o3 (Nat.le_refl _)
        have a13 := own_apart o1 o3 (Nat.le_refl _)
        have a23 := own_apart o2 o3 (Nat.le_refl _)
        first | have ox := ox.ext hx42 | have ox := (ox.ext (Ext.drew _)).ext hx42
        first | have oy := oy.ext hx42 | have oy := (oy.ext (Ext.drew _)).ext hx42
        first | have oz := oz.ext hx42 | have oz := (oz.ext (Ext.drew _)).ext hx42
        first | have o1 := o1.ext hx42 | have o1 := (o1.ext (Ext.drew _)).ext hx42
        first | have o2 := o2.ext hx42 | have o2 := (o2.ext (Ext.drew _)).ext hx42
        have f3 := Bytes.of_own o3
        refine WO.q rfl rfl rfl rfl (fun w' hE39 => (X.assign rfl)) ?_
        refine WO.nil ?_
        refine WL.nil ?_
        refine thn_n ?_
        refine WF.seq ?_
        refine WF.region ?_
        refine WL.va rfl rfl rfl (X.move rfl) ?_
        refine WL.va rfl rfl rfl (X.move rfl) ?_
        refine WL.va rfl rfl rfl (X.len hb rfl Try.underlying22) ?_
        refine WL.va rfl rfl rfl (X.slH (Bytes.of_own ox) rfl rfl (by simp) Try.underlying22 Try.sizeOf5) ?_
        refine WL.va rfl rfl rfl (X.moveI rfl) ?_
        refine WL.c rfl rfl rfl (X.call Try.call12 (evl_cons rfl (evl_cons rfl evl_nil))) (int_ok _ _ n _ (lent_part ox) (by omega)) ?_
        rintro v44 w43 ⟨o4, hx45⟩
        have a14 := own_apart o1 o4 (Nat.le_refl _)
        have a24 := own_apart o2 o4 (Nat.le_refl _)
        have a34 := own_apart o3 o4 (Nat.le_refl _)
        first | have ox := ox.ext hx45 | have ox := (ox.ext (Ext.drew _)).ext hx45
        first | have oy := oy.ext hx45 | have oy := (oy.ext (Ext.drew _)).ext hx45
        first | have oz := oz.ext hx45 | have oz := (oz.ext (Ext.drew _)).ext hx45
        first | have o1 := o1.ext hx45 | have o1 := (o1.ext (Ext.drew _)).ext hx45
        first | have o2 := o2.ext hx45 | have o2 := (o2.ext (Ext.drew _)).ext hx45
        first | have o3 := o3.ext hx45 | have o3 := (o3.ext (Ext.drew _)).ext hx45
        refine WL.va rfl rfl rfl (X.assign rfl) ?_
        refine WL.nil ?_
        refine thn_n ?_
        refine WF.seq ?_
        refine WF.seq ?_
        refine WF.region ?_
        refine WL.va rfl rfl rfl (X.move rfl) ?_
        refine WL.va rfl rfl rfl (X.move rfl) ?_
        refine WL.va rfl rfl rfl (X.moveI rfl) ?_
        refine WL.c rfl rfl rfl (X.call Try.call16 (evl_cons rfl (evl_cons rfl evl_nil))) (refInt_ok _ _ n _ (hb.ext (Ext.trans (Ext.trans (Ext.trans (Ext.trans (Ext.trans (Ext.trans (Ext.trans (Ext.trans hx25 hx28) hx31) hx34) (Ext.drew _)) hx38) (Ext.drew _)) hx42) hx45)) (by omega)) ?_
        rintro v47 w46 ⟨q1, hx48⟩
        first | have ox := ox.ext hx48 | have ox := (ox.ext (Ext.drew _)).ext hx48
        first | have oy := oy.ext hx48 | have oy := (oy.ext (Ext.drew _)).ext hx48
        first | have oz := oz.ext hx48 | have oz := (oz.ext (Ext.drew _)).ext hx48
        first | have o1 := o1.ext hx48 | have o1 := (o1.ext (Ext.drew _)).ext hx48
        first | have o2 := o2.ext hx48 | have o2 := (o2.ext (Ext.drew _)).ext hx48
        first | have o3 := o3.ext hx48 | have o3 := (o3.ext (Ext.drew _)).ext hx48
        first | have o4 := o4.ext hx48 | have o4 := (o4.ext (Ext.drew _)).ext hx48
        refine WL.c rfl rfl rfl (X.call Try.call15 (evl_cons rfl (evl_cons rfl evl_nil))) (sameBytes_ok _ _ _ _ _ (Row.ext f1 (Ext.trans (Ext.trans (Ext.trans (Ext.trans (Ext.trans (Ext.drew _) hx38) (Ext.drew _)) hx42) hx45) hx48)) (Bytes.of_own q1)) ?_
        rintro v50 w49 ⟨rfl, hx51⟩
        first | have ox := ox.ext hx51 | have ox := (ox.ext (Ext.drew _)).ext hx51
        first | have oy := oy.ext hx51 | have oy := (oy.ext (Ext.drew _)).ext hx51
        first | have oz := oz.ext hx51 | have oz := (oz.ext (Ext.drew _)).ext hx51
        first | have o1 := o1.ext hx51 | have o1 := (o1.ext (Ext.drew _)).ext hx51
        first | have o2 := o2.ext hx51 | have o2 := (o2.ext (Ext.drew _)).ext hx51
        first | have o3 := o3.ext hx51 | have o3 := (o3.ext (Ext.drew _)).ext hx51
        first | have o4 := o4.ext hx51 | have o4 := (o4.ext (Ext.drew _)).ext hx51
        refine WL.va rfl rfl rfl (X.not rfl) ?_
        refine WL.va rfl rfl rfl (X.moveB rfl) ?_
        refine WL.split (j := 6) rfl (fun h54 => ?_) (fun h54 => ?_)
        · have gh54 := (of_decide_eq_false (nt h54))
          exact absurd rfl gh54
        · have gh54 := (of_decide_eq_true (nf h54))
          refine WL.vg rfl (congrArg some h54) rfl rfl (X.move rfl) ?_
          refine WL.vg rfl (congrArg some h54) rfl rfl (X.move rfl) ?_
          refine WL.vg rfl (congrArg some h54) rfl rfl (X.move rfl) ?_
          refine WL.cg rfl (congrArg some h54) rfl rfl (X.call Try.call17 (evl_cons rfl (evl_cons rfl evl_nil))) (refBlob_ok _ _ _ _ _ (hb.ext (Ext.trans (Ext.trans (Ext.trans (Ext.trans (Ext.trans (Ext.trans (Ext.trans (Ext.trans (Ext.trans (Ext.trans hx25 hx28) hx31) hx34) (Ext.drew _)) hx38) (Ext.drew _)) hx42) hx45) hx48) hx51)) (hp.ext (Ext.trans (Ext.trans (Ext.trans (Ext.trans (Ext.trans (Ext.trans (Ext.trans (Ext.trans (Ext.trans (Ext.trans hx25 hx28) hx31) hx34) (Ext.drew _)) hx38) (Ext.drew _)) hx42) hx45) hx48) hx51)) (by omega)) ?_
          rintro v56 w55 ⟨q2, hx57⟩
          first | have ox := ox.ext hx57 | have ox := (ox.ext (Ext.drew _)).ext hx57
          first | have oy := oy.ext hx57 | have oy := (oy.ext (Ext.drew _)).ext hx57
          first | have oz := oz.ext hx57 | have oz := (oz.ext (Ext.drew _)).ext hx57
          first | have o1 := o1.ext hx57 | have o1 := (o1.ext (Ext.drew _)).ext hx57
          first | have o2 := o2.ext hx57 | have o2 := (o2.ext (Ext.drew _)).ext hx57
          first | have o3 := o3.ext hx57 | have o3 := (o3.ext (Ext.drew _)).ext hx57
          first | have o4 := o4.ext hx57 | have o4 := (o4.ext (Ext.drew _)).ext hx57
          refine WL.cg rfl (congrArg some h54) rfl rfl (X.call Try.call15 (evl_cons rfl (evl_cons rfl evl_nil))) (sameBytes_ok _ _ _ _ _ (Row.ext f2 (Ext.trans (Ext.trans (Ext.trans (Ext.trans (Ext.trans (Ext.drew _) hx42) hx45) hx48) hx51) hx57)) (Bytes.of_own q2)) ?_
          rintro v59 w58 ⟨rfl, hx60⟩
          first | have ox := ox.ext hx60 | have ox := (ox.ext (Ext.drew _)).ext hx60
          first | have oy := oy.ext hx60 | have oy := (oy.ext (Ext.drew _)).ext hx60
          first | have oz := oz.ext hx60 | have oz := (oz.ext (Ext.drew _)).ext hx60
          first | have o1 := o1.ext hx60 | have o1 := (o1.ext (Ext.drew _)).ext hx60
          first | have o2 := o2.ext hx60 | have o2 := (o2.ext (Ext.drew _)).ext hx60
          first | have o3 := o3.ext hx60 | have o3 := (o3.ext (Ext.drew _)).ext hx60
          first | have o4 := o4.ext hx60 | have o4 := (o4.ext (Ext.drew _)).ext hx60
          refine WL.vg rfl (congrArg some h54) rfl rfl (X.not rfl) ?_
          refine WL.va rfl rfl rfl (X.pickF rfl h54 rfl) ?_
          refine WL.va rfl rfl rfl (X.moveB rfl) ?_
          refine WL.split (j := 14) rfl (fun h63 => ?_) (fun h63 => ?_)
          · have gh63 := (of_decide_eq_false (nt h63))
            exact absurd rfl gh63
          · have gh63 := (of_decide_eq_true (nf h63))
            refine WL.vg rfl (congrArg some h63) rfl rfl (X.move rfl) ?_
            refine WL.vg rfl (congrArg some h63) rfl rfl (X.move rfl) ?_
            refine WL.vg rfl (congrArg some h63) rfl rfl (X.move rfl) ?_
            refine WL.cg rfl (congrArg some h63) rfl rfl (X.call Try.call18 (evl_cons rfl (evl_cons rfl evl_nil))) (refInts_ok _ _ _ _ _ (hb.ext (Ext.trans (Ext.trans (Ext.trans (Ext.trans (Ext.trans (Ext.trans (Ext.trans (Ext.trans (Ext.trans (Ext.trans (Ext.trans (Ext.trans hx25 hx28) hx31) hx34) (Ext.drew _)) hx38) (Ext.drew _)) hx42) hx45) hx48) hx51) hx57) hx60)) (Row.ext hl (Ext.trans (Ext.trans (Ext.trans (Ext.trans (Ext.trans (Ext.trans (Ext.trans (Ext.trans (Ext.trans (Ext.trans (Ext.trans (Ext.trans hx25 hx28) hx31) hx34) (Ext.drew _)) hx38) (Ext.drew _)) hx42) hx45) hx48) hx51) hx57) hx60)) (by omega)) ?_
            rintro v65 w64 ⟨q3, hx66⟩
            first | have ox := ox.ext hx66 | have ox := (ox.ext (Ext.drew _)).ext hx66
            first | have oy := oy.ext hx66 | have oy := (oy.ext (Ext.drew _)).ext hx66
            first | have oz := oz.ext hx66 | have oz := (oz.ext (Ext.drew _)).ext hx66
            first | have o1 := o1.ext hx66 | have o1 := (o1.ext (Ext.drew _)).ext hx66
            first | have o2 := o2.ext hx66 | have o2 := (o2.ext (Ext.drew _)).ext hx66
            first | have o3 := o3.ext hx66 | have o3 := (o3.ext (Ext.drew _)).ext hx66
            first | have o4 := o4.ext hx66 | have o4 := (o4.ext (Ext.drew _)).ext hx66
            refine WL.cg rfl (congrArg some h63) rfl rfl (X.call Try.call15 (evl_cons rfl (evl_cons rfl evl_nil))) (sameBytes_ok _ _ _ _ _ (Row.ext f3 (Ext.trans (Ext.trans (Ext.trans (Ext.trans (Ext.trans hx45 hx48) hx51) hx57) hx60) hx66)) (Bytes.of_own q3)) ?_
            rintro v68 w67 ⟨rfl, hx69⟩
            first | have ox := ox.ext hx69 | have ox := (ox.ext (Ext.drew _)).ext hx69
            first | have oy := oy.ext hx69 | have oy := (oy.ext (Ext.drew _)).ext hx69
            first | have oz := oz.ext hx69 | have oz := (oz.ext (Ext.drew _)).ext hx69
            first | have o1 := o1.ext hx69 | have o1 := (o1.ext (Ext.drew _)).ext hx69
            first | have o2 := o2.ext hx69 | have o2 := (o2.ext (Ext.drew _)).ext hx69
            first | have o3 := o3.ext hx69 | have o3 := (o3.ext (Ext.drew _)).ext hx69
            first | have o4 := o4.ext hx69 | have o4 := (o4.ext (Ext.drew _)).ext hx69
            refine WL.vg rfl (congrArg some h63) rfl rfl (X.not rfl) ?_
            refine WL.va rfl rfl rfl (X.pickF rfl h63 rfl) ?_
            refine WL.nil ?_
            refine thn_n ?_
            refine WF.cond rfl (fun h1_71 => ?_) (fun h1_71 => ?_)
            · have gh1_71 := (of_decide_eq_false (nt h1_71))
              exact absurd rfl gh1_71
            · have gh1_71 := (of_decide_eq_true (nf h1_71))
              refine WF.skip ?_
              refine thn_n ?_
              refine WF.seq ?_
              refine WF.region ?_
              refine WL.va rfl rfl rfl (X.move rfl) ?_
              refine WL.c rfl rfl rfl (X.call Try.call19 (evl_cons rfl evl_nil)) (spoilBytes_ok _ _ _ _ o1) ?_
              rintro v74 w73 ⟨_, hx75⟩
              have ox : OwnB _ _ _ _ _ := World.ownsRow.kept ox hx75 ax1.ne
              have oy : OwnB _ _ _ _ _ := World.ownsRow.kept oy hx75 ay1.ne
              have oz : OwnI _ _ _ _ _ := World.ownsRow.kept oz hx75 az1.ne
              have o2 : OwnB _ _ _ _ _ := World.ownsRow.kept o2 hx75 a12.symm.ne
              have o3 : OwnB _ _ _ _ _ := World.ownsRow.kept o3 hx75 a13.symm.ne
              have o4 : OwnB _ _ _ _ _ := World.ownsRow.kept o4 hx75 a14.symm.ne
              refine WL.nil ?_
              refine thn_n ?_
              refine WF.seq ?_
              refine WF.region ?_
              refine WL.va rfl rfl rfl (X.move rfl) ?_
              refine WL.c rfl rfl rfl (X.call Try.call19 (evl_cons rfl evl_nil)) (spoilBytes_ok _ _ _ _ o2) ?_
              rintro v77 w76 ⟨_, hx78⟩
              have ox : OwnB _ _ _ _ _ := World.ownsRow.kept ox hx78 ax2.ne
              have oy : OwnB _ _ _ _ _ := World.ownsRow.kept oy hx78 ay2.ne
              have oz : OwnI _ _ _ _ _ := World.ownsRow.kept oz hx78 az2.ne
              have o3 : OwnB _ _ _ _ _ := World.ownsRow.kept o3 hx78 a23.symm.ne
              have o4 : OwnB _ _ _ _ _ := World.ownsRow.kept o4 hx78 a24.symm.ne
              refine WL.nil ?_
              refine thn_n ?_
              refine WF.seq ?_
              refine WF.region ?_
              refine WL.va rfl rfl rfl (X.move rfl) ?_
              refine WL.c rfl rfl rfl (X.call Try.call19 (evl_cons rfl evl_nil)) (spoilBytes_ok _ _ _ _ o3) ?_
              rintro v80 w79 ⟨_, hx81⟩
              have ox : OwnB _ _ _ _ _ := World.ownsRow.kept ox hx81 ax3.ne
              have oy : OwnB _ _ _ _ _ := World.ownsRow.kept oy hx81 ay3.ne
              have oz : OwnI _ _ _ _ _ := World.ownsRow.kept oz hx81 az3.ne
              have o4 : OwnB _ _ _ _ _ := World.ownsRow.kept o4 hx81 a34.symm.ne
              refine WL.nil ?_
              refine thn_n ?_
              refine WF.seq ?_
              refine WF.region ?_
              refine WL.va rfl rfl rfl (X.move rfl) ?_
              refine WL.va rfl rfl rfl (X.move rfl) ?_
              refine WL.va rfl rfl rfl (X.moveI rfl) ?_
              refine WL.c rfl rfl rfl (X.call Try.call16 (evl_cons rfl (evl_cons rfl evl_nil))) (refInt_ok _ _ n _ (hb.ext (Ext.own (Ext.own (Ext.own (Ext.trans (Ext.trans (Ext.trans (Ext.trans (Ext.trans (Ext.trans (Ext.trans (Ext.trans (Ext.trans (Ext.trans (Ext.trans (Ext.trans (Ext.trans (Ext.trans hx25 hx28) hx31) hx34) (Ext.drew _)) hx38) (Ext.drew _)) hx42) hx45) hx48) hx51) hx57) hx60) hx66) hx69) o1 s1 hx75) o2 s2 hx78) o3 s3 hx81)) (by omega)) ?_
              rintro v83 w82 ⟨q4, hx84⟩
              first | have ox := ox.ext hx84 | have ox := (ox.ext (Ext.drew _)).ext hx84
              first | have oy := oy.ext hx84 | have oy := (oy.ext (Ext.drew _)).ext hx84
              first | have oz := oz.ext hx84 | have oz := (oz.ext (Ext.drew _)).ext hx84
              first | have o4 := o4.ext hx84 | have o4 := (o4.ext (Ext.drew _)).ext hx84
              refine WL.c rfl rfl rfl (X.call Try.call15 (evl_cons rfl (evl_cons rfl evl_nil))) (sameBytes_ok _ _ _ _ _ (Bytes.of_own o4) (Bytes.of_own q4)) ?_
              rintro v86 w85 ⟨rfl, hx87⟩
              first | have ox := ox.ext hx87 | have ox := (ox.ext (Ext.drew _)).ext hx87
              first | have oy := oy.ext hx87 | have oy := (oy.ext (Ext.drew _)).ext hx87
              first | have oz := oz.ext hx87 | have oz := (oz.ext (Ext.drew _)).ext hx87
              refine WL.va rfl rfl rfl (X.moveB rfl) ?_
              refine WL.split (j := 5) rfl (fun h89 => ?_) (fun h89 => ?_)
              · have gh89 := (of_decide_eq_true h89)
                refine WL.vg rfl (congrArg some h89) rfl rfl (X.move rfl) ?_
                refine WL.vg rfl (congrArg some h89) rfl rfl (X.move rfl) ?_
                refine WL.cg rfl (congrArg some h89) rfl rfl (X.call Try.call20 (evl_cons rfl (evl_cons rfl evl_nil))) (keptBytes_ok _ _ _ _ _ (Bytes.of_own ox) (hb.ext (Ext.trans (Ext.trans (Ext.own (Ext.own (Ext.own (Ext.trans (Ext.trans (Ext.trans (Ext.trans (Ext.trans (Ext.trans (Ext.trans (Ext.trans (Ext.trans (Ext.trans (Ext.trans (Ext.trans (Ext.trans (Ext.trans hx25 hx28) hx31) hx34) (Ext.drew _)) hx38) (Ext.drew _)) hx42) hx45) hx48) hx51) hx57) hx60) hx66) hx69) o1 s1 hx75) o2 s2 hx78) o3 s3 hx81) hx84) hx87)) (by omega)) ?_
                rintro v91 w90 ⟨rfl, hx92⟩
                first | have oy := oy.ext hx92 | have oy := (oy.ext (Ext.drew _)).ext hx92
                first | have oz := oz.ext hx92 | have oz := (oz.ext (Ext.drew _)).ext hx92
                refine WL.va rfl rfl rfl (X.pickT rfl h89 rfl) ?_
                refine WL.va rfl rfl rfl (X.moveB rfl) ?_
                refine WL.split (j := 10) rfl (fun h94 => ?_) (fun h94 => ?_)
                · have gh94 := (of_decide_eq_true h94)
                  refine WL.vg rfl (congrArg some h94) rfl rfl (X.move rfl) ?_
                  refine WL.vg rfl (congrArg some h94) rfl rfl (X.move rfl) ?_
                  refine WL.cg rfl (congrArg some h94) rfl rfl (X.call Try.call20 (evl_cons rfl (evl_cons rfl evl_nil))) (keptBytes_ok _ _ _ _ _ (Bytes.of_own oy) (hp.ext (Ext.trans (Ext.trans (Ext.trans (Ext.own (Ext.own (Ext.own (Ext.trans (Ext.trans (Ext.trans (Ext.trans (Ext.trans (Ext.trans (Ext.trans (Ext.trans (Ext.trans (Ext.trans (Ext.trans (Ext.trans (Ext.trans (Ext.trans hx25 hx28) hx31) hx34) (Ext.drew _)) hx38) (Ext.drew _)) hx42) hx45) hx48) hx51) hx57) hx60) hx66) hx69) o1 s1 hx75) o2 s2 hx78) o3 s3 hx81) hx84) hx87) hx92)) (by omega)) ?_
                  rintro v96 w95 ⟨rfl, hx97⟩
                  first | have oz := oz.ext hx97 | have oz := (oz.ext (Ext.drew _)).ext hx97
                  refine WL.va rfl rfl rfl (X.pickT rfl h94 rfl) ?_
                  refine WL.va rfl rfl rfl (X.moveB rfl) ?_
                  refine WL.split (j := 15) rfl (fun h99 => ?_) (fun h99 => ?_)
                  · have gh99 := (of_decide_eq_true h99)
                    refine WL.vg rfl (congrArg some h99) rfl rfl (X.move rfl) ?_
                    refine WL.vg rfl (congrArg some h99) rfl rfl (X.move rfl) ?_
                    refine WL.cg rfl (congrArg some h99) rfl rfl (X.call Try.call21 (evl_cons rfl (evl_cons rfl evl_nil))) (keptInts_ok _ _ _ _ _ (Ints.of_own oz) (Row.ext hl (Ext.trans (Ext.trans (Ext.trans (Ext.trans (Ext.own (Ext.own (Ext.own (Ext.trans (Ext.trans (Ext.trans (Ext.trans (Ext.trans (Ext.trans (Ext.trans (Ext.trans (Ext.trans (Ext.trans (Ext.trans (Ext.trans (Ext.trans (Ext.trans hx25 hx28) hx31) hx34) (Ext.drew _)) hx38) (Ext.drew _)) hx42) hx45) hx48) hx51) hx57) hx60) hx66) hx69) o1 s1 hx75) o2 s2 hx78) o3 s3 hx81) hx84) hx87) hx92) hx97)) (by omega)) ?_
                    rintro v101 w100 ⟨rfl, hx102⟩
                    refine WL.va rfl rfl rfl (X.pickT rfl h99 rfl) ?_
                    refine WL.va rfl rfl rfl (X.moveB rfl) ?_
                    refine WL.split (j := 20) rfl (fun h104 => ?_) (fun h104 => ?_)
                    · have gh104 := (of_decide_eq_true h104)
                      refine WL.cg rfl (congrArg some h104) rfl rfl (X.call Try.call9 evl_nil) (works_ok _) ?_
                      rintro v106 w105 ⟨rfl, hx107⟩
                      refine WL.va rfl rfl rfl (X.pickT rfl h104 rfl) ?_
                      refine WL.va rfl rfl rfl (X.assignB rfl) ?_
                      refine WL.nil ?_
                      refine thn_n ?_
                      refine WF.ret ?_
                      refine fin_r ?_
                      exact ⟨rfl, (Ext.trans (Ext.trans (Ext.trans (Ext.trans (Ext.trans (Ext.trans (Ext.own (Ext.own (Ext.own (Ext.trans (Ext.trans (Ext.trans (Ext.trans (Ext.trans (Ext.trans (Ext.trans (Ext.trans (Ext.trans (Ext.trans (Ext.trans (Ext.trans (Ext.trans (Ext.trans hx25 hx28) hx31) hx34) (Ext.drew _)) hx38) (Ext.drew _)) hx42) hx45) hx48) hx51) hx57) hx60) hx66) hx69) o1 s1 hx75) o2 s2 hx78) o3 s3 hx81) hx84) hx87) hx92) hx97) hx102) hx107)⟩
                    · have gh104 := (of_decide_eq_false h104)
                      exact absurd rfl gh104
                  · have gh99 := (of_decide_eq_false h99)
                    exact absurd rfl gh99
                · have gh94 := (of_decide_eq_false h94)
                  exact absurd rfl gh94
              · have gh89 := (of_decide_eq_false h89)
                exact absurd rfl gh89

end Go.Proofs.Ytlcgjeebgjiebaa
