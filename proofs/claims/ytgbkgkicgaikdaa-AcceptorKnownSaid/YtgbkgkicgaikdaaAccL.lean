/- The walks of works and AcceptorTakes. -/
import Derived.Test.YtgbkgkicgaikdaaAccR
import Derived.Test.YtgbkgkicgaikdaaAccM
namespace Go.Proofs.Ytgbkgkicgaikdaa
open Go Go.RowKit Kf

/-- a message about the chapter's vote -/
abbrev voteM (kind frm ballot value : Int) : Msg := ⟨kind, frm, 1, 0, 0, 0, 0, 0, 0, 1048579, 2, ballot, value, 0, false, [], []⟩
abbrev wV1 : List Acc := [⟨1048579, 2, 0, 0, 1⟩]
abbrev wM1 : List Msg := [⟨11, 1, 101, 0, 0, 0, 0, 0, 0, 1048579, 2, 0, 1, 0, true, [], []⟩]
abbrev wV2 : List Acc := [⟨1048579, 2, 5, 0, 1⟩]
abbrev wM2 : List Msg := [⟨9, 1, 2, 0, 0, 0, 0, 0, 0, 1048579, 2, 5, 1, 0, true, [], []⟩]
abbrev wM3 : List Msg := [⟨11, 1, 3, 0, 0, 5, 0, 0, 0, 1048579, 2, 4, 0, 0, false, [], []⟩]
theorem wT1 : takeA [] 1 (voteM 10 7 0 1) = (wV1, wM1, true) := by decide +kernel
theorem wT2 : takeA wV1 1 (voteM 8 2 5 0) = (wV2, wM2, true) := by decide +kernel
theorem wT3 : takeA wV2 1 (voteM 10 3 4 2) = (wV2, wM3, false) := by decide +kernel
theorem vote_ok (kind frm ballot value : Int) (w : World) : FnOk Try.prog 22 [i64 kind, i64 frm, i64 ballot, i64 value] w (fun r w' => r = agg (Msg.bare (voteM kind frm ballot value)) ∧ Ext w w') := by
  refine FnOk.enterC (rs := [.cell 8 26]) Try.func22 rfl Try.ntmps22 Try.results22 rfl rfl ?_
  refine WF.seq ?_
  refine WF.region ?_
  refine WL.op rfl (OW.allocO (cs := [i64 0, i64 0, i64 0, i64 0, i64 0, i64 0, i64 0, i64 0, i64 0, i64 0, i64 0, i64 0, i64 0, i64 0, .bool false, .slice none 0 0, .slice none 0 0]) Try.zeroValue26 rfl ?_ (by decide))
  intro g8 w1 heg8 hlg8 hO8 hx3
  have := World.grownBy.size hx3
  refine WL.nil ?_
  refine thn_n ?_
  refine WF.seq ?_
  refine WF.region ?_
  refine WL.va rfl rfl rfl (X.moveI rfl) ?_
  refine WL.va rfl rfl rfl (X.moveI rfl) ?_
  refine WL.va rfl rfl rfl (X.moveI rfl) ?_
  refine WL.va rfl rfl rfl (X.moveI rfl) ?_
  refine WL.va rfl rfl rfl (X.buildL (cs := (Msg.bare (voteM kind frm ballot value))) (evp_cons rfl (evp_cons rfl (evp_cons rfl (evp_cons rfl (evp_cons rfl (evp_cons rfl (evp_cons rfl evp_nil))))))) Try.type26 Try.underlying26 rfl rfl ⟨rfl, rfl, rfl, rfl, rfl, rfl, rfl, trivial⟩ rfl) ?_
  refine WL.op rfl (OW.storeOA hO8 rfl rfl rfl (Msg.bare_one _) Try.sizeOf26 ?_)
  intro w5 hO8 hx7
  have := World.grownBy.size hx7
  refine WL.nil ?_
  refine thn_n ?_
  refine WF.ret ?_
  refine finC_r (vs := [_]) ⟨⟨_, rfl, readO hO8 Try.isAgg26 Try.sizeOf26⟩, trivial⟩ ?_
  exact ⟨rfl, (Ext.store hx3 hx7 (by omega))⟩

set_option maxHeartbeats 1000000 in
theorem works_ok (w : World) : FnOk Try.prog 9 [] w (fun r w' => r = .bool true ∧ Ext w w') := by
  refine FnOk.enter (rs := [0]) Try.func9 rfl Try.ntmps9 Try.results9 rfl rfl ?_
  refine WF.seq ?_
  refine WF.region ?_
  refine WL.va rfl rfl rfl (X.assignB rfl) ?_
  refine WL.nil ?_
  refine thn_n ?_
  refine WF.seq ?_
  refine WF.region ?_
  refine WL.c rfl rfl rfl (X.call Try.call22 (evl_cons rfl (evl_cons rfl (evl_cons rfl (evl_cons rfl evl_nil))))) (vote_ok _ _ _ _ _) ?_
  rintro v3 w2 ⟨rfl, hx4⟩
  refine WL.c rfl rfl rfl (X.call Try.call11 (evl_cons rfl (evl_cons rfl (evl_cons rfl evl_nil)))) ((take_ok _ [] 1 (voteM 10 7 0 1) nilS nilS _ (Row.nil _ 5) (by decide) (by unfold In64; decide)).mono (fun r wq h => (show (∃ vv vm, r = .tuple #[vv, vm, .bool true] ∧ OwnV wq w2.heap.size 37 vv wV1 ∧ OwnM wq w2.heap.size 26 vm wM1 ∧ Apart vv vm) ∧ Ext w2 wq from by rw [wT1] at h; exact h))) ?_
  rintro v6 w5 ⟨⟨vv1, vm1, rfl, ov1, om1, _⟩, hx7⟩
  refine WL.va rfl rfl rfl (X.move rfl) ?_
  refine WL.va rfl rfl rfl (X.extract rfl rfl) ?_
  refine WL.va rfl rfl rfl (X.extract rfl rfl) ?_
  refine WL.va rfl rfl rfl (X.extract rfl rfl) ?_
  refine WL.va rfl rfl rfl (X.assign rfl) ?_
  refine WL.va rfl rfl rfl (X.assign rfl) ?_
  refine WL.va rfl rfl rfl (X.assignB rfl) ?_
  refine WL.nil ?_
  refine thn_n ?_
  refine WF.seq ?_
  refine WF.region ?_
  refine WL.va rfl rfl rfl (X.move rfl) ?_
  refine WL.c rfl rfl rfl (X.call Try.call22 (evl_cons rfl (evl_cons rfl (evl_cons rfl (evl_cons rfl evl_nil))))) (vote_ok _ _ _ _ _) ?_
  rintro v10 w9 ⟨rfl, hx11⟩
  refine WL.c rfl rfl rfl (X.call Try.call11 (evl_cons rfl (evl_cons rfl (evl_cons rfl evl_nil)))) ((take_ok _ wV1 1 (voteM 8 2 5 0) nilS nilS _ (Row.ext (Row.of_own ov1) hx11) (by decide) (by unfold In64; decide)).mono (fun r wq h => (show (∃ vv vm, r = .tuple #[vv, vm, .bool true] ∧ OwnV wq w9.heap.size 37 vv wV2 ∧ OwnM wq w9.heap.size 26 vm wM2 ∧ Apart vv vm) ∧ Ext w9 wq from by rw [wT2] at h; exact h))) ?_
  rintro v13 w12 ⟨⟨vv2, vm2, rfl, ov2, om2, _⟩, hx14⟩
  refine WL.va rfl rfl rfl (X.move rfl) ?_
  refine WL.va rfl rfl rfl (X.extract rfl rfl) ?_
  refine WL.va rfl rfl rfl (X.extract rfl rfl) ?_
  refine WL.va rfl rfl rfl (X.extract rfl rfl) ?_
  refine WL.va rfl rfl rfl (X.assign rfl) ?_
  refine WL.va rfl rfl rfl (X.assign rfl) ?_
  refine WL.va rfl rfl rfl (X.assignB rfl) ?_
  refine WL.nil ?_
  refine thn_n ?_
  refine WF.seq ?_
  refine WF.region ?_
  refine WL.va rfl rfl rfl (X.move rfl) ?_
  refine WL.c rfl rfl rfl (X.call Try.call22 (evl_cons rfl (evl_cons rfl (evl_cons rfl (evl_cons rfl evl_nil))))) (vote_ok _ _ _ _ _) ?_
  rintro v17 w16 ⟨rfl, hx18⟩
  refine WL.c rfl rfl rfl (X.call Try.call11 (evl_cons rfl (evl_cons rfl (evl_cons rfl evl_nil)))) ((take_ok _ wV2 1 (voteM 10 3 4 2) nilS nilS _ (Row.ext (Row.of_own ov2) hx18) (by decide) (by unfold In64; decide)).mono (fun r wq h => (show (∃ vv vm, r = .tuple #[vv, vm, .bool false] ∧ OwnV wq w16.heap.size 37 vv wV2 ∧ OwnM wq w16.heap.size 26 vm wM3 ∧ Apart vv vm) ∧ Ext w16 wq from by rw [wT3] at h; exact h))) ?_
  rintro v20 w19 ⟨⟨vv3, vm3, rfl, ov3, om3, _⟩, hx21⟩
  refine WL.va rfl rfl rfl (X.move rfl) ?_
  refine WL.va rfl rfl rfl (X.extract rfl rfl) ?_
  refine WL.va rfl rfl rfl (X.extract rfl rfl) ?_
  refine WL.va rfl rfl rfl (X.extract rfl rfl) ?_
  refine WL.va rfl rfl rfl (X.assign rfl) ?_
  refine WL.va rfl rfl rfl (X.assign rfl) ?_
  refine WL.va rfl rfl rfl (X.assignB rfl) ?_
  refine WL.nil ?_
  refine thn_n ?_
  refine WF.seq ?_
  refine WF.region ?_
  refine WL.va rfl rfl rfl (X.moveB rfl) ?_
  refine WL.va rfl rfl rfl (X.moveB rfl) ?_
  refine WL.vg rfl rfl rfl rfl (X.moveB rfl) ?_
  refine WL.va rfl rfl rfl (X.pickT rfl rfl rfl) ?_
  refine WL.va rfl rfl rfl (X.moveB rfl) ?_
  refine WL.vg rfl rfl rfl rfl (X.moveB rfl) ?_
  refine WL.vg rfl rfl rfl rfl (X.not rfl) ?_
  refine WL.va rfl rfl rfl (X.pickT rfl rfl rfl) ?_
  refine WL.va rfl rfl rfl (X.moveB rfl) ?_
  refine WL.vg rfl rfl rfl rfl (X.move rfl) ?_
  refine WL.vg rfl rfl rfl rfl (X.len (Row.of_own ov3) rfl Try.underlying22) ?_
  refine WL.vg rfl rfl rfl rfl (X.eql rfl rfl) ?_
  refine WL.va rfl rfl rfl (X.pickT rfl rfl rfl) ?_
  refine WL.va rfl rfl rfl (X.moveB rfl) ?_
  refine WL.split (j := 13) rfl (fun h25 => ?_) (fun h25 => ?_)
  · have gh25 := (of_decide_eq_true h25)
    refine WL.vg rfl (congrArg some h25) rfl rfl (X.move rfl) ?_
    refine WL.vg rfl (congrArg some h25) rfl rfl (X.len (Row.of_own om1) rfl Try.underlying30) ?_
    refine WL.vg rfl (congrArg some h25) rfl rfl (X.eql rfl rfl) ?_
    refine WL.va rfl rfl rfl (X.pickT rfl h25 rfl) ?_
    refine WL.va rfl rfl rfl (X.moveB rfl) ?_
    refine WL.split (j := 18) rfl (fun h27 => ?_) (fun h27 => ?_)
    · have gh27 := (of_decide_eq_true h27)
      refine WL.vg rfl (congrArg some h27) rfl rfl (X.move rfl) ?_
      refine WL.vg rfl (congrArg some h27) rfl rfl (X.idx (k := 0) (Row.of_own om1) rfl rfl (by decide) Try.underlying30 Try.sizeOf26) ?_
      refine WL.vg rfl (congrArg some h27) rfl rfl (X.fieldAddrA rfl Try.underlying26 rfl rfl Try.sizeOf3) ?_
      refine WL.vg rfl (congrArg some h27) rfl rfl (X.loadE (Row.of_own om1) (Ext.trans (Ext.trans (Ext.trans hx11 hx14) hx18) hx21) rfl (by decide) rfl Try.isAgg3) ?_
      refine WL.vg rfl (congrArg some h27) rfl rfl (X.eql rfl rfl) ?_
      refine WL.va rfl rfl rfl (X.pickT rfl h27 rfl) ?_
      refine WL.va rfl rfl rfl (X.moveB rfl) ?_
      refine WL.split (j := 25) rfl (fun h29 => ?_) (fun h29 => ?_)
      · have gh29 := (of_decide_eq_true h29)
        refine WL.vg rfl (congrArg some h29) rfl rfl (X.move rfl) ?_
        refine WL.vg rfl (congrArg some h29) rfl rfl (X.idx (k := 0) (Row.of_own om1) rfl rfl (by decide) Try.underlying30 Try.sizeOf26) ?_
        refine WL.vg rfl (congrArg some h29) rfl rfl (X.fieldAddrA rfl Try.underlying26 rfl rfl Try.sizeOf4) ?_
        refine WL.vg rfl (congrArg some h29) rfl rfl (X.loadE (Row.of_own om1) (Ext.trans (Ext.trans (Ext.trans hx11 hx14) hx18) hx21) rfl (by decide) rfl Try.isAgg4) ?_
        refine WL.va rfl rfl rfl (X.pickT rfl h29 rfl) ?_
        refine WL.va rfl rfl rfl (X.moveB rfl) ?_
        refine WL.vg rfl rfl rfl rfl (X.move rfl) ?_
        refine WL.vg rfl rfl rfl rfl (X.len (Row.of_own om2) rfl Try.underlying30) ?_
        refine WL.vg rfl rfl rfl rfl (X.eql rfl rfl) ?_
        refine WL.va rfl rfl rfl (X.pickT rfl rfl rfl) ?_
        refine WL.va rfl rfl rfl (X.moveB rfl) ?_
        refine WL.split (j := 36) rfl (fun h32 => ?_) (fun h32 => ?_)
        · have gh32 := (of_decide_eq_true h32)
          refine WL.vg rfl (congrArg some h32) rfl rfl (X.move rfl) ?_
          refine WL.vg rfl (congrArg some h32) rfl rfl (X.idx (k := 0) (Row.of_own om2) rfl rfl (by decide) Try.underlying30 Try.sizeOf26) ?_
          refine WL.vg rfl (congrArg some h32) rfl rfl (X.fieldAddrA rfl Try.underlying26 rfl rfl Try.sizeOf4) ?_
          refine WL.vg rfl (congrArg some h32) rfl rfl (X.loadE (Row.of_own om2) (Ext.trans hx18 hx21) rfl (by decide) rfl Try.isAgg4) ?_
          refine WL.va rfl rfl rfl (X.pickT rfl h32 rfl) ?_
          refine WL.va rfl rfl rfl (X.moveB rfl) ?_
          refine WL.vg rfl rfl rfl rfl (X.move rfl) ?_
          refine WL.vg rfl rfl rfl rfl (X.idx (k := 0) (Row.of_own om2) rfl rfl (by decide) Try.underlying30 Try.sizeOf26) ?_
          refine WL.vg rfl rfl rfl rfl (X.fieldAddrA rfl Try.underlying26 rfl rfl Try.sizeOf3) ?_
          refine WL.vg rfl rfl rfl rfl (X.loadE (Row.of_own om2) (Ext.trans hx18 hx21) rfl (by decide) rfl Try.isAgg3) ?_
          refine WL.vg rfl rfl rfl rfl (X.eql rfl rfl) ?_
          refine WL.va rfl rfl rfl (X.pickT rfl rfl rfl) ?_
          refine WL.va rfl rfl rfl (X.moveB rfl) ?_
          refine WL.split (j := 49) rfl (fun h35 => ?_) (fun h35 => ?_)
          · have gh35 := (of_decide_eq_true h35)
            refine WL.vg rfl (congrArg some h35) rfl rfl (X.move rfl) ?_
            refine WL.vg rfl (congrArg some h35) rfl rfl (X.len (Row.of_own om3) rfl Try.underlying30) ?_
            refine WL.vg rfl (congrArg some h35) rfl rfl (X.eql rfl rfl) ?_
            refine WL.va rfl rfl rfl (X.pickT rfl h35 rfl) ?_
            refine WL.va rfl rfl rfl (X.moveB rfl) ?_
            refine WL.split (j := 54) rfl (fun h37 => ?_) (fun h37 => ?_)
            · have gh37 := (of_decide_eq_true h37)
              refine WL.vg rfl (congrArg some h37) rfl rfl (X.move rfl) ?_
              refine WL.vg rfl (congrArg some h37) rfl rfl (X.idx (k := 0) (Row.of_own om3) rfl rfl (by decide) Try.underlying30 Try.sizeOf26) ?_
              refine WL.vg rfl (congrArg some h37) rfl rfl (X.fieldAddrA rfl Try.underlying26 rfl rfl Try.sizeOf4) ?_
              refine WL.vg rfl (congrArg some h37) rfl rfl (X.loadE (Row.of_own om3) (Ext.refl _) rfl (by decide) rfl Try.isAgg4) ?_
              refine WL.vg rfl (congrArg some h37) rfl rfl (X.not rfl) ?_
              refine WL.va rfl rfl rfl (X.pickT rfl h37 rfl) ?_
              refine WL.va rfl rfl rfl (X.moveB rfl) ?_
              refine WL.vg rfl rfl rfl rfl (X.move rfl) ?_
              refine WL.vg rfl rfl rfl rfl (X.idx (k := 0) (Row.of_own om3) rfl rfl (by decide) Try.underlying30 Try.sizeOf26) ?_
              refine WL.vg rfl rfl rfl rfl (X.fieldAddrA rfl Try.underlying26 rfl rfl Try.sizeOf3) ?_
              refine WL.vg rfl rfl rfl rfl (X.loadE (Row.of_own om3) (Ext.refl _) rfl (by decide) rfl Try.isAgg3) ?_
              refine WL.vg rfl rfl rfl rfl (X.eql rfl rfl) ?_
              refine WL.va rfl rfl rfl (X.pickT rfl rfl rfl) ?_
              refine WL.va rfl rfl rfl (X.assignB rfl) ?_
              refine WL.nil ?_
              refine thn_n ?_
              refine WF.ret ?_
              refine fin_r ?_
              exact ⟨congrArg Value.bool (decide_eq_true rfl), (Ext.trans (Ext.trans (Ext.trans (Ext.trans (Ext.trans hx4 hx7) hx11) hx14) hx18) hx21)⟩
            · have gh37 := (of_decide_eq_false h37)
              exact absurd rfl gh37
          · have gh35 := (of_decide_eq_false h35)
            exact absurd rfl gh35
        · have gh32 := (of_decide_eq_false h32)
          exact absurd rfl gh32
      · have gh29 := (of_decide_eq_false h29)
        exact absurd rfl gh29
    · have gh27 := (of_decide_eq_false h27)
      exact absurd rfl gh27
  · have gh25 := (of_decide_eq_false h25)
    exact absurd rfl gh25

set_option maxHeartbeats 8000000 in
theorem acceptorTakes_walk (v : Value) (l : List Acc) (id : Int) (m : Msg) (em dm : Value) (w : World) (hv : Votes w v l) (_hid : -9223372036854775808 ≤ id ∧ id ≤ 9223372036854775807) (he : Ents w em m.Entries) (hd : Bytes w dm m.Data) (hm : In64 m.ints) : FnOk Try.prog 3 [v, i64 id, agg (m.c em dm)] w (fun r w' => r = .bool true ∧ Ext w w') := by
  have hlv := hv.le64
  refine FnOk.enter (rs := [6]) Try.func3 rfl Try.ntmps3 Try.results3 rfl rfl ?_
  refine WF.seq ?_
  refine WF.region ?_
  refine WL.op rfl (OW.boxA (cs := (m.c em dm)) rfl ?_ (by decide))
  intro g5 w1 heg5 hlg5 hO5 hx3
  have := World.grownBy.size hx3
  refine WL.va rfl rfl rfl (X.assignB rfl) ?_
  refine WL.nil ?_
  refine thn_n ?_
  refine WF.seq ?_
  refine WF.seq ?_
  refine WF.region ?_
  refine WL.va rfl rfl rfl (X.move rfl) ?_
  refine WL.va rfl rfl rfl (X.len hv rfl Try.underlying22) ?_
  refine WL.va rfl rfl rfl (X.gtr rfl rfl) ?_
  refine WL.va rfl rfl rfl (X.moveB rfl) ?_
  refine WL.split (j := 3) rfl (fun h7 => ?_) (fun h7 => ?_)
  · have gh7 := (of_decide_eq_true h7)
    refine WL.p rfl rfl rfl (congrArg some h7) ?_
    refine WL.p rfl rfl rfl (congrArg some h7) ?_
    refine WL.va rfl rfl rfl (X.pickT rfl h7 rfl) ?_
    refine WL.nil ?_
    refine thn_n ?_
    refine WF.cond_t rfl ?_
    refine WF.seq ?_
    refine WF.region ?_
    refine WL.c rfl rfl rfl (X.call Try.call9 evl_nil) (works_ok _) ?_
    rintro v10 w9 ⟨rfl, hx11⟩
    have := World.grownBy.size hx11
    refine WL.va rfl rfl rfl (X.assignB rfl) ?_
    refine WL.nil ?_
    refine thn_n ?_
    refine WF.ret ?_
    refine thn_r ?_
    refine fin_r ?_
    exact ⟨rfl, (Ext.trans hx3 hx11)⟩
  · have gh7 := (of_decide_eq_false h7)
    refine WL.vg rfl (congrArg some h7) rfl rfl (X.loadOA hO5 (Ext.refl _) rfl rfl Try.isAgg26 Try.sizeOf26) ?_
    refine WL.cg rfl (congrArg some h7) rfl rfl (X.call Try.call8 (evl_cons rfl (evl_cons rfl (evl_cons rfl evl_nil)))) (bigMsg_ok m em dm 1024 1024 _ (he.ext hx3) (Row.ext hd hx3) (by decide) (by decide)) ?_
    rintro v14 w13 ⟨rfl, hx15⟩
    have := World.grownBy.size hx15
    refine WL.va rfl rfl rfl (X.pickF rfl h7 rfl) ?_
    refine WL.nil ?_
    refine thn_n ?_
    refine WF.cond rfl (fun h0_16 => ?_) (fun h0_16 => ?_)
    · have gh0_16 := h0_16
      refine WF.seq ?_
      refine WF.region ?_
      refine WL.c rfl rfl rfl (X.call Try.call9 evl_nil) (works_ok _) ?_
      rintro v19 w18 ⟨rfl, hx20⟩
      have := World.grownBy.size hx20
      refine WL.va rfl rfl rfl (X.assignB rfl) ?_
      refine WL.nil ?_
      refine thn_n ?_
      refine WF.ret ?_
      refine thn_r ?_
      refine fin_r ?_
      exact ⟨rfl, (Ext.trans (Ext.trans hx3 hx15) hx20)⟩
    · have gh0_16 := h0_16
      refine WF.skip ?_
      refine thn_n ?_
      refine WF.seq ?_
      refine WF.region ?_
      refine WL.va rfl rfl rfl (X.move rfl) ?_
      obtain ⟨wc, hwc⟩ : ∃ wc, wc = w13 := ⟨_, rfl⟩
      have szw := World.grownBy.size (Ext.trans hx3 hx15)
      have hl : l.length ≤ 1100 := by omega
      refine WL.c rfl rfl rfl (X.call Try.call10 (evl_cons rfl evl_nil)) (lentVotes_ok _ _ _ (Row.ext hv (Ext.trans hx3 hx15)) (by omega)) ?_
      rintro vx wd ⟨ox0, hx22⟩
      have := World.grownBy.size hx22
      have ox := OwnT.of ox0
      rw [← hwc] at ox
      refine WL.va rfl rfl rfl (X.assign rfl) ?_
      refine WL.nil ?_
      refine thn_n ?_
      refine WF.seq ?_
      refine WF.drawn (.q 0 (.q 1 (.q 2 (.q 3 (.q 4 (.q 5 (.l 6 (.q 7 (.q 8 (.q 9 (.q 10 (.q 11 (.q 12 (.q 13 .nil)))))))))))))) (fun w' => Ext wd w') 14 (by kernel_rfl) (by kernel_rfl) (Ext.drew _) ?_
      have := World.grownBy.size (Ext.drew wd)
      refine WO.q rfl rfl rfl rfl (fun w' hE23 => (X.move rfl)) ?_
      refine WO.q rfl rfl rfl rfl (fun w' hE23 => (X.move rfl)) ?_
      refine WO.q rfl rfl rfl rfl (fun w' hE23 => (X.len hv rfl Try.underlying22)) ?_
      refine WO.q rfl rfl rfl rfl (fun w' hE23 => (X.slH (ox.rd) rfl rfl (by simp) Try.underlying22 Try.sizeOf37)) ?_
      refine WO.q rfl rfl rfl rfl (fun w' hE23 => (X.moveI rfl)) ?_
      refine WO.q rfl rfl rfl rfl (fun w' hE23 => (X.loadOA hO5 (Ext.trans (Ext.trans hx15 hx22) hE23) rfl rfl Try.isAgg26 Try.sizeOf26)) ?_
      refine WO.l ?_
      obtain ⟨Ba, hBa⟩ : ∃ B, B = wd.drew.heap.size := ⟨_, rfl⟩
      refine LO.go rfl rfl (OW.enter rfl (by decide) (X.call Try.call11 (evl_cons rfl (evl_cons rfl (evl_cons rfl evl_nil)))) (take_ok _ l id m em dm _ (Row.ext (lentV_part ox.own) (Ext.drew _)) hl hm) ?_)
      rintro v25 w24 ⟨⟨va, vma, rfl, oa0, oma0, apa⟩, hx26⟩
      have := World.grownBy.size hx26
      refine ⟨(Ext.trans (Ext.drew _) hx26), ?_⟩
      obtain ⟨Ta, hTa⟩ : ∃ B, B = w24.heap.size := ⟨_, rfl⟩
      rw [← hBa] at oa0 oma0
      have oa := OwnT.of oa0
      have oma := OwnT.of oma0
      rw [← hTa] at oa oma
      refine WO.q rfl rfl rfl rfl (fun w' hE23 => (X.move rfl)) ?_
      refine WO.q rfl rfl rfl rfl (fun w' hE23 => (X.extract rfl rfl)) ?_
      refine WO.q rfl rfl rfl rfl (fun w' hE23 => (X.extract rfl rfl)) ?_
      refine WO.q rfl rfl rfl rfl (fun w' hE23 => (X.extract rfl rfl)) ?_
      refine WO.q rfl rfl rfl rfl (fun w' hE23 => (X.assign rfl)) ?_
      refine WO.q rfl rfl rfl rfl (fun w' hE23 => (X.assign rfl)) ?_
      refine WO.q rfl rfl rfl rfl (fun w' hE23 => (X.assignB rfl)) ?_
      refine WO.nil ?_
      refine WL.nil ?_
      refine thn_n ?_
      refine WF.seq ?_
      refine WF.drawn (.q 0 (.q 1 (.q 2 (.q 3 (.q 4 (.q 5 (.l 6 (.q 7 (.q 8 (.q 9 (.q 10 (.q 11 (.q 12 (.q 13 .nil)))))))))))))) (fun w' => Ext w24 w') 14 (by kernel_rfl) (by kernel_rfl) (Ext.drew _) ?_
      have := World.grownBy.size (Ext.drew w24)
      refine WO.q rfl rfl rfl rfl (fun w' hE28 => (X.move rfl)) ?_
      refine WO.q rfl rfl rfl rfl (fun w' hE28 => (X.move rfl)) ?_
      refine WO.q rfl rfl rfl rfl (fun w' hE28 => (X.len hv rfl Try.underlying22)) ?_
      refine WO.q rfl rfl rfl rfl (fun w' hE28 => (X.slH (ox.rd) rfl rfl (by simp) Try.underlying22 Try.sizeOf37)) ?_
      refine WO.q rfl rfl rfl rfl (fun w' hE28 => (X.moveI rfl)) ?_
      refine WO.q rfl rfl rfl rfl (fun w' hE28 => (X.loadOA hO5 (Ext.trans (Ext.trans (Ext.trans (Ext.trans hx15 hx22) (Ext.drew _)) hx26) hE28) rfl rfl Try.isAgg26 Try.sizeOf26)) ?_
      refine WO.l ?_
      obtain ⟨Bb, hBb⟩ : ∃ B, B = w24.drew.heap.size := ⟨_, rfl⟩
      refine LO.go rfl rfl (OW.enter rfl (by decide) (X.call Try.call11 (evl_cons rfl (evl_cons rfl (evl_cons rfl evl_nil)))) (take_ok _ l id m em dm _ (Row.ext (lentV_part (ox.ext (Ext.trans (Ext.drew _) hx26)).own) (Ext.drew _)) hl hm) ?_)
      rintro v30 w29 ⟨⟨vb, vmb, rfl, ob0, omb0, apb⟩, hx31⟩
      have := World.grownBy.size hx31
      refine ⟨(Ext.trans (Ext.drew _) hx31), ?_⟩
      obtain ⟨Tb, hTb⟩ : ∃ B, B = w29.heap.size := ⟨_, rfl⟩
      rw [← hBb] at ob0 omb0
      have ob := OwnT.of ob0
      have omb := OwnT.of omb0
      rw [← hTb] at ob omb
      refine WO.q rfl rfl rfl rfl (fun w' hE28 => (X.move rfl)) ?_
      refine WO.q rfl rfl rfl rfl (fun w' hE28 => (X.extract rfl rfl)) ?_
      refine WO.q rfl rfl rfl rfl (fun w' hE28 => (X.extract rfl rfl)) ?_
      refine WO.q rfl rfl rfl rfl (fun w' hE28 => (X.extract rfl rfl)) ?_
      refine WO.q rfl rfl rfl rfl (fun w' hE28 => (X.assign rfl)) ?_
      refine WO.q rfl rfl rfl rfl (fun w' hE28 => (X.assign rfl)) ?_
      refine WO.q rfl rfl rfl rfl (fun w' hE28 => (X.assignB rfl)) ?_
      refine WO.nil ?_
      refine WL.nil ?_
      refine thn_n ?_
      refine WF.seq ?_
      refine WF.region ?_
      refine WL.va rfl rfl rfl (X.move rfl) ?_
      refine WL.va rfl rfl rfl (X.moveI rfl) ?_
      refine WL.va rfl rfl rfl (X.loadOA hO5 (Ext.trans (Ext.trans (Ext.trans (Ext.trans (Ext.trans hx15 hx22) (Ext.drew _)) hx26) (Ext.drew _)) hx31) rfl rfl Try.isAgg26 Try.sizeOf26) ?_
      obtain ⟨Bw, hBw⟩ : ∃ B, B = w29.heap.size := ⟨_, rfl⟩
      refine WL.c rfl rfl rfl (X.call Try.call12 (evl_cons rfl (evl_cons rfl (evl_cons rfl evl_nil)))) (refTake_ok _ l id m em dm _ (Row.ext hv (Ext.trans (Ext.trans (Ext.trans (Ext.trans (Ext.trans (Ext.trans hx3 hx15) hx22) (Ext.drew _)) hx26) (Ext.drew _)) hx31)) hl hm) ?_
      rintro v34 w33 ⟨⟨vw, vmw, rfl, ow0, omw0⟩, hx35⟩
      have := World.grownBy.size hx35
      obtain ⟨Tw, hTw⟩ : ∃ B, B = w33.heap.size := ⟨_, rfl⟩
      rw [← hBw] at ow0 omw0
      have ow := OwnT.of ow0
      have omw := OwnT.of omw0
      rw [← hTw] at ow omw
      refine WL.va rfl rfl rfl (X.move rfl) ?_
      refine WL.va rfl rfl rfl (X.extract rfl rfl) ?_
      refine WL.va rfl rfl rfl (X.extract rfl rfl) ?_
      refine WL.va rfl rfl rfl (X.extract rfl rfl) ?_
      refine WL.va rfl rfl rfl (X.assign rfl) ?_
      refine WL.va rfl rfl rfl (X.assign rfl) ?_
      refine WL.va rfl rfl rfl (X.assignB rfl) ?_
      refine WL.nil ?_
      refine thn_n ?_
      refine WF.seq ?_
      refine WF.seq ?_
      refine WF.region ?_
      refine WL.va rfl rfl rfl (X.moveB rfl) ?_
      refine WL.va rfl rfl rfl (X.moveB rfl) ?_
      refine WL.va rfl rfl rfl (X.neqB rfl rfl Try.underlying4) ?_
      refine WL.va rfl rfl rfl (X.moveB rfl) ?_
      refine WL.split (j := 3) rfl (fun h38 => ?_) (fun h38 => ?_)
      · have gh38 := h38
        first | exact absurd rfl gh38 | exact absurd gh38 (by simp)
      · have gh38 := h38
        refine WL.vg rfl (congrArg some h38) rfl rfl (X.moveB rfl) ?_
        refine WL.vg rfl (congrArg some h38) rfl rfl (X.moveB rfl) ?_
        refine WL.vg rfl (congrArg some h38) rfl rfl (X.neqB rfl rfl Try.underlying4) ?_
        refine WL.va rfl rfl rfl (X.pickF rfl h38 rfl) ?_
        refine WL.va rfl rfl rfl (X.moveB rfl) ?_
        refine WL.split (j := 8) rfl (fun h40 => ?_) (fun h40 => ?_)
        · have gh40 := h40
          first | exact absurd rfl gh40 | exact absurd gh40 (by simp)
        · have gh40 := h40
          refine WL.vg rfl (congrArg some h40) rfl rfl (X.move rfl) ?_
          refine WL.vg rfl (congrArg some h40) rfl rfl (X.move rfl) ?_
          refine WL.cg rfl (congrArg some h40) rfl rfl (X.call Try.call13 (evl_cons rfl (evl_cons rfl evl_nil))) (sameVotes_ok _ _ _ _ _ (oa.ext (Ext.trans (Ext.trans (Ext.drew _) hx31) hx35)).rd ow.rd) ?_
          rintro v42 w41 ⟨rfl, hx43⟩
          have := World.grownBy.size hx43
          refine WL.vg rfl (congrArg some h40) rfl rfl (X.not rfl) ?_
          refine WL.va rfl rfl rfl (X.pickF rfl h40 rfl) ?_
          refine WL.va rfl rfl rfl (X.moveB rfl) ?_
          refine WL.split (j := 14) rfl (fun h46 => ?_) (fun h46 => ?_)
          · have gh46 := (of_decide_eq_false (nt h46))
            first | exact absurd rfl gh46 | exact absurd gh46 (by simp)
          · have gh46 := (of_decide_eq_true (nf h46))
            refine WL.vg rfl (congrArg some h46) rfl rfl (X.move rfl) ?_
            refine WL.vg rfl (congrArg some h46) rfl rfl (X.move rfl) ?_
            refine WL.cg rfl (congrArg some h46) rfl rfl (X.call Try.call14 (evl_cons rfl (evl_cons rfl evl_nil))) (sameMsgs_ok _ _ _ _ _ (msgs_of_row (oma.ext (Ext.trans (Ext.trans (Ext.trans (Ext.drew _) hx31) hx35) hx43)).rd (takeA_bare _ _ _)) (msgs_of_row (omw.ext hx43).rd (takeA_bare _ _ _))) ?_
            rintro v48 w47 ⟨rfl, hx49⟩
            have := World.grownBy.size hx49
            refine WL.vg rfl (congrArg some h46) rfl rfl (X.not rfl) ?_
            refine WL.va rfl rfl rfl (X.pickF rfl h46 rfl) ?_
            refine WL.va rfl rfl rfl (X.moveB rfl) ?_
            refine WL.split (j := 20) rfl (fun h52 => ?_) (fun h52 => ?_)
            · have gh52 := (of_decide_eq_false (nt h52))
              first | exact absurd rfl gh52 | exact absurd gh52 (by simp)
            · have gh52 := (of_decide_eq_true (nf h52))
              refine WL.vg rfl (congrArg some h52) rfl rfl (X.move rfl) ?_
              refine WL.vg rfl (congrArg some h52) rfl rfl (X.move rfl) ?_
              refine WL.cg rfl (congrArg some h52) rfl rfl (X.call Try.call14 (evl_cons rfl (evl_cons rfl evl_nil))) (sameMsgs_ok _ _ _ _ _ (msgs_of_row (omb.ext (Ext.trans (Ext.trans hx35 hx43) hx49)).rd (takeA_bare _ _ _)) (msgs_of_row (omw.ext (Ext.trans hx43 hx49)).rd (takeA_bare _ _ _))) ?_
              rintro v54 w53 ⟨rfl, hx55⟩
              have := World.grownBy.size hx55
              refine WL.vg rfl (congrArg some h52) rfl rfl (X.not rfl) ?_
              refine WL.va rfl rfl rfl (X.pickF rfl h52 rfl) ?_
              refine WL.nil ?_
              refine thn_n ?_
              refine WF.cond rfl (fun h1_57 => ?_) (fun h1_57 => ?_)
              · have gh1_57 := (of_decide_eq_false (nt h1_57))
                exact absurd rfl gh1_57
              · have gh1_57 := (of_decide_eq_true (nf h1_57))
                refine WF.skip ?_
                refine thn_n ?_
                refine WF.seq ?_
                refine WF.region ?_
                refine WL.va rfl rfl rfl (X.move rfl) ?_
                have omaQ := (oma.ext (Ext.trans (Ext.trans (Ext.trans (Ext.trans (Ext.trans (Ext.drew _) hx31) hx35) hx43) hx49) hx55))
                refine WL.c rfl rfl rfl (X.call Try.call15 (evl_cons rfl evl_nil)) (spoilVotes_ok _ _ _ _ (oa.ext (Ext.trans (Ext.trans (Ext.trans (Ext.trans (Ext.trans (Ext.drew _) hx31) hx35) hx43) hx49) hx55)).own) ?_
                rintro v60 w59 ⟨_, hx61⟩
                have := World.grownBy.size hx61
                replace hO5 := (hO5.ext (Ext.trans (Ext.trans (Ext.trans (Ext.trans (Ext.trans (Ext.trans (Ext.trans (Ext.trans (Ext.trans hx15 hx22) (Ext.drew _)) hx26) (Ext.drew _)) hx31) hx35) hx43) hx49) hx55)).keptR hx61 (fun b hb => by have h1 := ((oa.ext (Ext.trans (Ext.trans (Ext.trans (Ext.trans (Ext.trans (Ext.drew _) hx31) hx35) hx43) hx49) hx55)).own.lt b hb).1; have h2 := (oa.ext (Ext.trans (Ext.trans (Ext.trans (Ext.trans (Ext.trans (Ext.drew _) hx31) hx35) hx43) hx49) hx55)).top b hb; omega)
                replace ox := (ox.ext (Ext.trans (Ext.trans (Ext.trans (Ext.trans (Ext.trans (Ext.trans (Ext.trans (Ext.drew _) hx26) (Ext.drew _)) hx31) hx35) hx43) hx49) hx55)).kept hx61 (fun b hb => by have h1 := ((oa.ext (Ext.trans (Ext.trans (Ext.trans (Ext.trans (Ext.trans (Ext.drew _) hx31) hx35) hx43) hx49) hx55)).own.lt b hb).1; have h2 := (oa.ext (Ext.trans (Ext.trans (Ext.trans (Ext.trans (Ext.trans (Ext.drew _) hx31) hx35) hx43) hx49) hx55)).top b hb; omega)
                replace ob := (ob.ext (Ext.trans (Ext.trans (Ext.trans hx35 hx43) hx49) hx55)).kept hx61 (fun b hb => by have h1 := ((oa.ext (Ext.trans (Ext.trans (Ext.trans (Ext.trans (Ext.trans (Ext.drew _) hx31) hx35) hx43) hx49) hx55)).own.lt b hb).1; have h2 := (oa.ext (Ext.trans (Ext.trans (Ext.trans (Ext.trans (Ext.trans (Ext.drew _) hx31) hx35) hx43) hx49) hx55)).top b hb; omega)
                replace omb := (omb.ext (Ext.trans (Ext.trans (Ext.trans hx35 hx43) hx49) hx55)).kept hx61 (fun b hb => by have h1 := ((oa.ext (Ext.trans (Ext.trans (Ext.trans (Ext.trans (Ext.trans (Ext.drew _) hx31) hx35) hx43) hx49) hx55)).own.lt b hb).1; have h2 := (oa.ext (Ext.trans (Ext.trans (Ext.trans (Ext.trans (Ext.trans (Ext.drew _) hx31) hx35) hx43) hx49) hx55)).top b hb; omega)
                replace ow := (ow.ext (Ext.trans (Ext.trans hx43 hx49) hx55)).kept hx61 (fun b hb => by have h1 := ((oa.ext (Ext.trans (Ext.trans (Ext.trans (Ext.trans (Ext.trans (Ext.drew _) hx31) hx35) hx43) hx49) hx55)).own.lt b hb).1; have h2 := (oa.ext (Ext.trans (Ext.trans (Ext.trans (Ext.trans (Ext.trans (Ext.drew _) hx31) hx35) hx43) hx49) hx55)).top b hb; omega)
                replace omw := (omw.ext (Ext.trans (Ext.trans hx43 hx49) hx55)).kept hx61 (fun b hb => by have h1 := ((oa.ext (Ext.trans (Ext.trans (Ext.trans (Ext.trans (Ext.trans (Ext.drew _) hx31) hx35) hx43) hx49) hx55)).own.lt b hb).1; have h2 := (oa.ext (Ext.trans (Ext.trans (Ext.trans (Ext.trans (Ext.trans (Ext.drew _) hx31) hx35) hx43) hx49) hx55)).top b hb; omega)
                have oma : OwnT w59 _ _ 26 17 vma _ _ := ⟨World.ownsRow.kept omaQ.own hx61 apa.symm.ne, omaQ.top⟩
                refine WL.nil ?_
                refine thn_n ?_
                refine WF.seq ?_
                refine WF.seq ?_
                refine WF.region ?_
                refine WL.va rfl rfl rfl (X.assignI rfl) ?_
                refine WL.nil ?_
                refine thn_n ?_
                refine WF.block ?_
                refine WF.named (fun F62 hF63 => ?_)
                refine WF.loopN (fun mL0 f' w' => ∃ (k : Nat) (M : List Msg), mL0 = M.length - k ∧ f' 17 = .int .i64 (k : Int) ∧ Agree [0, 1, 2, 5, 6, 7, 8, 9, 10, 11, 12, 13, 14, 15, 16, 22, 23, 24, 25, 26, 27, 28, 30, 31, 32, 33, 34, 35, 36, 37, 38, 39, 40, 41, 42, 43, 44, 45, 46, 47, 48, 49, 50, 51, 52, 53, 54, 55, 56, 57, 58, 59, 60, 61, 62, 63, 64, 65, 66, 67, 68, 69, 70, 71, 72, 73, 74, 75, 76, 77, 78, 79, 80, 81, 82, 83, 84, 85, 86, 87, 88] f' F62 ∧ Ext w w' ∧ k ≤ M.length ∧ M.length ≤ 1000 ∧ Tw ≤ w'.heap.size ∧ Blk w' g5 26 (m.c em dm) ∧ OwnT w' wc.heap.size wd.heap.size 37 5 vx (l ++ List.replicate 5 filler).length ((l ++ List.replicate 5 filler).flatMap Acc.c) ∧ OwnT w' Bb Tb 37 5 vb (takeA l id m).1.length ((takeA l id m).1.flatMap Acc.c) ∧ OwnT w' Bb Tb 26 17 vmb (takeA l id m).2.1.length ((takeA l id m).2.1.flatMap Msg.bare) ∧ OwnT w' Bw Tw 37 5 vw (takeA l id m).1.length ((takeA l id m).1.flatMap Acc.c) ∧ OwnT w' Bw Tw 26 17 vmw (takeA l id m).2.1.length ((takeA l id m).2.1.flatMap Msg.bare) ∧ OwnT w' Ba Ta 26 17 vma M.length (M.flatMap Msg.bare)) ?_ ?_
                · exact ⟨_, 0, _, rfl, (congrFun hF63 17), (Agree.refl _ _), (Ext.own (Ext.trans (Ext.trans (Ext.trans (Ext.trans (Ext.trans (Ext.trans (Ext.trans (Ext.trans (Ext.trans (Ext.trans hx3 hx15) hx22) (Ext.drew _)) hx26) (Ext.drew _)) hx31) hx35) hx43) hx49) hx55) (oa.ext (Ext.trans (Ext.trans (Ext.trans (Ext.trans (Ext.trans (Ext.drew _) hx31) hx35) hx43) hx49) hx55)).own (by omega) hx61), ⟨Nat.zero_le _, (Nat.le_trans (takeA_few _ _ _) (by decide)), (by omega), hO5, ox, ob, omb, ow, omw, oma⟩⟩
                · rintro mL0 fL0 wL0 ⟨k, M, hmL0, e17_L0, hAL0, hwL0, ⟨hk, hM, hTw2, hO5, ox, ob, omb, ow, omw, oma⟩⟩
                  refine WF.seq ?_
                  refine WF.seq ?_
                  refine WF.region ?_
                  refine WL.va rfl rfl rfl (X.moveI e17_L0) ?_
                  refine WL.va rfl rfl rfl (X.move ((hAL0.eq 9).trans (congrFun hF63 9))) ?_
                  refine WL.va rfl rfl rfl (X.len (oma.rd) rfl Try.underlying30) ?_
                  refine WL.va rfl rfl rfl (X.lss rfl rfl) ?_
                  refine WL.nil ?_
                  refine thn_n ?_
                  refine WF.cond rfl (fun h2_64 => ?_) (fun h2_64 => ?_)
                  · have gh2_64 := (of_decide_eq_true h2_64)
                    refine WF.skip ?_
                    refine thn_n ?_
                    refine WF.seq ?_
                    refine WF.block ?_
                    refine WF.region ?_
                    refine WL.va rfl rfl rfl (X.move ((hAL0.eq 9).trans (congrFun hF63 9))) ?_
                    refine WL.va rfl rfl rfl (X.moveI e17_L0) ?_
                    refine WL.va rfl rfl rfl (X.buildL (cs := (Msg.bare Msg.zero)) evp_nil Try.type26 Try.underlying26 rfl rfl trivial rfl) ?_
                    refine WL.va rfl rfl rfl (X.idx (oma.rd) rfl rfl (by omega) Try.underlying30 Try.sizeOf26) ?_
                    have omp := oma
                    refine WL.op rfl (OW.storeEl (ds := (Msg.bare Msg.zero)) omp.own (by omega) rfl rfl rfl (Msg.bare_one _) Try.sizeOf26 ?_)
                    intro w66 ho69 hx68
                    have := World.grownBy.size hx68
                    replace hO5 := hO5.keptR hx68 (fun b hb => by have h1 := (omp.own.lt b hb).1; have h2 := omp.top b hb; omega)
                    replace ox := ox.kept hx68 (fun b hb => by have h1 := (omp.own.lt b hb).1; have h2 := omp.top b hb; omega)
                    replace ob := ob.kept hx68 (fun b hb => by have h1 := (omp.own.lt b hb).1; have h2 := omp.top b hb; omega)
                    replace omb := omb.kept hx68 (fun b hb => by have h1 := (omp.own.lt b hb).1; have h2 := omp.top b hb; omega)
                    replace ow := ow.kept hx68 (fun b hb => by have h1 := (omp.own.lt b hb).1; have h2 := omp.top b hb; omega)
                    replace omw := omw.kept hx68 (fun b hb => by have h1 := (omp.own.lt b hb).1; have h2 := omp.top b hb; omega)
                    have oma : OwnT w66 _ _ 26 17 vma _ _ := ⟨OwnM.set (by omega) ho69, oma.top⟩
                    refine WL.nil ?_
                    refine blk_n ?_
                    refine thn_n ?_
                    refine WF.region ?_
                    refine WL.va rfl rfl rfl (X.moveI e17_L0) ?_
                    refine WL.va rfl rfl rfl (X.add rfl rfl (w64 (by omega))) ?_
                    refine WL.va rfl rfl rfl (X.assignI rfl) ?_
                    refine WL.nil ?_
                    exact thn_n ⟨_, (by simp; omega), k + 1, _, rfl, rfl, (by repeat (first | exact hAL0 | refine Agree.put ?_ rfl | refine Agree.named hF63 ?_)), (Ext.own hwL0 omp.own (by omega) hx68), ⟨by simp; omega, by simp; omega, by omega, hO5, ox, ob, omb, ow, omw, oma⟩⟩
                  · have gh2_64 := (of_decide_eq_false h2_64)
                    refine WF.exit ?_
                    refine thn_x ?_
                    refine thn_x ?_
                    refine blk_eq ?_
                    refine thn_n ?_
                    refine WF.seq ?_
                    refine WF.drawn (.q 0 (.q 1 (.q 2 (.q 3 (.q 4 (.q 5 (.q 6 (.q 7 (.b 8 12 (.q 9 (.q 10 (.q 11 (.l 12 (.l 13 (.q 14 .nil)))))) (.l 8 (.q 9 (.q 10 (.q 11 (.l 13 (.q 14 .nil))))))))))))))) (fun w' => Ext wL0 w') 15 (by kernel_rfl) (by kernel_rfl) (Ext.drew _) ?_
                    have := World.grownBy.size (Ext.drew wL0)
                    refine WO.q rfl rfl rfl rfl (fun w' hE70 => (X.move ((hAL0.eq 7).trans (congrFun hF63 7)))) ?_
                    refine WO.q rfl rfl rfl rfl (fun w' hE70 => (X.move ((hAL0.eq 0).trans (congrFun hF63 0)))) ?_
                    refine WO.q rfl rfl rfl rfl (fun w' hE70 => (X.len hv rfl Try.underlying22)) ?_
                    refine WO.q rfl rfl rfl rfl (fun w' hE70 => (X.slH (ox.rd) rfl rfl (by simp) Try.underlying22 Try.sizeOf37)) ?_
                    refine WO.q rfl rfl rfl rfl (fun w' hE70 => (X.fieldAddrO (off := 9) ((hAL0.eq 5).trans (congrFun hF63 5)) Try.underlying26 rfl rfl Try.sizeOf3)) ?_
                    refine WO.q rfl rfl rfl rfl (fun w' hE70 => (X.loadO hO5 hE70 rfl rfl Try.isAgg3)) ?_
                    refine WO.q rfl rfl rfl rfl (fun w' hE70 => (X.fieldAddrO (off := 10) ((hAL0.eq 5).trans (congrFun hF63 5)) Try.underlying26 rfl rfl Try.sizeOf3)) ?_
                    refine WO.q rfl rfl rfl rfl (fun w' hE70 => (X.loadO hO5 hE70 rfl rfl Try.isAgg3)) ?_
                    refine WO.b2 ?_ ?_
                    · refine LO.go rfl rfl (OW.enter rfl (by decide) (X.call Try.call16 (evl_cons rfl (evl_cons rfl (evl_cons rfl evl_nil)))) (findA_ok _ l _ _ _ (Row.ext (lentV_part ox.own) (Ext.drew _))) ?_)
                      rintro v72 w71 ⟨rfl, hx73⟩
                      have := World.grownBy.size hx73
                      refine ⟨(Ext.trans (Ext.drew _) hx73), ?_⟩
                      refine WO.q rfl rfl rfl rfl (fun w' hE70 => (X.move rfl)) ?_
                      refine WO.q rfl rfl rfl rfl (fun w' hE70 => (X.extract rfl rfl)) ?_
                      refine WO.q rfl rfl rfl rfl (fun w' hE70 => (X.extract rfl rfl)) ?_
                      refine WO.l ?_
                      refine LO.go rfl rfl (OW.allocO (cs := [i64 0, i64 0, i64 0, i64 0, i64 0]) Try.zeroValue37 rfl ?_ (by decide))
                      intro g18 w75 heg18 hlg18 hO18 hx77
                      have := World.grownBy.size hx77
                      refine ⟨(Ext.trans (Ext.trans (Ext.drew _) hx73) hx77), ?_⟩
                      refine WO.l ?_
                      refine LO.go rfl rfl (OW.storeOA hO18 rfl rfl rfl (Acc.c_one _) Try.sizeOf37 ?_)
                      intro w79 hO18 hx81
                      have := World.grownBy.size hx81
                      replace hO5 := (hO5.ext (Ext.trans (Ext.trans (Ext.drew _) hx73) hx77)).keptO hx81 (by omega)
                      replace ox := (ox.ext (Ext.trans (Ext.trans (Ext.drew _) hx73) hx77)).keptO hx81 (by omega)
                      replace ob := (ob.ext (Ext.trans (Ext.trans (Ext.drew _) hx73) hx77)).keptO hx81 (by omega)
                      replace omb := (omb.ext (Ext.trans (Ext.trans (Ext.drew _) hx73) hx77)).keptO hx81 (by omega)
                      replace ow := (ow.ext (Ext.trans (Ext.trans (Ext.drew _) hx73) hx77)).keptO hx81 (by omega)
                      replace omw := (omw.ext (Ext.trans (Ext.trans (Ext.drew _) hx73) hx77)).keptO hx81 (by omega)
                      replace oma := (oma.ext (Ext.trans (Ext.trans (Ext.drew _) hx73) hx77)).keptO hx81 (by omega)
                      refine ⟨(Ext.trans (Ext.trans (Ext.drew _) hx73) (Ext.store hx77 hx81 (by omega))), ?_⟩
                      refine WO.q rfl rfl rfl rfl (fun w' hE70 => (X.assignB rfl)) ?_
                      refine WO.nil ?_
                      refine WL.nil ?_
                      refine thn_n ?_
                      refine WF.seq ?_
                      refine WF.region ?_
                      refine WL.va rfl rfl rfl (X.move ((hAL0.eq 0).trans (congrFun hF63 0))) ?_
                      refine WL.va rfl rfl rfl (X.fieldAddrO (off := 9) ((hAL0.eq 5).trans (congrFun hF63 5)) Try.underlying26 rfl rfl Try.sizeOf3) ?_
                      refine WL.va rfl rfl rfl (X.loadO hO5 (Ext.refl _) rfl rfl Try.isAgg3) ?_
                      refine WL.va rfl rfl rfl (X.fieldAddrO (off := 10) ((hAL0.eq 5).trans (congrFun hF63 5)) Try.underlying26 rfl rfl Try.sizeOf3) ?_
                      refine WL.va rfl rfl rfl (X.loadO hO5 (Ext.refl _) rfl rfl Try.isAgg3) ?_
                      refine WL.c rfl rfl rfl (X.call Try.call17 (evl_cons rfl (evl_cons rfl (evl_cons rfl evl_nil)))) (refFind_ok _ l _ _ _ (Row.ext hv (Ext.trans (Ext.trans (Ext.trans hwL0 (Ext.drew _)) hx73) (Ext.store hx77 hx81 (by omega))))) ?_
                      rintro v84 w83 ⟨rfl, hx85⟩
                      have := World.grownBy.size hx85
                      refine WL.va rfl rfl rfl (X.move rfl) ?_
                      refine WL.va rfl rfl rfl (X.extract rfl rfl) ?_
                      refine WL.va rfl rfl rfl (X.extract rfl rfl) ?_
                      refine WL.op rfl (OW.allocO (cs := [i64 0, i64 0, i64 0, i64 0, i64 0]) Try.zeroValue37 rfl ?_ (by decide))
                      intro g20 w87 heg20 hlg20 hO20 hx89
                      have := World.grownBy.size hx89
                      refine WL.op rfl (OW.storeOA hO20 rfl rfl rfl (Acc.c_one _) Try.sizeOf37 ?_)
                      intro w91 hO20 hx93
                      have := World.grownBy.size hx93
                      replace hO5 := (hO5.ext (Ext.trans hx85 hx89)).keptO hx93 (by omega)
                      replace ox := (ox.ext (Ext.trans hx85 hx89)).keptO hx93 (by omega)
                      replace ob := (ob.ext (Ext.trans hx85 hx89)).keptO hx93 (by omega)
                      replace omb := (omb.ext (Ext.trans hx85 hx89)).keptO hx93 (by omega)
                      replace ow := (ow.ext (Ext.trans hx85 hx89)).keptO hx93 (by omega)
                      replace omw := (omw.ext (Ext.trans hx85 hx89)).keptO hx93 (by omega)
                      replace oma := (oma.ext (Ext.trans hx85 hx89)).keptO hx93 (by omega)
                      replace hO18 := (hO18.ext (Ext.trans hx85 hx89)).keptO hx93 (by omega)
                      refine WL.va rfl rfl rfl (X.assignB rfl) ?_
                      refine WL.nil ?_
                      refine thn_n ?_
                      refine WF.seq ?_
                      refine WF.region ?_
                      refine WL.va rfl rfl rfl (X.loadOA hO18 (Ext.refl _) rfl rfl Try.isAgg37 Try.sizeOf37) ?_
                      refine WL.va rfl rfl rfl (X.loadOA hO20 (Ext.refl _) rfl rfl Try.isAgg37 Try.sizeOf37) ?_
                      refine WL.va rfl rfl rfl (X.eqlA (na := (findA l m.Txn m.Part).1.ints) (nb := (findA l m.Txn m.Part).1.ints) flatV fieldsV offsV rfl rfl rfl rfl (Acc.eqB _ _)) ?_
                      refine WL.va rfl rfl rfl (X.moveB rfl) ?_
                      refine WL.split (j := 3) rfl (fun h96 => ?_) (fun h96 => ?_)
                      · have gh96 := h96
                        refine WL.vg rfl (congrArg some h96) rfl rfl (X.moveB rfl) ?_
                        refine WL.vg rfl (congrArg some h96) rfl rfl (X.moveB rfl) ?_
                        refine WL.vg rfl (congrArg some h96) rfl rfl (X.eqlB rfl rfl Try.underlying4) ?_
                        refine WL.va rfl rfl rfl (X.pickT rfl h96 rfl) ?_
                        refine WL.va rfl rfl rfl (X.moveB rfl) ?_
                        refine WL.split (j := 8) rfl (fun h98 => ?_) (fun h98 => ?_)
                        · have gh98 := h98
                          refine WL.vg rfl (congrArg some h98) rfl rfl (X.move ((hAL0.eq 11).trans (congrFun hF63 11))) ?_
                          refine WL.vg rfl (congrArg some h98) rfl rfl (X.move ((hAL0.eq 14).trans (congrFun hF63 14))) ?_
                          refine WL.cg rfl (congrArg some h98) rfl rfl (X.call Try.call13 (evl_cons rfl (evl_cons rfl evl_nil))) (sameVotes_ok _ _ _ _ _ ob.rd ow.rd) ?_
                          rintro v100 w99 ⟨rfl, hx101⟩
                          have := World.grownBy.size hx101
                          refine WL.va rfl rfl rfl (X.pickT rfl h98 rfl) ?_
                          refine WL.va rfl rfl rfl (X.moveB rfl) ?_
                          refine WL.split (j := 13) rfl (fun h103 => ?_) (fun h103 => ?_)
                          · have gh103 := (of_decide_eq_true h103)
                            refine WL.vg rfl (congrArg some h103) rfl rfl (X.move ((hAL0.eq 12).trans (congrFun hF63 12))) ?_
                            refine WL.vg rfl (congrArg some h103) rfl rfl (X.move ((hAL0.eq 15).trans (congrFun hF63 15))) ?_
                            refine WL.cg rfl (congrArg some h103) rfl rfl (X.call Try.call14 (evl_cons rfl (evl_cons rfl evl_nil))) (sameMsgs_ok _ _ _ _ _ (msgs_of_row (omb.ext hx101).rd (takeA_bare _ _ _)) (msgs_of_row (omw.ext hx101).rd (takeA_bare _ _ _))) ?_
                            rintro v105 w104 ⟨rfl, hx106⟩
                            have := World.grownBy.size hx106
                            refine WL.va rfl rfl rfl (X.pickT rfl h103 rfl) ?_
                            refine WL.va rfl rfl rfl (X.moveB rfl) ?_
                            refine WL.split (j := 18) rfl (fun h108 => ?_) (fun h108 => ?_)
                            · have gh108 := (of_decide_eq_true h108)
                              refine WL.vg rfl (congrArg some h108) rfl rfl (X.move ((hAL0.eq 7).trans (congrFun hF63 7))) ?_
                              refine WL.vg rfl (congrArg some h108) rfl rfl (X.move ((hAL0.eq 0).trans (congrFun hF63 0))) ?_
                              refine WL.cg rfl (congrArg some h108) rfl rfl (X.call Try.call18 (evl_cons rfl (evl_cons rfl evl_nil))) (keptVotes_ok _ _ _ _ _ (ox.ext (Ext.trans hx101 hx106)).rd (Row.ext hv (Ext.trans (Ext.trans (Ext.trans (Ext.trans (Ext.trans (Ext.trans (Ext.trans hwL0 (Ext.drew _)) hx73) (Ext.store hx77 hx81 (by omega))) hx85) (Ext.store hx89 hx93 (by omega))) hx101) hx106)) (by omega)) ?_
                              rintro v110 w109 ⟨rfl, hx111⟩
                              have := World.grownBy.size hx111
                              refine WL.va rfl rfl rfl (X.pickT rfl h108 rfl) ?_
                              refine WL.va rfl rfl rfl (X.moveB rfl) ?_
                              refine WL.split (j := 23) rfl (fun h113 => ?_) (fun h113 => ?_)
                              · have gh113 := (of_decide_eq_true h113)
                                refine WL.cg rfl (congrArg some h113) rfl rfl (X.call Try.call9 evl_nil) (works_ok _) ?_
                                rintro v115 w114 ⟨rfl, hx116⟩
                                have := World.grownBy.size hx116
                                refine WL.va rfl rfl rfl (X.pickT rfl h113 rfl) ?_
                                refine WL.va rfl rfl rfl (X.assignB rfl) ?_
                                refine WL.nil ?_
                                refine thn_n ?_
                                refine WF.ret ?_
                                refine fin_r ?_
                                exact ⟨rfl, (Ext.trans (Ext.trans (Ext.trans (Ext.trans (Ext.trans (Ext.trans (Ext.trans (Ext.trans (Ext.trans hwL0 (Ext.drew _)) hx73) (Ext.store hx77 hx81 (by omega))) hx85) (Ext.store hx89 hx93 (by omega))) hx101) hx106) hx111) hx116)⟩
                              · have gh113 := (of_decide_eq_false h113)
                                first | exact absurd rfl gh113 | exact absurd gh113 (by simp)
                            · have gh108 := (of_decide_eq_false h108)
                              first | exact absurd rfl gh108 | exact absurd gh108 (by simp)
                          · have gh103 := (of_decide_eq_false h103)
                            first | exact absurd rfl gh103 | exact absurd gh103 (by simp)
                        · have gh98 := h98
                          first | exact absurd rfl gh98 | exact absurd gh98 (by simp)
                      · have gh96 := h96
                        first | exact absurd rfl gh96 | exact absurd gh96 (by simp)
                    · refine LO.go rfl rfl (OW.allocO (cs := [i64 0, i64 0, i64 0, i64 0, i64 0]) Try.zeroValue37 rfl ?_ (by decide))
                      intro g18 w118 heg18 hlg18 hO18 hx120
                      have := World.grownBy.size hx120
                      refine ⟨(Ext.trans (Ext.drew _) hx120), ?_⟩
                      refine WO.l ?_
                      refine LO.go rfl rfl (OW.enter rfl (by decide) (X.call Try.call16 (evl_cons rfl (evl_cons rfl (evl_cons rfl evl_nil)))) (findA_ok _ l _ _ _ (Row.ext (lentV_part ox.own) (Ext.trans (Ext.drew _) hx120))) ?_)
                      rintro v123 w122 ⟨rfl, hx124⟩
                      have := World.grownBy.size hx124
                      refine ⟨(Ext.trans (Ext.trans (Ext.drew _) hx120) hx124), ?_⟩
                      refine WO.q rfl rfl rfl rfl (fun w' hE70 => (X.move rfl)) ?_
                      refine WO.q rfl rfl rfl rfl (fun w' hE70 => (X.extract rfl rfl)) ?_
                      refine WO.q rfl rfl rfl rfl (fun w' hE70 => (X.extract rfl rfl)) ?_
                      refine WO.l ?_
                      refine LO.go rfl rfl (OW.storeOA (hO18.ext hx124) rfl rfl rfl (Acc.c_one _) Try.sizeOf37 ?_)
                      intro w126 hO18 hx128
                      have := World.grownBy.size hx128
                      replace hO5 := (hO5.ext (Ext.trans (Ext.trans (Ext.drew _) hx120) hx124)).keptO hx128 (by omega)
                      replace ox := (ox.ext (Ext.trans (Ext.trans (Ext.drew _) hx120) hx124)).keptO hx128 (by omega)
                      replace ob := (ob.ext (Ext.trans (Ext.trans (Ext.drew _) hx120) hx124)).keptO hx128 (by omega)
                      replace omb := (omb.ext (Ext.trans (Ext.trans (Ext.drew _) hx120) hx124)).keptO hx128 (by omega)
                      replace ow := (ow.ext (Ext.trans (Ext.trans (Ext.drew _) hx120) hx124)).keptO hx128 (by omega)
                      replace omw := (omw.ext (Ext.trans (Ext.trans (Ext.drew _) hx120) hx124)).keptO hx128 (by omega)
                      replace oma := (oma.ext (Ext.trans (Ext.trans (Ext.drew _) hx120) hx124)).keptO hx128 (by omega)
                      refine ⟨(Ext.trans (Ext.drew _) (Ext.store (Ext.trans hx120 hx124) hx128 (by omega))), ?_⟩
                      refine WO.q rfl rfl rfl rfl (fun w' hE70 => (X.assignB rfl)) ?_
                      refine WO.nil ?_
                      refine WL.nil ?_
                      refine thn_n ?_
                      refine WF.seq ?_
                      refine WF.region ?_
                      refine WL.va rfl rfl rfl (X.move ((hAL0.eq 0).trans (congrFun hF63 0))) ?_
                      refine WL.va rfl rfl rfl (X.fieldAddrO (off := 9) ((hAL0.eq 5).trans (congrFun hF63 5)) Try.underlying26 rfl rfl Try.sizeOf3) ?_
                      refine WL.va rfl rfl rfl (X.loadO hO5 (Ext.refl _) rfl rfl Try.isAgg3) ?_
                      refine WL.va rfl rfl rfl (X.fieldAddrO (off := 10) ((hAL0.eq 5).trans (congrFun hF63 5)) Try.underlying26 rfl rfl Try.sizeOf3) ?_
                      refine WL.va rfl rfl rfl (X.loadO hO5 (Ext.refl _) rfl rfl Try.isAgg3) ?_
                      refine WL.c rfl rfl rfl (X.call Try.call17 (evl_cons rfl (evl_cons rfl (evl_cons rfl evl_nil)))) (refFind_ok _ l _ _ _ (Row.ext hv (Ext.trans (Ext.trans hwL0 (Ext.drew _)) (Ext.store (Ext.trans hx120 hx124) hx128 (by omega))))) ?_
                      rintro v131 w130 ⟨rfl, hx132⟩
                      have := World.grownBy.size hx132
                      refine WL.va rfl rfl rfl (X.move rfl) ?_
                      refine WL.va rfl rfl rfl (X.extract rfl rfl) ?_
                      refine WL.va rfl rfl rfl (X.extract rfl rfl) ?_
                      refine WL.op rfl (OW.allocO (cs := [i64 0, i64 0, i64 0, i64 0, i64 0]) Try.zeroValue37 rfl ?_ (by decide))
                      intro g20 w134 heg20 hlg20 hO20 hx136
                      have := World.grownBy.size hx136
                      refine WL.op rfl (OW.storeOA hO20 rfl rfl rfl (Acc.c_one _) Try.sizeOf37 ?_)
                      intro w138 hO20 hx140
                      have := World.grownBy.size hx140
                      replace hO5 := (hO5.ext (Ext.trans hx132 hx136)).keptO hx140 (by omega)
                      replace ox := (ox.ext (Ext.trans hx132 hx136)).keptO hx140 (by omega)
                      replace ob := (ob.ext (Ext.trans hx132 hx136)).keptO hx140 (by omega)
                      replace omb := (omb.ext (Ext.trans hx132 hx136)).keptO hx140 (by omega)
                      replace ow := (ow.ext (Ext.trans hx132 hx136)).keptO hx140 (by omega)
                      replace omw := (omw.ext (Ext.trans hx132 hx136)).keptO hx140 (by omega)
                      replace oma := (oma.ext (Ext.trans hx132 hx136)).keptO hx140 (by omega)
                      replace hO18 := (hO18.ext (Ext.trans hx132 hx136)).keptO hx140 (by omega)
                      refine WL.va rfl rfl rfl (X.assignB rfl) ?_
                      refine WL.nil ?_
                      refine thn_n ?_
                      refine WF.seq ?_
                      refine WF.region ?_
                      refine WL.va rfl rfl rfl (X.loadOA hO18 (Ext.refl _) rfl rfl Try.isAgg37 Try.sizeOf37) ?_
                      refine WL.va rfl rfl rfl (X.loadOA hO20 (Ext.refl _) rfl rfl Try.isAgg37 Try.sizeOf37) ?_
                      refine WL.va rfl rfl rfl (X.eqlA (na := (findA l m.Txn m.Part).1.ints) (nb := (findA l m.Txn m.Part).1.ints) flatV fieldsV offsV rfl rfl rfl rfl (Acc.eqB _ _)) ?_
                      refine WL.va rfl rfl rfl (X.moveB rfl) ?_
                      refine WL.split (j := 3) rfl (fun h143 => ?_) (fun h143 => ?_)
                      · have gh143 := h143
                        refine WL.vg rfl (congrArg some h143) rfl rfl (X.moveB rfl) ?_
                        refine WL.vg rfl (congrArg some h143) rfl rfl (X.moveB rfl) ?_
                        refine WL.vg rfl (congrArg some h143) rfl rfl (X.eqlB rfl rfl Try.underlying4) ?_
                        refine WL.va rfl rfl rfl (X.pickT rfl h143 rfl) ?_
                        refine WL.va rfl rfl rfl (X.moveB rfl) ?_
                        refine WL.split (j := 8) rfl (fun h145 => ?_) (fun h145 => ?_)
                        · have gh145 := h145
                          refine WL.vg rfl (congrArg some h145) rfl rfl (X.move ((hAL0.eq 11).trans (congrFun hF63 11))) ?_
                          refine WL.vg rfl (congrArg some h145) rfl rfl (X.move ((hAL0.eq 14).trans (congrFun hF63 14))) ?_
                          refine WL.cg rfl (congrArg some h145) rfl rfl (X.call Try.call13 (evl_cons rfl (evl_cons rfl evl_nil))) (sameVotes_ok _ _ _ _ _ ob.rd ow.rd) ?_
                          rintro v147 w146 ⟨rfl, hx148⟩
                          have := World.grownBy.size hx148
                          refine WL.va rfl rfl rfl (X.pickT rfl h145 rfl) ?_
                          refine WL.va rfl rfl rfl (X.moveB rfl) ?_
                          refine WL.split (j := 13) rfl (fun h150 => ?_) (fun h150 => ?_)
                          · have gh150 := (of_decide_eq_true h150)
                            refine WL.vg rfl (congrArg some h150) rfl rfl (X.move ((hAL0.eq 12).trans (congrFun hF63 12))) ?_
                            refine WL.vg rfl (congrArg some h150) rfl rfl (X.move ((hAL0.eq 15).trans (congrFun hF63 15))) ?_
                            refine WL.cg rfl (congrArg some h150) rfl rfl (X.call Try.call14 (evl_cons rfl (evl_cons rfl evl_nil))) (sameMsgs_ok _ _ _ _ _ (msgs_of_row (omb.ext hx148).rd (takeA_bare _ _ _)) (msgs_of_row (omw.ext hx148).rd (takeA_bare _ _ _))) ?_
                            rintro v152 w151 ⟨rfl, hx153⟩
                            have := World.grownBy.size hx153
                            refine WL.va rfl rfl rfl (X.pickT rfl h150 rfl) ?_
                            refine WL.va rfl rfl rfl (X.moveB rfl) ?_
                            refine WL.split (j := 18) rfl (fun h155 => ?_) (fun h155 => ?_)
                            · have gh155 := (of_decide_eq_true h155)
                              refine WL.vg rfl (congrArg some h155) rfl rfl (X.move ((hAL0.eq 7).trans (congrFun hF63 7))) ?_
                              refine WL.vg rfl (congrArg some h155) rfl rfl (X.move ((hAL0.eq 0).trans (congrFun hF63 0))) ?_
                              refine WL.cg rfl (congrArg some h155) rfl rfl (X.call Try.call18 (evl_cons rfl (evl_cons rfl evl_nil))) (keptVotes_ok _ _ _ _ _ (ox.ext (Ext.trans hx148 hx153)).rd (Row.ext hv (Ext.trans (Ext.trans (Ext.trans (Ext.trans (Ext.trans (Ext.trans hwL0 (Ext.drew _)) (Ext.store (Ext.trans hx120 hx124) hx128 (by omega))) hx132) (Ext.store hx136 hx140 (by omega))) hx148) hx153)) (by omega)) ?_
                              rintro v157 w156 ⟨rfl, hx158⟩
                              have := World.grownBy.size hx158
                              refine WL.va rfl rfl rfl (X.pickT rfl h155 rfl) ?_
                              refine WL.va rfl rfl rfl (X.moveB rfl) ?_
                              refine WL.split (j := 23) rfl (fun h160 => ?_) (fun h160 => ?_)
                              · have gh160 := (of_decide_eq_true h160)
                                refine WL.cg rfl (congrArg some h160) rfl rfl (X.call Try.call9 evl_nil) (works_ok _) ?_
                                rintro v162 w161 ⟨rfl, hx163⟩
                                have := World.grownBy.size hx163
                                refine WL.va rfl rfl rfl (X.pickT rfl h160 rfl) ?_
                                refine WL.va rfl rfl rfl (X.assignB rfl) ?_
                                refine WL.nil ?_
                                refine thn_n ?_
                                refine WF.ret ?_
                                refine fin_r ?_
                                exact ⟨rfl, (Ext.trans (Ext.trans (Ext.trans (Ext.trans (Ext.trans (Ext.trans (Ext.trans (Ext.trans hwL0 (Ext.drew _)) (Ext.store (Ext.trans hx120 hx124) hx128 (by omega))) hx132) (Ext.store hx136 hx140 (by omega))) hx148) hx153) hx158) hx163)⟩
                              · have gh160 := (of_decide_eq_false h160)
                                first | exact absurd rfl gh160 | exact absurd gh160 (by simp)
                            · have gh155 := (of_decide_eq_false h155)
                              first | exact absurd rfl gh155 | exact absurd gh155 (by simp)
                          · have gh150 := (of_decide_eq_false h150)
                            first | exact absurd rfl gh150 | exact absurd gh150 (by simp)
                        · have gh145 := h145
                          first | exact absurd rfl gh145 | exact absurd gh145 (by simp)
                      · have gh143 := h143
                        first | exact absurd rfl gh143 | exact absurd gh143 (by simp)

end Go.Proofs.Ytgbkgkicgaikdaa
