/- The walks of entries and read. -/
import Derived.Test.YtccbpfbcaogcnaaGtm
namespace Go.Proofs.Ytccbpfbcaogcnaa
open Go Go.RowKit Kf
set_option maxRecDepth 20000

set_option maxHeartbeats 4000000 in
theorem entries_ok (r D left : Value) (L : List UInt8) (a B : Nat) (s : Pk.RS) (w : World) (hp : PR w B r D L a s left) (hL : L.length ≤ 1000000) :
    FnOk Try.prog 75 [r] w (fun v w' => (∃ vE ok, v = .tuple #[vE, .bool ok] ∧ vE.oneCell' = true ∧ (ok = false → s.int.1 < 0 ∨ ((s.int.2.left.length / 24 : Nat) : Int) < s.int.1 ∨ (rdE s.int.2 s.int.1.toNat).2.bad = true) ∧ (ok = true → ¬ (s.int.1 < 0 ∨ ((s.int.2.left.length / 24 : Nat) : Int) < s.int.1) ∧ (rdE s.int.2 s.int.1.toNat).2.bad = false ∧ ∃ E, E.map Prod.fst = (rdE s.int.2 s.int.1.toNat).1 ∧ EOwnR w' w.heap.size vE E ∧ SegE D L E ∧ ∃ a' left', PR w' B r D L a' (rdE s.int.2 s.int.1.toNat).2 left')) ∧ w.grownBy w' (asRow r).ownBlock) := by
  have hrl := hp.lt.1
  have hDl := hp.lt.2
  refine FnOk.enter (rs := [2, 3]) Try.func75 rfl Try.ntmps75 Try.results75 rfl rfl ?_
  refine WF.seq ?_
  refine WF.region ?_
  refine WL.va rfl rfl rfl (X.assign rfl) ?_
  refine WL.va rfl rfl rfl (X.assignB rfl) ?_
  refine WL.nil ?_
  refine thn_n ?_
  refine WF.seq ?_
  refine WF.region ?_
  refine WL.va rfl rfl rfl (X.move rfl) ?_
  refine WL.c rfl rfl rfl (X.call Try.call53 (evl_cons rfl evl_nil)) (rInt_ok r D left L a s _ B hp) ?_
  rintro v3 w2 ⟨rfl, ⟨a1, left1, hp1⟩, hx4⟩
  have g1 := hx4
  have hz1 := World.grownBy.size g1
  have hin1 := hp1.inn
  refine WL.va rfl rfl rfl (X.assignI rfl) ?_
  refine WL.nil ?_
  refine thn_n ?_
  refine WF.seq ?_
  refine WF.seq ?_
  refine WF.region ?_
  refine WL.va rfl rfl rfl (X.moveI rfl) ?_
  refine WL.va rfl rfl rfl (X.lss rfl rfl) ?_
  refine WL.va rfl rfl rfl (X.moveB rfl) ?_
  refine WL.split (j := 2) rfl (fun h6 => ?_) (fun h6 => ?_)
  · have gh6 := (of_decide_eq_true h6)
    refine WL.p rfl rfl rfl (congrArg some h6) ?_
    refine WL.p rfl rfl rfl (congrArg some h6) ?_
    refine WL.p rfl rfl rfl (congrArg some h6) ?_
    refine WL.p rfl rfl rfl (congrArg some h6) ?_
    refine WL.p rfl rfl rfl (congrArg some h6) ?_
    refine WL.va rfl rfl rfl (X.pickT rfl h6 rfl) ?_
    refine WL.nil ?_
    refine thn_n ?_
    refine WF.cond_t rfl ?_
    refine WF.seq ?_
    refine WF.region ?_
    refine WL.va rfl rfl rfl (X.assign rfl) ?_
    refine WL.va rfl rfl rfl (X.assignB rfl) ?_
    refine WL.nil ?_
    refine thn_n ?_
    refine WF.ret ?_
    refine thn_r ?_
    refine fin_r ?_
    exact ⟨⟨_, _, rfl, rfl, fun _ => (by omega), fun q => (by cases q)⟩, g1⟩
  · have gh6 := (of_decide_eq_false h6)
    refine WL.vg rfl (congrArg some h6) rfl rfl (X.moveI rfl) ?_
    refine WL.vg rfl (congrArg some h6) rfl rfl (X.move rfl) ?_
    refine WL.cg rfl (congrArg some h6) rfl rfl (X.call Try.call87 (evl_cons rfl evl_nil)) (rLeft_ok r D left1 L a1 s.int.2 _ B hp1) ?_
    rintro v10 w9 ⟨rfl, rfl⟩
    refine WL.vg rfl (congrArg some h6) rfl rfl (X.quo rfl rfl (by omega) (IntWalk.i64_quo _ _ (by omega))) ?_
    refine WL.vg rfl (congrArg some h6) rfl rfl (X.gtr rfl rfl) ?_
    refine WL.va rfl rfl rfl (X.pickF rfl h6 rfl) ?_
    refine WL.nil ?_
    refine thn_n ?_
    refine WF.cond rfl (fun h0_12 => ?_) (fun h0_12 => ?_)
    · have gh0_12 := (of_decide_eq_true h0_12)
      refine WF.seq ?_
      refine WF.region ?_
      refine WL.va rfl rfl rfl (X.assign rfl) ?_
      refine WL.va rfl rfl rfl (X.assignB rfl) ?_
      refine WL.nil ?_
      refine thn_n ?_
      refine WF.ret ?_
      refine thn_r ?_
      refine fin_r ?_
      exact ⟨⟨_, _, rfl, rfl, fun _ => (by omega), fun q => (by cases q)⟩, g1⟩
    · have gh0_12 := (of_decide_eq_false h0_12)
      refine WF.skip ?_
      refine thn_n ?_
      refine WF.seq ?_
      refine WF.region ?_
      refine WL.va rfl rfl rfl (X.assign rfl) ?_
      refine WL.nil ?_
      refine thn_n ?_
      refine WF.seq ?_
      refine WF.seq ?_
      refine WF.region ?_
      refine WL.va rfl rfl rfl (X.moveI rfl) ?_
      refine WL.va rfl rfl rfl (X.moveI rfl) ?_
      refine WL.nil ?_
      refine thn_n ?_
      refine WF.block ?_
      refine WF.named (fun F15 hF16 => ?_)
      refine WF.loopN (fun mL0 f' w' => ∃ (k : Nat) (vl : Value) (E : List EV) (a2 : Nat) (left2 : Value), mL0 = s.int.1.toNat - k ∧ f' 18 = .int .i64 (k : Int) ∧ f' 5 = vl ∧ Agree [0, 2, 3, 4, 6, 7, 8, 9, 10, 11, 12, 13, 14, 15, 16, 17] f' F15 ∧ w.grownBy w' (asRow r).ownBlock ∧ k ≤ s.int.1.toNat ∧ E.length = k ∧ E.map Prod.fst = (rdE s.int.2 k).1 ∧ EOwnR w' w.heap.size vl E ∧ SegE D L E ∧ PR w' B r D L a2 (rdE s.int.2 k).2 left2) ?_ ?_
      · exact ⟨_, 0, _, [], _, _, rfl, (congrFun hF16 18), (congrFun hF16 5), (Agree.refl _ _), g1, ⟨Nat.zero_le _, rfl, rfl, EOwnR.nil _ _, SegE.nil _ _, hp1⟩⟩
      · rintro mL0 fL0 wL0 ⟨k, vl, E, a2, left2, hmL0, e18_L0, e5_L0, hAL0, hwL0, ⟨hk, hEl, hEm, oL0, hsg, hp2⟩⟩
        have hzL := World.grownBy.size hwL0
        have oL := OwnT.of oL0
        refine WF.seq ?_
        refine WF.region ?_
        refine WL.va rfl rfl rfl (X.lss e18_L0 ((hAL0.eq 17).trans (congrFun hF16 17))) ?_
        refine WL.nil ?_
        refine thn_n ?_
        refine WF.seq ?_
        refine WF.cond rfl (fun h1_17 => ?_) (fun h1_17 => ?_)
        · have gh1_17 := (of_decide_eq_true h1_17)
          have hkn : k < s.int.1.toNat := by omega
          refine WF.skip ?_
          refine thn_n ?_
          refine WF.seq ?_
          refine WF.block ?_
          refine WF.region ?_
          refine WL.va rfl rfl rfl (X.move e5_L0) ?_
          refine WL.va rfl rfl rfl (X.move ((hAL0.eq 0).trans (congrFun hF16 0))) ?_
          refine WL.c rfl rfl rfl (X.call Try.call53 (evl_cons rfl evl_nil)) (rInt_ok r D left2 L a2 _ _ B hp2) ?_
          rintro v20 w19 ⟨rfl, ⟨a3, left3, hp3⟩, hx21⟩
          have := World.grownBy.size hx21
          replace oL := oL.kept hx21 (fun b hb => by have := (hrl b hb).2; omega)
          have g2 := grown2 hwL0 hx21
          refine WL.va rfl rfl rfl (X.move ((hAL0.eq 0).trans (congrFun hF16 0))) ?_
          refine WL.c rfl rfl rfl (X.call Try.call53 (evl_cons rfl evl_nil)) (rInt_ok r D left3 L a3 _ _ B hp3) ?_
          rintro v23 w22 ⟨rfl, ⟨a4, left4, hp4⟩, hx24⟩
          have := World.grownBy.size hx24
          replace oL := oL.kept hx24 (fun b hb => by have := (hrl b hb).2; omega)
          have g3 := grown2 g2 hx24
          refine WL.va rfl rfl rfl (X.move ((hAL0.eq 0).trans (congrFun hF16 0))) ?_
          refine WL.c rfl rfl rfl (X.call Try.call76 (evl_cons rfl evl_nil)) (rBlob_ok r D left4 L a4 _ _ B hp4) ?_
          rintro vd w25 ⟨⟨a5, a6, left6, hs6, hb6, hp6⟩, hx26⟩
          have := World.grownBy.size hx26
          replace oL := oL.kept hx26 (fun b hb => by have := (hrl b hb).2; omega)
          have g4 := grown2 g3 hx26
          have hz4 := World.grownBy.size g4
          refine WL.va rfl rfl rfl (X.buildL (P := Try.prog) (t := 57) (cs := (EV.c ((⟨(rdE s.int.2 k).2.int.1, (rdE s.int.2 k).2.int.2.int.1, (rdE s.int.2 k).2.int.2.int.2.blob.1⟩ : En), vd))) (evp_cons rfl (evp_cons rfl (evp_cons rfl evp_nil))) Try.type57 Try.underlying57 rfl rfl ⟨rfl, rfl, Row.one hb6, trivial⟩ rfl) ?_
          refine WL.op rfl (OW.lits (vs := [agg (EV.c ((⟨(rdE s.int.2 k).2.int.1, (rdE s.int.2 k).2.int.2.int.1, (rdE s.int.2 k).2.int.2.int.2.blob.1⟩ : En), vd))]) (evp_cons rfl evp_nil) Try.underlying22 Try.sizeOf57 Try.zeroValue57 ⟨rfl, trivial⟩ rfl rfl rfl ?_ (by decide))
          intro v28 w27 ho30 hx29
          have := World.grownBy.size hx29
          have o1 : World.ownsRow w27 _ 57 3 v28 1 (EV.c ((⟨(rdE s.int.2 k).2.int.1, (rdE s.int.2 k).2.int.2.int.1, (rdE s.int.2 k).2.int.2.int.2.blob.1⟩ : En), vd)) := ho30
          have hbD := Row.ext hb6 hx29
          have hp7 := hp6.ext hx29
          have g5 := grown_ext g4 hx29
          have hz5 := World.grownBy.size g5
          refine WL.op rfl (OW.append (bytes := 40) ((oL.ext hx29)).own (Row.of_own o1) (EV.c_one (e := ((⟨(rdE s.int.2 k).2.int.1, (rdE s.int.2 k).2.int.2.int.1, (rdE s.int.2 k).2.int.2.int.2.blob.1⟩ : En), vd)) hbD) rfl rfl Try.underlying22 Try.type57 rfl rfl rfl rfl (by decide) (by unfold maxLen; omega) (by omega) (by omega) ?_ (by decide))
          intro v32 w31 ho34 hx33 hmvhx33
          have ho2 := ho34
          have gALL := grown_nw g5 hx33 (fun i hi => (oL0.lt i hi).1)
          have hpE := hp7.kept hx33 (ne_of (fun b hb => (hrl b hb).2) (fun b hb => (oL0.lt b hb).1)) (ne_of (fun b hb => (hDl b hb).2) (fun b hb => (oL0.lt b hb).1))
          refine WL.va rfl rfl rfl (X.assign rfl) ?_
          refine WL.nil ?_
          refine blk_n ?_
          refine thn_n ?_
          refine WF.region ?_
          refine WL.va rfl rfl rfl (X.add e18_L0 rfl (w64 (by omega))) ?_
          refine WL.va rfl rfl rfl (X.moveI rfl) ?_
          refine WL.nil ?_
          exact thn_n ⟨_, (by omega), k + 1, _, _, _, _, rfl, rfl, rfl, (by repeat (first | exact hAL0 | refine Agree.put ?_ rfl | refine Agree.named hF16 ?_)), gALL, ⟨by omega, by simp [hEl], by rw [List.map_append, hEm]; rfl, EOwnR.app ho2, hsg.app hs6 hb6 hp6, hpE⟩⟩
        · have gh1_17 := (of_decide_eq_false h1_17)
          refine WF.exit ?_
          refine thn_x ?_
          refine thn_x ?_
          refine blk_eq ?_
          refine thn_n ?_
          refine WF.seq ?_
          refine WF.region ?_
          refine WL.va rfl rfl rfl (X.move e5_L0) ?_
          refine WL.va rfl rfl rfl (X.move ((hAL0.eq 0).trans (congrFun hF16 0))) ?_
          refine WL.c rfl rfl rfl (X.call Try.call54 (evl_cons rfl evl_nil)) (rBad_ok r D left2 L a2 _ _ B hp2) ?_
          rintro v36 w35 ⟨rfl, rfl⟩
          refine WL.va rfl rfl rfl (X.not rfl) ?_
          refine WL.va rfl rfl rfl (X.assign rfl) ?_
          refine WL.va rfl rfl rfl (X.assignB rfl) ?_
          refine WL.nil ?_
          refine thn_n ?_
          refine WF.ret ?_
          refine fin_r ?_
          have hkz : k = s.int.1.toNat := by omega
          subst hkz
          exact ⟨⟨_, _, rfl, own_one oL0, fun q => .inr (.inr (by simpa using q)), fun q => ⟨by omega, by simpa using q, E, hEm, oL0, hsg, a2, left2, hp2⟩⟩, hwL0⟩

end Go.Proofs.Ytccbpfbcaogcnaa
