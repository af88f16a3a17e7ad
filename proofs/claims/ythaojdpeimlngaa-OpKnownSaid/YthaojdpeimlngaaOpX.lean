/- The walks of known and of results. -/
import Derived.Test.YthaojdpeimlngaaOpO
namespace Go.Proofs.Ythaojdpeimlngaa
open Go Go.RowKit Kf
set_option maxRecDepth 20000

theorem two_bytes : obytes twoOd = [0, 0, 0, 0, 0, 0, 0, 3, 0, 0, 0, 0, 0, 0, 0, 0, 0, 0, 0, 0, 0, 0, 0, 0, 0, 0, 0, 0, 0, 0, 0, 5, 0, 0, 0, 0, 0, 0, 0, 1] := by kernel_rfl
theorem put_one {w : World} {v1 v2 v3 v4 : Value} (h : OpAt w v1 v2 v3 v4 oneOd) : FnOk Try.prog 12 [agg (oc oneOd.n v1 v2 v3 v4)] w (fun r w' => (∃ v, r = .tuple #[v, i64 0] ∧ OwnB w' w.heap.size 5 v (obytes oneOd)) ∧ Ext w w') := by
  have := put_ok _ _ _ _ oneOd w h one_small
  rw [chk_one] at this
  exact this.mono fun r w' ⟨⟨v, h1, h2, _⟩, h3⟩ => ⟨⟨v, h1, h2 rfl⟩, h3⟩
theorem put_two {w : World} : FnOk Try.prog 12 [agg (oc twoOd.n (.slice none 0 0) (.slice none 0 0) (.slice none 0 0) (.slice none 0 0))] w (fun r w' => (∃ v, r = .tuple #[v, i64 0] ∧ OwnB w' w.heap.size 5 v [0, 0, 0, 0, 0, 0, 0, 3, 0, 0, 0, 0, 0, 0, 0, 0, 0, 0, 0, 0, 0, 0, 0, 0, 0, 0, 0, 0, 0, 0, 0, 5, 0, 0, 0, 0, 0, 0, 0, 1]) ∧ Ext w w') := by
  have := put_ok _ _ _ _ twoOd w (two_at w) two_small
  rw [chk_two, two_bytes] at this
  exact this.mono fun r w' ⟨⟨v, h1, h2, _⟩, h3⟩ => ⟨⟨v, h1, h2 rfl⟩, h3⟩
theorem get_one {w : World} {v : Value} (h : Bytes w v (obytes oneOd)) : FnOk Try.prog 18 [v] w (fun r w' => (∃ v1 v2 v3 v4, r = .tuple #[agg (oc oneOd.n v1 v2 v3 v4), i64 0] ∧ OpG w' w.heap.size v1 v2 v3 v4 oneOd) ∧ Ext w w') := by
  have := get_ok v _ w h one_len
  rw [got_one] at this
  exact this
theorem sameOp_self {w : World} {a1 a2 a3 a4 b1 b2 b3 b4 : Value} {o : Od} (ha : OpAt w a1 a2 a3 a4 o) (hb : OpAt w b1 b2 b3 b4 o) : FnOk Try.prog 17 [agg (oc o.n a1 a2 a3 a4), agg (oc o.n b1 b2 b3 b4)] w (fun r w' => r = .bool true ∧ Ext w w') := by
  have := sameOp_ok _ _ _ _ _ _ _ _ o o w ha hb
  rw [decide_eq_true rfl] at this
  exact this
set_option maxHeartbeats 1000000 in
theorem known_ok (w : World) : FnOk Try.prog 10 [] w (fun r w' => r = .bool true ∧ Ext w w') := by
  refine FnOk.enter (rs := [0]) Try.func10 rfl Try.ntmps10 Try.results10 rfl rfl ?_
  refine WF.seq ?_
  refine WF.region ?_
  refine WL.va rfl rfl rfl (X.assignB rfl) ?_
  refine WL.nil ?_
  refine thn_n ?_
  refine WF.seq ?_
  refine WF.region ?_
  refine WL.c rfl rfl rfl (X.call Try.call29 evl_nil) (one_ok _) ?_
  rintro v3 w2 ⟨⟨v1, v2, v3, v4, rfl, hA⟩, hx4⟩
  refine WL.c rfl rfl rfl (X.call Try.call12 (evl_cons rfl evl_nil)) (put_one hA) ?_
  rintro v5 wb ⟨⟨vb, rfl, hb⟩, hx6⟩
  refine WL.va rfl rfl rfl (X.move rfl) ?_
  refine WL.va rfl rfl rfl (X.extract rfl rfl) ?_
  refine WL.va rfl rfl rfl (X.extract rfl rfl) ?_
  refine WL.va rfl rfl rfl (X.assign rfl) ?_
  refine WL.va rfl rfl rfl (X.assignI rfl) ?_
  refine WL.nil ?_
  refine thn_n ?_
  refine WF.seq ?_
  refine WF.region ?_
  refine WL.va rfl rfl rfl (X.move rfl) ?_
  refine WL.c rfl rfl rfl (X.call Try.call18 (evl_cons rfl evl_nil)) (get_one (Bytes.of_own hb)) ?_
  rintro v7 wG ⟨⟨p1, p2, p3, p4, rfl, hG⟩, hx8⟩
  refine WL.va rfl rfl rfl (X.move rfl) ?_
  refine WL.va rfl rfl rfl (X.extract rfl rfl) ?_
  refine WL.va rfl rfl rfl (X.extract rfl rfl) ?_
  refine WL.op rfl (OW.allocO (cs := [i64 0, i64 0, i64 0, i64 0, i64 0, i64 0, i64 0, i64 0, i64 0, i64 0, i64 0, i64 0, i64 0, .slice none 0 0, .slice none 0 0, .slice none 0 0, .slice none 0 0]) Try.zeroValue26 rfl ?_ (by decide))
  intro g3 w9 heg3 hlg3 hO3 hx11
  have := World.grownBy.size hx11
  refine WL.op rfl (OW.storeOA hO3 rfl rfl rfl (hG.at.ones _) Try.sizeOf26 ?_)
  intro w13 hO3 hx15
  have := World.grownBy.size hx15
  refine WL.va rfl rfl rfl (X.assignI rfl) ?_
  refine WL.nil ?_
  refine thn_n ?_
  refine WF.seq ?_
  refine WF.region ?_
  refine WL.va rfl rfl rfl (X.buildT (P := Try.prog) (t := 26) (cs := (oc twoOd.n (.slice none 0 0) (.slice none 0 0) (.slice none 0 0) (.slice none 0 0))) (zs := [i64 0, i64 0, i64 0, i64 0, i64 0, i64 0, i64 0, i64 0, i64 0, i64 0, i64 0, i64 0, i64 0, .slice none 0 0, .slice none 0 0, .slice none 0 0, .slice none 0 0]) (places := [(0, 1), (1, 1), (2, 1), (3, 1), (4, 1), (5, 1), (6, 1), (7, 1), (8, 1), (9, 1), (10, 1), (11, 1), (12, 1), (13, 1), (14, 1), (15, 1), (16, 1)]) (n := 17) (evp_cons rfl (evp_cons rfl (evp_cons rfl evp_nil))) Try.type26 Try.underlying26 rfl rfl ⟨rfl, rfl, rfl, trivial⟩ rfl rfl rfl) ?_
  refine WL.c rfl rfl rfl (X.call Try.call12 (evl_cons rfl evl_nil)) put_two ?_
  rintro v17 wc ⟨⟨vc, rfl, hc⟩, hx18⟩
  have := World.grownBy.size hx18
  refine WL.va rfl rfl rfl (X.move rfl) ?_
  refine WL.va rfl rfl rfl (X.extract rfl rfl) ?_
  refine WL.va rfl rfl rfl (X.extract rfl rfl) ?_
  refine WL.va rfl rfl rfl (X.assign rfl) ?_
  refine WL.va rfl rfl rfl (X.assignI rfl) ?_
  refine WL.nil ?_
  refine thn_n ?_
  refine WF.seq ?_
  refine WF.drawn (.q 0 (.q 1 (.q 2 (.q 3 (.q 4 (.q 5 (.q 6 (.q 7 (.l 8 (.l 9 (.q 10 (.q 11 (.q 12 (.q 13 (.q 14 (.q 15 (.q 16 (.q 17 (.q 18 (.q 19 (.q 20 (.q 21 (.q 22 (.q 23 (.q 24 (.q 25 (.q 26 (.q 27 (.q 28 (.q 29 (.q 30 (.q 31 (.q 32 (.q 33 (.q 34 (.q 35 (.q 36 (.q 37 (.q 38 .nil))))))))))))))))))))))))))))))))))))))) (fun w' => Ext wc w') 39 (by kernel_rfl) (by kernel_rfl) (Ext.drew _) ?_
  have := World.grownBy.size (Ext.drew wc)
  refine WO.q rfl rfl rfl rfl (fun w' hE19 => (X.moveI rfl)) ?_
  refine WO.q rfl rfl rfl rfl (fun w' hE19 => (X.eql rfl rfl)) ?_
  refine WO.q rfl rfl rfl rfl (fun w' hE19 => (X.moveB rfl)) ?_
  refine WO.qg rfl rfl rfl rfl rfl (fun w' hE19 => (X.moveI rfl)) ?_
  refine WO.qg rfl rfl rfl rfl rfl (fun w' hE19 => (X.eql rfl rfl)) ?_
  refine WO.q rfl rfl rfl rfl (fun w' hE19 => (X.pickT rfl rfl rfl)) ?_
  refine WO.q rfl rfl rfl rfl (fun w' hE19 => (X.moveB rfl)) ?_
  refine WO.qg rfl rfl rfl rfl rfl (fun w' hE19 => (X.loadOA hO3 (Ext.trans hx18 hE19) rfl rfl Try.isAgg26 Try.sizeOf26)) ?_
  refine WO.l ?_
  refine LO.gog rfl rfl rfl (OW.enter rfl (by decide) (X.call Try.call29 evl_nil) (one_ok _) ?_)
  rintro v22 wA2 ⟨⟨q1, q2, q3, q4, rfl, hA2⟩, hx23⟩
  have := World.grownBy.size hx23
  refine ⟨(Ext.trans (Ext.drew _) hx23), ?_⟩
  refine WO.l ?_
  refine LO.gog rfl rfl rfl (OW.enter rfl (by decide) (X.call Try.call17 (evl_cons rfl (evl_cons rfl evl_nil))) (sameOp_self (hG.at.ext (Ext.trans (Ext.trans (Ext.trans (Ext.store hx11 hx15 (by omega)) hx18) (Ext.drew _)) hx23)) hA2) ?_)
  rintro v25 w24 ⟨rfl, hx26⟩
  have := World.grownBy.size hx26
  refine ⟨(Ext.trans (Ext.trans (Ext.drew _) hx23) hx26), ?_⟩
  refine WO.q rfl rfl rfl rfl (fun w' hE19 => (X.pickT rfl rfl rfl)) ?_
  refine WO.q rfl rfl rfl rfl (fun w' hE19 => (X.moveB rfl)) ?_
  refine WO.qg rfl rfl rfl rfl rfl (fun w' hE19 => (X.moveI rfl)) ?_
  refine WO.qg rfl rfl rfl rfl rfl (fun w' hE19 => (X.eql rfl rfl)) ?_
  refine WO.q rfl rfl rfl rfl (fun w' hE19 => (X.pickT rfl rfl rfl)) ?_
  refine WO.q rfl rfl rfl rfl (fun w' hE19 => (X.moveB rfl)) ?_
  refine WO.qg rfl rfl rfl rfl rfl (fun w' hE19 => (X.move rfl)) ?_
  refine WO.qg rfl rfl rfl rfl rfl (fun w' hE19 => (X.len (Bytes.of_own hc) rfl Try.underlying24)) ?_
  refine WO.qg rfl rfl rfl rfl rfl (fun w' hE19 => (X.eql rfl rfl)) ?_
  refine WO.q rfl rfl rfl rfl (fun w' hE19 => (X.pickT rfl rfl rfl)) ?_
  refine WO.q rfl rfl rfl rfl (fun w' hE19 => (X.moveB rfl)) ?_
  refine WO.qg rfl rfl rfl rfl rfl (fun w' hE19 => (X.move rfl)) ?_
  refine WO.qg rfl rfl rfl rfl rfl (fun w' hE19 => (X.idx (k := 7) (Bytes.of_own hc) rfl rfl (by decide) Try.underlying24 Try.sizeOf5)) ?_
  refine WO.qg rfl rfl rfl rfl rfl (fun w' hE19 => (X.loadB (Bytes.of_own hc) hE19 rfl (by decide) Try.isAgg5)) ?_
  refine WO.qg rfl rfl rfl rfl rfl (fun w' hE19 => (X.eql rfl rfl)) ?_
  refine WO.q rfl rfl rfl rfl (fun w' hE19 => (X.pickT rfl rfl rfl)) ?_
  refine WO.q rfl rfl rfl rfl (fun w' hE19 => (X.moveB rfl)) ?_
  refine WO.qg rfl rfl rfl rfl rfl (fun w' hE19 => (X.move rfl)) ?_
  refine WO.qg rfl rfl rfl rfl rfl (fun w' hE19 => (X.idx (k := 31) (Bytes.of_own hc) rfl rfl (by decide) Try.underlying24 Try.sizeOf5)) ?_
  refine WO.qg rfl rfl rfl rfl rfl (fun w' hE19 => (X.loadB (Bytes.of_own hc) hE19 rfl (by decide) Try.isAgg5)) ?_
  refine WO.qg rfl rfl rfl rfl rfl (fun w' hE19 => (X.eql rfl rfl)) ?_
  refine WO.q rfl rfl rfl rfl (fun w' hE19 => (X.pickT rfl rfl rfl)) ?_
  refine WO.q rfl rfl rfl rfl (fun w' hE19 => (X.moveB rfl)) ?_
  refine WO.qg rfl rfl rfl rfl rfl (fun w' hE19 => (X.move rfl)) ?_
  refine WO.qg rfl rfl rfl rfl rfl (fun w' hE19 => (X.idx (k := 39) (Bytes.of_own hc) rfl rfl (by decide) Try.underlying24 Try.sizeOf5)) ?_
  refine WO.qg rfl rfl rfl rfl rfl (fun w' hE19 => (X.loadB (Bytes.of_own hc) hE19 rfl (by decide) Try.isAgg5)) ?_
  refine WO.qg rfl rfl rfl rfl rfl (fun w' hE19 => (X.eql rfl rfl)) ?_
  refine WO.q rfl rfl rfl rfl (fun w' hE19 => (X.pickT rfl rfl rfl)) ?_
  refine WO.q rfl rfl rfl rfl (fun w' hE19 => (X.assignB rfl)) ?_
  refine WO.nil ?_
  refine WL.nil ?_
  refine thn_n ?_
  refine WF.ret ?_
  refine fin_r ?_
  exact ⟨rfl, (Ext.trans (Ext.trans (Ext.trans (Ext.trans (Ext.trans (Ext.trans (Ext.trans hx4 hx6) hx8) (Ext.store hx11 hx15 (by omega))) hx18) (Ext.drew _)) hx23) hx26)⟩

end Go.Proofs.Ythaojdpeimlngaa
