/- The walk of known. -/
import Derived.Test.YthaojdpeimlngaaOpK
namespace Go.Proofs.Ythaojdpeimlngaa
open Go Go.RowKit Kf
set_option maxRecDepth 20000

def oneOd : Od := ⟨[2, 1, 3, 5, 2, 1, 0, 0, 0, 0, 0, 0, 0], [1, 3], [7], [⟨4, [1, 2, 3, 4]⟩, ⟨9, [0, 0, 0, 0]⟩], []⟩
def twoOd : Od := ⟨[3, 0, 0, 5, 0, 0, 0, 0, 0, 0, 1, 0, 0], [], [], [], []⟩
theorem chk_one : chk oneOd = 0 := by decide
theorem chk_two : chk twoOd = 0 := by decide
theorem got_one : got (obytes oneOd) = (oneOd, 0) := by kernel_rfl
theorem two_len : (obytes twoOd).length = 40 := by kernel_rfl
theorem one_len : (obytes oneOd).length ≤ 1000000 := by decide
theorem one_small : oneOd.small := ⟨by decide, by decide, by decide, by decide, by decide⟩
theorem two_small : twoOd.small := ⟨by decide, by decide, by decide, by decide, by decide⟩
theorem one_rng : ∀ k, -9223372036854775808 ≤ oneOd.n.getD k 0 ∧ oneOd.n.getD k 0 ≤ 9223372036854775807 := fun k => by
  match k with
  | 0 | 1 | 2 | 3 | 4 | 5 | 6 | 7 | 8 | 9 | 10 | 11 | 12 => exact ⟨by decide, by decide⟩
  | k + 13 => exact ⟨(by show _ ≤ (0 : Int); decide), (by show (0 : Int) ≤ _; decide)⟩
theorem two_rng : ∀ k, -9223372036854775808 ≤ twoOd.n.getD k 0 ∧ twoOd.n.getD k 0 ≤ 9223372036854775807 := fun k => by
  match k with
  | 0 | 1 | 2 | 3 | 4 | 5 | 6 | 7 | 8 | 9 | 10 | 11 | 12 => exact ⟨by decide, by decide⟩
  | k + 13 => exact ⟨(by show _ ≤ (0 : Int); decide), (by show (0 : Int) ≤ _; decide)⟩
theorem two_at (w : World) : OpAt w (.slice none 0 0) (.slice none 0 0) (.slice none 0 0) (.slice none 0 0) twoOd :=
  ⟨rfl, two_rng, Row.nil w 1, Row.nil w 1, Wrs.nil w, Row.nil w 1⟩
set_option maxHeartbeats 400000 in
theorem one_ok (w : World) : FnOk Try.prog 29 [] w (fun r w' => (∃ v1 v2 v3 v4, r = agg (oc oneOd.n v1 v2 v3 v4) ∧ OpAt w' v1 v2 v3 v4 oneOd) ∧ Ext w w') := by
  refine FnOk.enterC (rs := [.cell 0 26]) Try.func29 rfl Try.ntmps29 Try.results29 rfl rfl ?_
  refine WF.seq ?_
  refine WF.region ?_
  refine WL.op rfl (OW.allocO (cs := [i64 0, i64 0, i64 0, i64 0, i64 0, i64 0, i64 0, i64 0, i64 0, i64 0, i64 0, i64 0, i64 0, .slice none 0 0, .slice none 0 0, .slice none 0 0, .slice none 0 0]) Try.zeroValue26 rfl ?_ (by decide))
  intro g0 w1 heg0 hlg0 hO0 hx3
  have := World.grownBy.size hx3
  refine WL.nil ?_
  refine thn_n ?_
  refine WF.seq ?_
  refine WF.region ?_
  refine WL.op rfl (OW.lits (vs := [_, _]) (evp_cons rfl (evp_cons rfl evp_nil)) Try.underlying22 Try.sizeOf3 Try.zeroValue3 ⟨rfl, rfl, trivial⟩ rfl rfl rfl ?_ (by decide))
  intro vp wp ho6 hx5
  have := World.grownBy.size hx5
  have oP : OwnI wp _ 3 vp [1, 3] := ho6
  refine WL.op rfl (OW.lits (vs := [_]) (evp_cons rfl evp_nil) Try.underlying22 Try.sizeOf3 Try.zeroValue3 ⟨rfl, trivial⟩ rfl rfl rfl ?_ (by decide))
  intro vr wr ho8 hx7
  have := World.grownBy.size hx7
  have oR : OwnI wr _ 3 vr [7] := ho8
  refine WL.op rfl (OW.lits (vs := [u8 1, u8 2, u8 3, u8 4]) (evp_cons rfl (evp_cons rfl (evp_cons rfl (evp_cons rfl evp_nil)))) Try.underlying24 Try.sizeOf5 Try.zeroValue5 ⟨rfl, rfl, rfl, rfl, trivial⟩ rfl rfl rfl ?_ (by decide))
  intro vw1 wb1 ho10 hx9
  have := World.grownBy.size hx9
  have b1 : OwnB wb1 _ 5 vw1 [1, 2, 3, 4] := ho10
  refine WL.va rfl rfl rfl (X.buildL (P := Try.prog) (t := 52) (cs := (WV.c (⟨4, [1, 2, 3, 4]⟩, vw1))) (evp_cons rfl (evp_cons rfl evp_nil)) Try.type52 Try.underlying52 rfl rfl ⟨rfl, own_one b1, trivial⟩ rfl) ?_
  refine WL.op rfl (OW.lits (vs := [u8 0, u8 0, u8 0, u8 0]) (evp_cons rfl (evp_cons rfl (evp_cons rfl (evp_cons rfl evp_nil)))) Try.underlying24 Try.sizeOf5 Try.zeroValue5 ⟨rfl, rfl, rfl, rfl, trivial⟩ rfl rfl rfl ?_ (by decide))
  intro vw2 wb2 ho12 hx11
  have := World.grownBy.size hx11
  have b2 : OwnB wb2 _ 5 vw2 [0, 0, 0, 0] := ho12
  refine WL.va rfl rfl rfl (X.buildL (P := Try.prog) (t := 52) (cs := (WV.c (⟨9, [0, 0, 0, 0]⟩, vw2))) (evp_cons rfl (evp_cons rfl evp_nil)) Try.type52 Try.underlying52 rfl rfl ⟨rfl, own_one b2, trivial⟩ rfl) ?_
  refine WL.op rfl (OW.lits (vs := [agg (WV.c (⟨4, [1, 2, 3, 4]⟩, vw1)), agg (WV.c (⟨9, [0, 0, 0, 0]⟩, vw2))]) (evp_cons rfl (evp_cons rfl evp_nil)) Try.underlying23 Try.sizeOf52 Try.zeroValue52 ⟨rfl, rfl, trivial⟩ rfl rfl rfl ?_ (by decide))
  intro vws wws ho14 hx13
  have := World.grownBy.size hx13
  have oW : World.ownsRow wws _ 52 2 vws 2 ([(⟨4, [1, 2, 3, 4]⟩, vw1), (⟨9, [0, 0, 0, 0]⟩, vw2)].flatMap WV.c) := ho14
  have hbP := own_ext oP (Ext.trans (Ext.trans (Ext.trans hx7 hx9) hx11) hx13)
  have hbR := own_ext oR (Ext.trans (Ext.trans hx9 hx11) hx13)
  have hb1 := own_ext b1 (Ext.trans hx11 hx13)
  have hb2 := own_ext b2 hx13
  refine WL.va rfl rfl rfl (X.buildT (P := Try.prog) (t := 26) (cs := [i64 2, i64 1, i64 3, i64 5, i64 2, i64 1, i64 0, i64 0, i64 0, i64 0, i64 0, i64 0, i64 0, vp, vr, vws, (.slice none 0 0)]) (zs := [i64 0, i64 0, i64 0, i64 0, i64 0, i64 0, i64 0, i64 0, i64 0, i64 0, i64 0, i64 0, i64 0, .slice none 0 0, .slice none 0 0, .slice none 0 0, .slice none 0 0]) (places := [(0, 1), (1, 1), (2, 1), (3, 1), (4, 1), (5, 1), (6, 1), (7, 1), (8, 1), (9, 1), (10, 1), (11, 1), (12, 1), (13, 1), (14, 1), (15, 1), (16, 1)]) (n := 17) (evp_cons rfl (evp_cons rfl (evp_cons rfl (evp_cons rfl (evp_cons rfl (evp_cons rfl (evp_cons rfl (evp_cons rfl (evp_cons rfl evp_nil))))))))) Try.type26 Try.underlying26 rfl rfl ⟨rfl, rfl, rfl, rfl, rfl, rfl, own_one oP, own_one oR, own_one oW, trivial⟩ rfl rfl rfl) ?_
  have hAt : OpAt wws vp vr vws (.slice none 0 0) oneOd := ⟨rfl, one_rng, Row.of_own hbP, Row.of_own hbR, ⟨[(⟨4, [1, 2, 3, 4]⟩, vw1), (⟨9, [0, 0, 0, 0]⟩, vw2)], rfl, Row.of_own oW, fun e he => by
    simp only [List.mem_cons, List.not_mem_nil, or_false] at he
    rcases he with rfl | rfl
    · exact Row.of_own hb1
    · exact Row.of_own hb2⟩, Row.nil _ 1⟩
  refine WL.op rfl (OW.storeOA (hO0.ext (Ext.trans (Ext.trans (Ext.trans (Ext.trans hx5 hx7) hx9) hx11) hx13)) rfl rfl rfl (by intro u hu; exact hAt.ones oneOd.n u hu) Try.sizeOf26 ?_)
  intro w15 hO0 hx17
  have := World.grownBy.size hx17
  have hxs := hx17
  have hAz : OpAt w15 vp vr vws (.slice none 0 0) oneOd := ⟨rfl, one_rng, Row.of_own (own_keptO hbP hxs (.inl (by omega))), Row.of_own (own_keptO hbR hxs (.inl (by omega))), ⟨[(⟨4, [1, 2, 3, 4]⟩, vw1), (⟨9, [0, 0, 0, 0]⟩, vw2)], rfl, Row.of_own (own_keptO oW hxs (.inl (by omega))), fun e he => by
    simp only [List.mem_cons, List.not_mem_nil, or_false] at he
    rcases he with rfl | rfl
    · exact Row.of_own (own_keptO hb1 hxs (.inl (by omega)))
    · exact Row.of_own (own_keptO hb2 hxs (.inl (by omega)))⟩, Row.nil _ 1⟩
  refine WL.nil ?_
  refine thn_n ?_
  refine WF.ret ?_
  refine finC_r (vs := [_]) ⟨⟨_, rfl, readO hO0 Try.isAgg26 Try.sizeOf26⟩, trivial⟩ ?_
  exact ⟨⟨vp, vr, vws, _, rfl, hAz⟩, (Ext.store (Ext.trans (Ext.trans (Ext.trans (Ext.trans (Ext.trans hx3 hx5) hx7) hx9) hx11) hx13) hx17 (by omega))⟩

end Go.Proofs.Ythaojdpeimlngaa
