/- The walk of OpKnown. -/
import Derived.Test.YthaojdpeimlngaaOpY
import Derived.Test.YthaojdpeimlngaaDel
namespace Go.Proofs.Ythaojdpeimlngaa
open Go Go.RowKit Kf
set_option maxRecDepth 20000

theorem WOwn.keptO {w w' : World} {B g : Nat} {v : Value} {E : List WV} (h : WOwn w B v E) (k : w.grownBy w' (some g)) (hne : g < B ∨ w.heap.size ≤ g) : WOwn w' B v E :=
  ⟨own_keptO h.row k hne, fun e he => own_keptO (h.data e he) k hne, h.off, h.pair⟩
/-- an operation whose lists are in memory of their own -/
structure OpO (w : World) (B : Nat) (vP vR vW vD : Value) (o : Od) : Prop where
  len : o.n.length = 13
  inn : ∀ k, -9223372036854775808 ≤ o.n.getD k 0 ∧ o.n.getD k 0 ≤ 9223372036854775807
  P : OwnI w B 3 vP o.P
  R : OwnI w B 3 vR o.R
  W : ∃ F, F.map Prod.fst = o.W ∧ WOwn w B vW F
  D : OwnB w B 5 vD o.D
theorem OpO.at {w : World} {B : Nat} {vP vR vW vD : Value} {o : Od} (h : OpO w B vP vR vW vD o) : OpAt w vP vR vW vD o := by
  obtain ⟨F, hF, hW⟩ := h.W
  exact ⟨h.len, h.inn, Row.of_own h.P, Row.of_own h.R, hW.sessE hF, Row.of_own h.D⟩
theorem OpO.ext {w w' : World} {B : Nat} {vP vR vW vD : Value} {o : Od} (h : OpO w B vP vR vW vD o) (g : Ext w w') : OpO w' B vP vR vW vD o := by
  obtain ⟨F, hF, hW⟩ := h.W
  exact ⟨h.len, h.inn, own_ext h.P g, own_ext h.R g, ⟨F, hF, hW.ext g⟩, own_ext h.D g⟩
theorem OpO.keptO {w w' : World} {B b : Nat} {vP vR vW vD : Value} {o : Od} (h : OpO w B vP vR vW vD o) (g : w.grownBy w' (some b)) (hb : b < B ∨ w.heap.size ≤ b) : OpO w' B vP vR vW vD o := by
  obtain ⟨F, hF, hW⟩ := h.W
  exact ⟨h.len, h.inn, own_keptO h.P g hb, own_keptO h.R g hb, ⟨F, hF, hW.keptO g hb⟩, own_keptO h.D g hb⟩
theorem oc_ones (n : List Int) {a b c d : Value} (ha : a.oneCell' = true) (hb : b.oneCell' = true) (hc : c.oneCell' = true) (hd : d.oneCell' = true) : ∀ u ∈ oc n a b c d, u.oneCell' = true := by
  intro u hu
  simp only [oc, List.mem_cons, List.not_mem_nil, or_false] at hu
  rcases hu with rfl | rfl | rfl | rfl | rfl | rfl | rfl | rfl | rfl | rfl | rfl | rfl | rfl | rfl | rfl | rfl | rfl
  all_goals first | rfl | assumption
section
variable {w : World}
theorem get_to {v : Value} {l : List UInt8} {o : Od} {e : Int} (hb : Bytes w v l) (hl : l.length ≤ 1000000) (h : got l = (o, e)) : FnOk Try.prog 18 [v] w (fun r w' => (∃ vP vR vW vD, r = .tuple #[agg (oc o.n vP vR vW vD), i64 e] ∧ OpG w' w.heap.size vP vR vW vD o) ∧ Ext w w') := by
  have := get_ok v l w hb hl
  rwa [h] at this
theorem getRes_to {v : Value} {l : List UInt8} {c : Int} {D : List UInt8} {e : Int} (hb : Bytes w v l) (hl : l.length ≤ 1000000) (h : gotR l = ((c, D), e)) : FnOk Try.prog 23 [v] w (fun r w' => (∃ vD, r = .tuple #[agg [i64 c, vD], i64 e] ∧ PartG w' w.heap.size vD D) ∧ Ext w w') := by
  have := getRes_ok v l w hb hl
  rwa [h] at this
end
set_option maxHeartbeats 400000 in
theorem oneO_ok (w : World) : FnOk Try.prog 29 [] w (fun r w' => (∃ v1 v2 v3, r = agg (oc oneOd.n v1 v2 v3 (.slice none 0 0)) ∧ OpO w' w.heap.size v1 v2 v3 (.slice none 0 0) oneOd ∧ Apart v1 v3 ∧ Apart v2 v3) ∧ Ext w w') := by
  refine FnOk.enterC (rs := [.cell 0 26]) Try.func29 rfl Try.ntmps29 Try.results29 rfl rfl ?_
  refine WF.seq ?_
  refine WF.region ?_
  refine WL.op rfl (OW.allocO (cs := [i64 0, i64 0, i64 0, i64 0, i64 0, i64 0, i64 0, i64 0, i64 0, i64 0, i64 0, i64 0, i64 0, .slice none 0 0, .slice none 0 0, .slice none 0 0, .slice none 0 0]) Try.zeroValue26 rfl ?_ (by decide))
  intro g0 w1 heg0 hlg0 hO0 hx3
  have := World.grownBy.size hx3
  refine WL.nil ?_
  refine thn_n ?_
  refine WF.seq ?_
  refine WF.region ?_
  refine WL.op rfl (OW.lits (vs := [_, _]) (evp_cons rfl (evp_cons rfl evp_nil)) Try.underlying22 Try.sizeOf3 Try.zeroValue3 ⟨rfl, rfl, trivial⟩ rfl rfl rfl ?_ (by decide))
  intro vp wp ho6 hx5
  have := World.grownBy.size hx5
  have oP : OwnI wp _ 3 vp [1, 3] := ho6
  have := World.grownBy.size hx5
  refine WL.op rfl (OW.lits (vs := [_]) (evp_cons rfl evp_nil) Try.underlying22 Try.sizeOf3 Try.zeroValue3 ⟨rfl, trivial⟩ rfl rfl rfl ?_ (by decide))
  intro vr wr ho8 hx7
  have := World.grownBy.size hx7
  have oR : OwnI wr _ 3 vr [7] := ho8
  have := World.grownBy.size hx7
  refine WL.op rfl (OW.lits (vs := [u8 1, u8 2, u8 3, u8 4]) (evp_cons rfl (evp_cons rfl (evp_cons rfl (evp_cons rfl evp_nil)))) Try.underlying24 Try.sizeOf5 Try.zeroValue5 ⟨rfl, rfl, rfl, rfl, trivial⟩ rfl rfl rfl ?_ (by decide))
  intro vw1 wb1 ho10 hx9
  have := World.grownBy.size hx9
  have b1 : OwnB wb1 _ 5 vw1 [1, 2, 3, 4] := ho10
  have := World.grownBy.size hx9
  refine WL.va rfl rfl rfl (X.buildL (P := Try.prog) (t := 52) (cs := (WV.c (⟨4, [1, 2, 3, 4]⟩, vw1))) (evp_cons rfl (evp_cons rfl evp_nil)) Try.type52 Try.underlying52 rfl rfl ⟨rfl, own_one b1, trivial⟩ rfl) ?_
  refine WL.op rfl (OW.lits (vs := [u8 0, u8 0, u8 0, u8 0]) (evp_cons rfl (evp_cons rfl (evp_cons rfl (evp_cons rfl evp_nil)))) Try.underlying24 Try.sizeOf5 Try.zeroValue5 ⟨rfl, rfl, rfl, rfl, trivial⟩ rfl rfl rfl ?_ (by decide))
  intro vw2 wb2 ho12 hx11
  have := World.grownBy.size hx11
  have b2 : OwnB wb2 _ 5 vw2 [0, 0, 0, 0] := ho12
  have := World.grownBy.size hx11
  refine WL.va rfl rfl rfl (X.buildL (P := Try.prog) (t := 52) (cs := (WV.c (⟨9, [0, 0, 0, 0]⟩, vw2))) (evp_cons rfl (evp_cons rfl evp_nil)) Try.type52 Try.underlying52 rfl rfl ⟨rfl, own_one b2, trivial⟩ rfl) ?_
  refine WL.op rfl (OW.lits (vs := [agg (WV.c (⟨4, [1, 2, 3, 4]⟩, vw1)), agg (WV.c (⟨9, [0, 0, 0, 0]⟩, vw2))]) (evp_cons rfl (evp_cons rfl evp_nil)) Try.underlying23 Try.sizeOf52 Try.zeroValue52 ⟨rfl, rfl, trivial⟩ rfl rfl rfl ?_ (by decide))
  intro vws wws ho14 hx13
  have := World.grownBy.size hx13
  have oW : World.ownsRow wws _ 52 2 vws 2 ([(⟨4, [1, 2, 3, 4]⟩, vw1), (⟨9, [0, 0, 0, 0]⟩, vw2)].flatMap WV.c) := ho14
  have hbP := own_ext oP (Ext.trans (Ext.trans (Ext.trans hx7 hx9) hx11) hx13)
  have hbR := own_ext oR (Ext.trans (Ext.trans hx9 hx11) hx13)
  have hb1 := own_ext b1 (Ext.trans hx11 hx13)
  have hb2 := own_ext b2 hx13
  have := World.grownBy.size hx13
  refine WL.va rfl rfl rfl (X.buildT (P := Try.prog) (t := 26) (cs := [i64 2, i64 1, i64 3, i64 5, i64 2, i64 1, i64 0, i64 0, i64 0, i64 0, i64 0, i64 0, i64 0, vp, vr, vws, (.slice none 0 0)]) (zs := [i64 0, i64 0, i64 0, i64 0, i64 0, i64 0, i64 0, i64 0, i64 0, i64 0, i64 0, i64 0, i64 0, .slice none 0 0, .slice none 0 0, .slice none 0 0, .slice none 0 0]) (places := [(0, 1), (1, 1), (2, 1), (3, 1), (4, 1), (5, 1), (6, 1), (7, 1), (8, 1), (9, 1), (10, 1), (11, 1), (12, 1), (13, 1), (14, 1), (15, 1), (16, 1)]) (n := 17) (evp_cons rfl (evp_cons rfl (evp_cons rfl (evp_cons rfl (evp_cons rfl (evp_cons rfl (evp_cons rfl (evp_cons rfl (evp_cons rfl evp_nil))))))))) Try.type26 Try.underlying26 rfl rfl ⟨rfl, rfl, rfl, rfl, rfl, rfl, own_one oP, own_one oR, own_one oW, trivial⟩ rfl rfl rfl) ?_
  have hAt : OpAt wws vp vr vws (.slice none 0 0) oneOd := ⟨rfl, one_rng, Row.of_own hbP, Row.of_own hbR, ⟨[(⟨4, [1, 2, 3, 4]⟩, vw1), (⟨9, [0, 0, 0, 0]⟩, vw2)], rfl, Row.of_own oW, fun e he => by
    simp only [List.mem_cons, List.not_mem_nil, or_false] at he
    rcases he with rfl | rfl
    · exact Row.of_own hb1
    · exact Row.of_own hb2⟩, Row.nil _ 1⟩
  refine WL.op rfl (OW.storeOA (hO0.ext (Ext.trans (Ext.trans (Ext.trans (Ext.trans hx5 hx7) hx9) hx11) hx13)) rfl rfl rfl (by intro u hu; exact hAt.ones oneOd.n u hu) Try.sizeOf26 ?_)
  intro w15 hO0 hx17
  have := World.grownBy.size hx17
  have hxs := hx17
  have hap12 : Apart vw1 vw2 := fun k h1 h2 => by have := (b1.lt k h1).2; have := (b2.lt k h2).1; omega
  have hap1w : Apart vw1 vws := fun k h1 h2 => by have := (b1.lt k h1).2; have := (oW.lt k h2).1; omega
  have hap2w : Apart vw2 vws := fun k h1 h2 => by have := (b2.lt k h1).2; have := (oW.lt k h2).1; omega
  have hapP : Apart vp vws := fun k h1 h2 => by have := (oP.lt k h1).2; have := (oW.lt k h2).1; omega
  have hapR : Apart vr vws := fun k h1 h2 => by have := (oR.lt k h1).2; have := (oW.lt k h2).1; omega
  have hOz : OpO w15 w.heap.size vp vr vws (.slice none 0 0) oneOd := ⟨rfl, one_rng, own_mono (own_keptO hbP hxs (.inl (by omega))) (by omega), own_mono (own_keptO hbR hxs (.inl (by omega))) (by omega),
    ⟨[(⟨4, [1, 2, 3, 4]⟩, vw1), (⟨9, [0, 0, 0, 0]⟩, vw2)], rfl, ⟨own_mono (own_keptO oW hxs (.inl (by omega))) (by omega), fun e he => by
      simp only [List.mem_cons, List.not_mem_nil, or_false] at he
      rcases he with rfl | rfl
      · exact own_mono (own_keptO hb1 hxs (.inl (by omega))) (by omega)
      · exact own_mono (own_keptO hb2 hxs (.inl (by omega))) (by omega), fun e he => by
      simp only [List.mem_cons, List.not_mem_nil, or_false] at he
      rcases he with rfl | rfl
      · exact hap1w
      · exact hap2w, by simpa using hap12⟩⟩, World.ownsRow_nil _ _ _ _⟩
  refine WL.nil ?_
  refine thn_n ?_
  refine WF.ret ?_
  refine finC_r (vs := [_]) ⟨⟨_, rfl, readO hO0 Try.isAgg26 Try.sizeOf26⟩, trivial⟩ ?_
  exact ⟨⟨vp, vr, vws, rfl, hOz, hapP, hapR⟩, (Ext.store (Ext.trans (Ext.trans (Ext.trans (Ext.trans (Ext.trans hx3 hx5) hx7) hx9) hx11) hx13) hx17 (by omega))⟩

section
variable {P : Program} {N : Nat} {Q : Post} {f : Fr} {w : World} {k : Fr → World → Prop} {ty t e : TypeId} {pos : String} {aft : Array Edge} {g : Option (Nat × Bool)} {x y : Operand} {u v : Value} {n sz B i off : Nat} {xs : List Value}
/-- a field of an element of an own row -/
theorem OW.storeIF (ho : w.ownsRow B e sz v n xs) (hi : i < n) (hoff : off < sz) (hx : ev f x = .pointer (some (((base v).add (i * sz)).add off))) (hy : ev f y = u) (h1 : u.oneCell' = true) (ht : ∀ w, (sizeOf t).run P w = .ok 1 w)
    (h : ∀ w', w'.ownsRow B e sz v n (xs.set (i * sz + off) u) → w.grownBy w' v.ownBlock → k f w') : OW P N ⟨none, .store t x y, ty, pos, aft, g⟩ Q k f w := by
  obtain ⟨b, cap, rfl, _⟩ := own_shape ho (by omega)
  have hj : i * sz + off < n * sz := by
    have : (i + 1) * sz ≤ n * sz := Nat.mul_le_mul_right _ hi
    rw [Nat.add_mul] at this; omega
  refine OW.storeOwn (j := i * sz + off) ho hj ?_ hy h1 ht h
  rw [hx]
  show _ = Value.pointer (some ((⟨b, 0, none⟩ : Addr).add (i * sz + off)))
  rw [show base (.slice (some ⟨b, 0, none⟩) n cap) = ⟨b, 0, none⟩ from rfl, Kf.Addr.add_add]
end
abbrev OV : Type := Od × Value × Value × Value × Value
abbrev OV.c (e : OV) : List Value := oc e.1.n e.2.1 e.2.2.1 e.2.2.2.1 e.2.2.2.2
theorem OV.c_len (e : OV) : (OV.c e).length = 17 := rfl
def kOd : List Od := [⟨[2, 1, 3, 5, 2, 1, 0, 0, 0, 0, 0, 0, 0], [], [7], [⟨4, [1, 2, 3, 4]⟩, ⟨9, [0, 0, 0, 0]⟩], []⟩, ⟨[2, 1, 3, 5, 2, 1, 0, 0, 0, 0, 0, 0, 0], [1, 1], [7], [⟨4, [1, 2, 3, 4]⟩, ⟨9, [0, 0, 0, 0]⟩], []⟩, ⟨[2, 1, 3, 5, 2, 1, 0, 0, 0, 0, 0, 0, 0], [1, 3], [7], [⟨4, [1, 2, 3]⟩, ⟨9, [0, 0, 0, 0]⟩], []⟩, ⟨[2, 1, 3, 5, 2, 1, 0, 0, 0, 0, 0, 0, 0], [1, 3], [5, 4], [⟨4, [1, 2, 3, 4]⟩, ⟨9, [0, 0, 0, 0]⟩], []⟩, ⟨[2, 1, 3, 5, 2, 1, 0, 0, 0, 7, 0, 0, 0], [1, 3], [7], [⟨4, [1, 2, 3, 4]⟩, ⟨9, [0, 0, 0, 0]⟩], []⟩, ⟨[2, 1, 3, 5, 2, 1, 0, 64, 0, 7, 0, 0, 0], [1, 3], [7], [⟨4, [1, 2, 3, 4]⟩, ⟨9, [0, 0, 0, 0]⟩], []⟩, ⟨[2, 1, 3, 5, 2, 1, 0, 0, 0, 0, 0, 0, 0], [1, 3], List.replicate 17 0, [⟨4, [1, 2, 3, 4]⟩, ⟨9, [0, 0, 0, 0]⟩], []⟩, ⟨[2, 1, 3, 5, 2, 1, 0, 0, 0, 0, 0, 0, 0], [1, 3], [7], [⟨4, [1, 2, 3, 4]⟩, ⟨9, [0, 0, 0, 0]⟩], [1]⟩, ⟨[2, 1, 3, 5, 2, 1, 0, 0, 0, 0, 0, 0, 0], [5], [7], [⟨4, [1, 2, 3, 4]⟩, ⟨9, [0, 0, 0, 0]⟩], []⟩, ⟨[3, 0, 0, 5, 0, 0, 0, 0, 0, 0, 3, 0, 0], [], [], [], []⟩, ⟨[3, 0, 0, 0, 0, 0, 0, 0, 0, 0, 1, 0, 0], [], [], [], []⟩, ⟨[3, 0, 0, 5, 0, 2, 0, 0, 0, 0, 1, 0, 0], [], [], [], []⟩, ⟨[12, 0, 0, 0, 0, 0, 0, 0, 0, 0, 0, 0, 0], [], [], [], []⟩, ⟨[0, 0, 0, 0, 0, 0, 0, 0, 0, 0, 0, 0, 0], [], [], [], []⟩, ⟨[8, 0, 0, 0, 0, 0, 0, 0, 0, 0, 0, 0, 0], [], [], [], []⟩, ⟨[8, 5, 0, 0, 0, 0, 0, 0, 0, 0, 0, 0, 0], [], [], [], []⟩, ⟨[8, 0, -1, 0, 0, 0, 0, 0, 0, 0, 0, 0, 0], [], [], [], []⟩, ⟨[9, 0, 0, 0, 0, 0, 0, 1, 0, 0, 0, 1, 5], [], [], [], []⟩, ⟨[9, 0, 0, 0, 0, 0, 0, 1, 0, 0, 0, 1, 1], [], [], [], []⟩, ⟨[11, 0, 0, 0, 0, 0, 0, 0, 0, 0, 2, 0, 7], [], [], [], []⟩, ⟨[11, 0, 0, 0, 0, 0, 0, 0, 0, 0, 2, 0, 8], [], [], [], []⟩, ⟨[5, 0, 0, 0, 0, 0, 3, 3, 0, 0, 0, 0, 0], [], [], [], []⟩, ⟨[5, 0, 0, 0, 0, 0, -1, 3, 0, 0, 0, 0, 0], [], [], [], []⟩, ⟨[5, 0, 0, 0, 0, 0, 63, 64, 0, 0, 0, 0, 0], [], [], [], []⟩, ⟨[5, 0, 0, 0, 0, 0, 63, 65, 0, 0, 0, 0, 0], [], [], [], []⟩, ⟨[1, 0, 0, 1, 0, 0, 0, 0, 63, 0, 0, 0, 0], [], [], [], []⟩, ⟨[1, 0, 0, 1, 0, 0, 0, 0, 64, 0, 0, 0, 0], [], [], [], []⟩, ⟨[4, 0, 0, 0, 0, 0, 0, 0, 1, 0, 0, 0, 0], [], [], [], []⟩, ⟨[4, 0, 0, 0, 0, 0, 0, 0, 0, 1099511627776, 0, 0, 0], [], [], [], []⟩, ⟨[4, 0, 0, 0, 0, 0, 0, 0, 0, 1099511627777, 0, 0, 0], [], [], [], []⟩, ⟨[6, 0, 0, 0, 0, 0, 0, 1, 0, 0, 0, 0, 0], [], [], [], List.replicate 32768 0⟩, ⟨[6, 0, 0, 0, 0, 0, 0, 1, 0, 0, 0, 0, 0], [], [], [], List.replicate 32769 0⟩, ⟨[7, 0, 0, 0, 0, 0, 0, 0, 0, 0, 0, 0, 0], [], [], [], [1]⟩, ⟨[10, 0, 0, 0, 0, -1, 0, 0, 0, 0, 0, 0, 0], [], [], [], []⟩, ⟨[7, 0, 0, 0, 0, 0, 0, 0, 0, 0, 0, 0, 0], [1], [], [], []⟩]
def bigOd (n : List Int) (D : List UInt8) : Od := ⟨n, [], [], [], D⟩
theorem big_b (D : List UInt8) : Od.bareP ⟨[6, 0, 0, 0, 0, 0, 0, 1, 0, 0, 0, 0, 0], [], [], [], D⟩ := ⟨(show ∀ a, a < 10 → (a + 3) ∉ offL 6 → ([6, 0, 0, 0, 0, 0, 0, 1, 0, 0, 0, 0, 0] : List Int).getD (a + 3) 0 = 0 by decide), .inl rfl, .inr rfl⟩
theorem big_ok (D : List UInt8) (h : D.length = 32768) : chk ⟨[6, 0, 0, 0, 0, 0, 0, 1, 0, 0, 0, 0, 0], [], [], [], D⟩ = 0 := by
  have hp : Od.placedP ⟨[6, 0, 0, 0, 0, 0, 0, 1, 0, 0, 0, 0, 0], [], [], [], D⟩ := by simp [Od.placedP, Od.spanP, inM]
  show (if ¬ (1 ≤ (6 : Int) ∧ (6 : Int) ≤ 11) then 13 else if ¬ Od.bareP ⟨[6, 0, 0, 0, 0, 0, 0, 1, 0, 0, 0, 0, 0], [], [], [], D⟩ then 14 else if 4 < 0 ∨ 16 < 0 ∨ 8 < 0 then (17 : Int) else if 32768 < D.length then 2 else if ¬ (Od.placedP ⟨[6, 0, 0, 0, 0, 0, 0, 1, 0, 0, 0, 0, 0], [], [], [], D⟩ ∧ allP [] 1 4 ∧ allP [] 0 63 ∧ allP [] 0 63) then 3 else if ¬ sizeP [] then 21 else if ¬ (riseP [] ∧ riseP [] ∧ riseP []) then 15 else 0) = 0
  rw [if_neg (by decide), if_neg (fun q => q (big_b D)), if_neg (by decide), if_neg (by omega), if_neg (fun q => q ⟨hp, by decide, by decide, by decide⟩), if_neg (by decide), if_neg (by decide)]
theorem big_no (D : List UInt8) (h : D.length = 32769) : chk ⟨[6, 0, 0, 0, 0, 0, 0, 1, 0, 0, 0, 0, 0], [], [], [], D⟩ = 2 := by
  show (if ¬ (1 ≤ (6 : Int) ∧ (6 : Int) ≤ 11) then 13 else if ¬ Od.bareP ⟨[6, 0, 0, 0, 0, 0, 0, 1, 0, 0, 0, 0, 0], [], [], [], D⟩ then 14 else if 4 < 0 ∨ 16 < 0 ∨ 8 < 0 then (17 : Int) else if 32768 < D.length then 2 else if ¬ (Od.placedP ⟨[6, 0, 0, 0, 0, 0, 0, 1, 0, 0, 0, 0, 0], [], [], [], D⟩ ∧ allP [] 1 4 ∧ allP [] 0 63 ∧ allP [] 0 63) then 3 else if ¬ sizeP [] then 21 else if ¬ (riseP [] ∧ riseP [] ∧ riseP []) then 15 else 0) = 2
  rw [if_neg (by decide), if_neg (fun q => q (big_b D)), if_neg (by decide), if_pos (by omega)]
theorem kOd_chk : kOd.map chk = [3, 15, 21, 15, 3, 0, 17, 14, 3, 3, 3, 14, 13, 13, 0, 3, 3, 3, 0, 0, 3, 3, 3, 0, 3, 0, 3, 3, 0, 3, 0, 2, 14, 3, 14] := by
  unfold kOd
  simp only [List.map_cons, List.map_nil]
  rw [big_ok _ (List.length_replicate ..), big_no _ (List.length_replicate ..)]
  decide
theorem kOd_small : ∀ o ∈ kOd, o.small := by
  intro o ho
  simp only [kOd, List.mem_cons, List.not_mem_nil, or_false] at ho
  rcases ho with rfl | rfl | rfl | rfl | rfl | rfl | rfl | rfl | rfl | rfl | rfl | rfl | rfl | rfl | rfl | rfl | rfl | rfl | rfl | rfl | rfl | rfl | rfl | rfl | rfl | rfl | rfl | rfl | rfl | rfl | rfl | rfl | rfl | rfl | rfl
  all_goals refine ⟨by first | (rw [List.length_replicate]; decide) | decide, by first | (rw [List.length_replicate]; decide) | decide, by decide, by first | (rw [List.length_replicate]; decide) | decide, fun x hx => ?_⟩
  all_goals first | (cases hx; done) | (simp only [List.mem_cons, List.not_mem_nil, or_false] at hx; rcases hx with rfl | rfl <;> decide)
theorem kchk {EE : List OV} {k : Nat} (h : EE.map Prod.fst = kOd) (hk : k < EE.length) : chk (EE[k]).1 = ([3, 15, 21, 15, 3, 0, 17, 14, 3, 3, 3, 14, 13, 13, 0, 3, 3, 3, 0, 0, 3, 3, 3, 0, 3, 0, 3, 3, 0, 3, 0, 2, 14, 3, 14] : List Int).getD k 0 := by
  have e : (EE.map Prod.fst).map chk = [3, 15, 21, 15, 3, 0, 17, 14, 3, 3, 3, 14, 13, 13, 0, 3, 3, 3, 0, 0, 3, 3, 3, 0, 3, 0, 3, 3, 0, 3, 0, 2, 14, 3, 14] := by rw [h, kOd_chk]
  rw [← e]
  simp [List.getD_eq_getElem?_getD, hk]
theorem nilOp_at {n : List Int} (h : n.length = 13) (hr : n.all (fun x => decide (-9223372036854775808 ≤ x ∧ x ≤ 9223372036854775807)) = true) (k : Nat) : -9223372036854775808 ≤ n.getD k 0 ∧ n.getD k 0 ≤ 9223372036854775807 := by
  by_cases hk : k < n.length
  · rw [List.getD_eq_getElem?_getD, List.getElem?_eq_getElem hk]
    exact of_decide_eq_true (List.all_eq_true.1 hr _ (List.getElem_mem hk))
  · rw [List.getD_eq_getElem?_getD, List.getElem?_eq_none (by omega)]
    exact ⟨by decide, by decide⟩
theorem op_at {w : World} {n P R : List Int} {W : List Wr} {D : List UInt8} {vP vR vW vD : Value} (h : n.length = 13) (hr : n.all (fun x => decide (-9223372036854775808 ≤ x ∧ x ≤ 9223372036854775807)) = true) (hP : Ints w vP P) (hR : Ints w vR R) (hW : Wrs w vW W) (hD : Bytes w vD D) : OpAt w vP vR vW vD ⟨n, P, R, W, D⟩ :=
  ⟨h, nilOp_at h hr, hP, hR, hW, hD⟩
theorem got_nil0 : got [] = (noOp, 4) := by kernel_rfl
theorem got_24 : got (List.replicate 24 0) = (noOp, 4) := by kernel_rfl
theorem gotR_15 : gotR (List.replicate 15 0) = ((0, []), 4) := by kernel_rfl
theorem gotR_17 : gotR (List.replicate 17 0) = ((0, []), 2) := by kernel_rfl
theorem kOd_len : kOd.length = 35 := rfl
theorem ov_flat (E : List OV) : (E.map fun e => agg (OV.c e)).flatMap (fun v => v.cells.toList) = E.flatMap OV.c := by
  induction E with
  | nil => rfl
  | cons a E ih => rw [List.map_cons, List.flatMap_cons, List.flatMap_cons, ih]; rfl
theorem fa_nil {α : Type} {p : α → Prop} : ∀ x ∈ ([] : List α), p x := fun x h => by cases h
theorem fa_cons {α : Type} {p : α → Prop} {a : α} {l : List α} (h : p a) (h2 : ∀ x ∈ l, p x) : ∀ x ∈ a :: l, p x := fun x hx => by
  rcases List.mem_cons.1 hx with rfl | hx
  · exact h
  · exact h2 x hx
def OVok (w : World) (e : OV) : Prop := OpAt w e.2.1 e.2.2.1 e.2.2.2.1 e.2.2.2.2 e.1
theorem two_el {F : List WV} {x y : Wr} (h : F.map Prod.fst = [x, y]) : ∃ u v, F = [(x, u), (y, v)] := by
  match F, h with
  | [a, b], h =>
    simp only [List.map_cons, List.map_nil, List.cons.injEq, and_true] at h
    exact ⟨a.2, b.2, by rw [← h.1, ← h.2]⟩
end Go.Proofs.Ythaojdpeimlngaa
