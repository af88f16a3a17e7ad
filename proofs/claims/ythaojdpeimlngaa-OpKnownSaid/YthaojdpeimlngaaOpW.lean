/- The walk of writes. -/
import Derived.Test.YthaojdpeimlngaaOpG
namespace Go.Proofs.Ythaojdpeimlngaa
open Go Go.RowKit Kf
set_option maxRecDepth 20000

theorem Bytes.inj {w : World} {v : Value} {l m : List UInt8} (h : Bytes w v l) (k : Bytes w v m) : l = m := by
  obtain ⟨a, c, e, _⟩ := h.shape
  obtain ⟨a2, c2, e2, _⟩ := k.shape
  have hl : l.length = m.length := by rw [e] at e2; injection e2
  apply List.ext_getElem hl
  intro i h1 h2
  have q1 := Bytes.at h (Ext.refl w) h1
  have q2 := Bytes.at k (Ext.refl w) h2
  rw [q1] at q2
  injection q2 with q2
  injection q2 with _ q2
  exact byte_eq q2
/-- writes whose bytes are parts of one row D -/
def SegD (D : Value) (L : List UInt8) (E : List WV) : Prop := ∀ e ∈ E, ∃ lo hi, Seg D e.2 lo hi ∧ hi ≤ L.length ∧ e.1.Data = (L.drop lo).take (hi - lo)
theorem SegD.dat {w : World} {B : Nat} {D : Value} {L : List UInt8} {E : List WV} (h : SegD D L E) (ho : OwnB w B 5 D L) : WDat w E := fun e he => by
  obtain ⟨lo, hi, h1, h2, h3⟩ := h e he
  rw [h3]; exact seg_bytes h1 ho h2
theorem SegD.nil (D : Value) (L : List UInt8) : SegD D L [] := fun e he => by cases he
theorem SegD.app {w : World} {B a1 a2 : Nat} {r D v left : Value} {L l : List UInt8} {s : Pk.RS} {E : List WV} {x : Int} (h : SegD D L E) (hs : Seg D v a1 a2) (hb : Bytes w v l) (hp : PR w B r D L a2 s left) : SegD D L (E ++ [(⟨x, l⟩, v)]) := fun e he => by
  rcases List.mem_append.1 he with he | he
  · exact h e he
  · rw [List.mem_singleton] at he
    subst he
    have hle : a2 ≤ L.length := by have := hp.inn; omega
    exact ⟨a1, a2, hs, hle, Bytes.inj hb (seg_bytes hs hp.own hle)⟩
theorem grown_nw {a b c : World} {r q : Option Nat} (h : a.grownBy b r) (k : b.grownBy c q) (hq : ∀ i, q = some i → a.heap.size ≤ i) : a.grownBy c r :=
  ⟨k.os.trans h.os, k.tape.trans h.tape, k.output.trans h.output, Nat.le_trans h.size k.size, fun i hi hn => (k.block i (Nat.lt_of_lt_of_le hi h.size) (fun e => by have := hq i e.symm; omega)).trans (h.block i hi hn)⟩
theorem ne_of {x y : Option Nat} {T : Nat} (hx : ∀ b, x = some b → b < T) (hy : ∀ b, y = some b → T ≤ b) : x = none ∨ x ≠ y := by
  cases x with
  | none => exact .inl rfl
  | some b => exact .inr fun e => by have := hx b rfl; have := hy b e.symm; omega
theorem PR.lt {w : World} {B : Nat} {r D left : Value} {L : List UInt8} {a : Nat} {s : Pk.RS} (h : PR w B r D L a s left) : (∀ b, (asRow r).ownBlock = some b → B ≤ b ∧ b < w.heap.size) ∧ (∀ b, D.ownBlock = some b → B ≤ b ∧ b < w.heap.size) := ⟨fun b hb => h.var.row.lt b hb, fun b hb => h.own.lt b hb⟩
set_option maxHeartbeats 4000000 in
theorem writes_ok (r D left : Value) (L : List UInt8) (a B : Nat) (s : Pk.RS) (w : World) (hp : PR w B r D L a s left) (hL : L.length ≤ 1000000) :
    FnOk Try.prog 63 [r] w (fun v w' => (∃ vW ok, v = .tuple #[vW, .bool ok] ∧ vW.oneCell' = true ∧ (ok = false → s.int.1 < 0 ∨ ((s.int.2.left.length / 8 : Nat) : Int) < s.int.1 ∨ (rdW s.int.2 s.int.1.toNat).2.bad = true) ∧ (ok = true → ¬ (s.int.1 < 0 ∨ ((s.int.2.left.length / 8 : Nat) : Int) < s.int.1) ∧ ∃ E, E.map Prod.fst = (rdW s.int.2 s.int.1.toNat).1 ∧ WOwnR w' w.heap.size vW E ∧ SegD D L E ∧ ∃ a' left', PR w' B r D L a' (rdW s.int.2 s.int.1.toNat).2 left')) ∧ w.grownBy w' (asRow r).ownBlock) := by
  have hrl := hp.lt.1
  have hDl := hp.lt.2
  refine FnOk.enter (rs := [2, 3]) Try.func63 rfl Try.ntmps63 Try.results63 rfl rfl ?_
  refine WF.seq ?_
  refine WF.region ?_
  refine WL.va rfl rfl rfl (X.assign rfl) ?_
  refine WL.va rfl rfl rfl (X.assignB rfl) ?_
  refine WL.nil ?_
  refine thn_n ?_
  refine WF.seq ?_
  refine WF.region ?_
  refine WL.va rfl rfl rfl (X.move rfl) ?_
  refine WL.c rfl rfl rfl (X.call Try.call60 (evl_cons rfl evl_nil)) (rInt_ok r D left L a s _ B hp) ?_
  rintro v3 w2 ⟨rfl, ⟨a1, left1, hp1⟩, hx4⟩
  have g1 := hx4
  have hz1 := World.grownBy.size g1
  have hin1 := hp1.inn
  refine WL.va rfl rfl rfl (X.assignI rfl) ?_
  refine WL.nil ?_
  refine thn_n ?_
  refine WF.seq ?_
  refine WF.seq ?_
  refine WF.region ?_
  refine WL.va rfl rfl rfl (X.moveI rfl) ?_
  refine WL.va rfl rfl rfl (X.lss rfl rfl) ?_
  refine WL.va rfl rfl rfl (X.moveB rfl) ?_
  refine WL.split (j := 2) rfl (fun h6 => ?_) (fun h6 => ?_)
  · have gh6 := (of_decide_eq_true h6)
    refine WL.p rfl rfl rfl (congrArg some h6) ?_
    refine WL.p rfl rfl rfl (congrArg some h6) ?_
    refine WL.p rfl rfl rfl (congrArg some h6) ?_
    refine WL.p rfl rfl rfl (congrArg some h6) ?_
    refine WL.p rfl rfl rfl (congrArg some h6) ?_
    refine WL.va rfl rfl rfl (X.pickT rfl h6 rfl) ?_
    refine WL.nil ?_
    refine thn_n ?_
    refine WF.cond_t rfl ?_
    refine WF.seq ?_
    refine WF.region ?_
    refine WL.va rfl rfl rfl (X.assign rfl) ?_
    refine WL.va rfl rfl rfl (X.assignB rfl) ?_
    refine WL.nil ?_
    refine thn_n ?_
    refine WF.ret ?_
    refine thn_r ?_
    refine fin_r ?_
    exact ⟨⟨_, _, rfl, rfl, fun _ => by omega, fun q => (by cases q)⟩, g1⟩
  · have gh6 := (of_decide_eq_false h6)
    refine WL.vg rfl (congrArg some h6) rfl rfl (X.moveI rfl) ?_
    refine WL.vg rfl (congrArg some h6) rfl rfl (X.move rfl) ?_
    refine WL.cg rfl (congrArg some h6) rfl rfl (X.call Try.call85 (evl_cons rfl evl_nil)) (rLeft_ok r D left1 L a1 s.int.2 _ B hp1) ?_
    rintro v10 w9 ⟨rfl, rfl⟩
    refine WL.vg rfl (congrArg some h6) rfl rfl (X.quo rfl rfl (by omega) (IntWalk.i64_quo _ _ (by omega))) ?_
    refine WL.vg rfl (congrArg some h6) rfl rfl (X.gtr rfl rfl) ?_
    refine WL.va rfl rfl rfl (X.pickF rfl h6 rfl) ?_
    refine WL.nil ?_
    refine thn_n ?_
    refine WF.cond rfl (fun h0_12 => ?_) (fun h0_12 => ?_)
    · have gh0_12 := (of_decide_eq_true h0_12)
      refine WF.seq ?_
      refine WF.region ?_
      refine WL.va rfl rfl rfl (X.assign rfl) ?_
      refine WL.va rfl rfl rfl (X.assignB rfl) ?_
      refine WL.nil ?_
      refine thn_n ?_
      refine WF.ret ?_
      refine thn_r ?_
      refine fin_r ?_
      exact ⟨⟨_, _, rfl, rfl, fun _ => by omega, fun q => (by cases q)⟩, g1⟩
    · have gh0_12 := (of_decide_eq_false h0_12)
      refine WF.skip ?_
      refine thn_n ?_
      refine WF.seq ?_
      refine WF.region ?_
      refine WL.va rfl rfl rfl (X.assign rfl) ?_
      refine WL.nil ?_
      refine thn_n ?_
      refine WF.seq ?_
      refine WF.seq ?_
      refine WF.region ?_
      refine WL.va rfl rfl rfl (X.moveI rfl) ?_
      refine WL.va rfl rfl rfl (X.moveI rfl) ?_
      refine WL.nil ?_
      refine thn_n ?_
      refine WF.block ?_
      refine WF.named (fun F15 hF16 => ?_)
      refine WF.loopN (fun mL0 f' w' => ∃ (k : Nat) (vl : Value) (E : List WV) (a2 : Nat) (left2 : Value), mL0 = s.int.1.toNat - k ∧ f' 19 = .int .i64 (k : Int) ∧ f' 5 = vl ∧ Agree [0, 4, 7, 8, 9, 10, 11, 12, 13, 14, 15, 16, 17, 18] f' F15 ∧ w.grownBy w' (asRow r).ownBlock ∧ k ≤ s.int.1.toNat ∧ E.length = k ∧ E.map Prod.fst = (rdW s.int.2 k).1 ∧ WOwnR w' w.heap.size vl E ∧ SegD D L E ∧ PR w' B r D L a2 (rdW s.int.2 k).2 left2) ?_ ?_
      · exact ⟨_, 0, _, [], _, _, rfl, (congrFun hF16 19), (congrFun hF16 5), (Agree.refl _ _), g1, ⟨Nat.zero_le _, rfl, rfl, WOwnR.nil _ _, SegD.nil _ _, hp1⟩⟩
      · rintro mL0 fL0 wL0 ⟨k, vl, E, a2, left2, hmL0, e19_L0, e5_L0, hAL0, hwL0, ⟨hk, hEl, hEm, oL0, hsg, hp2⟩⟩
        have hzL := World.grownBy.size hwL0
        have oL := OwnT.of oL0
        refine WF.seq ?_
        refine WF.region ?_
        refine WL.va rfl rfl rfl (X.lss e19_L0 ((hAL0.eq 18).trans (congrFun hF16 18))) ?_
        refine WL.nil ?_
        refine thn_n ?_
        refine WF.seq ?_
        refine WF.cond rfl (fun h1_17 => ?_) (fun h1_17 => ?_)
        · have gh1_17 := (of_decide_eq_true h1_17)
          have hkn : k < s.int.1.toNat := by omega
          refine WF.skip ?_
          refine thn_n ?_
          refine WF.seq ?_
          refine WF.block ?_
          refine WF.seq ?_
          refine WF.region ?_
          refine WL.va rfl rfl rfl (X.move ((hAL0.eq 0).trans (congrFun hF16 0))) ?_
          refine WL.c rfl rfl rfl (X.call Try.call60 (evl_cons rfl evl_nil)) (rInt_ok r D left2 L a2 _ _ B hp2) ?_
          rintro v20 w19 ⟨rfl, ⟨a3, left3, hp3⟩, hx21⟩
          have := World.grownBy.size hx21
          replace oL := oL.kept hx21 (fun b hb => by have := (hrl b hb).2; omega)
          have g2 := hx21
          have hz2 := World.grownBy.size g2
          refine WL.va rfl rfl rfl (X.buildL (P := Try.prog) (t := 52) (cs := [i64 (rdW s.int.2 k).2.int.1, .slice none 0 0]) (evp_cons rfl evp_nil) Try.type52 Try.underlying52 rfl rfl ⟨rfl, trivial⟩ rfl) ?_
          refine WL.op rfl (OW.allocO (cs := [i64 0, .slice none 0 0]) Try.zeroValue52 rfl ?_ (by decide))
          intro g6 w22 heg6 hlg6 hO6 hx24
          have := World.grownBy.size hx24
          have gA := hx24
          refine WL.op rfl (OW.storeOA hO6 rfl rfl rfl (by simp [Value.oneCell']) Try.sizeOf52 ?_)
          intro w26 hO6 hx28
          have := World.grownBy.size hx28
          replace oL := (oL.ext hx24).keptO hx28 (by omega)
          have gB := hx28
          refine WL.nil ?_
          refine thn_n ?_
          refine WF.seq ?_
          refine WF.region ?_
          refine WL.va rfl rfl rfl (X.move ((hAL0.eq 0).trans (congrFun hF16 0))) ?_
          have hp3b : PR w26 B r D L a3 _ left3 := (hp3.ext gA).kept gB (.inr fun e => by have := (hrl _ e).2; omega) (.inr fun e => by have := (hDl _ e).2; omega)
          refine WL.c rfl rfl rfl (X.call Try.call64 (evl_cons rfl evl_nil)) (rBlob_ok r D left3 L a3 _ _ B hp3b) ?_
          rintro vd w30 ⟨⟨a4, a5, left5, hs5, hb5, hp5⟩, hx31⟩
          have := World.grownBy.size hx31
          replace oL := oL.kept hx31 (fun b hb => by have := (hrl b hb).2; omega)
          replace hO6 := hO6.keptR hx31 (fun b hb => by have := (hrl b hb).2; omega)
          have g3 := hx31
          have hz3 := World.grownBy.size g3
          refine WL.va rfl rfl rfl (X.fieldAddrO (off := 1) rfl Try.underlying52 rfl rfl Try.sizeOf24) ?_
          refine WL.op rfl (OW.storeO hO6 (Nat.le_of_ble_eq_true rfl) rfl rfl (Row.one hb5) Try.sizeOf24 ?_)
          intro w32 hO6 hx34
          have := World.grownBy.size hx34
          replace oL := oL.keptO hx34 (by omega)
          have gC := hx34
          have hz4 := World.grownBy.size gC
          have gX := grown_nw (grown2 (grown_nw (grown_ext (grown2 hwL0 g2) gA) gB (fun i hi => by injection hi with hi; omega)) g3) gC (fun i hi => by injection hi with hi; omega)
          have hp6 := hp5.kept gC (.inr fun e => by have := (hrl _ e).2; omega) (.inr fun e => by have := (hDl _ e).2; omega)
          have hb6 : Bytes w32 vd _ := seg_bytes hs5 hp6.own (by have := hp5.inn; omega)
          refine WL.nil ?_
          refine thn_n ?_
          refine WF.seq ?_
          refine WF.seq ?_
          refine WF.region ?_
          refine WL.va rfl rfl rfl (X.move ((hAL0.eq 0).trans (congrFun hF16 0))) ?_
          refine WL.c rfl rfl rfl (X.call Try.call86 (evl_cons rfl evl_nil)) (rBad_ok r D left5 L a5 _ _ B hp6) ?_
          rintro v37 w36 ⟨rfl, rfl⟩
          refine WL.nil ?_
          refine thn_n ?_
          refine WF.cond rfl (fun h2_39 => ?_) (fun h2_39 => ?_)
          · have gh2_39 := h2_39
            refine WF.seq ?_
            refine WF.region ?_
            refine WL.va rfl rfl rfl (X.assign rfl) ?_
            refine WL.va rfl rfl rfl (X.assignB rfl) ?_
            refine WL.nil ?_
            refine thn_n ?_
            refine WF.ret ?_
            refine thn_r ?_
            refine blk_r ?_
            refine thn_r ?_
            refine thn_r ?_
            refine blk_r ?_
            refine thn_r ?_
            refine fin_r ?_
            exact ⟨⟨_, _, rfl, rfl, fun _ => .inr (.inr (rdW_bad (j := k + 1) (by assumption) _ (by omega))), fun q => (by cases q)⟩, gX⟩
          · have gh2_39 := h2_39
            refine WF.skip ?_
            refine thn_n ?_
            refine WF.region ?_
            refine WL.va rfl rfl rfl (X.move e5_L0) ?_
            refine WL.va rfl rfl rfl (X.loadOA hO6 (Ext.refl _) rfl rfl Try.isAgg52 Try.sizeOf52) ?_
            refine WL.op rfl (OW.lits (vs := [agg (WV.c (⟨(rdW s.int.2 k).2.int.1, (rdW s.int.2 k).2.int.2.blob.1⟩, vd))]) (evp_cons rfl evp_nil) Try.underlying23 Try.sizeOf52 Try.zeroValue52 ⟨rfl, trivial⟩ rfl rfl rfl ?_ (by decide))
            intro v43 w42 ho45 hx44
            have := World.grownBy.size hx44
            have o1 : World.ownsRow w42 _ 52 2 v43 1 (WV.c (⟨(rdW s.int.2 k).2.int.1, (rdW s.int.2 k).2.int.2.blob.1⟩, vd)) := ho45
            have gD := hx44
            refine WL.op rfl (OW.append (bytes := 32) ((oL.ext hx44)).own (Row.of_own o1) (WV.c_one (e := (⟨(rdW s.int.2 k).2.int.1, (rdW s.int.2 k).2.int.2.blob.1⟩, vd)) (Row.ext hb6 gD)) rfl rfl Try.underlying23 Try.type52 rfl rfl rfl rfl (by decide) (by unfold maxLen; omega) (by omega) (by omega) ?_ (by decide))
            intro v47 w46 ho49 hx48 hmvhx48
            have ho2 := ho49
            have gE := hx48
            have gALL := grown_nw (grown_ext (grown_nw (grown2 (grown_nw (grown_ext (grown2 hwL0 g2) gA) gB (fun i hi => by injection hi with hi; omega)) g3) gC (fun i hi => by injection hi with hi; omega)) gD) gE (fun i hi => (oL0.lt i hi).1)
            have hpE := (hp6.ext gD).kept gE (ne_of (fun b hb => (hrl b hb).2) (fun b hb => (oL0.lt b hb).1)) (ne_of (fun b hb => (hDl b hb).2) (fun b hb => (oL0.lt b hb).1))
            refine WL.va rfl rfl rfl (X.assign rfl) ?_
            refine WL.nil ?_
            refine blk_n ?_
            refine thn_n ?_
            refine WF.region ?_
            refine WL.va rfl rfl rfl (X.add e19_L0 rfl (w64 (by omega))) ?_
            refine WL.va rfl rfl rfl (X.moveI rfl) ?_
            refine WL.nil ?_
            exact thn_n ⟨_, (by omega), k + 1, _, _, _, _, rfl, rfl, rfl, (by repeat (first | exact hAL0 | refine Agree.put ?_ rfl | refine Agree.named hF16 ?_)), gALL, ⟨by omega, by simp [hEl], by rw [List.map_append, hEm]; rfl, WOwnR.app ho2, hsg.app hs5 hb5 hp5, hpE⟩⟩
        · have gh1_17 := (of_decide_eq_false h1_17)
          refine WF.exit ?_
          refine thn_x ?_
          refine thn_x ?_
          refine blk_eq ?_
          refine thn_n ?_
          refine WF.seq ?_
          refine WF.region ?_
          refine WL.va rfl rfl rfl (X.move e5_L0) ?_
          refine WL.va rfl rfl rfl (X.assign rfl) ?_
          refine WL.va rfl rfl rfl (X.assignB rfl) ?_
          refine WL.nil ?_
          refine thn_n ?_
          refine WF.ret ?_
          refine fin_r ?_
          have hkz : k = s.int.1.toNat := by omega
          subst hkz
          exact ⟨⟨_, _, rfl, own_one oL0, fun q => (by cases q), fun _ => ⟨by omega, E, hEm, oL0, hsg, a2, left2, hp2⟩⟩, hwL0⟩

end Go.Proofs.Ythaojdpeimlngaa
