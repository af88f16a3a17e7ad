/- The walks of both and PackReads. -/
import Derived.Test.YtlcgjeebgjiebaaPackQ
import Derived.Test.YtlcgjeebgjiebaaPackT
namespace Go.Proofs.Ytlcgjeebgjiebaa
open Go Go.RowKit Kf

theorem bytes_inj {w : World} {v : Value} {l l' : List UInt8} (h : Bytes w v l) (h' : Bytes w v l') : l = l' := by
  have e : l.length = l'.length := by
    obtain ⟨a, c, e1, _⟩ := h.shape
    obtain ⟨a', c', e2, _⟩ := h'.shape
    rw [e1] at e2
    injection e2
  apply List.ext_getElem e
  intro i h1 h2
  have c1 := h.cell i (u8 l[i]) (by simp [h1])
  have c2 := h'.cell i (u8 l'[i]) (by simp [h2])
  rw [c1] at c2
  injection c2 with c3
  injection c3 with _ c4
  exact byte_eq c4
/-- two readers, of one state, that share nothing; all of it is newer than w0 -/
structure Two (w0 w : World) (B B2 : Nat) (r D x vb : Value) (L : List UInt8) (a : Nat) (left : Value) (L2 : List UInt8) (a2 : Nat) (s : Pk.RS) : Prop where
  p : PR w B r D L a s left
  q : RR w B2 x vb L2 a2 s
  rx : Apart (asRow r) (asRow x)
  rv : Apart (asRow r) vb
  dx : Apart D (asRow x)
  dv : Apart D vb
  hB : w0.heap.size ≤ B
  hB2 : w0.heap.size ≤ B2
  ext : Ext w0 w
section
variable {w0 w w' : World} {B B2 : Nat} {r D x vb : Value} {L : List UInt8} {a a' : Nat} {left left' : Value} {L2 : List UInt8} {a2 a2' : Nat} {s s' : Pk.RS}
theorem Two.keptE (h : Two w0 w B B2 r D x vb L a left L2 a2 s) (g : Ext w w') : Two w0 w' B B2 r D x vb L a left L2 a2 s := ⟨h.p.ext g, h.q.ext g, h.rx, h.rv, h.dx, h.dv, h.hB, h.hB2, h.ext.trans g⟩
/-- behind both calls -/
theorem Two.both (h : Two w0 w B B2 r D x vb L a left L2 a2 s) {w1 w2 : World} (p : PR w1 B r D L a' s' left') (g : w.grownBy w1 (asRow r).ownBlock) (q : RR w2 B2 x vb L2 a2' s') (g2 : w1.grownBy w2 (asRow x).ownBlock) : Two w0 w2 B B2 r D x vb L a' left' L2 a2' s' :=
  ⟨p.kept g2 h.rx.ne h.dx.ne, q, h.rx, h.rv, h.dx, h.dv, h.hB, h.hB2, Ext.own (Ext.own h.ext h.p.var.row h.hB g) (h.q.kept g h.rx.symm.ne h.rv.symm.ne).var.row h.hB2 g2⟩
/-- behind a write into what was told -/
theorem Two.spoiled (h : Two w0 w B B2 r D x vb L a left L2 a2 s) {L' : List UInt8} (ho : OwnB w' B 5 D L') (hl : L'.length = L.length) (hat : ∀ i, a ≤ i → L'.getD i 0 = L.getD i 0) (g : w.grownBy w' D.ownBlock) : Two w0 w' B B2 r D x vb L' a left L2 a2 s := by
  refine ⟨⟨h.p.var.kept g h.p.apart.ne, ho, h.p.apart, h.p.seg, by rw [hl]; exact h.p.inn, ?_, h.p.ok, by rw [hl]; exact h.p.small⟩, h.q.kept g h.dx.symm.ne h.dv.symm.ne, h.rx, h.rv, h.dx, h.dv, h.hB, h.hB2, Ext.own h.ext h.p.own h.hB g⟩
  have : L'.drop a = L.drop a := by
    apply List.ext_getElem (by simp [hl])
    intro i h1 h2
    have := hat (a + i) (by omega)
    simp only [List.length_drop] at h1 h2
    rw [List.getD_eq_getElem?_getD, List.getD_eq_getElem?_getD, List.getElem?_eq_getElem (by omega), List.getElem?_eq_getElem (by omega)] at this
    simpa using this
  rw [this]
  exact h.p.eq
theorem Two.keptI (h : Two w0 w B B2 r D x vb L a left L2 a2 s) {v : Value} {e : TypeId} {n sz B3 : Nat} {xs : List Value} (ho : w.ownsRow B3 e sz v n xs) (hB3 : w0.heap.size ≤ B3) (g : w.grownBy w' v.ownBlock) (h1 : Apart (asRow r) v) (h2 : Apart D v) (h3 : Apart (asRow x) v) (h4 : Apart vb v) : Two w0 w' B B2 r D x vb L a left L2 a2 s :=
  ⟨h.p.kept g h1.ne h2.ne, h.q.kept g h3.ne h4.ne, h.rx, h.rv, h.dx, h.dv, h.hB, h.hB2, Ext.own h.ext ho hB3 g⟩
end
theorem both_ok (r D x vb left : Value) (L L2 : List UInt8) (a a2 : Nat) (s : Pk.RS) (kind : Int) (w0 w : World) (B B2 : Nat) (h : Two w0 w B B2 r D x vb L a left L2 a2 s) : FnOk Try.prog 24 [r, x, i64 kind] w (fun v w' => v = .bool true ∧ ∃ L' a' left' a2' s', Two w0 w' B B2 r D x vb L' a' left' L2 a2' s') := by
  refine FnOk.enter (rs := [6]) Try.func24 rfl Try.ntmps24 Try.results24 rfl rfl ?_
  refine WF.seq ?_
  refine WF.region ?_
  refine WL.va rfl rfl rfl (X.assignB rfl) ?_
  refine WL.nil ?_
  refine thn_n ?_
  refine WF.seq ?_
  refine WF.seq ?_
  refine WF.region ?_
  refine WL.va rfl rfl rfl (X.moveI rfl) ?_
  refine WL.nil ?_
  refine thn_n ?_
  refine WF.block ?_
  refine WF.seq ?_
  refine WF.region ?_
  refine WL.va rfl rfl rfl (X.eql rfl rfl) ?_
  refine WL.va rfl rfl rfl (X.assignB rfl) ?_
  refine WL.nil ?_
  refine thn_n ?_
  refine WF.cond rfl (fun h0_2 => ?_) (fun h0_2 => ?_)
  · have gh0_2 := (of_decide_eq_true h0_2)
    refine WF.seq ?_
    refine WF.region ?_
    refine WL.va rfl rfl rfl (X.move rfl) ?_
    refine WL.c rfl rfl rfl (X.call Try.call35 (evl_cons rfl evl_nil)) (rInt_ok r _ _ _ _ _ _ _ h.p) ?_
    rintro v5 w4 ⟨rfl, ⟨a1, left1, p1⟩, hx6⟩
    have g1 := hx6
    have q0 := h.q.kept hx6 h.rx.symm.ne h.rv.symm.ne
    refine WL.va rfl rfl rfl (X.move rfl) ?_
    refine WL.c rfl rfl rfl (X.call Try.call42 (evl_cons rfl evl_nil)) (qInt_ok x _ _ _ _ _ _ q0) ?_
    rintro v8 w7 ⟨rfl, ⟨a3, q1⟩, hx9⟩
    have t := h.both p1 g1 q1 hx9
    refine WL.va rfl rfl rfl (X.eql rfl rfl) ?_
    refine WL.va rfl rfl rfl (X.assignB rfl) ?_
    refine WL.nil ?_
    refine thn_n ?_
    refine WF.ret ?_
    refine blk_r ?_
    refine thn_r ?_
    refine fin_r ?_
    first | exact ⟨congrArg Value.bool (decide_eq_true rfl), _, _, _, _, _, t⟩ | exact ⟨rfl, _, _, _, _, _, h⟩
  · have gh0_2 := (of_decide_eq_false h0_2)
    refine WF.seq ?_
    refine WF.region ?_
    refine WL.va rfl rfl rfl (X.eql rfl rfl) ?_
    refine WL.va rfl rfl rfl (X.assignB rfl) ?_
    refine WL.nil ?_
    refine thn_n ?_
    refine WF.cond rfl (fun h1_11 => ?_) (fun h1_11 => ?_)
    · have gh1_11 := (of_decide_eq_true h1_11)
      refine WF.seq ?_
      refine WF.region ?_
      refine WL.va rfl rfl rfl (X.move rfl) ?_
      refine WL.c rfl rfl rfl (X.call Try.call37 (evl_cons rfl evl_nil)) (rBlob_ok r _ _ _ _ _ _ _ h.p) ?_
      rintro v14 w13 ⟨⟨b1, a1, left1, hsg, f1, p1⟩, hx15⟩
      have g1 := hx15
      have q0 := h.q.kept hx15 h.rx.symm.ne h.rv.symm.ne
      have hin1 := p1.inn
      have heq := bytes_inj (seg_bytes hsg p1.own (by omega)) f1
      refine WL.va rfl rfl rfl (X.assign rfl) ?_
      refine WL.nil ?_
      refine thn_n ?_
      refine WF.seq ?_
      refine WF.region ?_
      refine WL.va rfl rfl rfl (X.move rfl) ?_
      refine WL.va rfl rfl rfl (X.move rfl) ?_
      refine WL.c rfl rfl rfl (X.call Try.call43 (evl_cons rfl evl_nil)) (qBlob_ok x _ _ _ _ _ _ q0) ?_
      rintro v17 w16 ⟨oq, ⟨a3, q1⟩, hx18⟩
      have t := h.both p1 g1 q1 hx18
      have f2 := Bytes.of_own oq
      have f3 := heq ▸ seg_bytes hsg t.p.own (by omega)
      refine WL.c rfl rfl rfl (X.call Try.call15 (evl_cons rfl (evl_cons rfl evl_nil))) (sameBytes_ok _ _ _ _ _ f3 f2) ?_
      rintro v20 w19 ⟨rfl, hx21⟩
      have t := t.keptE hx21
      refine WL.va rfl rfl rfl (X.assignB rfl) ?_
      refine WL.nil ?_
      refine thn_n ?_
      refine WF.seq ?_
      refine WF.region ?_
      refine WL.va rfl rfl rfl (X.move rfl) ?_
      refine WL.c rfl rfl rfl (X.call Try.call19 (evl_cons rfl evl_nil)) (spoilSeg_ok D _ L _ _ _ B t.p.own hsg (by omega)) ?_
      rintro v24 w23 ⟨⟨L9, ho9, hl9, hat9⟩, hx25⟩
      have t := t.spoiled ho9 hl9 hat9 hx25
      refine WL.nil ?_
      refine thn_n ?_
      refine WF.seq ?_
      refine WF.region ?_
      refine WL.va rfl rfl rfl (X.moveB rfl) ?_
      refine WL.va rfl rfl rfl (X.assignB rfl) ?_
      refine WL.nil ?_
      refine thn_n ?_
      refine WF.ret ?_
      refine blk_r ?_
      refine thn_r ?_
      refine fin_r ?_
      first | exact ⟨congrArg Value.bool (decide_eq_true rfl), _, _, _, _, _, t⟩ | exact ⟨rfl, _, _, _, _, _, h⟩
    · have gh1_11 := (of_decide_eq_false h1_11)
      refine WF.seq ?_
      refine WF.region ?_
      refine WL.va rfl rfl rfl (X.eql rfl rfl) ?_
      refine WL.va rfl rfl rfl (X.assignB rfl) ?_
      refine WL.nil ?_
      refine thn_n ?_
      refine WF.cond rfl (fun h2_26 => ?_) (fun h2_26 => ?_)
      · have gh2_26 := (of_decide_eq_true h2_26)
        refine WF.seq ?_
        refine WF.region ?_
        refine WL.va rfl rfl rfl (X.move rfl) ?_
        refine WL.c rfl rfl rfl (X.call Try.call44 (evl_cons rfl evl_nil)) (rInts_ok r _ _ _ _ _ _ _ h.p) ?_
        rintro v29 w28 ⟨⟨a1, left1, oi, p1⟩, hx30⟩
        have g1 := hx30
        have q0 := h.q.kept hx30 h.rx.symm.ne h.rv.symm.ne
        have i1 := own_apart h.p.var.row oi (Nat.le_refl _)
        have i2 := own_apart h.p.own oi (Nat.le_refl _)
        have i3 := own_apart h.q.var.row oi (Nat.le_refl _)
        have i4 := own_apart h.q.own oi (Nat.le_refl _)
        have szw := h.ext.size
        refine WL.va rfl rfl rfl (X.assign rfl) ?_
        refine WL.nil ?_
        refine thn_n ?_
        refine WF.seq ?_
        refine WF.region ?_
        refine WL.va rfl rfl rfl (X.move rfl) ?_
        refine WL.va rfl rfl rfl (X.move rfl) ?_
        refine WL.c rfl rfl rfl (X.call Try.call45 (evl_cons rfl evl_nil)) (qInts_ok x _ _ _ _ _ _ q0) ?_
        rintro v32 w31 ⟨oq, ⟨a3, q1⟩, hx33⟩
        have t := h.both p1 g1 q1 hx33
        have f2 := Ints.of_own oq
        have oi : OwnI w31 _ _ _ _ := World.ownsRow.kept oi hx33 i3.symm.ne
        refine WL.c rfl rfl rfl (X.call Try.call40 (evl_cons rfl (evl_cons rfl evl_nil))) (sameInts_ok _ _ _ _ _ (Ints.of_own oi) f2) ?_
        rintro v35 w34 ⟨rfl, hx36⟩
        have t := t.keptE hx36
        have oi := oi.ext hx36
        refine WL.va rfl rfl rfl (X.assignB rfl) ?_
        refine WL.nil ?_
        refine thn_n ?_
        refine WF.seq ?_
        refine WF.region ?_
        refine WL.va rfl rfl rfl (X.move rfl) ?_
        refine WL.c rfl rfl rfl (X.call Try.call46 (evl_cons rfl evl_nil)) (spoilInts_ok _ _ _ _ oi) ?_
        rintro v39 w38 ⟨_, hx40⟩
        have t := t.keptI oi szw hx40 i1 i2 i3 i4
        refine WL.nil ?_
        refine thn_n ?_
        refine WF.seq ?_
        refine WF.region ?_
        refine WL.va rfl rfl rfl (X.moveB rfl) ?_
        refine WL.va rfl rfl rfl (X.assignB rfl) ?_
        refine WL.nil ?_
        refine thn_n ?_
        refine WF.ret ?_
        refine blk_r ?_
        refine thn_r ?_
        refine fin_r ?_
        first | exact ⟨congrArg Value.bool (decide_eq_true rfl), _, _, _, _, _, t⟩ | exact ⟨rfl, _, _, _, _, _, h⟩
      · have gh2_26 := (of_decide_eq_false h2_26)
        refine WF.skip ?_
        refine blk_n ?_
        refine thn_n ?_
        refine WF.seq ?_
        refine WF.region ?_
        refine WL.va rfl rfl rfl (X.assignB rfl) ?_
        refine WL.nil ?_
        refine thn_n ?_
        refine WF.ret ?_
        refine fin_r ?_
        first | exact ⟨congrArg Value.bool (decide_eq_true rfl), _, _, _, _, _, t⟩ | exact ⟨rfl, _, _, _, _, _, h⟩

theorem packReads_walk (v : Value) (b : List UInt8) (vk : Value) (kl : List Int) (w : World) (hb : Bytes w v b) (hz : b.length ≤ 140737488351232) (hl : Ints w vk kl) (_hil : In64 kl) (_hzl : kl.length ≤ 17592186043904) : FnOk Try.prog 4 [v, vk] w (fun r w' => r = .bool true ∧ Ext w w') := by
  refine FnOk.enter (rs := [4]) Try.func4 rfl Try.ntmps4 Try.results4 rfl rfl ?_
  refine WF.seq ?_
  refine WF.region ?_
  refine WL.va rfl rfl rfl (X.assignB rfl) ?_
  refine WL.nil ?_
  refine thn_n ?_
  refine WF.seq ?_
  refine WF.seq ?_
  refine WF.region ?_
  refine WL.va rfl rfl rfl (X.move rfl) ?_
  refine WL.va rfl rfl rfl (X.len hb rfl Try.underlying22) ?_
  refine WL.va rfl rfl rfl (X.gtr rfl rfl) ?_
  refine WL.va rfl rfl rfl (X.moveB rfl) ?_
  refine WL.split (j := 3) rfl (fun h3 => ?_) (fun h3 => ?_)
  · have gh3 := (of_decide_eq_true h3)
    refine WL.p rfl rfl rfl (congrArg some h3) ?_
    refine WL.p rfl rfl rfl (congrArg some h3) ?_
    refine WL.p rfl rfl rfl (congrArg some h3) ?_
    refine WL.va rfl rfl rfl (X.pickT rfl h3 rfl) ?_
    refine WL.nil ?_
    refine thn_n ?_
    refine WF.cond_t rfl ?_
    refine WF.seq ?_
    refine WF.region ?_
    refine WL.c rfl rfl rfl (X.call Try.call9 evl_nil) (works_ok _) ?_
    rintro v6 w5 ⟨rfl, hx7⟩
    refine WL.va rfl rfl rfl (X.assignB rfl) ?_
    refine WL.nil ?_
    refine thn_n ?_
    refine WF.ret ?_
    refine thn_r ?_
    refine fin_r ?_
    exact ⟨rfl, hx7⟩
  · have gh3 := (of_decide_eq_false h3)
    refine WL.vg rfl (congrArg some h3) rfl rfl (X.move rfl) ?_
    refine WL.vg rfl (congrArg some h3) rfl rfl (X.len hl rfl Try.underlying23) ?_
    refine WL.vg rfl (congrArg some h3) rfl rfl (X.gtr rfl rfl) ?_
    refine WL.va rfl rfl rfl (X.pickF rfl h3 rfl) ?_
    refine WL.nil ?_
    refine thn_n ?_
    refine WF.cond rfl (fun h0_9 => ?_) (fun h0_9 => ?_)
    · have gh0_9 := (of_decide_eq_true h0_9)
      refine WF.seq ?_
      refine WF.region ?_
      refine WL.c rfl rfl rfl (X.call Try.call9 evl_nil) (works_ok _) ?_
      rintro v12 w11 ⟨rfl, hx13⟩
      refine WL.va rfl rfl rfl (X.assignB rfl) ?_
      refine WL.nil ?_
      refine thn_n ?_
      refine WF.ret ?_
      refine thn_r ?_
      refine fin_r ?_
      exact ⟨rfl, hx13⟩
    · have gh0_9 := (of_decide_eq_false h0_9)
      refine WF.skip ?_
      refine thn_n ?_
      refine WF.seq ?_
      refine WF.region ?_
      refine WL.va rfl rfl rfl (X.move rfl) ?_
      refine WL.c rfl rfl rfl (X.call Try.call10 (evl_cons rfl evl_nil)) (lentBytes_ok _ _ _ hb (by omega)) ?_
      rintro vc w15 ⟨ox, hx16⟩
      have szc := World.grownBy.size hx16
      have hx1 := hx16
      refine WL.va rfl rfl rfl (X.assign rfl) ?_
      refine WL.nil ?_
      refine thn_n ?_
      refine WF.seq ?_
      refine WF.region ?_
      refine WL.va rfl rfl rfl (X.move rfl) ?_
      refine WL.va rfl rfl rfl (X.move rfl) ?_
      refine WL.va rfl rfl rfl (X.len hb rfl Try.underlying22) ?_
      refine WL.va rfl rfl rfl (X.slH (Bytes.of_own ox) rfl rfl (by simp) Try.underlying22 Try.sizeOf5) ?_
      refine WL.c rfl rfl rfl (X.call Try.call22 (evl_cons rfl evl_nil)) (read_ok _ _ _ (lent_part ox) (by omega)) ?_
      rintro vr w17 ⟨⟨D, left, p0⟩, hx18⟩
      have c1 := (own_apart ox p0.var.row (Nat.le_refl _)).symm
      have c2 := (own_apart ox p0.own (Nat.le_refl _)).symm
      have ox := ox.ext hx18
      have hx2 := Ext.trans hx1 hx18
      refine WL.va rfl rfl rfl (X.assign rfl) ?_
      refine WL.nil ?_
      refine thn_n ?_
      refine WF.seq ?_
      refine WF.region ?_
      refine WL.va rfl rfl rfl (X.move rfl) ?_
      refine WL.c rfl rfl rfl (X.call Try.call23 (evl_cons rfl evl_nil)) (qRead_ok _ _ _ (hb.ext (Ext.trans hx16 hx18)) (by omega)) ?_
      rintro vx w19 ⟨⟨vb, q0⟩, hx20⟩
      have c3 := (own_apart ox q0.var.row (Nat.le_refl _)).symm
      have c4 := (own_apart ox q0.own (Nat.le_refl _)).symm
      have ox := ox.ext hx20
      obtain ⟨B1, B2, t⟩ : ∃ B1 B2, Two w w19 B1 B2 vr D vx vb b 0 left b 0 ⟨b, false⟩ := ⟨_, _, ⟨p0.ext hx20, q0, own_apart p0.var.row q0.var.row (Nat.le_refl _), own_apart p0.var.row q0.own (Nat.le_refl _), own_apart p0.own q0.var.row (Nat.le_refl _), own_apart p0.own q0.own (Nat.le_refl _), hx1.size, hx2.size, hx2.trans hx20⟩⟩
      refine WL.va rfl rfl rfl (X.assign rfl) ?_
      refine WL.nil ?_
      refine thn_n ?_
      refine WF.seq ?_
      refine WF.seq ?_
      refine WF.region ?_
      refine WL.va rfl rfl rfl (X.move rfl) ?_
      refine WL.va rfl rfl rfl (X.eqlNil p0.var rfl rfl Try.underlying34) ?_
      refine WL.va rfl rfl rfl (X.moveB rfl) ?_
      refine WL.vg rfl rfl rfl rfl (X.move rfl) ?_
      refine WL.vg rfl rfl rfl rfl (X.move rfl) ?_
      refine WL.cg rfl rfl rfl rfl (X.call Try.call20 (evl_cons rfl (evl_cons rfl evl_nil))) (keptBytes_ok _ _ _ _ _ (Bytes.of_own ox) (hb.ext (Ext.trans (Ext.trans hx16 hx18) hx20)) (by omega)) ?_
      rintro v23 w22 ⟨rfl, hx24⟩
      have t := t.keptE hx24
      have ox := ox.ext hx24
      refine WL.vg rfl rfl rfl rfl (X.not rfl) ?_
      refine WL.va rfl rfl rfl (X.pickF rfl rfl rfl) ?_
      refine WL.nil ?_
      refine thn_n ?_
      refine WF.cond rfl (fun h1_26 => ?_) (fun h1_26 => ?_)
      · have gh1_26 := (of_decide_eq_false (nt h1_26))
        exact absurd rfl gh1_26
      · have gh1_26 := (of_decide_eq_true (nf h1_26))
        refine WF.skip ?_
        refine thn_n ?_
        refine WF.seq ?_
        refine WF.region ?_
        refine WL.va rfl rfl rfl (X.move rfl) ?_
        refine WL.c rfl rfl rfl (X.call Try.call19 (evl_cons rfl evl_nil)) (spoilBytes_ok _ _ _ _ ox) ?_
        rintro v29 w28 ⟨_, hx30⟩
        have t := t.keptI ox (Nat.le_refl _) hx30 c1 c2 c3 c4
        have e5 := t.ext
        refine WL.nil ?_
        refine thn_n ?_
        refine WF.seq ?_
        refine WF.seq ?_
        refine WF.region ?_
        refine WL.va rfl rfl rfl (X.assignI rfl) ?_
        refine WL.nil ?_
        refine thn_n ?_
        refine WF.block ?_
        refine WF.named (fun F31 hF32 => ?_)
        refine WF.loopN (fun mL0 f' w' => ∃ (k : Nat) (L1 : List UInt8) (a1 : Nat) (left1 : Value) (a2 : Nat) (s : Pk.RS), mL0 = kl.length - k ∧ f' 8 = .int .i64 (k : Int) ∧ Agree [0, 1, 5, 6, 7, 9, 10, 11, 12, 13, 14, 15, 16, 18, 19, 20, 21, 22, 23, 24, 25, 26, 27, 28, 29, 30, 31, 32, 33, 34, 35] f' F31 ∧ Ext w w' ∧ k ≤ kl.length ∧ Two w w' B1 B2 vr D vx vb L1 a1 left1 b a2 s) ?_ ?_
        · exact ⟨_, 0, _, _, _, _, _, rfl, (congrFun hF32 8), (Agree.refl _ _), (e5), ⟨Nat.zero_le _, t⟩⟩
        · rintro mL0 fL0 wL0 ⟨k, L1, a1, left1, a2, s, hmL0, e8_L0, hAL0, hwL0, ⟨hk, t⟩⟩
          refine WF.seq ?_
          refine WF.seq ?_
          refine WF.region ?_
          refine WL.va rfl rfl rfl (X.moveI e8_L0) ?_
          refine WL.va rfl rfl rfl (X.move ((hAL0.eq 1).trans (congrFun hF32 1))) ?_
          refine WL.va rfl rfl rfl (X.len hl rfl Try.underlying23) ?_
          refine WL.va rfl rfl rfl (X.lss rfl rfl) ?_
          refine WL.nil ?_
          refine thn_n ?_
          refine WF.cond rfl (fun h2_33 => ?_) (fun h2_33 => ?_)
          · have gh2_33 := (of_decide_eq_true h2_33)
            refine WF.skip ?_
            refine thn_n ?_
            refine WF.seq ?_
            refine WF.block ?_
            refine WF.seq ?_
            refine WF.drawn (.q 0 (.q 1 (.q 2 (.q 3 (.q 4 (.q 5 (.l 6 (.q 7 (.q 8 (.q 9 (.q 11 (.l 10 (.l 12 (.q 13 (.q 14 (.q 15 (.q 16 (.q 18 (.q 19 (.q 20 (.b 17 21 (.l 21 (.q 22 (.q 23 (.q 24 (.q 25 (.q 27 (.l 26 (.l 28 (.q 29 (.q 30 .nil)))))))))) (.l 17 (.q 22 (.q 23 (.q 24 (.q 25 (.q 27 (.l 26 (.l 28 (.q 29 (.q 30 .nil))))))))))))))))))))))))))))))) (fun w' => Ext w w') 31 (by kernel_rfl) (by kernel_rfl) (Ext.trans hwL0 (Ext.drew _)) ?_
            refine WO.q rfl rfl rfl rfl (fun w' hE35 => (X.move ((hAL0.eq 6).trans (congrFun hF32 6)))) ?_
            refine WO.q rfl rfl rfl rfl (fun w' hE35 => (X.move ((hAL0.eq 7).trans (congrFun hF32 7)))) ?_
            refine WO.q rfl rfl rfl rfl (fun w' hE35 => (X.move ((hAL0.eq 1).trans (congrFun hF32 1)))) ?_
            refine WO.q rfl rfl rfl rfl (fun w' hE35 => (X.moveI e8_L0)) ?_
            refine WO.q rfl rfl rfl rfl (fun w' hE35 => (X.idx hl rfl rfl (by omega) Try.underlying23 Try.sizeOf3)) ?_
            refine WO.q rfl rfl rfl rfl (fun w' hE35 => (X.loadI hl hE35 rfl (by omega) Try.isAgg3)) ?_
            refine WO.l ?_
            refine LO.go rfl rfl (OW.enter rfl (by decide) (X.call Try.call24 (evl_cons rfl (evl_cons rfl (evl_cons rfl evl_nil)))) (both_ok vr D vx vb _ _ _ _ _ _ _ w _ _ _ (t.keptE (Ext.drew _))) ?_)
            rintro v37 w36 ⟨rfl, L3, a3, left3, a4, s3, t3⟩
            refine ⟨t3.ext, ?_⟩
            refine WO.q rfl rfl rfl rfl (fun w' hE35 => (X.not rfl)) ?_
            refine WO.q rfl rfl rfl rfl (fun w' hE35 => (X.moveB rfl)) ?_
            refine WO.split (j := 8) rfl (fun h41 => ?_) (fun h41 => ?_)
            · have gh41 := (nt h41)
              exact absurd gh41 (by decide)
            · have gh41 := (nf h41)
              refine WO.qg rfl rfl (congrArg some h41) rfl rfl (fun w' hE35 => (X.move ((hAL0.eq 6).trans (congrFun hF32 6)))) ?_
              refine WO.qg rfl rfl (congrArg some h41) rfl rfl (fun w' hE35 => (X.move ((hAL0.eq 7).trans (congrFun hF32 7)))) ?_
              refine WO.l ?_
              refine LO.gog rfl rfl (congrArg some h41) (OW.enter rfl (by decide) (X.call Try.call25 (evl_cons rfl evl_nil)) (rLeft_ok vr _ _ _ _ _ _ _ t3.p) ?_)
              rintro v43 w42 ⟨rfl, rfl⟩
              refine ⟨(t3.ext), ?_⟩
              refine WO.l ?_
              refine LO.gog rfl rfl (congrArg some h41) (OW.enter rfl (by decide) (X.call Try.call26 (evl_cons rfl evl_nil)) (qLeft_ok vx _ _ _ _ _ _ t3.q) ?_)
              rintro v46 w45 ⟨rfl, hx47⟩
              refine ⟨(Ext.trans (t3.ext) hx47), ?_⟩
              have t4 := t3.keptE hx47
              refine WO.qg rfl rfl (congrArg some h41) rfl rfl (fun w' hE35 => (X.neq rfl rfl)) ?_
              refine WO.q rfl rfl rfl rfl (fun w' hE35 => (X.pickF rfl h41 rfl)) ?_
              refine WO.q rfl rfl rfl rfl (fun w' hE35 => (X.moveB rfl)) ?_
              refine WO.split (j := 15) rfl (fun h49 => ?_) (fun h49 => ?_)
              · have gh49 := (of_decide_eq_true h49)
                exact absurd rfl gh49
              · have gh49 := (Decidable.of_not_not (of_decide_eq_false h49))
                refine WO.qg rfl rfl (congrArg some h49) rfl rfl (fun w' hE35 => (X.move ((hAL0.eq 6).trans (congrFun hF32 6)))) ?_
                refine WO.qg rfl rfl (congrArg some h49) rfl rfl (fun w' hE35 => (X.move ((hAL0.eq 7).trans (congrFun hF32 7)))) ?_
                refine WO.qg rfl rfl (congrArg some h49) rfl rfl (fun w' hE35 => (X.nilCheckV t3.q.var rfl)) ?_
                refine WO.qg rfl rfl (congrArg some h49) rfl rfl (fun w' hE35 => (X.fieldAddr t3.q.var rfl Try.underlying41 rfl rfl Try.sizeOf4)) ?_
                refine WO.b2 ?_ ?_
                · refine LO.gog rfl rfl (congrArg some h49) (OW.enter rfl (by decide) (X.call Try.call27 (evl_cons rfl evl_nil)) (rBad_ok vr _ _ _ _ _ _ _ t4.p) ?_)
                  rintro v51 w50 ⟨rfl, rfl⟩
                  refine ⟨(Ext.trans (t3.ext) hx47), ?_⟩
                  refine WO.l ?_
                  refine LO.gog rfl rfl (congrArg some h49) (OW.val rfl (by decide) (X.loadF t3.q.var hx47 rfl rfl Try.isAgg4) ?_)
                  refine ⟨(Ext.trans (t3.ext) hx47), ?_⟩
                  refine WO.qg rfl rfl (congrArg some h49) rfl rfl (fun w' hE35 => (X.neqB rfl rfl Try.underlying4)) ?_
                  refine WO.q rfl rfl rfl rfl (fun w' hE35 => (X.pickF rfl h49 rfl)) ?_
                  refine WO.q rfl rfl rfl rfl (fun w' hE35 => (X.moveB rfl)) ?_
                  refine WO.split (j := 24) rfl (fun h56 => ?_) (fun h56 => ?_)
                  · have gh56 := h56
                    exact absurd gh56 (by simp)
                  · have gh56 := h56
                    refine WO.qg rfl rfl (congrArg some h56) rfl rfl (fun w' hE35 => (X.move ((hAL0.eq 6).trans (congrFun hF32 6)))) ?_
                    refine WO.qg rfl rfl (congrArg some h56) rfl rfl (fun w' hE35 => (X.move ((hAL0.eq 7).trans (congrFun hF32 7)))) ?_
                    refine WO.l ?_
                    refine LO.gog rfl rfl (congrArg some h56) (OW.enter rfl (by decide) (X.call Try.call28 (evl_cons rfl evl_nil)) (rEnd_ok vr _ _ _ _ _ _ _ t4.p) ?_)
                    rintro v58 w57 ⟨rfl, rfl⟩
                    refine ⟨(Ext.trans (t3.ext) hx47), ?_⟩
                    refine WO.l ?_
                    refine LO.gog rfl rfl (congrArg some h56) (OW.enter rfl (by decide) (X.call Try.call29 (evl_cons rfl evl_nil)) (qEnd_ok vx _ _ _ _ _ _ t4.q) ?_)
                    rintro v61 w60 ⟨rfl, hx62⟩
                    refine ⟨(Ext.trans (Ext.trans (t3.ext) hx47) hx62), ?_⟩
                    have t5 := t4.keptE hx62
                    refine WO.qg rfl rfl (congrArg some h56) rfl rfl (fun w' hE35 => (X.neq rfl rfl)) ?_
                    refine WO.q rfl rfl rfl rfl (fun w' hE35 => (X.pickF rfl h56 rfl)) ?_
                    refine WO.nil ?_
                    refine WL.nil ?_
                    refine thn_n ?_
                    refine WF.cond rfl (fun h3_63 => ?_) (fun h3_63 => ?_)
                    · have gh3_63 := (of_decide_eq_true h3_63)
                      exact absurd rfl gh3_63
                    · have gh3_63 := (Decidable.of_not_not (of_decide_eq_false h3_63))
                      refine WF.skip ?_
                      refine blk_n ?_
                      refine thn_n ?_
                      refine WF.region ?_
                      refine WL.va rfl rfl rfl (X.moveI e8_L0) ?_
                      refine WL.va rfl rfl rfl (X.add rfl rfl (w64 (by omega))) ?_
                      refine WL.va rfl rfl rfl (X.assignI rfl) ?_
                      refine WL.nil ?_
                      exact thn_n ⟨_, (by omega), k + 1, _, _, _, _, _, rfl, rfl, (by repeat (first | exact hAL0 | refine Agree.put ?_ rfl | refine Agree.named hF32 ?_)), (Ext.trans (Ext.trans (t3.ext) hx47) hx62), ⟨by omega, t5⟩⟩
                · refine LO.gog rfl rfl (congrArg some h49) (OW.val rfl (by decide) (X.loadF t3.q.var hx47 rfl rfl Try.isAgg4) ?_)
                  refine ⟨(Ext.trans (t3.ext) hx47), ?_⟩
                  refine WO.l ?_
                  refine LO.gog rfl rfl (congrArg some h49) (OW.enter rfl (by decide) (X.call Try.call27 (evl_cons rfl evl_nil)) (rBad_ok vr _ _ _ _ _ _ _ t4.p) ?_)
                  rintro v67 w66 ⟨rfl, rfl⟩
                  refine ⟨(Ext.trans (t3.ext) hx47), ?_⟩
                  refine WO.qg rfl rfl (congrArg some h49) rfl rfl (fun w' hE35 => (X.neqB rfl rfl Try.underlying4)) ?_
                  refine WO.q rfl rfl rfl rfl (fun w' hE35 => (X.pickF rfl h49 rfl)) ?_
                  refine WO.q rfl rfl rfl rfl (fun w' hE35 => (X.moveB rfl)) ?_
                  refine WO.split (j := 24) rfl (fun h71 => ?_) (fun h71 => ?_)
                  · have gh71 := h71
                    exact absurd gh71 (by simp)
                  · have gh71 := h71
                    refine WO.qg rfl rfl (congrArg some h71) rfl rfl (fun w' hE35 => (X.move ((hAL0.eq 6).trans (congrFun hF32 6)))) ?_
                    refine WO.qg rfl rfl (congrArg some h71) rfl rfl (fun w' hE35 => (X.move ((hAL0.eq 7).trans (congrFun hF32 7)))) ?_
                    refine WO.l ?_
                    refine LO.gog rfl rfl (congrArg some h71) (OW.enter rfl (by decide) (X.call Try.call28 (evl_cons rfl evl_nil)) (rEnd_ok vr _ _ _ _ _ _ _ t4.p) ?_)
                    rintro v73 w72 ⟨rfl, rfl⟩
                    refine ⟨(Ext.trans (t3.ext) hx47), ?_⟩
                    refine WO.l ?_
                    refine LO.gog rfl rfl (congrArg some h71) (OW.enter rfl (by decide) (X.call Try.call29 (evl_cons rfl evl_nil)) (qEnd_ok vx _ _ _ _ _ _ t4.q) ?_)
                    rintro v76 w75 ⟨rfl, hx77⟩
                    refine ⟨(Ext.trans (Ext.trans (t3.ext) hx47) hx77), ?_⟩
                    have t5 := t4.keptE hx77
                    refine WO.qg rfl rfl (congrArg some h71) rfl rfl (fun w' hE35 => (X.neq rfl rfl)) ?_
                    refine WO.q rfl rfl rfl rfl (fun w' hE35 => (X.pickF rfl h71 rfl)) ?_
                    refine WO.nil ?_
                    refine WL.nil ?_
                    refine thn_n ?_
                    refine WF.cond rfl (fun h3_78 => ?_) (fun h3_78 => ?_)
                    · have gh3_78 := (of_decide_eq_true h3_78)
                      exact absurd rfl gh3_78
                    · have gh3_78 := (Decidable.of_not_not (of_decide_eq_false h3_78))
                      refine WF.skip ?_
                      refine blk_n ?_
                      refine thn_n ?_
                      refine WF.region ?_
                      refine WL.va rfl rfl rfl (X.moveI e8_L0) ?_
                      refine WL.va rfl rfl rfl (X.add rfl rfl (w64 (by omega))) ?_
                      refine WL.va rfl rfl rfl (X.assignI rfl) ?_
                      refine WL.nil ?_
                      exact thn_n ⟨_, (by omega), k + 1, _, _, _, _, _, rfl, rfl, (by repeat (first | exact hAL0 | refine Agree.put ?_ rfl | refine Agree.named hF32 ?_)), (Ext.trans (Ext.trans (t3.ext) hx47) hx77), ⟨by omega, t5⟩⟩
          · have gh2_33 := (of_decide_eq_false h2_33)
            refine WF.exit ?_
            refine thn_x ?_
            refine thn_x ?_
            refine blk_eq ?_
            refine thn_n ?_
            refine WF.seq ?_
            refine WF.region ?_
            refine WL.va rfl rfl rfl (X.move ((hAL0.eq 6).trans (congrFun hF32 6))) ?_
            refine WL.c rfl rfl rfl (X.call Try.call25 (evl_cons rfl evl_nil)) (rLeft_ok vr _ _ _ _ _ _ _ t.p) ?_
            rintro v81 w80 ⟨rfl, rfl⟩
            refine WL.va rfl rfl rfl (X.move ((hAL0.eq 7).trans (congrFun hF32 7))) ?_
            refine WL.c rfl rfl rfl (X.call Try.call26 (evl_cons rfl evl_nil)) (qLeft_ok vx _ _ _ _ _ _ t.q) ?_
            rintro v84 w83 ⟨rfl, hx85⟩
            have t := t.keptE hx85
            refine WL.va rfl rfl rfl (X.eql rfl rfl) ?_
            refine WL.va rfl rfl rfl (X.moveB rfl) ?_
            refine WL.split (j := 5) rfl (fun h87 => ?_) (fun h87 => ?_)
            · have gh87 := (of_decide_eq_true h87)
              refine WL.vg rfl (congrArg some h87) rfl rfl (X.move ((hAL0.eq 6).trans (congrFun hF32 6))) ?_
              refine WL.cg rfl (congrArg some h87) rfl rfl (X.call Try.call28 (evl_cons rfl evl_nil)) (rEnd_ok vr _ _ _ _ _ _ _ t.p) ?_
              rintro v89 w88 ⟨rfl, rfl⟩
              refine WL.vg rfl (congrArg some h87) rfl rfl (X.move ((hAL0.eq 7).trans (congrFun hF32 7))) ?_
              refine WL.cg rfl (congrArg some h87) rfl rfl (X.call Try.call29 (evl_cons rfl evl_nil)) (qEnd_ok vx _ _ _ _ _ _ t.q) ?_
              rintro v92 w91 ⟨rfl, hx93⟩
              refine WL.vg rfl (congrArg some h87) rfl rfl (X.eql rfl rfl) ?_
              refine WL.va rfl rfl rfl (X.pickT rfl h87 rfl) ?_
              refine WL.va rfl rfl rfl (X.moveB rfl) ?_
              refine WL.split (j := 12) rfl (fun h95 => ?_) (fun h95 => ?_)
              · have gh95 := (of_decide_eq_true h95)
                refine WL.cg rfl (congrArg some h95) rfl rfl (X.call Try.call9 evl_nil) (works_ok _) ?_
                rintro v97 w96 ⟨rfl, hx98⟩
                refine WL.va rfl rfl rfl (X.pickT rfl h95 rfl) ?_
                refine WL.va rfl rfl rfl (X.assignB rfl) ?_
                refine WL.nil ?_
                refine thn_n ?_
                refine WF.ret ?_
                refine fin_r ?_
                exact ⟨rfl, (Ext.trans (Ext.trans (Ext.trans hwL0 hx85) hx93) hx98)⟩
              · have gh95 := (of_decide_eq_false h95)
                exact absurd rfl gh95
            · have gh87 := (of_decide_eq_false h87)
              exact absurd rfl gh87

end Go.Proofs.Ytlcgjeebgjiebaa
