/- The walks of the document's reading of a map. -/
import Derived.Test.YtpimnlgfhpnjnaaRnU
namespace Go.Proofs.Ytpimnlgfhpnjnaa
open Go Go.RowKit Kf
set_option maxRecDepth 20000

def manyN (s : Pk.RS) : Int := if OkC s then s.int.1 else 0
def manyS (s : Pk.RS) : Pk.RS := if OkC s then s.int.2 else .dead
theorem manyN_nn (s : Pk.RS) : 0 ≤ manyN s := by
  unfold manyN
  split
  · rename_i h; exact h.1
  · exact Int.le_refl 0
theorem many_no {s : Pk.RS} (h : ¬ OkC s) : manyN s = 0 ∧ manyS s = .dead := ⟨if_neg h, if_neg h⟩
theorem many_yes {s : Pk.RS} (h : OkC s) : manyN s = s.int.1 ∧ manyS s = s.int.2 := ⟨if_pos h, if_pos h⟩
section
variable {α : Type} {rd : Pk.RS → α × Pk.RS}
/-- where the document's loop ends -/
theorem many_end (hb : ∀ s, s.bad = true → (rd s).2.bad = true) {s : Pk.RS} {k : Nat} (hk : (k : Int) ≤ manyN s) (h : manyN s ≤ (k : Int) ∨ (rdN rd (manyS s) k).2.bad = true) : rdL rd s = rdN rd (manyS s) k ∨ ((rdN rd (manyS s) k).2.bad = true ∧ (rdL rd s).2.bad = true) := by
  by_cases hc : OkC s
  · obtain ⟨e1, e2⟩ := many_yes hc
    rw [e1] at hk h
    rw [e2] at h ⊢
    rcases h with h | h
    · left
      rw [rdL_ok hc, show s.int.1.toNat = k by omega]
    · exact .inr ⟨h, rdL_bad hb (.inr ⟨k, hk, h⟩)⟩
  · obtain ⟨e1, e2⟩ := many_no hc
    have h0 : k = 0 := by omega
    subst h0
    rw [e2]
    exact .inr ⟨rfl, rdL_bad hb (.inl hc)⟩
end
section
variable {w : World} {B T : Nat} {x vb : Value} {L : List UInt8} {s : Pk.RS}
theorem qLeftT (h : RRT w B T x vb L s) : FnOk Try.prog 104 [x] w (fun v w' => v = i64 (s.left.length : Int) ∧ Ext w w') := by
  obtain ⟨⟨a, hp⟩, h1, h2⟩ := h
  exact qLeft_ok x vb L a s w B hp
theorem qBlobT (h : RRT w B T x vb L s) : FnOk Try.prog 77 [x] w (fun v w' => OwnB w' w.heap.size 5 v s.blob.1 ∧ RRT w' B T x vb L s.blob.2 ∧ w.grownBy w' (asRow x).ownBlock) := by
  obtain ⟨⟨a, hp⟩, h1, h2⟩ := h
  exact (qBlob_ok x vb L a s w B hp).mono fun v w' ⟨o, hp', g⟩ => ⟨o, ⟨hp', h1, h2⟩, g⟩
end
set_option maxHeartbeats 1000000 in
theorem manyR_ok (x vb : Value) (L : List UInt8) (s : Pk.RS) (w : World) (B T : Nat) (h : RRT w B T x vb L s) : FnOk Try.prog 75 [x] w (fun v w' => v = i64 (manyN s) ∧ RRT w' B T x vb L (manyS s) ∧ w.grownBy w' (asRow x).ownBlock) := by
  obtain ⟨⟨a, hp⟩, hr, hD⟩ := h
  refine FnOk.enter (rs := [2]) Try.func75 rfl Try.ntmps75 Try.results75 rfl rfl ?_
  refine WF.seq ?_
  refine WF.region ?_
  refine WL.va rfl rfl rfl (X.assignI rfl) ?_
  refine WL.nil ?_
  refine thn_n ?_
  refine WF.seq ?_
  refine WF.region ?_
  refine WL.va rfl rfl rfl (X.move rfl) ?_
  refine WL.c rfl rfl rfl (X.call Try.call76 (evl_cons rfl evl_nil)) (qInt_ok x vb L a s w B hp) ?_
  rintro v2 w1 ⟨rfl, ⟨a2, hp2⟩, hx3⟩
  have g1 := hx3
  have hln := hp2.short
  have hsm := hp2.small
  refine WL.va rfl rfl rfl (X.assignI rfl) ?_
  refine WL.nil ?_
  refine thn_n ?_
  refine WF.seq ?_
  refine WF.seq ?_
  refine WF.region ?_
  refine WL.va rfl rfl rfl (X.moveI rfl) ?_
  refine WL.va rfl rfl rfl (X.lss rfl rfl) ?_
  refine WL.va rfl rfl rfl (X.moveB rfl) ?_
  refine WL.split (j := 2) rfl (fun h5 => ?_) (fun h5 => ?_)
  · have gh5 := (of_decide_eq_true h5)
    have hn0 : s.int.1 < 0 := gh5
    refine WL.p rfl rfl rfl (congrArg some h5) ?_
    refine WL.p rfl rfl rfl (congrArg some h5) ?_
    refine WL.p rfl rfl rfl (congrArg some h5) ?_
    refine WL.p rfl rfl rfl (congrArg some h5) ?_
    refine WL.p rfl rfl rfl (congrArg some h5) ?_
    refine WL.va rfl rfl rfl (X.pickT rfl h5 rfl) ?_
    refine WL.nil ?_
    refine thn_n ?_
    refine WF.cond_t rfl ?_
    refine WF.seq ?_
    refine WF.region ?_
    refine WL.va rfl rfl rfl (X.move rfl) ?_
    refine WL.va rfl rfl rfl (X.nilCheckV hp2.var rfl) ?_
    refine WL.va rfl rfl rfl (X.fieldAddr hp2.var rfl Try.underlying107 rfl rfl Try.sizeOf4) ?_
    refine WL.op rfl (OW.storeF hp2.var (by decide) rfl rfl rfl Try.sizeOf4 ?_)
    intro w7 ho10 hx9
    have v1 : Var w7 B 107 3 x [vb, i64 (a2 : Int), .bool true] := ho10
    have hpd := hp2.failed v1 hx9
    have g2 := grown2 g1 hx9
    refine WL.nil ?_
    refine thn_n ?_
    refine WF.seq ?_
    refine WF.region ?_
    refine WL.va rfl rfl rfl (X.assignI rfl) ?_
    refine WL.nil ?_
    refine thn_n ?_
    refine WF.ret ?_
    refine thn_r ?_
    refine fin_r ?_
    obtain ⟨e1, e2⟩ := many_no (s := s) (fun q => by first | (have := q.1; omega) | (have := q.2; omega))
    rw [e1, e2]; exact ⟨rfl, ⟨⟨_, hpd⟩, hr, hD⟩, g2⟩
  · have gh5 := (of_decide_eq_false h5)
    have hn0 : ¬ s.int.1 < 0 := gh5
    refine WL.vg rfl (congrArg some h5) rfl rfl (X.moveI rfl) ?_
    refine WL.vg rfl (congrArg some h5) rfl rfl (X.move rfl) ?_
    refine WL.cg rfl (congrArg some h5) rfl rfl (X.call Try.call104 (evl_cons rfl evl_nil)) (qLeft_ok x vb L a2 _ _ B hp2) ?_
    rintro v12 w11 ⟨rfl, hx13⟩
    replace hp2 := hp2.ext hx13
    replace g1 := grown_ext g1 hx13
    refine WL.vg rfl (congrArg some h5) rfl rfl (X.quo rfl rfl (by omega) (q8 (by omega))) ?_
    refine WL.vg rfl (congrArg some h5) rfl rfl (X.gtr rfl rfl) ?_
    refine WL.va rfl rfl rfl (X.pickF rfl h5 rfl) ?_
    refine WL.nil ?_
    refine thn_n ?_
    refine WF.cond rfl (fun h0_14 => ?_) (fun h0_14 => ?_)
    · have gh0_14 := (of_decide_eq_true h0_14)
      have hn1 : ((s.int.2.left.length / 8 : Nat) : Int) < s.int.1 := gh0_14
      refine WF.seq ?_
      refine WF.region ?_
      refine WL.va rfl rfl rfl (X.move rfl) ?_
      refine WL.va rfl rfl rfl (X.nilCheckV hp2.var rfl) ?_
      refine WL.va rfl rfl rfl (X.fieldAddr hp2.var rfl Try.underlying107 rfl rfl Try.sizeOf4) ?_
      refine WL.op rfl (OW.storeF hp2.var (by decide) rfl rfl rfl Try.sizeOf4 ?_)
      intro w16 ho19 hx18
      have v1 : Var w16 B 107 3 x [vb, i64 (a2 : Int), .bool true] := ho19
      have hpd := hp2.failed v1 hx18
      have g2 := grown2 g1 hx18
      refine WL.nil ?_
      refine thn_n ?_
      refine WF.seq ?_
      refine WF.region ?_
      refine WL.va rfl rfl rfl (X.assignI rfl) ?_
      refine WL.nil ?_
      refine thn_n ?_
      refine WF.ret ?_
      refine thn_r ?_
      refine fin_r ?_
      obtain ⟨e1, e2⟩ := many_no (s := s) (fun q => by first | (have := q.1; omega) | (have := q.2; omega))
      rw [e1, e2]; exact ⟨rfl, ⟨⟨_, hpd⟩, hr, hD⟩, g2⟩
    · have gh0_14 := (of_decide_eq_false h0_14)
      have hn1 : ¬ ((s.int.2.left.length / 8 : Nat) : Int) < s.int.1 := gh0_14
      have hok : OkC s := ⟨by omega, by omega⟩
      refine WF.skip ?_
      refine thn_n ?_
      refine WF.seq ?_
      refine WF.region ?_
      refine WL.va rfl rfl rfl (X.moveI rfl) ?_
      refine WL.va rfl rfl rfl (X.assignI rfl) ?_
      refine WL.nil ?_
      refine thn_n ?_
      refine WF.ret ?_
      refine fin_r ?_
      obtain ⟨e1, e2⟩ := many_yes hok
      rw [e1, e2]; exact ⟨rfl, ⟨⟨_, hp2⟩, hr, hD⟩, g1⟩

set_option maxHeartbeats 4000000 in
theorem readR_ok (x vb : Value) (L : List UInt8) (s : Pk.RS) (w : World) (B T : Nat) (h : RRT w B T x vb L s) (hT : T ≤ w.heap.size) (hL : L.length ≤ 1000000) : FnOk Try.prog 69 [x] w (fun y w' => (∃ l s1 vr, y = agg ((mp6 l s1).c vr) ∧ RRT w' B T x vb L (six s1) ∧ OwnR w' w.heap.size 41 vr l ∧ ((six s1 = tM s ∧ mp6 l s1 = mM s) ∨ ((six s1).bad = true ∧ (tM s).bad = true))) ∧ w.grownBy w' (asRow x).ownBlock) := by
  have hr0 := h.hr
  have hpT := h
  have hG : SinceR w w (asRow x).ownBlock := ⟨World.grownBy.refl _ _⟩
  have hnn := manyN_nn s
  have hlen := h.len
  have hle := int_le s
  refine FnOk.enterC (rs := [.cell 2 26]) Try.func69 rfl Try.ntmps69 Try.results69 rfl rfl ?_
  refine WF.seq ?_
  refine WF.region ?_
  refine WL.op rfl (OW.allocO (cs := [.slice none 0 0, i64 0, i64 0, i64 0, i64 0, i64 0, i64 0]) Try.zeroValue26 rfl ?_ (by decide))
  intro g2 w1 heg2 hlg2 hO2 hx3
  have := World.grownBy.size hx3
  refine WL.nil ?_
  refine thn_n ?_
  refine WF.seq ?_
  refine WF.region ?_
  refine WL.op rfl (OW.allocO (cs := [.slice none 0 0, i64 0, i64 0, i64 0, i64 0, i64 0, i64 0]) Try.zeroValue26 rfl ?_ (by decide))
  intro g3 w5 heg3 hlg3 hO3 hx7
  have := World.grownBy.size hx7
  refine WL.nil ?_
  refine thn_n ?_
  refine WF.seq ?_
  refine WF.region ?_
  refine WL.va rfl rfl rfl (X.move rfl) ?_
  refine WL.c rfl rfl rfl (X.call Try.call75 (evl_cons rfl evl_nil)) (manyR_ok x vb L s _ B T (hpT.ext (Ext.trans hx3 hx7))) ?_
  rintro v10 w9 ⟨rfl, hq1, hx11⟩
  have := World.grownBy.size hx11
  replace hG := (hG.ext (Ext.trans hx3 hx7)).kept hx11 (fun b hb => by have := hr0 b hb; first | omega | exact .inr hb | exact .inl (by omega))
  replace hO2 := (hO2.ext hx7).keptR hx11 (fun b hb => by have := hr0 b hb; first | omega | exact .inr hb | exact .inl (by omega))
  replace hO3 := hO3.keptR hx11 (fun b hb => by have := hr0 b hb; first | omega | exact .inr hb | exact .inl (by omega))
  replace hpT := hq1
  have hmax : manyN s ≤ 1000000 := by
    unfold manyN
    split
    · rename_i hc; have := hc.2; omega
    · omega
  refine WL.va rfl rfl rfl (X.assignI rfl) ?_
  refine WL.nil ?_
  refine thn_n ?_
  refine WF.named (fun F12 hF13 => ?_)
  refine WF.cut (fun f' w' => ∃ (l1 : List Rg) (s1 : Pk.RS) (vR : Value), Agree [0, 2, 3, 4, 7, 8] f' F12 ∧ True ∧ (rdL rd4 s = (l1, s1) ∨ (s1.bad = true ∧ (rdL rd4 s).2.bad = true)) ∧ RRT w' B T x vb L s1 ∧ Blk w' g3 26 (Mp.c ⟨l1, 0, Mv.zero⟩ vR) ∧ Blk w' g2 26 [nilS, i64 0, i64 0, i64 0, i64 0, i64 0, i64 0] ∧ OwnX w' w.heap.size w'.heap.size 41 4 vR (l1).length ((l1).flatMap Rg.c) g3 g2 g2 ∧ SinceR w w' (asRow x).ownBlock) ?_ ?_
  · refine WF.seq ?_
    refine WF.region ?_
    refine WL.va rfl rfl rfl (X.assignI rfl) ?_
    refine WL.nil ?_
    refine thn_n ?_
    refine WF.block ?_
    refine WF.named (fun F14 hF15 => ?_)
    refine WF.loopN (fun mL0 f' w' => ∃ (k : Nat) (vR : Value), mL0 = (manyN s).toNat - k ∧ f' 5 = .int .i64 (k : Int) ∧ Agree [0, 2, 3, 4, 7, 8] f' F14 ∧ True ∧ (k : Int) ≤ manyN s ∧ RRT w' B T x vb L (rdN rd4 (manyS s) k).2 ∧ Blk w' g3 26 (Mp.c ⟨(rdN rd4 (manyS s) k).1, 0, Mv.zero⟩ vR) ∧ Blk w' g2 26 [nilS, i64 0, i64 0, i64 0, i64 0, i64 0, i64 0] ∧ OwnX w' w.heap.size w'.heap.size 41 4 vR ((rdN rd4 (manyS s) k).1).length (((rdN rd4 (manyS s) k).1).flatMap Rg.c) g3 g2 g2 ∧ SinceR w w' (asRow x).ownBlock) ?_ ?_
    · exact ⟨_, 0, nilS, rfl, (congrFun hF15 5), (Agree.refl _ _), trivial, ⟨hnn, hpT, hO3, hO2, OwnX.nil _ _ _ _ _ _ _ _, hG⟩⟩
    · rintro mL0 fL0 wL0 ⟨k, vR, hmL0, e5_L0, hAL0, hwL0, ⟨hk0, hpT, hO3, hO2, ovT, hG⟩⟩
      have hGz := World.grownBy.size hG.x
      obtain ⟨lk, hlk⟩ : ∃ lk, (rdN rd4 (manyS s) k).1 = lk := ⟨_, rfl⟩
      obtain ⟨sk, hsk⟩ : ∃ sk, (rdN rd4 (manyS s) k).2 = sk := ⟨_, rfl⟩
      have hll : lk.length = k := by rw [← hlk, rdN_len]
      rw [hlk] at hO3 ovT
      rw [hsk] at hpT
      have q2 := hO2.lt
      have q3 := hO3.lt
      obtain ⟨⟨aL, hpL⟩, _, _⟩ := hpT
      have hpT : RRT wL0 B T x vb L sk := ⟨⟨aL, hpL⟩, h.hr, h.hD⟩
      refine WF.seq ?_
      refine WF.seq ?_
      refine WF.region ?_
      refine WL.va rfl rfl rfl (X.moveI e5_L0) ?_
      refine WL.va rfl rfl rfl (X.moveI ((hAL0.eq 4).trans ((congrFun hF15 4).trans (congrFun hF13 4)))) ?_
      refine WL.va rfl rfl rfl (X.lss rfl rfl) ?_
      refine WL.va rfl rfl rfl (X.moveB rfl) ?_
      refine WL.split (j := 3) rfl (fun h17 => ?_) (fun h17 => ?_)
      · have gh17 := (of_decide_eq_true h17)
        have hkn : (k : Int) < manyN s := gh17
        refine WL.vg rfl (congrArg some h17) rfl rfl (X.move ((hAL0.eq 0).trans ((congrFun hF15 0).trans (congrFun hF13 0)))) ?_
        refine WL.vg rfl (congrArg some h17) rfl rfl (X.nilCheckV hpL.var rfl) ?_
        refine WL.vg rfl (congrArg some h17) rfl rfl (X.fieldAddr hpL.var rfl Try.underlying107 rfl rfl Try.sizeOf4) ?_
        refine WL.vg rfl (congrArg some h17) rfl rfl (X.loadF hpL.var (Ext.refl _) rfl rfl Try.isAgg4) ?_
        refine WL.vg rfl (congrArg some h17) rfl rfl (X.not rfl) ?_
        refine WL.va rfl rfl rfl (X.pickT rfl h17 rfl) ?_
        refine WL.nil ?_
        refine thn_n ?_
        refine WF.cond rfl (fun h0_19 => ?_) (fun h0_19 => ?_)
        · have gh0_19 := (nt h0_19)
          have hnb : sk.bad = false := by simpa using gh0_19
          refine WF.skip ?_
          refine thn_n ?_
          refine WF.seq ?_
          refine WF.block ?_
          refine WF.seq ?_
          refine WF.region ?_
          refine WL.va rfl rfl rfl (X.move ((hAL0.eq 0).trans ((congrFun hF15 0).trans (congrFun hF13 0)))) ?_
          refine WL.c rfl rfl rfl (X.call Try.call76 (evl_cons (v := x) rfl evl_nil)) (qIntT hpT) ?_
          rintro v22 w21 ⟨rfl, hq1, hx23⟩
          have := World.grownBy.size hx23
          replace hG := hG.kept hx23 (fun b hb => by have := hr0 b hb; first | omega | exact .inr hb | exact .inl (by omega))
          replace hO2 := hO2.keptR hx23 (fun b hb => by have := hr0 b hb; first | omega | exact .inr hb | exact .inl (by omega))
          replace hO3 := hO3.keptR hx23 (fun b hb => by have := hr0 b hb; first | omega | exact .inr hb | exact .inl (by omega))
          replace ovT := ovT.kept hx23 (fun b hb => by have := hr0 b hb; first | omega | exact .inr hb | exact .inl (by omega))
          replace hpT := hq1
          refine WL.va rfl rfl rfl (X.buildL (P := Try.prog) (t := 41) (cs := (Rg.c ⟨sk.int.1, 0, 0, 0⟩)) (evp_cons rfl evp_nil) Try.type41 Try.underlying41 rfl rfl ⟨rfl, trivial⟩ rfl) ?_
          refine WL.op rfl (OW.allocO (cs := [i64 0, i64 0, i64 0, i64 0]) Try.zeroValue41 rfl ?_ (by decide))
          intro g6 w24 heg6 hlg6 hO6 hx26
          have := World.grownBy.size hx26
          refine WL.op rfl (OW.storeOA hO6 rfl rfl rfl (Rg.c_one _) Try.sizeOf41 ?_)
          intro w28 hO6 hx30
          have := World.grownBy.size hx30
          replace hpT := (hpT.ext hx26).keptO hx30 (by omega)
          replace hG := (hG.ext hx26).keptO hx30 (by omega)
          replace hO2 := (hO2.ext hx26).keptO hx30 (by omega)
          replace hO3 := (hO3.ext hx26).keptO hx30 (by omega)
          replace ovT := (ovT.ext hx26).keptO hx30 (by omega)
          replace hO6 : Blk _ _ _ (Rg.c ⟨sk.int.1, 0, 0, 0⟩) := hO6
          refine WL.nil ?_
          refine thn_n ?_
          refine WF.seq ?_
          refine WF.region ?_
          refine WL.va rfl rfl rfl (X.move ((hAL0.eq 0).trans ((congrFun hF15 0).trans (congrFun hF13 0)))) ?_
          refine WL.c rfl rfl rfl (X.call Try.call76 (evl_cons (v := x) rfl evl_nil)) (qIntT hpT) ?_
          rintro v33 w32 ⟨rfl, hq1, hx34⟩
          have := World.grownBy.size hx34
          replace hG := hG.kept hx34 (fun b hb => by have := hr0 b hb; first | omega | exact .inr hb | exact .inl (by omega))
          replace hO2 := hO2.keptR hx34 (fun b hb => by have := hr0 b hb; first | omega | exact .inr hb | exact .inl (by omega))
          replace hO3 := hO3.keptR hx34 (fun b hb => by have := hr0 b hb; first | omega | exact .inr hb | exact .inl (by omega))
          replace ovT := ovT.kept hx34 (fun b hb => by have := hr0 b hb; first | omega | exact .inr hb | exact .inl (by omega))
          replace hO6 := hO6.keptR hx34 (fun b hb => by have := hr0 b hb; first | omega | exact .inr hb | exact .inl (by omega))
          replace hpT := hq1
          refine WL.va rfl rfl rfl (X.fieldAddrO (off := 1) rfl Try.underlying41 rfl rfl Try.sizeOf3) ?_
          refine WL.op rfl (OW.storeO hO6 (Nat.le_of_ble_eq_true rfl) rfl rfl rfl Try.sizeOf3 ?_)
          intro w35 hO6 hx37
          have := World.grownBy.size hx37
          replace hpT := hpT.keptO hx37 (by omega)
          replace hG := hG.keptO hx37 (by omega)
          replace hO2 := hO2.keptO hx37 (by omega)
          replace hO3 := hO3.keptO hx37 (by omega)
          replace ovT := ovT.keptO hx37 (by omega)
          replace hO6 : Blk _ _ _ (Rg.c ⟨sk.int.1, sk.int.2.int.1, 0, 0⟩) := hO6
          refine WL.nil ?_
          refine thn_n ?_
          refine WF.seq ?_
          refine WF.region ?_
          refine WL.va rfl rfl rfl (X.move ((hAL0.eq 0).trans ((congrFun hF15 0).trans (congrFun hF13 0)))) ?_
          refine WL.c rfl rfl rfl (X.call Try.call76 (evl_cons (v := x) rfl evl_nil)) (qIntT hpT) ?_
          rintro v40 w39 ⟨rfl, hq1, hx41⟩
          have := World.grownBy.size hx41
          replace hG := hG.kept hx41 (fun b hb => by have := hr0 b hb; first | omega | exact .inr hb | exact .inl (by omega))
          replace hO2 := hO2.keptR hx41 (fun b hb => by have := hr0 b hb; first | omega | exact .inr hb | exact .inl (by omega))
          replace hO3 := hO3.keptR hx41 (fun b hb => by have := hr0 b hb; first | omega | exact .inr hb | exact .inl (by omega))
          replace ovT := ovT.kept hx41 (fun b hb => by have := hr0 b hb; first | omega | exact .inr hb | exact .inl (by omega))
          replace hO6 := hO6.keptR hx41 (fun b hb => by have := hr0 b hb; first | omega | exact .inr hb | exact .inl (by omega))
          replace hpT := hq1
          refine WL.va rfl rfl rfl (X.fieldAddrO (off := 2) rfl Try.underlying41 rfl rfl Try.sizeOf3) ?_
          refine WL.op rfl (OW.storeO hO6 (Nat.le_of_ble_eq_true rfl) rfl rfl rfl Try.sizeOf3 ?_)
          intro w42 hO6 hx44
          have := World.grownBy.size hx44
          replace hpT := hpT.keptO hx44 (by omega)
          replace hG := hG.keptO hx44 (by omega)
          replace hO2 := hO2.keptO hx44 (by omega)
          replace hO3 := hO3.keptO hx44 (by omega)
          replace ovT := ovT.keptO hx44 (by omega)
          replace hO6 : Blk _ _ _ (Rg.c ⟨sk.int.1, sk.int.2.int.1, sk.int.2.int.2.int.1, 0⟩) := hO6
          refine WL.nil ?_
          refine thn_n ?_
          refine WF.seq ?_
          refine WF.region ?_
          refine WL.va rfl rfl rfl (X.move ((hAL0.eq 0).trans ((congrFun hF15 0).trans (congrFun hF13 0)))) ?_
          refine WL.c rfl rfl rfl (X.call Try.call76 (evl_cons (v := x) rfl evl_nil)) (qIntT hpT) ?_
          rintro v47 w46 ⟨rfl, hq1, hx48⟩
          have := World.grownBy.size hx48
          replace hG := hG.kept hx48 (fun b hb => by have := hr0 b hb; first | omega | exact .inr hb | exact .inl (by omega))
          replace hO2 := hO2.keptR hx48 (fun b hb => by have := hr0 b hb; first | omega | exact .inr hb | exact .inl (by omega))
          replace hO3 := hO3.keptR hx48 (fun b hb => by have := hr0 b hb; first | omega | exact .inr hb | exact .inl (by omega))
          replace ovT := ovT.kept hx48 (fun b hb => by have := hr0 b hb; first | omega | exact .inr hb | exact .inl (by omega))
          replace hO6 := hO6.keptR hx48 (fun b hb => by have := hr0 b hb; first | omega | exact .inr hb | exact .inl (by omega))
          replace hpT := hq1
          refine WL.va rfl rfl rfl (X.fieldAddrO (off := 3) rfl Try.underlying41 rfl rfl Try.sizeOf3) ?_
          refine WL.op rfl (OW.storeO hO6 (Nat.le_of_ble_eq_true rfl) rfl rfl rfl Try.sizeOf3 ?_)
          intro w49 hO6 hx51
          have := World.grownBy.size hx51
          replace hpT := hpT.keptO hx51 (by omega)
          replace hG := hG.keptO hx51 (by omega)
          replace hO2 := hO2.keptO hx51 (by omega)
          replace hO3 := hO3.keptO hx51 (by omega)
          replace ovT := ovT.keptO hx51 (by omega)
          replace hO6 : Blk _ _ _ (Rg.c (⟨sk.int.1, sk.int.2.int.1, sk.int.2.int.2.int.1, sk.int.2.int.2.int.2.int.1⟩ : Rg)) := hO6
          refine WL.nil ?_
          refine thn_n ?_
          refine WF.region ?_
          refine WL.va rfl rfl rfl (X.fieldAddrO (off := 0) ((hAL0.eq 3).trans ((congrFun hF15 3).trans (congrFun hF13 3))) Try.underlying26 rfl rfl Try.sizeOf22) ?_
          refine WL.va rfl rfl rfl (X.loadO hO3 (Ext.refl _) rfl rfl Try.isAgg22) ?_
          refine WL.va rfl rfl rfl (X.loadOA hO6 (Ext.refl _) rfl rfl Try.isAgg41 Try.sizeOf41) ?_
          refine WL.op rfl (OW.lits (vs := [agg (Rg.c (⟨sk.int.1, sk.int.2.int.1, sk.int.2.int.2.int.1, sk.int.2.int.2.int.2.int.1⟩ : Rg))]) (evp_cons rfl evp_nil) Try.underlying22 Try.sizeOf41 Try.zeroValue41 ⟨rfl, trivial⟩ rfl rfl rfl ?_ (by decide))
          intro v54 w53 ho56 hx55
          have := World.grownBy.size hx55
          have o1 : World.ownsRow w53 _ 41 4 v54 1 (Rg.c (⟨sk.int.1, sk.int.2.int.1, sk.int.2.int.2.int.1, sk.int.2.int.2.int.2.int.1⟩ : Rg)) := ho56
          have hovX := (ovT.ext hx55)
          have hov := hovX.own
          refine WL.op rfl (OW.append (bytes := 32) hov (Row.of_own o1) (Rg.c_one (⟨sk.int.1, sk.int.2.int.1, sk.int.2.int.2.int.1, sk.int.2.int.2.int.2.int.1⟩ : Rg)) rfl rfl Try.underlying22 Try.type41 rfl rfl rfl rfl (by decide) (by unfold maxLen; omega) (by omega) (by omega) ?_ (by decide))
          intro v2 w57 ho59 hx58 hmvhx58
          have := World.grownBy.size hx58
          replace hpT := (hpT.ext hx55).kept hx58 (fun b hb => by have h1 := (hov.lt b hb).1; have h2 := hovX.ne b hb; have h3 := hovX.top b hb; first | omega | exact .inl (by omega))
          replace hG := (hG.ext hx55).kept hx58 (fun b hb => by have h1 := (hov.lt b hb).1; have h2 := hovX.ne b hb; have h3 := hovX.top b hb; first | omega | exact .inl (by omega))
          replace hO2 := (hO2.ext hx55).keptR hx58 (fun b hb => by have h1 := (hov.lt b hb).1; have h2 := hovX.ne b hb; have h3 := hovX.top b hb; first | omega | exact .inl (by omega))
          replace hO3 := (hO3.ext hx55).keptR hx58 (fun b hb => by have h1 := (hov.lt b hb).1; have h2 := hovX.ne b hb; have h3 := hovX.top b hb; first | omega | exact .inl (by omega))
          replace hO6 := (hO6.ext hx55).keptR hx58 (fun b hb => by have h1 := (hov.lt b hb).1; have h2 := hovX.ne b hb; have h3 := hovX.top b hb; first | omega | exact .inl (by omega))
          have ho2 : OwnR w57 w.heap.size 41 v2 (lk ++ [(⟨sk.int.1, sk.int.2.int.1, sk.int.2.int.2.int.1, sk.int.2.int.2.int.2.int.1⟩ : Rg)]) := OwnR.app ho59
          replace ovT := hovX.moved ho2 hmvhx58 (by omega) (by omega) (by omega)
          refine WL.va rfl rfl rfl (X.fieldAddrO (off := 0) ((hAL0.eq 3).trans ((congrFun hF15 3).trans (congrFun hF13 3))) Try.underlying26 rfl rfl Try.sizeOf22) ?_
          refine WL.op rfl (OW.storeO hO3 (Nat.le_of_ble_eq_true rfl) rfl rfl (own_one ho2) Try.sizeOf22 ?_)
          intro w60 hO3 hx62
          have := World.grownBy.size hx62
          replace hpT := hpT.keptO hx62 (by omega)
          replace hG := hG.keptO hx62 (by omega)
          replace hO2 := hO2.keptO hx62 (by omega)
          replace ovT := ovT.keptO hx62 (by omega)
          replace hO6 := hO6.keptO hx62 (by omega)
          replace hO3 : Blk _ _ _ (Mp.c ⟨lk ++ [(⟨sk.int.1, sk.int.2.int.1, sk.int.2.int.2.int.1, sk.int.2.int.2.int.2.int.1⟩ : Rg)], 0, Mv.zero⟩ v2) := hO3
          refine WL.nil ?_
          refine blk_n ?_
          refine thn_n ?_
          refine WF.region ?_
          refine WL.va rfl rfl rfl (X.moveI e5_L0) ?_
          refine WL.va rfl rfl rfl (X.add rfl rfl (w64 (by omega))) ?_
          refine WL.va rfl rfl rfl (X.assignI rfl) ?_
          refine WL.nil ?_
          exact thn_n ⟨_, (by omega), k + 1, _, rfl, rfl, (by repeat (first | exact hAL0 | refine Agree.put ?_ rfl | refine Agree.named hF15 ?_ | refine Agree.named hF13 ?_)), trivial, ⟨by omega, by
        have e1 : rdN rd4 (manyS s) (k + 1) = (lk ++ [(⟨sk.int.1, sk.int.2.int.1, sk.int.2.int.2.int.1, sk.int.2.int.2.int.2.int.1⟩ : Rg)], sk.int.2.int.2.int.2.int.2) := by rw [rdN_succ, rd4_eq, hsk, hlk]
        rw [e1]
        exact ⟨hpT, hO3, hO2, OwnX.up ovT, hG⟩⟩⟩
        · have gh0_19 := (nf h0_19)
          have hx : manyN s ≤ (k : Int) ∨ sk.bad = true := .inr (by simpa using gh0_19)
          refine WF.exit ?_
          refine thn_x ?_
          refine thn_x ?_
          refine blk_eq ?_
          refine thn_n ?_
          exact ⟨_, _, _, (by repeat (first | exact (Agree.refl _ F12) | refine Agree.put ?_ rfl | refine Agree.sub hAL0 rfl ?_ | refine Agree.named hF15 ?_ | refine Agree.named hF13 ?_)), trivial, ⟨by have := many_end rd4_bad hk0 (by rw [hsk]; exact hx); rw [hsk] at this; rcases this with e | e; exact .inl (e.trans (Prod.ext hlk hsk)); exact .inr e, hpT, hO3, hO2, OwnX.up ovT, hG⟩⟩
      · have gh17 := (of_decide_eq_false h17)
        have hx : manyN s ≤ (k : Int) ∨ sk.bad = true := .inl (by have := gh17; omega)
        refine WL.p rfl rfl rfl (congrArg some h17) ?_
        refine WL.p rfl rfl rfl (congrArg some h17) ?_
        refine WL.p rfl rfl rfl (congrArg some h17) ?_
        refine WL.p rfl rfl rfl (congrArg some h17) ?_
        refine WL.p rfl rfl rfl (congrArg some h17) ?_
        refine WL.va rfl rfl rfl (X.pickF rfl h17 rfl) ?_
        refine WL.nil ?_
        refine thn_n ?_
        refine WF.cond_f rfl ?_
        refine WF.exit ?_
        refine thn_x ?_
        refine thn_x ?_
        refine blk_eq ?_
        refine thn_n ?_
        exact ⟨_, _, _, (by repeat (first | exact (Agree.refl _ F12) | refine Agree.put ?_ rfl | refine Agree.sub hAL0 rfl ?_ | refine Agree.named hF15 ?_ | refine Agree.named hF13 ?_)), trivial, ⟨by have := many_end rd4_bad hk0 (by rw [hsk]; exact hx); rw [hsk] at this; rcases this with e | e; exact .inl (e.trans (Prod.ext hlk hsk)); exact .inr e, hpT, hO3, hO2, OwnX.up ovT, hG⟩⟩
  · rintro fCs3 wCs3 ⟨l1, s1, vR, hACs3, hwCs3, ⟨hX, hpT, hO3, hO2, ovT, hG⟩⟩
    have hGz := World.grownBy.size hG.x
    have q2 := hO2.lt
    have q3 := hO3.lt
    refine WF.seq ?_
    refine WF.region ?_
    refine WL.va rfl rfl rfl (X.move ((hACs3.eq 0).trans (congrFun hF13 0))) ?_
    refine WL.c rfl rfl rfl (X.call Try.call76 (evl_cons (v := x) rfl evl_nil)) (qIntT hpT) ?_
    rintro v67 w66 ⟨rfl, hq1, hx68⟩
    have := World.grownBy.size hx68
    replace hG := hG.kept hx68 (fun b hb => by have := hr0 b hb; first | omega | exact .inr hb | exact .inl (by omega))
    replace ovT := ovT.kept hx68 (fun b hb => by have := hr0 b hb; first | omega | exact .inr hb | exact .inl (by omega))
    replace hO2 := hO2.keptR hx68 (fun b hb => by have := hr0 b hb; first | omega | exact .inr hb | exact .inl (by omega))
    replace hO3 := hO3.keptR hx68 (fun b hb => by have := hr0 b hb; first | omega | exact .inr hb | exact .inl (by omega))
    replace hpT := hq1
    refine WL.va rfl rfl rfl (X.fieldAddrO (off := 1) ((hACs3.eq 3).trans (congrFun hF13 3)) Try.underlying26 rfl rfl Try.sizeOf3) ?_
    refine WL.op rfl (OW.storeO hO3 (Nat.le_of_ble_eq_true rfl) rfl rfl rfl Try.sizeOf3 ?_)
    intro w69 hO3 hx71
    have := World.grownBy.size hx71
    replace hpT := hpT.keptO hx71 (by omega)
    replace hG := hG.keptO hx71 (by omega)
    replace ovT := ovT.keptO hx71 (by omega)
    replace hO2 := hO2.keptO hx71 (by omega)
    replace hO3 : Blk _ _ _ (Mp.c ⟨l1, s1.int.1, ⟨0, 0, 0, 0, 0⟩⟩ vR) := hO3
    refine WL.nil ?_
    refine thn_n ?_
    refine WF.seq ?_
    refine WF.region ?_
    refine WL.va rfl rfl rfl (X.move ((hACs3.eq 0).trans (congrFun hF13 0))) ?_
    refine WL.c rfl rfl rfl (X.call Try.call76 (evl_cons (v := x) rfl evl_nil)) (qIntT hpT) ?_
    rintro v74 w73 ⟨rfl, hq1, hx75⟩
    have := World.grownBy.size hx75
    replace hG := hG.kept hx75 (fun b hb => by have := hr0 b hb; first | omega | exact .inr hb | exact .inl (by omega))
    replace ovT := ovT.kept hx75 (fun b hb => by have := hr0 b hb; first | omega | exact .inr hb | exact .inl (by omega))
    replace hO2 := hO2.keptR hx75 (fun b hb => by have := hr0 b hb; first | omega | exact .inr hb | exact .inl (by omega))
    replace hO3 := hO3.keptR hx75 (fun b hb => by have := hr0 b hb; first | omega | exact .inr hb | exact .inl (by omega))
    replace hpT := hq1
    refine WL.va rfl rfl rfl (X.fieldAddrO (off := 2) ((hACs3.eq 3).trans (congrFun hF13 3)) Try.underlying26 rfl rfl Try.sizeOf24) ?_
    refine WL.va rfl rfl rfl (X.fieldAddrP (off := 0) rfl Try.underlying24 rfl rfl Try.sizeOf3) ?_
    refine WL.op rfl (OW.storeO hO3 (Nat.le_of_ble_eq_true rfl) rfl rfl rfl Try.sizeOf3 ?_)
    intro w76 hO3 hx78
    have := World.grownBy.size hx78
    replace hpT := hpT.keptO hx78 (by omega)
    replace hG := hG.keptO hx78 (by omega)
    replace ovT := ovT.keptO hx78 (by omega)
    replace hO2 := hO2.keptO hx78 (by omega)
    replace hO3 : Blk _ _ _ (Mp.c ⟨l1, s1.int.1, ⟨s1.int.2.int.1, 0, 0, 0, 0⟩⟩ vR) := hO3
    refine WL.nil ?_
    refine thn_n ?_
    refine WF.seq ?_
    refine WF.region ?_
    refine WL.va rfl rfl rfl (X.move ((hACs3.eq 0).trans (congrFun hF13 0))) ?_
    refine WL.c rfl rfl rfl (X.call Try.call76 (evl_cons (v := x) rfl evl_nil)) (qIntT hpT) ?_
    rintro v81 w80 ⟨rfl, hq1, hx82⟩
    have := World.grownBy.size hx82
    replace hG := hG.kept hx82 (fun b hb => by have := hr0 b hb; first | omega | exact .inr hb | exact .inl (by omega))
    replace ovT := ovT.kept hx82 (fun b hb => by have := hr0 b hb; first | omega | exact .inr hb | exact .inl (by omega))
    replace hO2 := hO2.keptR hx82 (fun b hb => by have := hr0 b hb; first | omega | exact .inr hb | exact .inl (by omega))
    replace hO3 := hO3.keptR hx82 (fun b hb => by have := hr0 b hb; first | omega | exact .inr hb | exact .inl (by omega))
    replace hpT := hq1
    refine WL.va rfl rfl rfl (X.fieldAddrO (off := 2) ((hACs3.eq 3).trans (congrFun hF13 3)) Try.underlying26 rfl rfl Try.sizeOf24) ?_
    refine WL.va rfl rfl rfl (X.fieldAddrP (off := 1) rfl Try.underlying24 rfl rfl Try.sizeOf3) ?_
    refine WL.op rfl (OW.storeO hO3 (Nat.le_of_ble_eq_true rfl) rfl rfl rfl Try.sizeOf3 ?_)
    intro w83 hO3 hx85
    have := World.grownBy.size hx85
    replace hpT := hpT.keptO hx85 (by omega)
    replace hG := hG.keptO hx85 (by omega)
    replace ovT := ovT.keptO hx85 (by omega)
    replace hO2 := hO2.keptO hx85 (by omega)
    replace hO3 : Blk _ _ _ (Mp.c ⟨l1, s1.int.1, ⟨s1.int.2.int.1, s1.int.2.int.2.int.1, 0, 0, 0⟩⟩ vR) := hO3
    refine WL.nil ?_
    refine thn_n ?_
    refine WF.seq ?_
    refine WF.region ?_
    refine WL.va rfl rfl rfl (X.move ((hACs3.eq 0).trans (congrFun hF13 0))) ?_
    refine WL.c rfl rfl rfl (X.call Try.call76 (evl_cons (v := x) rfl evl_nil)) (qIntT hpT) ?_
    rintro v88 w87 ⟨rfl, hq1, hx89⟩
    have := World.grownBy.size hx89
    replace hG := hG.kept hx89 (fun b hb => by have := hr0 b hb; first | omega | exact .inr hb | exact .inl (by omega))
    replace ovT := ovT.kept hx89 (fun b hb => by have := hr0 b hb; first | omega | exact .inr hb | exact .inl (by omega))
    replace hO2 := hO2.keptR hx89 (fun b hb => by have := hr0 b hb; first | omega | exact .inr hb | exact .inl (by omega))
    replace hO3 := hO3.keptR hx89 (fun b hb => by have := hr0 b hb; first | omega | exact .inr hb | exact .inl (by omega))
    replace hpT := hq1
    refine WL.va rfl rfl rfl (X.fieldAddrO (off := 2) ((hACs3.eq 3).trans (congrFun hF13 3)) Try.underlying26 rfl rfl Try.sizeOf24) ?_
    refine WL.va rfl rfl rfl (X.fieldAddrP (off := 2) rfl Try.underlying24 rfl rfl Try.sizeOf3) ?_
    refine WL.op rfl (OW.storeO hO3 (Nat.le_of_ble_eq_true rfl) rfl rfl rfl Try.sizeOf3 ?_)
    intro w90 hO3 hx92
    have := World.grownBy.size hx92
    replace hpT := hpT.keptO hx92 (by omega)
    replace hG := hG.keptO hx92 (by omega)
    replace ovT := ovT.keptO hx92 (by omega)
    replace hO2 := hO2.keptO hx92 (by omega)
    replace hO3 : Blk _ _ _ (Mp.c ⟨l1, s1.int.1, ⟨s1.int.2.int.1, s1.int.2.int.2.int.1, s1.int.2.int.2.int.2.int.1, 0, 0⟩⟩ vR) := hO3
    refine WL.nil ?_
    refine thn_n ?_
    refine WF.seq ?_
    refine WF.region ?_
    refine WL.va rfl rfl rfl (X.move ((hACs3.eq 0).trans (congrFun hF13 0))) ?_
    refine WL.c rfl rfl rfl (X.call Try.call76 (evl_cons (v := x) rfl evl_nil)) (qIntT hpT) ?_
    rintro v95 w94 ⟨rfl, hq1, hx96⟩
    have := World.grownBy.size hx96
    replace hG := hG.kept hx96 (fun b hb => by have := hr0 b hb; first | omega | exact .inr hb | exact .inl (by omega))
    replace ovT := ovT.kept hx96 (fun b hb => by have := hr0 b hb; first | omega | exact .inr hb | exact .inl (by omega))
    replace hO2 := hO2.keptR hx96 (fun b hb => by have := hr0 b hb; first | omega | exact .inr hb | exact .inl (by omega))
    replace hO3 := hO3.keptR hx96 (fun b hb => by have := hr0 b hb; first | omega | exact .inr hb | exact .inl (by omega))
    replace hpT := hq1
    refine WL.va rfl rfl rfl (X.fieldAddrO (off := 2) ((hACs3.eq 3).trans (congrFun hF13 3)) Try.underlying26 rfl rfl Try.sizeOf24) ?_
    refine WL.va rfl rfl rfl (X.fieldAddrP (off := 3) rfl Try.underlying24 rfl rfl Try.sizeOf3) ?_
    refine WL.op rfl (OW.storeO hO3 (Nat.le_of_ble_eq_true rfl) rfl rfl rfl Try.sizeOf3 ?_)
    intro w97 hO3 hx99
    have := World.grownBy.size hx99
    replace hpT := hpT.keptO hx99 (by omega)
    replace hG := hG.keptO hx99 (by omega)
    replace ovT := ovT.keptO hx99 (by omega)
    replace hO2 := hO2.keptO hx99 (by omega)
    replace hO3 : Blk _ _ _ (Mp.c ⟨l1, s1.int.1, ⟨s1.int.2.int.1, s1.int.2.int.2.int.1, s1.int.2.int.2.int.2.int.1, s1.int.2.int.2.int.2.int.2.int.1, 0⟩⟩ vR) := hO3
    refine WL.nil ?_
    refine thn_n ?_
    refine WF.seq ?_
    refine WF.region ?_
    refine WL.va rfl rfl rfl (X.move ((hACs3.eq 0).trans (congrFun hF13 0))) ?_
    refine WL.c rfl rfl rfl (X.call Try.call76 (evl_cons (v := x) rfl evl_nil)) (qIntT hpT) ?_
    rintro v102 w101 ⟨rfl, hq1, hx103⟩
    have := World.grownBy.size hx103
    replace hG := hG.kept hx103 (fun b hb => by have := hr0 b hb; first | omega | exact .inr hb | exact .inl (by omega))
    replace ovT := ovT.kept hx103 (fun b hb => by have := hr0 b hb; first | omega | exact .inr hb | exact .inl (by omega))
    replace hO2 := hO2.keptR hx103 (fun b hb => by have := hr0 b hb; first | omega | exact .inr hb | exact .inl (by omega))
    replace hO3 := hO3.keptR hx103 (fun b hb => by have := hr0 b hb; first | omega | exact .inr hb | exact .inl (by omega))
    replace hpT := hq1
    refine WL.va rfl rfl rfl (X.fieldAddrO (off := 2) ((hACs3.eq 3).trans (congrFun hF13 3)) Try.underlying26 rfl rfl Try.sizeOf24) ?_
    refine WL.va rfl rfl rfl (X.fieldAddrP (off := 4) rfl Try.underlying24 rfl rfl Try.sizeOf3) ?_
    refine WL.op rfl (OW.storeO hO3 (Nat.le_of_ble_eq_true rfl) rfl rfl rfl Try.sizeOf3 ?_)
    intro w104 hO3 hx106
    have := World.grownBy.size hx106
    replace hpT := hpT.keptO hx106 (by omega)
    replace hG := hG.keptO hx106 (by omega)
    replace ovT := ovT.keptO hx106 (by omega)
    replace hO2 := hO2.keptO hx106 (by omega)
    replace hO3 : Blk _ _ _ ((⟨l1, s1.int.1, ⟨s1.int.2.int.1, s1.int.2.int.2.int.1, s1.int.2.int.2.int.2.int.1, s1.int.2.int.2.int.2.int.2.int.1, s1.int.2.int.2.int.2.int.2.int.2.int.1⟩⟩ : Mp).c vR) := hO3
    refine WL.nil ?_
    refine thn_n ?_
    refine WF.seq ?_
    refine WF.region ?_
    refine WL.va rfl rfl rfl (X.loadOA hO3 (Ext.refl _) ((hACs3.eq 3).trans (congrFun hF13 3)) rfl Try.isAgg26 Try.sizeOf26) ?_
    refine WL.op rfl (OW.storeOA hO2 ((hACs3.eq 2).trans (congrFun hF13 2)) rfl rfl (Mp.c_one (ovT).rd (⟨l1, s1.int.1, ⟨s1.int.2.int.1, s1.int.2.int.2.int.1, s1.int.2.int.2.int.2.int.1, s1.int.2.int.2.int.2.int.2.int.1, s1.int.2.int.2.int.2.int.2.int.2.int.1⟩⟩ : Mp)) Try.sizeOf26 ?_)
    intro w108 hO2 hx110
    have := World.grownBy.size hx110
    replace hpT := hpT.keptO hx110 (by omega)
    replace hG := hG.keptO hx110 (by omega)
    replace ovT := ovT.keptO hx110 (by omega)
    replace hO3 := hO3.keptO hx110 (by omega)
    refine WL.nil ?_
    refine thn_n ?_
    refine WF.ret ?_
    refine finC_r (vs := [_]) ⟨⟨_, ((hACs3.eq 2).trans (congrFun hF13 2)), readO hO2 Try.isAgg26 Try.sizeOf26⟩, trivial⟩ ?_
    refine ⟨⟨l1, s1, vR, by rw [mp6_eq]; rfl, by rw [six_eq]; exact hpT, (ovT).own, ?_⟩, (hG).x⟩
    rcases hX with e | ⟨e1, e2⟩
    · left; unfold tM mM; rw [e]; exact ⟨rfl, rfl⟩
    · exact .inr ⟨six_bad e1, six_bad e2⟩

section
variable {s s1 : Pk.RS} {m1 : Mp}
theorem getM_err (h : (s1 = tM s ∧ m1 = mM s) ∨ (s1.bad = true ∧ (tM s).bad = true)) (he : s1.err ≠ 0) : getM s = (Mp.zero, s1.err) := by
  have e : s1.err = (tM s).err := by
    rcases h with ⟨rfl, _⟩ | ⟨h1, h2⟩
    · rfl
    · rw [err_bad h1, err_bad h2]
  unfold getM
  rw [if_pos (by rw [← e]; exact he), e]
theorem getM_fin (h : (s1 = tM s ∧ m1 = mM s) ∨ (s1.bad = true ∧ (tM s).bad = true)) (he : s1.err = 0) : getM s = (if codeOf (checkB m1) = 0 then m1 else Mp.zero, codeOf (checkB m1)) := by
  rcases h with ⟨rfl, rfl⟩ | ⟨h1, _⟩
  · unfold getM
    rw [if_neg (not_not_intro he)]
    cases checkB (mM s) <;> simp [codeOf]
  · rw [err_bad h1] at he; exact absurd he (by decide)
end
set_option maxHeartbeats 2000000 in
theorem getMapR_ok (v : Value) (l : List UInt8) (w : World) (hb : Bytes w v l) (hl : l.length ≤ 1000000) : FnOk Try.prog 33 [v] w (fun x w' => (∃ vr, x = .tuple #[agg ((getM ⟨l, false⟩).1.c vr), i64 (getM ⟨l, false⟩).2] ∧ OwnR w' w.heap.size 41 vr (getM ⟨l, false⟩).1.R) ∧ Ext w w') := by
  refine FnOk.enterC (rs := [.cell 2 26, .tmp 3]) Try.func33 rfl Try.ntmps33 Try.results33 rfl rfl ?_
  refine WF.seq ?_
  refine WF.region ?_
  refine WL.op rfl (OW.allocO (cs := [.slice none 0 0, i64 0, i64 0, i64 0, i64 0, i64 0, i64 0]) Try.zeroValue26 rfl ?_ (by decide))
  intro g2 w1 heg2 hlg2 hO2 hx3
  have := World.grownBy.size hx3
  refine WL.va rfl rfl rfl (X.assignI rfl) ?_
  refine WL.nil ?_
  refine thn_n ?_
  refine WF.seq ?_
  refine WF.region ?_
  refine WL.va rfl rfl rfl (X.move rfl) ?_
  have hz1 := ((show Ext w w1 from hx3)).size
  refine WL.c rfl rfl rfl (X.call Try.call68 (evl_cons rfl evl_nil)) (qRead_ok _ _ _ (Row.ext hb hx3) (by omega)) ?_
  rintro vr w5 ⟨⟨vb, hp0⟩, hx6⟩
  have := World.grownBy.size hx6
  have hp1 := RRT.of hp0
  have hr0 := hp1.hr
  have hrl := hp1.low
  have hpT := hp1
  refine WL.va rfl rfl rfl (X.assign rfl) ?_
  refine WL.nil ?_
  refine thn_n ?_
  refine WF.seq ?_
  refine WF.region ?_
  refine WL.va rfl rfl rfl (X.move rfl) ?_
  refine WL.c rfl rfl rfl (X.call Try.call69 (evl_cons rfl evl_nil)) (readR_ok vr vb l _ _ _ _ hpT (Nat.le_refl _) hl) ?_
  rintro v8 w7 ⟨⟨l1, s1, vR, rfl, hq1, oR, hX⟩, hx9⟩
  have := World.grownBy.size hx9
  replace hO2 := (hO2.ext hx6).keptR hx9 (fun b hb => by have := hrl b hb; omega)
  replace hpT := hq1
  have oRT := OwnT.of oR
  refine WL.op rfl (OW.allocO (cs := [.slice none 0 0, i64 0, i64 0, i64 0, i64 0, i64 0, i64 0]) Try.zeroValue26 rfl ?_ (by decide))
  intro g5 w10 heg5 hlg5 hO5 hx12
  have := World.grownBy.size hx12
  refine WL.op rfl (OW.storeOA hO5 rfl rfl rfl (Mp.c_one (oRT.ext hx12).rd (mp6 l1 s1)) Try.sizeOf26 ?_)
  intro w14 hO5 hx16
  have := World.grownBy.size hx16
  replace hO2 := (hO2.ext hx12).keptO hx16 (by omega)
  replace hpT := (hpT.ext hx12).keptO hx16 (by omega)
  replace oRT := (oRT.ext hx12).keptO hx16 (by omega)
  replace hO5 : Blk _ _ _ ((mp6 l1 s1).c vR) := hO5
  refine WL.nil ?_
  refine thn_n ?_
  refine WF.seq ?_
  refine WF.region ?_
  refine WL.va rfl rfl rfl (X.move rfl) ?_
  refine WL.c rfl rfl rfl (X.call Try.call70 (evl_cons rfl evl_nil)) (qEndT hpT) ?_
  rintro v19 w18 ⟨rfl, hx20⟩
  have := World.grownBy.size hx20
  refine WL.va rfl rfl rfl (X.assignI rfl) ?_
  refine WL.nil ?_
  refine thn_n ?_
  refine WF.seq ?_
  refine WF.seq ?_
  refine WF.region ?_
  refine WL.va rfl rfl rfl (X.moveI rfl) ?_
  refine WL.va rfl rfl rfl (X.eql rfl rfl) ?_
  refine WL.nil ?_
  refine thn_n ?_
  refine WF.cond rfl (fun h0_21 => ?_) (fun h0_21 => ?_)
  · have gh0_21 := (of_decide_eq_true h0_21)
    have hE0 : (six s1).err = 0 := gh0_21
    refine WF.region ?_
    refine WL.va rfl rfl rfl (X.loadOA hO5 hx20 rfl rfl Try.isAgg26 Try.sizeOf26) ?_
    refine WL.c rfl rfl rfl (X.call Try.call12 (evl_cons rfl evl_nil)) (checkRef_eq (oRT.ext hx20).rd (mp6_E _ _)) ?_
    rintro v24 w23 ⟨rfl, hx25⟩
    have := World.grownBy.size hx25
    refine WL.va rfl rfl rfl (X.assignI rfl) ?_
    refine WL.nil ?_
    refine thn_n ?_
    refine WF.seq ?_
    refine WF.seq ?_
    refine WF.region ?_
    refine WL.va rfl rfl rfl (X.moveI rfl) ?_
    refine WL.va rfl rfl rfl (X.neq rfl rfl) ?_
    refine WL.nil ?_
    refine thn_n ?_
    refine WF.cond rfl (fun h1_26 => ?_) (fun h1_26 => ?_)
    · have gh1_26 := (of_decide_eq_true h1_26)
      have hF := gh1_26
      refine WF.seq ?_
      refine WF.region ?_
      refine WL.va rfl rfl rfl (X.build evp_nil Try.type26 Try.underlying26 rfl rfl trivial rfl) ?_
      refine WL.va rfl rfl rfl (X.moveI rfl) ?_
      refine WL.op rfl (OW.storeOA (hO2.ext (Ext.trans hx20 hx25)) rfl rfl rfl (by simp [Value.oneCell']) Try.sizeOf26 ?_)
      intro w28 hO2 hx30
      have := World.grownBy.size hx30
      replace oRT := (oRT.ext (Ext.trans hx20 hx25)).keptO hx30 (by omega)
      replace hO5 := (hO5.ext (Ext.trans hx20 hx25)).keptO hx30 (by omega)
      refine WL.va rfl rfl rfl (X.assignI rfl) ?_
      refine WL.nil ?_
      refine thn_n ?_
      refine WF.ret ?_
      refine thn_r ?_
      refine finC_r (vs := [_, _]) ⟨⟨_, rfl, readO hO2 Try.isAgg26 Try.sizeOf26⟩, rfl, trivial⟩ ?_
      first | (rw [getM_fin hX hE0, if_neg hF]; exact ⟨⟨nilS, rfl, OwnR.nil _ _ _⟩, (Ext.store (Ext.trans (Ext.trans (Ext.trans (grown_trans (Ext.trans hx3 hx6) hx9 (fun i hi => by have := hrl i hi; omega)) (Ext.store hx12 hx16 (by omega))) hx20) hx25) hx30 (by omega))⟩) | (rw [getM_err hX hE0]; exact ⟨⟨nilS, rfl, OwnR.nil _ _ _⟩, (Ext.store (Ext.trans (Ext.trans (Ext.trans (grown_trans (Ext.trans hx3 hx6) hx9 (fun i hi => by have := hrl i hi; omega)) (Ext.store hx12 hx16 (by omega))) hx20) hx25) hx30 (by omega))⟩)
    · have gh1_26 := (Decidable.of_not_not (of_decide_eq_false h1_26))
      have hF := gh1_26
      refine WF.skip ?_
      refine thn_n ?_
      refine WF.seq ?_
      refine WF.region ?_
      refine WL.va rfl rfl rfl (X.loadOA hO5 (Ext.trans hx20 hx25) rfl rfl Try.isAgg26 Try.sizeOf26) ?_
      refine WL.op rfl (OW.storeOA (hO2.ext (Ext.trans hx20 hx25)) rfl rfl rfl (Mp.c_one (oRT.ext (Ext.trans hx20 hx25)).rd (mp6 l1 s1)) Try.sizeOf26 ?_)
      intro w32 hO2 hx34
      have := World.grownBy.size hx34
      replace oRT := (oRT.ext (Ext.trans hx20 hx25)).keptO hx34 (by omega)
      replace hO5 := (hO5.ext (Ext.trans hx20 hx25)).keptO hx34 (by omega)
      refine WL.va rfl rfl rfl (X.assignI rfl) ?_
      refine WL.nil ?_
      refine thn_n ?_
      refine WF.ret ?_
      refine finC_r (vs := [_, _]) ⟨⟨_, rfl, readO hO2 Try.isAgg26 Try.sizeOf26⟩, rfl, trivial⟩ ?_
      first | exact absurd hF hE0 | (rw [getM_fin hX hE0, if_pos hF, show codeOf (checkB (mp6 l1 s1)) = 0 from hF]; exact ⟨⟨vR, rfl, own_mono oRT.own (by omega)⟩, (Ext.store (Ext.trans (Ext.trans (Ext.trans (grown_trans (Ext.trans hx3 hx6) hx9 (fun i hi => by have := hrl i hi; omega)) (Ext.store hx12 hx16 (by omega))) hx20) hx25) hx34 (by omega))⟩)
  · have gh0_21 := (of_decide_eq_false h0_21)
    have hE0 : ¬ (six s1).err = 0 := gh0_21
    refine WF.skip ?_
    refine thn_n ?_
    refine WF.seq ?_
    refine WF.seq ?_
    refine WF.region ?_
    refine WL.va rfl rfl rfl (X.moveI rfl) ?_
    refine WL.va rfl rfl rfl (X.neq rfl rfl) ?_
    refine WL.nil ?_
    refine thn_n ?_
    refine WF.cond rfl (fun h1_36 => ?_) (fun h1_36 => ?_)
    · have gh1_36 := (of_decide_eq_true h1_36)
      have hF := gh1_36
      refine WF.seq ?_
      refine WF.region ?_
      refine WL.va rfl rfl rfl (X.build evp_nil Try.type26 Try.underlying26 rfl rfl trivial rfl) ?_
      refine WL.va rfl rfl rfl (X.moveI rfl) ?_
      refine WL.op rfl (OW.storeOA (hO2.ext hx20) rfl rfl rfl (by simp [Value.oneCell']) Try.sizeOf26 ?_)
      intro w38 hO2 hx40
      have := World.grownBy.size hx40
      replace oRT := (oRT.ext hx20).keptO hx40 (by omega)
      replace hO5 := (hO5.ext hx20).keptO hx40 (by omega)
      refine WL.va rfl rfl rfl (X.assignI rfl) ?_
      refine WL.nil ?_
      refine thn_n ?_
      refine WF.ret ?_
      refine thn_r ?_
      refine finC_r (vs := [_, _]) ⟨⟨_, rfl, readO hO2 Try.isAgg26 Try.sizeOf26⟩, rfl, trivial⟩ ?_
      first | (rw [getM_fin hX hE0, if_neg hF]; exact ⟨⟨nilS, rfl, OwnR.nil _ _ _⟩, (Ext.store (Ext.trans (Ext.trans (grown_trans (Ext.trans hx3 hx6) hx9 (fun i hi => by have := hrl i hi; omega)) (Ext.store hx12 hx16 (by omega))) hx20) hx40 (by omega))⟩) | (rw [getM_err hX hE0]; exact ⟨⟨nilS, rfl, OwnR.nil _ _ _⟩, (Ext.store (Ext.trans (Ext.trans (grown_trans (Ext.trans hx3 hx6) hx9 (fun i hi => by have := hrl i hi; omega)) (Ext.store hx12 hx16 (by omega))) hx20) hx40 (by omega))⟩)
    · have gh1_36 := (Decidable.of_not_not (of_decide_eq_false h1_36))
      have hF := gh1_36
      refine WF.skip ?_
      refine thn_n ?_
      refine WF.seq ?_
      refine WF.region ?_
      refine WL.va rfl rfl rfl (X.loadOA hO5 hx20 rfl rfl Try.isAgg26 Try.sizeOf26) ?_
      refine WL.op rfl (OW.storeOA (hO2.ext hx20) rfl rfl rfl (Mp.c_one (oRT.ext hx20).rd (mp6 l1 s1)) Try.sizeOf26 ?_)
      intro w42 hO2 hx44
      have := World.grownBy.size hx44
      replace oRT := (oRT.ext hx20).keptO hx44 (by omega)
      replace hO5 := (hO5.ext hx20).keptO hx44 (by omega)
      refine WL.va rfl rfl rfl (X.assignI rfl) ?_
      refine WL.nil ?_
      refine thn_n ?_
      refine WF.ret ?_
      refine finC_r (vs := [_, _]) ⟨⟨_, rfl, readO hO2 Try.isAgg26 Try.sizeOf26⟩, rfl, trivial⟩ ?_
      first | exact absurd hF hE0 | (rw [getM_fin hX hE0, if_pos hF, show codeOf (checkB (mp6 l1 s1)) = 0 from hF]; exact ⟨⟨vR, rfl, own_mono oRT.own (by omega)⟩, (Ext.store (Ext.trans (Ext.trans (grown_trans (Ext.trans hx3 hx6) hx9 (fun i hi => by have := hrl i hi; omega)) (Ext.store hx12 hx16 (by omega))) hx20) hx44 (by omega))⟩)

end Go.Proofs.Ytpimnlgfhpnjnaa
