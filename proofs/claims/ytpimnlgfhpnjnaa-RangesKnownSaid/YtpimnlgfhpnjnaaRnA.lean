/- The walks of Find and Plan. -/
import Derived.Test.YtpimnlgfhpnjnaaRnK
namespace Go.Proofs.Ytpimnlgfhpnjnaa
open Go Go.RowKit Kf
set_option maxRecDepth 20000

theorem ofLit_ok (a : Rg) (g1 : Nat) (n : Int) (w : World) (h1 : Blk w g1 3 [i64 n]) : FnOk Try.prog 115 [agg a.c, at_ g1] w (fun r w' => r = .bool (decide (a.Group = n)) ∧ Ext w w') := by
  refine FnOk.enter (rs := [3]) Try.func115 rfl Try.ntmps115 Try.results115 rfl rfl ?_
  refine WF.seq ?_
  refine WF.region ?_
  refine WL.op rfl (OW.boxA (cs := _) rfl ?_ (by decide))
  intro g2 w1 heg2 hlg2 hO2 hx3
  have := World.grownBy.size hx3
  refine WL.va rfl rfl rfl (X.assignB rfl) ?_
  refine WL.nil ?_
  refine thn_n ?_
  refine WF.seq ?_
  refine WF.region ?_
  refine WL.va rfl rfl rfl (X.fieldAddrO (off := 2) rfl Try.underlying41 rfl rfl Try.sizeOf3) ?_
  refine WL.va rfl rfl rfl (X.loadO hO2 (Ext.refl _) rfl rfl Try.isAgg3) ?_
  refine WL.va rfl rfl rfl (X.loadO h1 hx3 rfl rfl Try.isAgg3) ?_
  refine WL.va rfl rfl rfl (X.eql rfl rfl) ?_
  refine WL.va rfl rfl rfl (X.assignB rfl) ?_
  refine WL.nil ?_
  refine thn_n ?_
  refine WF.ret ?_
  refine fin_r ?_
  exact ⟨rfl, hx3⟩

theorem findLit_ok (a : Rg) (g1 : Nat) (n : Int) (w : World) (h1 : Blk w g1 3 [i64 n]) : FnOk Try.prog 61 [agg a.c, at_ g1] w (fun r w' => r = .bool (decide (a.Lo ≤ n) && decide (n < a.Hi)) ∧ Ext w w') := by
  refine FnOk.enter (rs := [3]) Try.func61 rfl Try.ntmps61 Try.results61 rfl rfl ?_
  refine WF.seq ?_
  refine WF.region ?_
  refine WL.op rfl (OW.boxA (cs := _) rfl ?_ (by decide))
  intro g2 w1 heg2 hlg2 hO2 hx3
  have := World.grownBy.size hx3
  refine WL.va rfl rfl rfl (X.assignB rfl) ?_
  refine WL.nil ?_
  refine thn_n ?_
  refine WF.seq ?_
  refine WF.region ?_
  refine WL.va rfl rfl rfl (X.loadO h1 hx3 rfl rfl Try.isAgg3) ?_
  refine WL.va rfl rfl rfl (X.fieldAddrO (off := 0) rfl Try.underlying41 rfl rfl Try.sizeOf3) ?_
  refine WL.va rfl rfl rfl (X.loadO hO2 (Ext.refl _) rfl rfl Try.isAgg3) ?_
  refine WL.va rfl rfl rfl (X.geq rfl rfl) ?_
  refine WL.va rfl rfl rfl (X.moveB rfl) ?_
  refine WL.split (j := 4) rfl (fun h7 => ?_) (fun h7 => ?_)
  · have gh7 := (of_decide_eq_true h7)
    have q : a.Lo ≤ n := gh7
    refine WL.vg rfl (congrArg some h7) rfl rfl (X.loadO h1 hx3 rfl rfl Try.isAgg3) ?_
    refine WL.vg rfl (congrArg some h7) rfl rfl (X.fieldAddrO (off := 1) rfl Try.underlying41 rfl rfl Try.sizeOf3) ?_
    refine WL.vg rfl (congrArg some h7) rfl rfl (X.loadO hO2 (Ext.refl _) rfl rfl Try.isAgg3) ?_
    refine WL.vg rfl (congrArg some h7) rfl rfl (X.lss rfl rfl) ?_
    refine WL.va rfl rfl rfl (X.pickT rfl h7 rfl) ?_
    refine WL.va rfl rfl rfl (X.assignB rfl) ?_
    refine WL.nil ?_
    refine thn_n ?_
    refine WF.ret ?_
    refine fin_r ?_
    exact ⟨congrArg Value.bool (by first | (rw [decide_eq_true q]; rfl) | (rw [decide_eq_false q]; rfl)), hx3⟩
  · have gh7 := (of_decide_eq_false h7)
    have q : ¬ a.Lo ≤ n := gh7
    refine WL.p rfl rfl rfl (congrArg some h7) ?_
    refine WL.p rfl rfl rfl (congrArg some h7) ?_
    refine WL.p rfl rfl rfl (congrArg some h7) ?_
    refine WL.p rfl rfl rfl (congrArg some h7) ?_
    refine WL.va rfl rfl rfl (X.pickF rfl h7 rfl) ?_
    refine WL.va rfl rfl rfl (X.assignB rfl) ?_
    refine WL.nil ?_
    refine thn_n ?_
    refine WF.ret ?_
    refine fin_r ?_
    exact ⟨congrArg Value.bool (by first | (rw [decide_eq_true q]; rfl) | (rw [decide_eq_false q]; rfl)), hx3⟩

/-- the place of a range, or -1 -/
def PlaceR (l : List Rg) (p : Rg → Bool) (z : Int) : Prop := (∃ k : Nat, ∃ hk : k < l.length, z = (k : Int) ∧ l.find? p = some l[k]) ∨ (z = -1 ∧ l.find? p = none)
theorem place_of {l : List Rg} {p : Rg → Bool} {z : Int} (h : IdxZ (fun k => p (l.getD k Rg.zero)) l.length z) : PlaceR l p z := by
  have gd : ∀ j (hj : j < l.length), l.getD j Rg.zero = l[j] := fun j hj => by simp [hj]
  rcases h with ⟨k, h1, h2, h3, h4⟩ | ⟨h1, h2⟩
  · refine .inl ⟨k, h1, h2, find_at h1 (gd k h1 ▸ h3) fun j hj hjk => ?_⟩
    have := h4 j hjk; simp only [gd j hj] at this; exact this
  · refine .inr ⟨h1, find_no fun j hj => ?_⟩
    have := h2 j hj; simp only [gd j hj] at this; exact this
theorem of_ok (m : Mp) (v : Value) (n : Int) (w : World) (hv : Rgs w v m.R) : FnOk Try.prog 95 [agg (m.c v), i64 n] w (fun r w' => (∃ z, r = i64 z ∧ PlaceR m.R (fun r => decide (r.Group = n)) z) ∧ Ext w w') := by
  refine FnOk.enter (rs := [4]) Try.func95 rfl Try.ntmps95 Try.results95 rfl rfl ?_
  refine WF.seq ?_
  refine WF.region ?_
  refine WL.op rfl (OW.boxA (cs := (m.c v)) rfl ?_ (by decide))
  intro g2 w1 heg2 hlg2 hO2 hx3
  have := World.grownBy.size hx3
  refine WL.op rfl (OW.box1 rfl rfl ?_ (by decide))
  intro g3 w5 heg3 hlg3 hO3 hx7
  have := World.grownBy.size hx7
  refine WL.va rfl rfl rfl (X.assignI rfl) ?_
  refine WL.nil ?_
  refine thn_n ?_
  refine WF.seq ?_
  refine WF.region ?_
  refine WL.va rfl rfl rfl (X.fieldAddrO (off := 0) rfl Try.underlying26 rfl rfl Try.sizeOf22) ?_
  refine WL.va rfl rfl rfl (X.loadO hO2 hx7 rfl rfl Try.isAgg22) ?_
  refine WL.va rfl rfl rfl (X.makeFunc (evl_cons rfl evl_nil)) ?_
  have hclo : ∀ k w1, k < m.R.length → Ext w5 w1 → CloOk Try.prog (.func (.func 115) #[] [at_ g3].toArray) [agg (el (m.R.flatMap Rg.c) 4 k)] w1 (fun r w2 => r = .bool ((fun (r : Rg) => decide (r.Group = n)) (m.R.getD k Rg.zero)) ∧ Ext w1 w2) := fun k w1 hk hx => ⟨_, _, rfl, Try.call115, (by rw [show el (m.R.flatMap Rg.c) 4 k = (m.R[k]'hk).c from Rgs.el hk, show m.R.getD k Rg.zero = m.R[k]'hk from by simp [hk]]; exact ofLit_ok _ _ _ _ (hO3.ext hx))⟩
  refine WL.c rfl rfl rfl (X.call Try.call60 (evl_cons rfl (evl_cons rfl evl_nil))) (indexR_ok _ _ _ _ (fun k => (fun (r : Rg) => decide (r.Group = n)) (m.R.getD k Rg.zero)) _ (Row.ext hv (Ext.trans hx3 hx7)) hclo) ?_
  rintro v10 w9 ⟨⟨z, rfl, hz⟩, hx11⟩
  have := World.grownBy.size hx11
  refine WL.va rfl rfl rfl (X.assignI rfl) ?_
  refine WL.nil ?_
  refine thn_n ?_
  refine WF.ret ?_
  refine fin_r ?_
  exact ⟨⟨z, rfl, place_of (p := (fun (r : Rg) => decide (r.Group = n))) hz⟩, (Ext.trans (Ext.trans hx3 hx7) hx11)⟩

set_option maxHeartbeats 1000000 in
theorem findC_ok (m : Mp) (v : Value) (n : Int) (w : World) (hv : Rgs w v m.R) : FnOk Try.prog 23 [agg (m.c v), i64 n] w (fun r w' => r = .tuple #[agg ((findM m.R n).getD Rg.zero).c, .bool (findM m.R n).isSome] ∧ Ext w w') := by
  refine FnOk.enterC (rs := [.cell 4 41, .tmp 5]) Try.func23 rfl Try.ntmps23 Try.results23 rfl rfl ?_
  refine WF.seq ?_
  refine WF.region ?_
  refine WL.op rfl (OW.boxA (cs := (m.c v)) rfl ?_ (by decide))
  intro g2 w1 heg2 hlg2 hO2 hx3
  have := World.grownBy.size hx3
  refine WL.op rfl (OW.box1 rfl rfl ?_ (by decide))
  intro g3 w5 heg3 hlg3 hO3 hx7
  have := World.grownBy.size hx7
  refine WL.op rfl (OW.allocO (cs := [i64 0, i64 0, i64 0, i64 0]) Try.zeroValue41 rfl ?_ (by decide))
  intro g4 w9 heg4 hlg4 hO4 hx11
  have := World.grownBy.size hx11
  refine WL.va rfl rfl rfl (X.assignB rfl) ?_
  refine WL.nil ?_
  refine thn_n ?_
  refine WF.seq ?_
  refine WF.region ?_
  refine WL.va rfl rfl rfl (X.fieldAddrO (off := 0) rfl Try.underlying26 rfl rfl Try.sizeOf22) ?_
  refine WL.va rfl rfl rfl (X.loadO hO2 (Ext.trans hx7 hx11) rfl rfl Try.isAgg22) ?_
  refine WL.va rfl rfl rfl (X.makeFunc (evl_cons rfl evl_nil)) ?_
  have hclo : ∀ k w1, k < m.R.length → Ext w9 w1 → CloOk Try.prog (.func (.func 61) #[] [at_ g3].toArray) [agg (el (m.R.flatMap Rg.c) 4 k)] w1 (fun r w2 => r = .bool ((fun (r : Rg) => decide (r.Lo ≤ n) && decide (n < r.Hi)) (m.R.getD k Rg.zero)) ∧ Ext w1 w2) := fun k w1 hk hx => ⟨_, _, rfl, Try.call61, (by rw [show el (m.R.flatMap Rg.c) 4 k = (m.R[k]'hk).c from Rgs.el hk, show m.R.getD k Rg.zero = m.R[k]'hk from by simp [hk]]; exact findLit_ok _ _ _ _ ((hO3.ext hx11).ext hx))⟩
  refine WL.c rfl rfl rfl (X.call Try.call60 (evl_cons rfl (evl_cons rfl evl_nil))) (indexR_ok _ _ _ _ (fun k => (fun (r : Rg) => decide (r.Lo ≤ n) && decide (n < r.Hi)) (m.R.getD k Rg.zero)) _ (Row.ext hv (Ext.trans (Ext.trans hx3 hx7) hx11)) hclo) ?_
  rintro v15 w14 ⟨⟨z, rfl, hz⟩, hx16⟩
  have := World.grownBy.size hx16
  have hp := place_of (p := (fun (r : Rg) => decide (r.Lo ≤ n) && decide (n < r.Hi))) hz
  refine WL.va rfl rfl rfl (X.assignI rfl) ?_
  refine WL.nil ?_
  refine thn_n ?_
  refine WF.seq ?_
  refine WF.seq ?_
  refine WF.region ?_
  refine WL.va rfl rfl rfl (X.moveI rfl) ?_
  refine WL.va rfl rfl rfl (X.lss rfl rfl) ?_
  refine WL.nil ?_
  refine thn_n ?_
  refine WF.cond rfl (fun h0_17 => ?_) (fun h0_17 => ?_)
  · have gh0_17 := (of_decide_eq_true h0_17)
    have hf : findM m.R n = none := by rcases hp with ⟨k, hk, e, _⟩ | ⟨_, h⟩; omega; exact h
    refine WF.seq ?_
    refine WF.region ?_
    refine WL.va rfl rfl rfl (X.buildL (P := Try.prog) (t := 41) (cs := (Rg.c Rg.zero)) evp_nil Try.type41 Try.underlying41 rfl rfl trivial rfl) ?_
    refine WL.op rfl (OW.storeOA (hO4.ext hx16) rfl rfl rfl (Rg.c_one Rg.zero) Try.sizeOf41 ?_)
    intro w19 hO4 hx21
    have := World.grownBy.size hx21
    replace hO2 := (hO2.ext (Ext.trans (Ext.trans hx7 hx11) hx16)).keptO hx21 (by omega)
    replace hO3 := (hO3.ext (Ext.trans hx11 hx16)).keptO hx21 (by omega)
    replace hO4 : Blk _ _ _ (Rg.c Rg.zero) := hO4
    refine WL.va rfl rfl rfl (X.assignB rfl) ?_
    refine WL.nil ?_
    refine thn_n ?_
    refine WF.ret ?_
    refine thn_r ?_
    refine finC_r (vs := [_, _]) ⟨⟨_, rfl, readO hO4 Try.isAgg41 Try.sizeOf41⟩, rfl, trivial⟩ ?_
    rw [hf]; exact ⟨rfl, (Ext.trans (Ext.trans hx3 hx7) (Ext.store (Ext.trans hx11 hx16) hx21 (by omega)))⟩
  · have gh0_17 := (of_decide_eq_false h0_17)
    obtain ⟨k, hk, rfl, hf⟩ : ∃ k : Nat, ∃ hk : k < m.R.length, z = (k : Int) ∧ findM m.R n = some m.R[k] := by
      rcases hp with h | ⟨e, _⟩
      · exact h
      · omega
    refine WF.skip ?_
    refine thn_n ?_
    refine WF.seq ?_
    refine WF.region ?_
    refine WL.va rfl rfl rfl (X.fieldAddrO (off := 0) rfl Try.underlying26 rfl rfl Try.sizeOf22) ?_
    refine WL.va rfl rfl rfl (X.loadO hO2 (Ext.trans (Ext.trans hx7 hx11) hx16) rfl rfl Try.isAgg22) ?_
    refine WL.va rfl rfl rfl (X.moveI rfl) ?_
    refine WL.va rfl rfl rfl (X.idx hv rfl rfl (by omega) Try.underlying22 Try.sizeOf41) ?_
    refine WL.va rfl rfl rfl (X.loadEl hv (Ext.trans (Ext.trans (Ext.trans hx3 hx7) hx11) hx16) rfl (by omega) (Rgs.el (l := m.R) (k := k) hk) Try.isAgg41 Try.sizeOf41) ?_
    refine WL.op rfl (OW.storeOA (hO4.ext hx16) rfl rfl rfl (Rg.c_one _) Try.sizeOf41 ?_)
    intro w24 hO4 hx26
    have := World.grownBy.size hx26
    replace hO2 := (hO2.ext (Ext.trans (Ext.trans hx7 hx11) hx16)).keptO hx26 (by omega)
    replace hO3 := (hO3.ext (Ext.trans hx11 hx16)).keptO hx26 (by omega)
    refine WL.va rfl rfl rfl (X.assignB rfl) ?_
    refine WL.nil ?_
    refine thn_n ?_
    refine WF.ret ?_
    refine finC_r (vs := [_, _]) ⟨⟨_, rfl, readO hO4 Try.isAgg41 Try.sizeOf41⟩, rfl, trivial⟩ ?_
    rw [hf]; exact ⟨rfl, (Ext.trans (Ext.trans hx3 hx7) (Ext.store (Ext.trans hx11 hx16) hx26 (by omega)))⟩

set_option maxHeartbeats 4000000 in
theorem planned_ok (m : Mp) (v : Value) (x : Mv) (w : World) (hv : Rgs w v m.R) : FnOk Try.prog 54 [agg (m.c v), agg x.c] w (fun r w' => r = i64 (planned m x) ∧ Ext w w') := by
  have hle := hv.le64
  refine FnOk.enter (rs := [4]) Try.func54 rfl Try.ntmps54 Try.results54 rfl rfl ?_
  refine WF.seq ?_
  refine WF.region ?_
  refine WL.op rfl (OW.boxA (cs := (m.c v)) rfl ?_ (by decide))
  intro g2 w1 heg2 hlg2 hO2 hx3
  have := World.grownBy.size hx3
  refine WL.op rfl (OW.boxA (cs := (Mv.c x)) rfl ?_ (by decide))
  intro g3 w5 heg3 hlg3 hO3 hx7
  have := World.grownBy.size hx7
  refine WL.va rfl rfl rfl (X.assignI rfl) ?_
  refine WL.nil ?_
  refine thn_n ?_
  refine WF.seq ?_
  refine WF.drawn (.q 0 (.q 1 (.q 2 (.q 4 (.q 5 (.q 6 (.l 3 (.l 7 (.q 8 (.q 9 .nil)))))))))) (fun w' => Ext w5 w') 10 (by kernel_rfl) (by kernel_rfl) (Ext.drew _) ?_
  have := World.grownBy.size (Ext.drew w5)
  refine WO.q rfl rfl rfl rfl (fun w' hE9 => (X.loadOA hO2 (Ext.trans hx7 hE9) rfl rfl Try.isAgg26 Try.sizeOf26)) ?_
  refine WO.q rfl rfl rfl rfl (fun w' hE9 => (X.fieldAddrO (off := 1) rfl Try.underlying24 rfl rfl Try.sizeOf3)) ?_
  refine WO.q rfl rfl rfl rfl (fun w' hE9 => (X.loadO hO3 hE9 rfl rfl Try.isAgg3)) ?_
  refine WO.q rfl rfl rfl rfl (fun w' hE9 => (X.loadOA hO2 (Ext.trans hx7 hE9) rfl rfl Try.isAgg26 Try.sizeOf26)) ?_
  refine WO.q rfl rfl rfl rfl (fun w' hE9 => (X.fieldAddrO (off := 2) rfl Try.underlying24 rfl rfl Try.sizeOf3)) ?_
  refine WO.q rfl rfl rfl rfl (fun w' hE9 => (X.loadO hO3 hE9 rfl rfl Try.isAgg3)) ?_
  refine WO.l ?_
  refine LO.go rfl rfl (OW.enter rfl (by decide) (X.call Try.call95 (evl_cons rfl (evl_cons rfl evl_nil))) (of_ok m v x.From _ (Row.ext hv (Ext.trans (Ext.trans hx3 hx7) (Ext.drew _)))) ?_)
  rintro v11 w10 ⟨⟨z1, rfl, hz1⟩, hx12⟩
  have := World.grownBy.size hx12
  refine ⟨(Ext.trans (Ext.drew _) hx12), ?_⟩
  refine WO.l ?_
  refine LO.go rfl rfl (OW.enter rfl (by decide) (X.call Try.call95 (evl_cons rfl (evl_cons rfl evl_nil))) (of_ok m v x.To _ (Row.ext hv (Ext.trans (Ext.trans (Ext.trans hx3 hx7) (Ext.drew _)) hx12))) ?_)
  rintro v14 w13 ⟨⟨z2, rfl, hz2⟩, hx15⟩
  have := World.grownBy.size hx15
  refine ⟨(Ext.trans (Ext.trans (Ext.drew _) hx12) hx15), ?_⟩
  refine WO.q rfl rfl rfl rfl (fun w' hE9 => (X.assignI rfl)) ?_
  refine WO.q rfl rfl rfl rfl (fun w' hE9 => (X.assignI rfl)) ?_
  refine WO.nil ?_
  refine WL.nil ?_
  refine thn_n ?_
  refine WF.seq ?_
  refine WF.block ?_
  refine WF.seq ?_
  refine WF.region ?_
  refine WL.va rfl rfl rfl (X.fieldAddrO (off := 2) rfl Try.underlying26 rfl rfl Try.sizeOf24) ?_
  refine WL.va rfl rfl rfl (X.fieldAddrP (off := 0) rfl Try.underlying24 rfl rfl Try.sizeOf3) ?_
  refine WL.va rfl rfl rfl (X.loadO hO2 (Ext.trans (Ext.trans (Ext.trans hx7 (Ext.drew _)) hx12) hx15) rfl rfl Try.isAgg3) ?_
  refine WL.va rfl rfl rfl (X.gtr rfl rfl) ?_
  refine WL.va rfl rfl rfl (X.assignB rfl) ?_
  refine WL.nil ?_
  refine thn_n ?_
  refine WF.cond rfl (fun h0_16 => ?_) (fun h0_16 => ?_)
  · have gh0_16 := (of_decide_eq_true h0_16)
    have hr : planned m x = 11 := if_pos gh0_16
    refine WF.seq ?_
    refine WF.region ?_
    refine WL.va rfl rfl rfl (X.assignI rfl) ?_
    refine WL.nil ?_
    refine thn_n ?_
    refine WF.ret ?_
    refine blk_r ?_
    refine thn_r ?_
    refine fin_r ?_
    rw [hr]; exact ⟨rfl, (Ext.trans (Ext.trans (Ext.trans (Ext.trans hx3 hx7) (Ext.drew _)) hx12) hx15)⟩
  · have gh0_16 := (of_decide_eq_false h0_16)
    have n0 : ¬ 0 < m.M.Epoch := gh0_16
    refine WF.seq ?_
    refine WF.region ?_
    refine WL.va rfl rfl rfl (X.moveI rfl) ?_
    refine WL.va rfl rfl rfl (X.lss rfl rfl) ?_
    refine WL.va rfl rfl rfl (X.assignB rfl) ?_
    refine WL.nil ?_
    refine thn_n ?_
    refine WF.cond rfl (fun h1_18 => ?_) (fun h1_18 => ?_)
    · have gh1_18 := (of_decide_eq_true h1_18)
      have hf : ofG m.R x.From = none := by rcases hz1 with ⟨k, hk, e, _⟩ | ⟨_, h⟩; omega; exact h
      have hr : planned m x = 6 := by unfold planned; rw [if_neg n0, hf]
      refine WF.seq ?_
      refine WF.region ?_
      refine WL.va rfl rfl rfl (X.assignI rfl) ?_
      refine WL.nil ?_
      refine thn_n ?_
      refine WF.ret ?_
      refine blk_r ?_
      refine thn_r ?_
      refine fin_r ?_
      rw [hr]; exact ⟨rfl, (Ext.trans (Ext.trans (Ext.trans (Ext.trans hx3 hx7) (Ext.drew _)) hx12) hx15)⟩
    · have gh1_18 := (of_decide_eq_false h1_18)
      obtain ⟨k, hk, rfl, hf⟩ : ∃ k : Nat, ∃ hk : k < m.R.length, z1 = (k : Int) ∧ ofG m.R x.From = some m.R[k] := by
        rcases hz1 with h | ⟨e, _⟩
        · exact h
        · omega
      have hpl : planned m x = if badR m.R[k] x then 3 else if badG x then 27 else if orderB m.R x then 15 else if 1099511627776 ≤ m.E then 17 else 0 := by unfold planned; rw [if_neg n0, hf]
      refine WF.skip ?_
      refine blk_n ?_
      refine thn_n ?_
      refine WF.seq ?_
      refine WF.region ?_
      refine WL.va rfl rfl rfl (X.fieldAddrO (off := 0) rfl Try.underlying26 rfl rfl Try.sizeOf22) ?_
      refine WL.va rfl rfl rfl (X.loadO hO2 (Ext.trans (Ext.trans (Ext.trans hx7 (Ext.drew _)) hx12) hx15) rfl rfl Try.isAgg22) ?_
      refine WL.va rfl rfl rfl (X.moveI rfl) ?_
      refine WL.va rfl rfl rfl (X.idx hv rfl rfl (by omega) Try.underlying22 Try.sizeOf41) ?_
      refine WL.va rfl rfl rfl (X.loadEl hv (Ext.trans (Ext.trans (Ext.trans (Ext.trans hx3 hx7) (Ext.drew _)) hx12) hx15) rfl (by omega) (Rgs.el (l := m.R) (k := k) hk) Try.isAgg41 Try.sizeOf41) ?_
      refine WL.op rfl (OW.allocO (cs := [i64 0, i64 0, i64 0, i64 0]) Try.zeroValue41 rfl ?_ (by decide))
      intro g7 w20 heg7 hlg7 hO7 hx22
      have := World.grownBy.size hx22
      refine WL.op rfl (OW.storeOA hO7 rfl rfl rfl (Rg.c_one _) Try.sizeOf41 ?_)
      intro w24 hO7 hx26
      have := World.grownBy.size hx26
      replace hO2 := (hO2.ext (Ext.trans (Ext.trans (Ext.trans (Ext.trans hx7 (Ext.drew _)) hx12) hx15) hx22)).keptO hx26 (by omega)
      replace hO3 := (hO3.ext (Ext.trans (Ext.trans (Ext.trans (Ext.drew _) hx12) hx15) hx22)).keptO hx26 (by omega)
      refine WL.nil ?_
      refine thn_n ?_
      refine WF.seq ?_
      refine WF.block ?_
      refine WF.named (fun F28 hF29 => ?_)
      refine WF.cut (fun f' w' => f' 29 = .bool (badR (m.R[k]'hk) x) ∧ Agree [0, 1, 2, 3, 4, 5, 6, 7, 8, 9, 10, 11, 12, 13, 14, 15, 16, 17, 18, 19, 20, 21, 22, 23, 24, 25, 26, 27, 28] f' F28 ∧ w24 = w') ?_ ?_
      · refine WF.seq ?_
        refine WF.region ?_
        refine WL.va rfl rfl rfl (X.fieldAddrO (off := 3) (congrFun hF29 3) Try.underlying24 rfl rfl Try.sizeOf3) ?_
        refine WL.va rfl rfl rfl (X.loadO hO3 (Ext.refl _) rfl rfl Try.isAgg3) ?_
        refine WL.va rfl rfl rfl (X.fieldAddrO (off := 4) (congrFun hF29 3) Try.underlying24 rfl rfl Try.sizeOf3) ?_
        refine WL.va rfl rfl rfl (X.loadO hO3 (Ext.refl _) rfl rfl Try.isAgg3) ?_
        refine WL.va rfl rfl rfl (X.geq rfl rfl) ?_
        refine WL.va rfl rfl rfl (X.assignB rfl) ?_
        refine WL.nil ?_
        refine thn_n ?_
        refine WF.cond rfl (fun h2_30 => ?_) (fun h2_30 => ?_)
        · have gh2_30 := (of_decide_eq_true h2_30)
          refine WF.skip ?_
          refine thn_n ?_
          exact ⟨(congrArg Value.bool (by rw [Bool.eq_iff_iff]; simp [badR] <;> omega)), (by repeat (first | exact (Agree.refl _ F28) | refine Agree.put ?_ rfl | refine Agree.named hF29 ?_)), rfl⟩
        · have gh2_30 := (of_decide_eq_false h2_30)
          refine WF.seq ?_
          refine WF.region ?_
          refine WL.va rfl rfl rfl (X.fieldAddrO (off := 3) (congrFun hF29 3) Try.underlying24 rfl rfl Try.sizeOf3) ?_
          refine WL.va rfl rfl rfl (X.loadO hO3 (Ext.refl _) rfl rfl Try.isAgg3) ?_
          refine WL.va rfl rfl rfl (X.fieldAddrO (off := 0) (congrFun hF29 7) Try.underlying41 rfl rfl Try.sizeOf3) ?_
          refine WL.va rfl rfl rfl (X.loadO hO7 (Ext.refl _) rfl rfl Try.isAgg3) ?_
          refine WL.va rfl rfl rfl (X.lss rfl rfl) ?_
          refine WL.va rfl rfl rfl (X.assignB rfl) ?_
          refine WL.nil ?_
          refine thn_n ?_
          refine WF.cond rfl (fun h3_32 => ?_) (fun h3_32 => ?_)
          · have gh3_32 := (of_decide_eq_true h3_32)
            refine WF.skip ?_
            refine thn_n ?_
            exact ⟨(congrArg Value.bool (by rw [Bool.eq_iff_iff]; simp [badR] <;> omega)), (by repeat (first | exact (Agree.refl _ F28) | refine Agree.put ?_ rfl | refine Agree.named hF29 ?_)), rfl⟩
          · have gh3_32 := (of_decide_eq_false h3_32)
            refine WF.seq ?_
            refine WF.region ?_
            refine WL.va rfl rfl rfl (X.fieldAddrO (off := 4) (congrFun hF29 3) Try.underlying24 rfl rfl Try.sizeOf3) ?_
            refine WL.va rfl rfl rfl (X.loadO hO3 (Ext.refl _) rfl rfl Try.isAgg3) ?_
            refine WL.va rfl rfl rfl (X.fieldAddrO (off := 1) (congrFun hF29 7) Try.underlying41 rfl rfl Try.sizeOf3) ?_
            refine WL.va rfl rfl rfl (X.loadO hO7 (Ext.refl _) rfl rfl Try.isAgg3) ?_
            refine WL.va rfl rfl rfl (X.gtr rfl rfl) ?_
            refine WL.va rfl rfl rfl (X.assignB rfl) ?_
            refine WL.nil ?_
            refine thn_n ?_
            refine WF.cond rfl (fun h4_34 => ?_) (fun h4_34 => ?_)
            · have gh4_34 := (of_decide_eq_true h4_34)
              refine WF.skip ?_
              refine thn_n ?_
              exact ⟨(congrArg Value.bool (by rw [Bool.eq_iff_iff]; simp [badR] <;> omega)), (by repeat (first | exact (Agree.refl _ F28) | refine Agree.put ?_ rfl | refine Agree.named hF29 ?_)), rfl⟩
            · have gh4_34 := (of_decide_eq_false h4_34)
              refine WF.region ?_
              refine WL.va rfl rfl rfl (X.fieldAddrO (off := 3) (congrFun hF29 3) Try.underlying24 rfl rfl Try.sizeOf3) ?_
              refine WL.va rfl rfl rfl (X.loadO hO3 (Ext.refl _) rfl rfl Try.isAgg3) ?_
              refine WL.va rfl rfl rfl (X.fieldAddrO (off := 0) (congrFun hF29 7) Try.underlying41 rfl rfl Try.sizeOf3) ?_
              refine WL.va rfl rfl rfl (X.loadO hO7 (Ext.refl _) rfl rfl Try.isAgg3) ?_
              refine WL.va rfl rfl rfl (X.gtr rfl rfl) ?_
              refine WL.va rfl rfl rfl (X.moveB rfl) ?_
              refine WL.split (j := 5) rfl (fun h37 => ?_) (fun h37 => ?_)
              · have gh37 := (of_decide_eq_true h37)
                refine WL.vg rfl (congrArg some h37) rfl rfl (X.fieldAddrO (off := 4) (congrFun hF29 3) Try.underlying24 rfl rfl Try.sizeOf3) ?_
                refine WL.vg rfl (congrArg some h37) rfl rfl (X.loadO hO3 (Ext.refl _) rfl rfl Try.isAgg3) ?_
                refine WL.vg rfl (congrArg some h37) rfl rfl (X.fieldAddrO (off := 1) (congrFun hF29 7) Try.underlying41 rfl rfl Try.sizeOf3) ?_
                refine WL.vg rfl (congrArg some h37) rfl rfl (X.loadO hO7 (Ext.refl _) rfl rfl Try.isAgg3) ?_
                refine WL.vg rfl (congrArg some h37) rfl rfl (X.lss rfl rfl) ?_
                refine WL.va rfl rfl rfl (X.pickT rfl h37 rfl) ?_
                refine WL.va rfl rfl rfl (X.assignB rfl) ?_
                refine WL.nil ?_
                refine thn_n ?_
                exact ⟨(congrArg Value.bool (by rw [Bool.eq_iff_iff]; simp [badR] <;> omega)), (by repeat (first | exact (Agree.refl _ F28) | refine Agree.put ?_ rfl | refine Agree.named hF29 ?_)), rfl⟩
              · have gh37 := (of_decide_eq_false h37)
                refine WL.p rfl rfl rfl (congrArg some h37) ?_
                refine WL.p rfl rfl rfl (congrArg some h37) ?_
                refine WL.p rfl rfl rfl (congrArg some h37) ?_
                refine WL.p rfl rfl rfl (congrArg some h37) ?_
                refine WL.p rfl rfl rfl (congrArg some h37) ?_
                refine WL.va rfl rfl rfl (X.pickF rfl h37 rfl) ?_
                refine WL.va rfl rfl rfl (X.assignB rfl) ?_
                refine WL.nil ?_
                refine thn_n ?_
                exact ⟨(congrArg Value.bool (by rw [Bool.eq_iff_iff]; simp [badR] <;> omega)), (by repeat (first | exact (Agree.refl _ F28) | refine Agree.put ?_ rfl | refine Agree.named hF29 ?_)), rfl⟩
      · rintro fCs7 wCs7 ⟨e29_Cs7, hACs7, rfl⟩
        refine WF.cond e29_Cs7 (fun h5_40 => ?_) (fun h5_40 => ?_)
        · have gh5_40 := h5_40
          have hr : planned m x = 3 := hpl.trans (if_pos gh5_40)
          refine WF.seq ?_
          refine WF.region ?_
          refine WL.va rfl rfl rfl (X.assignI rfl) ?_
          refine WL.nil ?_
          refine thn_n ?_
          refine WF.ret ?_
          refine blk_r ?_
          refine thn_r ?_
          refine fin_r ?_
          rw [hr]; exact ⟨rfl, (Ext.trans (Ext.trans (Ext.trans (Ext.trans (Ext.trans hx3 hx7) (Ext.drew _)) hx12) hx15) (Ext.store hx22 hx26 (by omega)))⟩
        · have gh5_40 := h5_40
          have hq1 := hpl.trans (if_neg (by rw [gh5_40]; simp))
          refine WF.named (fun F42 hF43 => ?_)
          refine WF.cut (fun f' w' => f' 57 = .bool (badG x) ∧ Agree [0, 1, 2, 3, 4, 5, 6, 7, 8, 9, 10, 11, 12, 13, 14, 15, 16, 17, 18, 19, 20, 21, 22, 23, 24, 25, 26, 27, 28, 29] f' F42 ∧ w24 = w') ?_ ?_
          · refine WF.seq ?_
            refine WF.region ?_
            refine WL.va rfl rfl rfl (X.fieldAddrO (off := 2) ((congrFun hF43 3).trans ((hACs7.eq 3).trans (congrFun hF29 3))) Try.underlying24 rfl rfl Try.sizeOf3) ?_
            refine WL.va rfl rfl rfl (X.loadO hO3 (Ext.refl _) rfl rfl Try.isAgg3) ?_
            refine WL.va rfl rfl rfl (X.lss rfl rfl) ?_
            refine WL.va rfl rfl rfl (X.assignB rfl) ?_
            refine WL.nil ?_
            refine thn_n ?_
            refine WF.cond rfl (fun h6_44 => ?_) (fun h6_44 => ?_)
            · have gh6_44 := (of_decide_eq_true h6_44)
              refine WF.skip ?_
              refine thn_n ?_
              exact ⟨(congrArg Value.bool (by rw [Bool.eq_iff_iff]; simp [badG] <;> omega)), (by repeat (first | exact (Agree.refl _ F42) | refine Agree.put ?_ rfl | refine Agree.sub hACs7 rfl ?_ | refine Agree.named hF43 ?_ | refine Agree.named hF29 ?_)), rfl⟩
            · have gh6_44 := (of_decide_eq_false h6_44)
              refine WF.seq ?_
              refine WF.region ?_
              refine WL.va rfl rfl rfl (X.fieldAddrO (off := 2) ((congrFun hF43 3).trans ((hACs7.eq 3).trans (congrFun hF29 3))) Try.underlying24 rfl rfl Try.sizeOf3) ?_
              refine WL.va rfl rfl rfl (X.loadO hO3 (Ext.refl _) rfl rfl Try.isAgg3) ?_
              refine WL.va rfl rfl rfl (X.gtr rfl rfl) ?_
              refine WL.va rfl rfl rfl (X.assignB rfl) ?_
              refine WL.nil ?_
              refine thn_n ?_
              refine WF.cond rfl (fun h7_46 => ?_) (fun h7_46 => ?_)
              · have gh7_46 := (of_decide_eq_true h7_46)
                refine WF.skip ?_
                refine thn_n ?_
                exact ⟨(congrArg Value.bool (by rw [Bool.eq_iff_iff]; simp [badG] <;> omega)), (by repeat (first | exact (Agree.refl _ F42) | refine Agree.put ?_ rfl | refine Agree.sub hACs7 rfl ?_ | refine Agree.named hF43 ?_ | refine Agree.named hF29 ?_)), rfl⟩
              · have gh7_46 := (of_decide_eq_false h7_46)
                refine WF.region ?_
                refine WL.va rfl rfl rfl (X.fieldAddrO (off := 2) ((congrFun hF43 3).trans ((hACs7.eq 3).trans (congrFun hF29 3))) Try.underlying24 rfl rfl Try.sizeOf3) ?_
                refine WL.va rfl rfl rfl (X.loadO hO3 (Ext.refl _) rfl rfl Try.isAgg3) ?_
                refine WL.va rfl rfl rfl (X.fieldAddrO (off := 1) ((congrFun hF43 3).trans ((hACs7.eq 3).trans (congrFun hF29 3))) Try.underlying24 rfl rfl Try.sizeOf3) ?_
                refine WL.va rfl rfl rfl (X.loadO hO3 (Ext.refl _) rfl rfl Try.isAgg3) ?_
                refine WL.va rfl rfl rfl (X.eql rfl rfl) ?_
                refine WL.va rfl rfl rfl (X.assignB rfl) ?_
                refine WL.nil ?_
                refine thn_n ?_
                exact ⟨(congrArg Value.bool (by rw [Bool.eq_iff_iff]; simp [badG] <;> omega)), (by repeat (first | exact (Agree.refl _ F42) | refine Agree.put ?_ rfl | refine Agree.sub hACs7 rfl ?_ | refine Agree.named hF43 ?_ | refine Agree.named hF29 ?_)), rfl⟩
          · rintro fCs12 wCs12 ⟨e57_Cs12, hACs12, rfl⟩
            refine WF.cond e57_Cs12 (fun h8_49 => ?_) (fun h8_49 => ?_)
            · have gh8_49 := h8_49
              have hr : planned m x = 27 := hq1.trans (if_pos gh8_49)
              refine WF.seq ?_
              refine WF.region ?_
              refine WL.va rfl rfl rfl (X.assignI rfl) ?_
              refine WL.nil ?_
              refine thn_n ?_
              refine WF.ret ?_
              refine blk_r ?_
              refine thn_r ?_
              refine fin_r ?_
              rw [hr]; exact ⟨rfl, (Ext.trans (Ext.trans (Ext.trans (Ext.trans (Ext.trans hx3 hx7) (Ext.drew _)) hx12) hx15) (Ext.store hx22 hx26 (by omega)))⟩
            · have gh8_49 := h8_49
              have hq2 := hq1.trans (if_neg (by rw [gh8_49]; simp))
              refine WF.named (fun F51 hF52 => ?_)
              refine WF.cut (fun f' w' => f' 69 = .bool (orderB m.R x) ∧ Agree [0, 1, 2, 3, 4, 5, 6, 7, 8, 9, 10, 11, 12, 13, 14, 15, 16, 17, 18, 19, 20, 21, 22, 23, 24, 25, 26, 27, 28, 29, 57] f' F51 ∧ Ext w24 w') ?_ ?_
              · refine WF.drawn (.q 0 (.q 1 (.q 2 (.q 3 (.q 4 (.q 5 (.q 6 (.q 7 (.q 8 (.q 9 (.q 10 (.q 11 (.q 12 (.q 13 (.q 14 (.q 15 (.q 16 (.q 17 (.q 18 (.q 19 (.q 20 (.q 21 (.q 22 (.q 23 (.q 24 .nil))))))))))))))))))))))))) (fun w' => Ext w24 w') 25 (by kernel_rfl) (by kernel_rfl) (Ext.drew _) ?_
                have := World.grownBy.size (Ext.drew w24)
                refine WO.q rfl rfl rfl rfl (fun w' hE53 => (X.moveI ((congrFun hF52 6).trans ((hACs12.eq 6).trans ((congrFun hF43 6).trans ((hACs7.eq 6).trans (congrFun hF29 6))))))) ?_
                refine WO.q rfl rfl rfl rfl (fun w' hE53 => (X.geq rfl rfl)) ?_
                refine WO.q rfl rfl rfl rfl (fun w' hE53 => (X.moveB rfl)) ?_
                refine WO.split (j := 2) rfl (fun h55 => ?_) (fun h55 => ?_)
                · have gh55 := (of_decide_eq_true h55)
                  obtain ⟨j, hj, rfl, hf2⟩ : ∃ j : Nat, ∃ hj : j < m.R.length, z2 = (j : Int) ∧ ofG m.R x.To = some m.R[j] := by
                    rcases hz2 with h | ⟨e, _⟩
                    · exact h
                    · omega
                  have ho : orderB m.R x = (decide (m.R[j].Hi ≠ x.Lo) && decide (m.R[j].Lo ≠ x.Hi)) := by unfold orderB; rw [hf2]
                  refine WO.qg rfl rfl (congrArg some h55) rfl rfl (fun w' hE53 => (X.fieldAddrO (off := 0) ((congrFun hF52 2).trans ((hACs12.eq 2).trans ((congrFun hF43 2).trans ((hACs7.eq 2).trans (congrFun hF29 2))))) Try.underlying26 rfl rfl Try.sizeOf22)) ?_
                  refine WO.qg rfl rfl (congrArg some h55) rfl rfl (fun w' hE53 => (X.loadO hO2 hE53 rfl rfl Try.isAgg22)) ?_
                  refine WO.qg rfl rfl (congrArg some h55) rfl rfl (fun w' hE53 => (X.moveI ((congrFun hF52 6).trans ((hACs12.eq 6).trans ((congrFun hF43 6).trans ((hACs7.eq 6).trans (congrFun hF29 6))))))) ?_
                  refine WO.qg rfl rfl (congrArg some h55) rfl rfl (fun w' hE53 => (X.idx hv rfl rfl (by omega) Try.underlying22 Try.sizeOf41)) ?_
                  refine WO.qg rfl rfl (congrArg some h55) rfl rfl (fun w' hE53 => (X.fieldAddrA rfl Try.underlying41 rfl rfl Try.sizeOf3)) ?_
                  refine WO.qg rfl rfl (congrArg some h55) rfl rfl (fun w' hE53 => (X.loadE hv (Ext.trans (Ext.trans (Ext.trans (Ext.trans (Ext.trans (Ext.trans hx3 hx7) (Ext.drew _)) hx12) hx15) (Ext.store hx22 hx26 (by omega))) hE53) rfl (by omega) ((Rgs.get hj (by decide)).trans rfl) Try.isAgg3)) ?_
                  refine WO.qg rfl rfl (congrArg some h55) rfl rfl (fun w' hE53 => (X.fieldAddrO (off := 3) ((congrFun hF52 3).trans ((hACs12.eq 3).trans ((congrFun hF43 3).trans ((hACs7.eq 3).trans (congrFun hF29 3))))) Try.underlying24 rfl rfl Try.sizeOf3)) ?_
                  refine WO.qg rfl rfl (congrArg some h55) rfl rfl (fun w' hE53 => (X.loadO hO3 hE53 rfl rfl Try.isAgg3)) ?_
                  refine WO.qg rfl rfl (congrArg some h55) rfl rfl (fun w' hE53 => (X.neq rfl rfl)) ?_
                  refine WO.q rfl rfl rfl rfl (fun w' hE53 => (X.pickT rfl h55 rfl)) ?_
                  refine WO.q rfl rfl rfl rfl (fun w' hE53 => (X.moveB rfl)) ?_
                  refine WO.split (j := 13) rfl (fun h57 => ?_) (fun h57 => ?_)
                  · have gh57 := (of_decide_eq_true h57)
                    have o1 : m.R[j].Hi ≠ x.Lo := gh57
                    refine WO.qg rfl rfl (congrArg some h57) rfl rfl (fun w' hE53 => (X.fieldAddrO (off := 0) ((congrFun hF52 2).trans ((hACs12.eq 2).trans ((congrFun hF43 2).trans ((hACs7.eq 2).trans (congrFun hF29 2))))) Try.underlying26 rfl rfl Try.sizeOf22)) ?_
                    refine WO.qg rfl rfl (congrArg some h57) rfl rfl (fun w' hE53 => (X.loadO hO2 hE53 rfl rfl Try.isAgg22)) ?_
                    refine WO.qg rfl rfl (congrArg some h57) rfl rfl (fun w' hE53 => (X.moveI ((congrFun hF52 6).trans ((hACs12.eq 6).trans ((congrFun hF43 6).trans ((hACs7.eq 6).trans (congrFun hF29 6))))))) ?_
                    refine WO.qg rfl rfl (congrArg some h57) rfl rfl (fun w' hE53 => (X.idx hv rfl rfl (by omega) Try.underlying22 Try.sizeOf41)) ?_
                    refine WO.qg rfl rfl (congrArg some h57) rfl rfl (fun w' hE53 => (X.fieldAddrA rfl Try.underlying41 rfl rfl Try.sizeOf3)) ?_
                    refine WO.qg rfl rfl (congrArg some h57) rfl rfl (fun w' hE53 => (X.loadE hv (Ext.trans (Ext.trans (Ext.trans (Ext.trans (Ext.trans (Ext.trans hx3 hx7) (Ext.drew _)) hx12) hx15) (Ext.store hx22 hx26 (by omega))) hE53) rfl (by omega) ((Rgs.get hj (by decide)).trans rfl) Try.isAgg3)) ?_
                    refine WO.qg rfl rfl (congrArg some h57) rfl rfl (fun w' hE53 => (X.fieldAddrO (off := 4) ((congrFun hF52 3).trans ((hACs12.eq 3).trans ((congrFun hF43 3).trans ((hACs7.eq 3).trans (congrFun hF29 3))))) Try.underlying24 rfl rfl Try.sizeOf3)) ?_
                    refine WO.qg rfl rfl (congrArg some h57) rfl rfl (fun w' hE53 => (X.loadO hO3 hE53 rfl rfl Try.isAgg3)) ?_
                    refine WO.qg rfl rfl (congrArg some h57) rfl rfl (fun w' hE53 => (X.neq rfl rfl)) ?_
                    refine WO.q rfl rfl rfl rfl (fun w' hE53 => (X.pickT rfl h57 rfl)) ?_
                    refine WO.q rfl rfl rfl rfl (fun w' hE53 => (X.assignB rfl)) ?_
                    refine WO.nil ?_
                    refine WL.nil ?_
                    refine thn_n ?_
                    exact ⟨(congrArg Value.bool (by first | (rw [ho, decide_eq_true o1]; rfl) | (rw [ho, decide_eq_false o1]; rfl) | rw [ho])), (by repeat (first | exact (Agree.refl _ F51) | refine Agree.put ?_ rfl | refine Agree.sub hACs12 rfl ?_ | refine Agree.sub hACs7 rfl ?_ | refine Agree.named hF52 ?_ | refine Agree.named hF43 ?_ | refine Agree.named hF29 ?_)), (Ext.drew _)⟩
                  · have gh57 := (Decidable.of_not_not (of_decide_eq_false h57))
                    have o1 : ¬ m.R[j].Hi ≠ x.Lo := fun e => e gh57
                    refine WO.qp rfl rfl rfl rfl (congrArg some h57) ?_
                    refine WO.qp rfl rfl rfl rfl (congrArg some h57) ?_
                    refine WO.qp rfl rfl rfl rfl (congrArg some h57) ?_
                    refine WO.qp rfl rfl rfl rfl (congrArg some h57) ?_
                    refine WO.qp rfl rfl rfl rfl (congrArg some h57) ?_
                    refine WO.qp rfl rfl rfl rfl (congrArg some h57) ?_
                    refine WO.qp rfl rfl rfl rfl (congrArg some h57) ?_
                    refine WO.qp rfl rfl rfl rfl (congrArg some h57) ?_
                    refine WO.qp rfl rfl rfl rfl (congrArg some h57) ?_
                    refine WO.q rfl rfl rfl rfl (fun w' hE53 => (X.pickF rfl h57 rfl)) ?_
                    refine WO.q rfl rfl rfl rfl (fun w' hE53 => (X.assignB rfl)) ?_
                    refine WO.nil ?_
                    refine WL.nil ?_
                    refine thn_n ?_
                    exact ⟨(congrArg Value.bool (by first | (rw [ho, decide_eq_true o1]; rfl) | (rw [ho, decide_eq_false o1]; rfl) | rw [ho])), (by repeat (first | exact (Agree.refl _ F51) | refine Agree.put ?_ rfl | refine Agree.sub hACs12 rfl ?_ | refine Agree.sub hACs7 rfl ?_ | refine Agree.named hF52 ?_ | refine Agree.named hF43 ?_ | refine Agree.named hF29 ?_)), (Ext.drew _)⟩
                · have gh55 := (of_decide_eq_false h55)
                  have ho : orderB m.R x = false := by rcases hz2 with ⟨j, hj, e, _⟩ | ⟨_, h⟩; omega; unfold orderB; rw [show ofG m.R x.To = none from h]
                  refine WO.qp rfl rfl rfl rfl (congrArg some h55) ?_
                  refine WO.qp rfl rfl rfl rfl (congrArg some h55) ?_
                  refine WO.qp rfl rfl rfl rfl (congrArg some h55) ?_
                  refine WO.qp rfl rfl rfl rfl (congrArg some h55) ?_
                  refine WO.qp rfl rfl rfl rfl (congrArg some h55) ?_
                  refine WO.qp rfl rfl rfl rfl (congrArg some h55) ?_
                  refine WO.qp rfl rfl rfl rfl (congrArg some h55) ?_
                  refine WO.qp rfl rfl rfl rfl (congrArg some h55) ?_
                  refine WO.qp rfl rfl rfl rfl (congrArg some h55) ?_
                  refine WO.q rfl rfl rfl rfl (fun w' hE53 => (X.pickF rfl h55 rfl)) ?_
                  refine WO.q rfl rfl rfl rfl (fun w' hE53 => (X.moveB rfl)) ?_
                  refine WO.qp rfl rfl rfl rfl rfl ?_
                  refine WO.qp rfl rfl rfl rfl rfl ?_
                  refine WO.qp rfl rfl rfl rfl rfl ?_
                  refine WO.qp rfl rfl rfl rfl rfl ?_
                  refine WO.qp rfl rfl rfl rfl rfl ?_
                  refine WO.qp rfl rfl rfl rfl rfl ?_
                  refine WO.qp rfl rfl rfl rfl rfl ?_
                  refine WO.qp rfl rfl rfl rfl rfl ?_
                  refine WO.qp rfl rfl rfl rfl rfl ?_
                  refine WO.q rfl rfl rfl rfl (fun w' hE53 => (X.pickF rfl rfl rfl)) ?_
                  refine WO.q rfl rfl rfl rfl (fun w' hE53 => (X.assignB rfl)) ?_
                  refine WO.nil ?_
                  refine WL.nil ?_
                  refine thn_n ?_
                  exact ⟨(congrArg Value.bool (by first | (rw [ho, decide_eq_true o1]; rfl) | (rw [ho, decide_eq_false o1]; rfl) | rw [ho])), (by repeat (first | exact (Agree.refl _ F51) | refine Agree.put ?_ rfl | refine Agree.sub hACs12 rfl ?_ | refine Agree.sub hACs7 rfl ?_ | refine Agree.named hF52 ?_ | refine Agree.named hF43 ?_ | refine Agree.named hF29 ?_)), (Ext.drew _)⟩
              · rintro fCr16 wCr16 ⟨e69_Cr16, hACr16, hwCr16⟩
                have := World.grownBy.size hwCr16
                refine WF.cond e69_Cr16 (fun h9_62 => ?_) (fun h9_62 => ?_)
                · have gh9_62 := h9_62
                  have hr : planned m x = 15 := hq2.trans (if_pos gh9_62)
                  refine WF.seq ?_
                  refine WF.region ?_
                  refine WL.va rfl rfl rfl (X.assignI rfl) ?_
                  refine WL.nil ?_
                  refine thn_n ?_
                  refine WF.ret ?_
                  refine blk_r ?_
                  refine thn_r ?_
                  refine fin_r ?_
                  rw [hr]; exact ⟨rfl, (Ext.trans (Ext.trans (Ext.trans (Ext.trans (Ext.trans (Ext.trans hx3 hx7) (Ext.drew _)) hx12) hx15) (Ext.store hx22 hx26 (by omega))) hwCr16)⟩
                · have gh9_62 := h9_62
                  have hq3 := hq2.trans (if_neg (by rw [gh9_62]; simp))
                  refine WF.seq ?_
                  refine WF.region ?_
                  refine WL.va rfl rfl rfl (X.fieldAddrO (off := 1) ((hACr16.eq 2).trans ((congrFun hF52 2).trans ((hACs12.eq 2).trans ((congrFun hF43 2).trans ((hACs7.eq 2).trans (congrFun hF29 2)))))) Try.underlying26 rfl rfl Try.sizeOf3) ?_
                  refine WL.va rfl rfl rfl (X.loadO hO2 hwCr16 rfl rfl Try.isAgg3) ?_
                  refine WL.va rfl rfl rfl (X.geq rfl rfl) ?_
                  refine WL.va rfl rfl rfl (X.assignB rfl) ?_
                  refine WL.nil ?_
                  refine thn_n ?_
                  refine WF.cond rfl (fun h10_65 => ?_) (fun h10_65 => ?_)
                  · have gh10_65 := (of_decide_eq_true h10_65)
                    have hr : planned m x = 17 := hq3.trans (if_pos gh10_65)
                    refine WF.seq ?_
                    refine WF.region ?_
                    refine WL.va rfl rfl rfl (X.assignI rfl) ?_
                    refine WL.nil ?_
                    refine thn_n ?_
                    refine WF.ret ?_
                    refine blk_r ?_
                    refine thn_r ?_
                    refine fin_r ?_
                    rw [hr]; exact ⟨rfl, (Ext.trans (Ext.trans (Ext.trans (Ext.trans (Ext.trans (Ext.trans hx3 hx7) (Ext.drew _)) hx12) hx15) (Ext.store hx22 hx26 (by omega))) hwCr16)⟩
                  · have gh10_65 := (of_decide_eq_false h10_65)
                    have hr : planned m x = 0 := hq3.trans (if_neg gh10_65)
                    refine WF.skip ?_
                    refine blk_n ?_
                    refine thn_n ?_
                    refine WF.seq ?_
                    refine WF.region ?_
                    refine WL.va rfl rfl rfl (X.assignI rfl) ?_
                    refine WL.nil ?_
                    refine thn_n ?_
                    refine WF.ret ?_
                    refine fin_r ?_
                    rw [hr]; exact ⟨rfl, (Ext.trans (Ext.trans (Ext.trans (Ext.trans (Ext.trans (Ext.trans hx3 hx7) (Ext.drew _)) hx12) hx15) (Ext.store hx22 hx26 (by omega))) hwCr16)⟩

theorem planM_no {m : Mp} {x : Mv} (h : planned m x ≠ 0) : planM m x = (Mp.zero, planned m x) := if_pos h
theorem planM_yes {m : Mp} {x : Mv} (h : planned m x = 0) : planM m x = (⟨m.R, m.E + 1, { x with Epoch := m.E + 1 }⟩, 0) := if_neg (fun e => e h)
theorem planned_lt {m : Mp} {x : Mv} (h : planned m x = 0) : m.E < 1099511627776 := by
  unfold planned at h
  split at h
  · cases h
  · split at h
    · cases h
    · split at h
      · cases h
      · split at h
        · cases h
        · split at h
          · cases h
          · split at h
            · cases h
            · omega
set_option maxHeartbeats 2000000 in
theorem plan_ok (m : Mp) (v : Value) (x : Mv) (w : World) (hv : Rgs w v m.R) (hz : m.R.length ≤ 1000000) (hE : -9223372036854775808 ≤ m.E) : FnOk Try.prog 15 [agg (m.c v), agg x.c] w (fun r w' => (∃ u, r = .tuple #[agg ((planM m x).1.c u), i64 (planM m x).2] ∧ OwnR w' w.heap.size 41 u (planM m x).1.R) ∧ Ext w w') := by
  refine FnOk.enterC (rs := [.cell 4 26, .tmp 5]) Try.func15 rfl Try.ntmps15 Try.results15 rfl rfl ?_
  refine WF.seq ?_
  refine WF.region ?_
  refine WL.op rfl (OW.boxA (cs := (m.c v)) rfl ?_ (by decide))
  intro g2 w1 heg2 hlg2 hO2 hx3
  have := World.grownBy.size hx3
  refine WL.op rfl (OW.boxA (cs := (Mv.c x)) rfl ?_ (by decide))
  intro g3 w5 heg3 hlg3 hO3 hx7
  have := World.grownBy.size hx7
  refine WL.op rfl (OW.allocO (cs := [.slice none 0 0, i64 0, i64 0, i64 0, i64 0, i64 0, i64 0]) Try.zeroValue26 rfl ?_ (by decide))
  intro g4 w9 heg4 hlg4 hO4 hx11
  have := World.grownBy.size hx11
  refine WL.va rfl rfl rfl (X.assignI rfl) ?_
  refine WL.nil ?_
  refine thn_n ?_
  refine WF.seq ?_
  refine WF.seq ?_
  refine WF.region ?_
  refine WL.va rfl rfl rfl (X.loadOA hO2 (Ext.trans hx7 hx11) rfl rfl Try.isAgg26 Try.sizeOf26) ?_
  refine WL.va rfl rfl rfl (X.loadOA hO3 hx11 rfl rfl Try.isAgg24 Try.sizeOf24) ?_
  refine WL.c rfl rfl rfl (X.call Try.call54 (evl_cons rfl (evl_cons rfl evl_nil))) (planned_ok m v x _ (Row.ext hv (Ext.trans (Ext.trans hx3 hx7) hx11))) ?_
  rintro v14 w13 ⟨rfl, hx15⟩
  have := World.grownBy.size hx15
  refine WL.va rfl rfl rfl (X.assignI rfl) ?_
  refine WL.nil ?_
  refine thn_n ?_
  refine WF.seq ?_
  refine WF.region ?_
  refine WL.va rfl rfl rfl (X.moveI rfl) ?_
  refine WL.va rfl rfl rfl (X.neq rfl rfl) ?_
  refine WL.nil ?_
  refine thn_n ?_
  refine WF.cond rfl (fun h0_16 => ?_) (fun h0_16 => ?_)
  · have gh0_16 := (of_decide_eq_true h0_16)
    have hp := planM_no gh0_16
    refine WF.seq ?_
    refine WF.region ?_
    refine WL.va rfl rfl rfl (X.buildL (P := Try.prog) (t := 26) (cs := (Mp.c Mp.zero nilS)) evp_nil Try.type26 Try.underlying26 rfl rfl trivial rfl) ?_
    refine WL.va rfl rfl rfl (X.moveI rfl) ?_
    refine WL.op rfl (OW.storeOA (hO4.ext hx15) rfl rfl rfl (Mp.c_one (Rgs.nil w) Mp.zero) Try.sizeOf26 ?_)
    intro w18 hO4 hx20
    have := World.grownBy.size hx20
    replace hO2 := (hO2.ext (Ext.trans (Ext.trans hx7 hx11) hx15)).keptO hx20 (by omega)
    replace hO3 := (hO3.ext (Ext.trans hx11 hx15)).keptO hx20 (by omega)
    replace hO4 : Blk _ _ _ (Mp.c Mp.zero nilS) := hO4
    refine WL.va rfl rfl rfl (X.assignI rfl) ?_
    refine WL.nil ?_
    refine thn_n ?_
    refine WF.ret ?_
    refine thn_r ?_
    refine finC_r (vs := [_, _]) ⟨⟨_, rfl, readO hO4 Try.isAgg26 Try.sizeOf26⟩, rfl, trivial⟩ ?_
    rw [hp]; exact ⟨⟨_, rfl, OwnR.nil _ _ _⟩, (Ext.trans (Ext.trans hx3 hx7) (Ext.store (Ext.trans hx11 hx15) hx20 (by omega)))⟩
  · have gh0_16 := (Decidable.of_not_not (of_decide_eq_false h0_16))
    have hp := planM_yes gh0_16
    have hlt := planned_lt gh0_16
    refine WF.skip ?_
    refine thn_n ?_
    refine WF.seq ?_
    refine WF.region ?_
    refine WL.va rfl rfl rfl (X.fieldAddrO (off := 0) rfl Try.underlying26 rfl rfl Try.sizeOf22) ?_
    refine WL.va rfl rfl rfl (X.loadO hO2 (Ext.trans (Ext.trans hx7 hx11) hx15) rfl rfl Try.isAgg22) ?_
    have hzu := ((show Ext w w13 from (Ext.trans (Ext.trans (Ext.trans hx3 hx7) hx11) hx15))).size
    refine WL.c rfl rfl rfl (X.call Try.call55 (evl_cons rfl evl_nil)) (cloneR_ok _ (m.R.flatMap Rg.c) m.R.length _ (Row.ext hv (Ext.trans (Ext.trans (Ext.trans hx3 hx7) hx11) hx15)) rgs_one hz) ?_
    rintro vu w22 ⟨ou, hx23⟩
    have := World.grownBy.size hx23
    refine WL.va rfl rfl rfl (X.fieldAddrO (off := 0) rfl Try.underlying26 rfl rfl Try.sizeOf22) ?_
    refine WL.op rfl (OW.storeO (hO2.ext (Ext.trans (Ext.trans (Ext.trans hx7 hx11) hx15) hx23)) (Nat.le_of_ble_eq_true rfl) rfl rfl (own_one ou) Try.sizeOf22 ?_)
    intro w24 hO2 hx26
    have := World.grownBy.size hx26
    replace hO3 := (hO3.ext (Ext.trans (Ext.trans hx11 hx15) hx23)).keptO hx26 (by omega)
    replace hO4 := (hO4.ext (Ext.trans hx15 hx23)).keptO hx26 (by omega)
    replace ou := own_keptO ou hx26 (by omega)
    replace hO2 : Blk _ _ _ (m.c vu) := hO2
    refine WL.nil ?_
    refine thn_n ?_
    refine WF.seq ?_
    refine WF.region ?_
    refine WL.va rfl rfl rfl (X.fieldAddrO (off := 1) rfl Try.underlying26 rfl rfl Try.sizeOf3) ?_
    refine WL.va rfl rfl rfl (X.loadO hO2 (Ext.refl _) rfl rfl Try.isAgg3) ?_
    refine WL.va rfl rfl rfl (X.add rfl rfl (w64 (by omega))) ?_
    refine WL.va rfl rfl rfl (X.fieldAddrO (off := 1) rfl Try.underlying26 rfl rfl Try.sizeOf3) ?_
    refine WL.op rfl (OW.storeO hO2 (Nat.le_of_ble_eq_true rfl) rfl rfl rfl Try.sizeOf3 ?_)
    intro w28 hO2 hx30
    have := World.grownBy.size hx30
    replace hO3 := hO3.keptO hx30 (by omega)
    replace hO4 := hO4.keptO hx30 (by omega)
    replace ou := own_keptO ou hx30 (by omega)
    replace hO2 : Blk _ _ _ (Mp.c ⟨m.R, m.E + 1, m.M⟩ vu) := hO2
    refine WL.nil ?_
    refine thn_n ?_
    refine WF.seq ?_
    refine WF.region ?_
    refine WL.va rfl rfl rfl (X.fieldAddrO (off := 1) rfl Try.underlying26 rfl rfl Try.sizeOf3) ?_
    refine WL.va rfl rfl rfl (X.loadO hO2 (Ext.refl _) rfl rfl Try.isAgg3) ?_
    refine WL.va rfl rfl rfl (X.fieldAddrO (off := 0) rfl Try.underlying24 rfl rfl Try.sizeOf3) ?_
    refine WL.op rfl (OW.storeO hO3 (Nat.le_of_ble_eq_true rfl) rfl rfl rfl Try.sizeOf3 ?_)
    intro w32 hO3 hx34
    have := World.grownBy.size hx34
    replace hO2 := hO2.keptO hx34 (by omega)
    replace hO4 := hO4.keptO hx34 (by omega)
    replace ou := own_keptO ou hx34 (by omega)
    replace hO3 : Blk _ _ _ (Mv.c { x with Epoch := m.E + 1 }) := hO3
    refine WL.nil ?_
    refine thn_n ?_
    refine WF.seq ?_
    refine WF.region ?_
    refine WL.va rfl rfl rfl (X.loadOA hO3 (Ext.refl _) rfl rfl Try.isAgg24 Try.sizeOf24) ?_
    refine WL.va rfl rfl rfl (X.fieldAddrO (off := 2) rfl Try.underlying26 rfl rfl Try.sizeOf24) ?_
    refine WL.op rfl (OW.storeU (us := (Mv.c { x with Epoch := m.E + 1 })) hO2 (Nat.le_of_ble_eq_true rfl) rfl rfl rfl (Mv.c_one _) Try.sizeOf24 ?_)
    intro w36 hO2 hx38
    have := World.grownBy.size hx38
    replace hO3 := hO3.keptO hx38 (by omega)
    replace hO4 := hO4.keptO hx38 (by omega)
    replace ou := own_keptO ou hx38 (by omega)
    replace hO2 : Blk _ _ _ (Mp.c ⟨m.R, m.E + 1, { x with Epoch := m.E + 1 }⟩ vu) := hO2
    refine WL.nil ?_
    refine thn_n ?_
    refine WF.seq ?_
    refine WF.region ?_
    refine WL.va rfl rfl rfl (X.loadOA hO2 (Ext.refl _) rfl rfl Try.isAgg26 Try.sizeOf26) ?_
    refine WL.op rfl (OW.storeOA hO4 rfl rfl rfl (Mp.c_one (Row.of_own ou) ⟨m.R, m.E + 1, { x with Epoch := m.E + 1 }⟩) Try.sizeOf26 ?_)
    intro w40 hO4 hx42
    have := World.grownBy.size hx42
    replace hO2 := hO2.keptO hx42 (by omega)
    replace hO3 := hO3.keptO hx42 (by omega)
    replace ou := own_keptO ou hx42 (by omega)
    refine WL.va rfl rfl rfl (X.assignI rfl) ?_
    refine WL.nil ?_
    refine thn_n ?_
    refine WF.ret ?_
    refine finC_r (vs := [_, _]) ⟨⟨_, rfl, readO hO4 Try.isAgg26 Try.sizeOf26⟩, rfl, trivial⟩ ?_
    rw [hp]; exact ⟨⟨_, rfl, own_mono ou (by omega)⟩, (Ext.store (Ext.store (Ext.store (Ext.store (Ext.store (Ext.trans (Ext.trans (Ext.trans (Ext.trans hx3 hx7) hx11) hx15) hx23) hx26 (by omega)) hx30 (by omega)) hx34 (by omega)) hx38 (by omega)) hx42 (by omega))⟩

end Go.Proofs.Ytpimnlgfhpnjnaa
