/- The walks of the kit's functions over bytes, of bytes' and slices' functions. -/
import Derived.Test.YtpimnlgfhpnjnaaChecked
import Derived.Test.YtpimnlgfhpnjnaaSesLaw
import Derived.Test.YtpimnlgfhpnjnaaPackK
namespace Go.Proofs.Ytpimnlgfhpnjnaa.Se
open Go Go.RowKit Kf
set_option maxRecDepth 20000

theorem cloneB_ok (v : Value) (l : List UInt8) (w : World) (hb : Bytes w v l) (hn : l.length ≤ 1000000) : FnOk Try.prog 128 [v] w (fun r w' => OwnB w' w.heap.size 5 r l ∧ Ext w w') := by
  refine FnOk.enter (rs := [2]) Try.func128 rfl Try.ntmps128 Try.results128 rfl rfl ?_
  refine WF.seq ?_
  refine WF.region ?_
  refine WL.va rfl rfl rfl (X.assign rfl) ?_
  refine WL.nil ?_
  refine thn_n ?_
  refine WF.seq ?_
  refine WF.seq ?_
  refine WF.region ?_
  refine WL.va rfl rfl rfl (X.move rfl) ?_
  refine WL.va rfl rfl rfl (X.eqlNilS hb rfl rfl Try.underlying46) ?_
  refine WL.nil ?_
  refine thn_n ?_
  refine WF.cond rfl (fun h0_1 => ?_) (fun h0_1 => ?_)
  · have gh0_1 := h0_1
    have hl0 : l.length = 0 := isNilS_len hb gh0_1
    obtain rfl : l = [] := List.eq_nil_of_length_eq_zero hl0
    refine WF.seq ?_
    refine WF.region ?_
    refine WL.va rfl rfl rfl (X.assign rfl) ?_
    refine WL.nil ?_
    refine thn_n ?_
    refine WF.ret ?_
    refine thn_r ?_
    refine fin_r ?_
    exact ⟨World.ownsRow_nil _ _ _ _, (Ext.refl _)⟩
  · have gh0_1 := h0_1
    refine WF.skip ?_
    refine thn_n ?_
    refine WF.seq ?_
    refine WF.region ?_
    refine WL.op rfl (OW.lit0 Try.underlying46 Try.sizeOf5 ?_ (by decide))
    intro v4 w3 ho6 hx5
    have hn0 : OwnB w3 _ _ v4 [] := ho6
    refine WL.va rfl rfl rfl (X.move rfl) ?_
    refine WL.op rfl (OW.appendB hn0 (Row.ext hb hx5) rfl rfl Try.underlying46 Try.type5 rfl rfl rfl rfl (by simp; omega) (hx5).size ?_ (by decide))
    intro v8 w7 ho10 hx9 hmvhx9
    have ho := ho10
    refine WL.va rfl rfl rfl (X.assign rfl) ?_
    refine WL.nil ?_
    refine thn_n ?_
    refine WF.ret ?_
    refine fin_r ?_
    exact ⟨ho, (Ext.own hx5 hn0 (Nat.le_refl _) hx9)⟩

theorem clone_ok (e : SV) (w : World) (hb : Bytes w e.2 e.1.Data) (hn : e.1.Data.length ≤ 1000000) : FnOk Try.prog 110 [agg (SV.c e)] w (fun r w' => ∃ dv, r = agg (SV.c (e.1, dv)) ∧ OwnB w' w.heap.size 5 dv e.1.Data ∧ Ext w w') := by
  refine FnOk.enterC (rs := [.cell 2 55]) Try.func110 rfl Try.ntmps110 Try.results110 rfl rfl ?_
  refine WF.seq ?_
  refine WF.region ?_
  refine WL.op rfl (OW.boxA (cs := (SV.c e)) rfl ?_ (by decide))
  intro g1 w1 heg1 hlg1 hO1 hx3
  have := World.grownBy.size hx3
  refine WL.op rfl (OW.allocO (cs := [i64 0, i64 0, i64 0, .slice none 0 0]) Try.zeroValue55 rfl ?_ (by decide))
  intro g2 w5 heg2 hlg2 hO2 hx7
  have := World.grownBy.size hx7
  refine WL.nil ?_
  refine thn_n ?_
  refine WF.seq ?_
  refine WF.region ?_
  refine WL.va rfl rfl rfl (X.fieldAddrO (off := 2) rfl Try.underlying55 rfl rfl Try.sizeOf53) ?_
  refine WL.va rfl rfl rfl (X.fieldAddrP (off := 1) rfl Try.underlying53 rfl rfl Try.sizeOf46) ?_
  refine WL.va rfl rfl rfl (X.loadO hO1 hx7 rfl rfl Try.isAgg46) ?_
  have szq := World.grownBy.size (Ext.trans hx3 hx7)
  refine WL.c rfl rfl rfl (X.call Try.call128 (evl_cons rfl evl_nil)) (cloneB_ok _ _ _ (Row.ext hb (Ext.trans hx3 hx7)) hn) ?_
  rintro dv w9 ⟨od, hx10⟩
  have := World.grownBy.size hx10
  refine WL.va rfl rfl rfl (X.fieldAddrO (off := 2) rfl Try.underlying55 rfl rfl Try.sizeOf53) ?_
  refine WL.va rfl rfl rfl (X.fieldAddrP (off := 1) rfl Try.underlying53 rfl rfl Try.sizeOf46) ?_
  refine WL.op rfl (OW.storeO (hO1.ext (Ext.trans hx7 hx10)) (Nat.le_of_ble_eq_true rfl) rfl rfl (own_one od) Try.sizeOf46 ?_)
  intro w11 hO1 hx13
  have := World.grownBy.size hx13
  replace hO2 := (hO2.ext hx10).keptO hx13 (by omega)
  replace od := own_keptO od hx13 (by omega)
  replace hO1 : Blk _ _ _ (SV.c (e.1, dv)) := hO1
  refine WL.nil ?_
  refine thn_n ?_
  refine WF.seq ?_
  refine WF.region ?_
  refine WL.va rfl rfl rfl (X.loadOA hO1 (Ext.refl _) rfl rfl Try.isAgg55 Try.sizeOf55) ?_
  refine WL.op rfl (OW.storeOA hO2 rfl rfl rfl (SV.c_one (e := (e.1, dv)) (Bytes.of_own od)) Try.sizeOf55 ?_)
  intro w15 hO2 hx17
  have := World.grownBy.size hx17
  replace hO1 := hO1.keptO hx17 (by omega)
  replace od := own_keptO od hx17 (by omega)
  replace hO2 : Blk _ _ _ (SV.c (e.1, dv)) := hO2
  refine WL.nil ?_
  refine thn_n ?_
  refine WF.ret ?_
  refine finC_r (vs := [_]) ⟨⟨_, rfl, readO hO2 Try.isAgg55 Try.sizeOf55⟩, trivial⟩ ?_
  exact ⟨dv, rfl, own_mono od szq, (Ext.store (Ext.store (Ext.trans (Ext.trans hx3 hx7) hx10) hx13 (by omega)) hx17 (by omega))⟩

theorem findLit_ok (e : SV) (c : Int) (g : Nat) (w : World) (h : Blk w g 3 [i64 c]) : FnOk Try.prog 127 [agg (SV.c e), at_ g] w (fun r w' => r = .bool (decide (e.1.Client = c)) ∧ Ext w w') := by
  refine FnOk.enter (rs := [3]) Try.func127 rfl Try.ntmps127 Try.results127 rfl rfl ?_
  refine WF.seq ?_
  refine WF.region ?_
  refine WL.op rfl (OW.boxA (cs := (SV.c e)) rfl ?_ (by decide))
  intro g2 w1 heg2 hlg2 hO2 hx3
  have := World.grownBy.size hx3
  refine WL.va rfl rfl rfl (X.assignB rfl) ?_
  refine WL.nil ?_
  refine thn_n ?_
  refine WF.seq ?_
  refine WF.region ?_
  refine WL.va rfl rfl rfl (X.fieldAddrO (off := 0) rfl Try.underlying55 rfl rfl Try.sizeOf3) ?_
  refine WL.va rfl rfl rfl (X.loadO hO2 (Ext.refl _) rfl rfl Try.isAgg3) ?_
  refine WL.va rfl rfl rfl (X.loadO h hx3 rfl rfl Try.isAgg3) ?_
  refine WL.va rfl rfl rfl (X.eql rfl rfl) ?_
  refine WL.va rfl rfl rfl (X.assignB rfl) ?_
  refine WL.nil ?_
  refine thn_n ?_
  refine WF.ret ?_
  refine fin_r ?_
  exact ⟨rfl, hx3⟩

theorem noteLit_ok (e : SV) (c : Int) (g : Nat) (w : World) (h : Blk w g 3 [i64 c]) : FnOk Try.prog 112 [agg (SV.c e), at_ g] w (fun r w' => r = .bool (decide (c < e.1.Client)) ∧ Ext w w') := by
  refine FnOk.enter (rs := [3]) Try.func112 rfl Try.ntmps112 Try.results112 rfl rfl ?_
  refine WF.seq ?_
  refine WF.region ?_
  refine WL.op rfl (OW.boxA (cs := (SV.c e)) rfl ?_ (by decide))
  intro g2 w1 heg2 hlg2 hO2 hx3
  have := World.grownBy.size hx3
  refine WL.va rfl rfl rfl (X.assignB rfl) ?_
  refine WL.nil ?_
  refine thn_n ?_
  refine WF.seq ?_
  refine WF.region ?_
  refine WL.va rfl rfl rfl (X.fieldAddrO (off := 0) rfl Try.underlying55 rfl rfl Try.sizeOf3) ?_
  refine WL.va rfl rfl rfl (X.loadO hO2 (Ext.refl _) rfl rfl Try.isAgg3) ?_
  refine WL.va rfl rfl rfl (X.loadO h hx3 rfl rfl Try.isAgg3) ?_
  refine WL.va rfl rfl rfl (X.gtr rfl rfl) ?_
  refine WL.va rfl rfl rfl (X.assignB rfl) ?_
  refine WL.nil ?_
  refine thn_n ?_
  refine WF.ret ?_
  refine fin_r ?_
  exact ⟨rfl, hx3⟩

theorem indexS_ok (v vf : Value) (cs : List Value) (n : Nat) (p : Nat → Bool) (w : World) (hb : Row w v n 4 cs) (hf : ∀ k w1, k < n → Ext w w1 → CloOk Try.prog vf [agg (el cs 4 k)] w1 (fun r w2 => r = .bool (p k) ∧ Ext w1 w2)) : FnOk Try.prog 111 [v, vf] w (fun r w' => Idx p n r ∧ Ext w w') := by
  have hl : (n : Int) ≤ 9223372036854775807 := by obtain ⟨_, c, _, h1, h2, _⟩ := hb.shape; unfold maxLen at h2; omega
  refine FnOk.enter (rs := [4]) Try.func111 rfl Try.ntmps111 Try.results111 rfl rfl ?_
  refine WF.seq ?_
  refine WF.region ?_
  refine WL.va rfl rfl rfl (X.assignI rfl) ?_
  refine WL.nil ?_
  refine thn_n ?_
  refine WF.seq ?_
  refine WF.seq ?_
  refine WF.region ?_
  refine WL.va rfl rfl rfl (X.move rfl) ?_
  refine WL.va rfl rfl rfl (X.len hb rfl Try.underlying49) ?_
  refine WL.va rfl rfl rfl (X.moveI rfl) ?_
  refine WL.nil ?_
  refine thn_n ?_
  refine WF.block ?_
  refine WF.named (fun F1 hF2 => ?_)
  refine WF.loopN (fun mL0 f' w' => ∃ (k : Nat), mL0 = n - k ∧ f' 8 = .int .i64 (k : Int) ∧ Agree [0, 1, 6, 7] f' F1 ∧ Ext w w' ∧ k ≤ n ∧ ∀ j, j < k → p j = false) ?_ ?_
  · exact ⟨_, 0, rfl, (congrFun hF2 8), (Agree.refl _ _), (Ext.refl _), ⟨Nat.zero_le _, fun j hj => by omega⟩⟩
  · rintro mL0 fL0 wL0 ⟨k, hmL0, e8_L0, hAL0, hwL0, ⟨hk, hno⟩⟩
    refine WF.seq ?_
    refine WF.region ?_
    refine WL.va rfl rfl rfl (X.lss e8_L0 ((hAL0.eq 7).trans (congrFun hF2 7))) ?_
    refine WL.nil ?_
    refine thn_n ?_
    refine WF.seq ?_
    refine WF.cond rfl (fun h0_3 => ?_) (fun h0_3 => ?_)
    · have gh0_3 := (of_decide_eq_true h0_3)
      have hka : k < n := by omega
      refine WF.skip ?_
      refine thn_n ?_
      refine WF.seq ?_
      refine WF.block ?_
      refine WF.seq ?_
      refine WF.region ?_
      refine WL.va rfl rfl rfl (X.moveI e8_L0) ?_
      refine WL.va rfl rfl rfl (X.assignI rfl) ?_
      refine WL.nil ?_
      refine thn_n ?_
      refine WF.seq ?_
      refine WF.region ?_
      refine WL.va rfl rfl rfl (X.move ((hAL0.eq 1).trans (congrFun hF2 1))) ?_
      refine WL.va rfl rfl rfl (X.move ((hAL0.eq 0).trans (congrFun hF2 0))) ?_
      refine WL.va rfl rfl rfl (X.moveI rfl) ?_
      refine WL.va rfl rfl rfl (X.idx hb rfl rfl (by omega) Try.underlying49 Try.sizeOf55) ?_
      refine WL.va rfl rfl rfl (X.loadEl hb hwL0 rfl (by omega) rfl Try.isAgg55 Try.sizeOf55) ?_
      refine WL.op rfl (OW.callV rfl (evl_cons rfl evl_nil) (hf k _ hka hwL0) ?_ (by decide))
      rintro v6 w5 ⟨rfl, hx7⟩
      refine WL.nil ?_
      refine thn_n ?_
      refine WF.cond rfl (fun h1_8 => ?_) (fun h1_8 => ?_)
      · have gh1_8 := h1_8
        have hpk := gh1_8
        refine WF.seq ?_
        refine WF.region ?_
        refine WL.va rfl rfl rfl (X.moveI rfl) ?_
        refine WL.va rfl rfl rfl (X.assignI rfl) ?_
        refine WL.nil ?_
        refine thn_n ?_
        refine WF.ret ?_
        refine blk_r ?_
        refine thn_r ?_
        refine thn_r ?_
        refine blk_r ?_
        refine thn_r ?_
        refine fin_r ?_
        exact ⟨⟨_, rfl, .inl ⟨k, hka, rfl, hpk, hno⟩⟩, (Ext.trans hwL0 hx7)⟩
      · have gh1_8 := h1_8
        have hpk := gh1_8
        refine WF.skip ?_
        refine blk_n ?_
        refine thn_n ?_
        refine WF.region ?_
        refine WL.va rfl rfl rfl (X.add e8_L0 rfl (w64 (by omega))) ?_
        refine WL.va rfl rfl rfl (X.moveI rfl) ?_
        refine WL.nil ?_
        exact thn_n ⟨_, (by omega), k + 1, rfl, rfl, (by repeat (first | exact hAL0 | refine Agree.put ?_ rfl | refine Agree.named hF2 ?_)), (Ext.trans hwL0 hx7), ⟨by omega, fun j hj => by rcases Nat.lt_succ_iff_lt_or_eq.1 hj with h | rfl; exact hno j h; exact hpk⟩⟩
    · have gh0_3 := (of_decide_eq_false h0_3)
      refine WF.exit ?_
      refine thn_x ?_
      refine thn_x ?_
      refine blk_eq ?_
      refine thn_n ?_
      refine WF.seq ?_
      refine WF.region ?_
      refine WL.va rfl rfl rfl (X.assignI rfl) ?_
      refine WL.nil ?_
      refine thn_n ?_
      refine WF.ret ?_
      refine fin_r ?_
      exact ⟨⟨_, rfl, .inr ⟨rfl, fun j hj => hno j (by omega)⟩⟩, hwL0⟩

set_option maxHeartbeats 2000000 in
theorem insertS_ok (v va : Value) (xs news : List Value) (n i : Nat) (w : World) (B B2 : Nat) (ho : w.ownsRow B 55 4 v n xs) (hv : w.ownsRow B2 55 4 va 1 news) (hap : Apart va v) (h1x : ∀ u ∈ xs, u.oneCell' = true) (h1n : ∀ u ∈ news, u.oneCell' = true) (hi : i ≤ n) (hn : n ≤ 1000000) (hB : B ≤ w.heap.size) : FnOk Try.prog 113 [v, i64 (i : Int), va] w (fun r w' => w'.ownsRow B 55 4 r (n + 1) (xs.take (i * 4) ++ news ++ xs.drop (i * 4)) ∧ w.grownBy w' v.ownBlock ∧ Moved w v r) := by
  have hxl := ho.1
  have hnl := hv.1
  have hcp := own_cap ho
  unfold maxLen at hcp
  refine FnOk.enter (rs := [6]) Try.func113 rfl Try.ntmps113 Try.results113 rfl rfl ?_
  refine WF.seq ?_
  refine WF.region ?_
  refine WL.va rfl rfl rfl (X.assign rfl) ?_
  refine WL.nil ?_
  refine thn_n ?_
  refine WF.seq ?_
  refine WF.region ?_
  refine WL.va rfl rfl rfl (X.move rfl) ?_
  refine WL.va rfl rfl rfl (X.moveI rfl) ?_
  refine WL.va rfl rfl rfl (X.slL (Row.of_own ho) rfl rfl (by omega) Try.underlying49 Try.sizeOf55) ?_
  refine WL.nil ?_
  refine thn_n ?_
  refine WF.seq ?_
  refine WF.region ?_
  refine WL.va rfl rfl rfl (X.move rfl) ?_
  refine WL.va rfl rfl rfl (X.len (Row.of_own hv) rfl Try.underlying49) ?_
  refine WL.va rfl rfl rfl (X.assignI rfl) ?_
  refine WL.nil ?_
  refine thn_n ?_
  refine WF.seq ?_
  refine WF.seq ?_
  refine WF.region ?_
  refine WL.va rfl rfl rfl (X.moveI rfl) ?_
  refine WL.va rfl rfl rfl (X.eql rfl rfl) ?_
  refine WL.nil ?_
  refine thn_n ?_
  refine WF.cond rfl (fun h0_1 => ?_) (fun h0_1 => ?_)
  · have gh0_1 := (of_decide_eq_true h0_1)
    exact absurd gh0_1 (by omega)
  · have gh0_1 := (of_decide_eq_false h0_1)
    refine WF.skip ?_
    refine thn_n ?_
    refine WF.seq ?_
    refine WF.region ?_
    refine WL.va rfl rfl rfl (X.move rfl) ?_
    refine WL.va rfl rfl rfl (X.len (Row.of_own ho) rfl Try.underlying49) ?_
    refine WL.va rfl rfl rfl (X.assignI rfl) ?_
    refine WL.nil ?_
    refine thn_n ?_
    refine WF.seq ?_
    refine WF.seq ?_
    refine WF.region ?_
    refine WL.va rfl rfl rfl (X.moveI rfl) ?_
    refine WL.va rfl rfl rfl (X.moveI rfl) ?_
    refine WL.va rfl rfl rfl (X.eql rfl rfl) ?_
    refine WL.nil ?_
    refine thn_n ?_
    refine WF.cond rfl (fun h1_3 => ?_) (fun h1_3 => ?_)
    · have gh1_3 := (of_decide_eq_true h1_3)
      refine WF.seq ?_
      refine WF.region ?_
      refine WL.va rfl rfl rfl (X.move rfl) ?_
      refine WL.va rfl rfl rfl (X.move rfl) ?_
      refine WL.op rfl (OW.append (bytes := 48) ho (Row.of_own hv) h1n rfl rfl Try.underlying49 Try.type55 rfl rfl rfl rfl (by decide) (by unfold maxLen; omega) (by omega) hB ?_ (by decide))
      intro v6 w5 ho8 hx7 hmvhx7
      have o7 := ho8
      have g7 := hx7
      have m7 := hmvhx7
      refine WL.va rfl rfl rfl (X.assign rfl) ?_
      refine WL.nil ?_
      refine thn_n ?_
      refine WF.ret ?_
      refine thn_r ?_
      refine fin_r ?_
      obtain rfl : i = n := by omega
      refine ⟨?_, g7, m7⟩
      rw [List.take_of_length_le (by omega), List.drop_of_length_le (by omega), List.append_nil]; exact o7
    · have gh1_3 := (of_decide_eq_false h1_3)
      refine WF.skip ?_
      refine thn_n ?_
      refine WF.seq ?_
      refine WF.seq ?_
      refine WF.region ?_
      refine WL.va rfl rfl rfl (X.moveI rfl) ?_
      refine WL.va rfl rfl rfl (X.moveI rfl) ?_
      refine WL.va rfl rfl rfl (X.add rfl rfl (w64 (by omega))) ?_
      refine WL.va rfl rfl rfl (X.move rfl) ?_
      refine WL.va rfl rfl rfl (X.cap (Row.of_own ho) rfl Try.underlying49) ?_
      refine WL.va rfl rfl rfl (X.gtr rfl rfl) ?_
      refine WL.nil ?_
      refine thn_n ?_
      refine WF.cond rfl (fun h2_9 => ?_) (fun h2_9 => ?_)
      · have gh2_9 := (of_decide_eq_true h2_9)
        have hlt : i < n := by omega
        refine WF.seq ?_
        refine WF.region ?_
        refine WL.va rfl rfl rfl (X.move rfl) ?_
        refine WL.va rfl rfl rfl (X.moveI rfl) ?_
        refine WL.va rfl rfl rfl (X.slH (Row.of_own ho) rfl rfl (by omega) Try.underlying49 Try.sizeOf55) ?_
        refine WL.va rfl rfl rfl (X.moveI rfl) ?_
        refine WL.va rfl rfl rfl (X.moveI rfl) ?_
        refine WL.va rfl rfl rfl (X.add rfl rfl (w64 (by omega))) ?_
        refine WL.va rfl rfl rfl (X.moveI rfl) ?_
        refine WL.va rfl rfl rfl (X.sub rfl rfl (show IntKind.i64.wrap ((n : Int) + ((1 : Nat) : Int) - (i : Int)) = ((n + 1 - i : Nat) : Int) from (w64 (by omega)).trans (by omega))) ?_
        refine WL.op rfl (OW.appendMake (bytes := 48) (m := n + 1 - i) (own_take ho i hi) rfl rfl Try.underlying3 Try.underlying49 Try.type55 rfl rfl rfl rfl (by decide) (by unfold maxLen; omega) (by omega) (by omega) (by rw [cap_part ho]; omega) ?_ (by decide))
        intro v12 w11 ho14 hx13
        obtain ⟨zs, hzl, o9⟩ : ∃ zs : List Value, zs.length = (n + 1 - i) * 4 ∧ World.ownsRow w11 w.heap.size 55 4 v12 (n + 1) (xs.take (i * 4) ++ zs) := ⟨_, (by simp [size_madeCells]), (show i + (n + 1 - i) = n + 1 by omega) ▸ ho14⟩
        have szw := World.grownBy.size hx13
        refine WL.va rfl rfl rfl (X.assign rfl) ?_
        refine WL.nil ?_
        refine thn_n ?_
        refine WF.seq ?_
        refine WF.region ?_
        refine WL.va rfl rfl rfl (X.move rfl) ?_
        refine WL.va rfl rfl rfl (X.moveI rfl) ?_
        refine WL.va rfl rfl rfl (X.slL (Row.of_own o9) rfl rfl (by omega) Try.underlying49 Try.sizeOf55) ?_
        refine WL.va rfl rfl rfl (X.move rfl) ?_
        refine WL.op rfl (OW.copyAt (m := 1) (j := i) (news := news) o9 (by decide) (Row.ext (Row.of_own hv) hx13) (by rw [List.take_of_length_le (by omega)]) h1n rfl (Nat.min_eq_left (by omega)) (by decide) rfl rfl Try.underlying49 Try.type55 rfl ?_ (by decide))
        intro w15 ho18 hx17
        have o10 := ho18
        refine WL.nil ?_
        refine thn_n ?_
        refine WF.seq ?_
        refine WF.drawn (.q 0 (.q 1 (.q 2 (.q 3 (.q 4 (.q 5 (.q 6 (.q 7 .nil)))))))) (fun w' => Ext w15 w') 8 (by kernel_rfl) (by kernel_rfl) (Ext.drew _) ?_
        refine WO.q rfl rfl rfl rfl (fun w' hE19 => (X.move rfl)) ?_
        refine WO.q rfl rfl rfl rfl (fun w' hE19 => (X.moveI rfl)) ?_
        refine WO.q rfl rfl rfl rfl (fun w' hE19 => (X.moveI rfl)) ?_
        refine WO.q rfl rfl rfl rfl (fun w' hE19 => (X.add rfl rfl (show _ = ((i + 1 : Nat) : Int) from w64 (by omega)))) ?_
        refine WO.q rfl rfl rfl rfl (fun w' hE19 => (X.slL (Row.of_own o10) rfl rfl (by omega) Try.underlying49 Try.sizeOf55)) ?_
        refine WO.q rfl rfl rfl rfl (fun w' hE19 => (X.move rfl)) ?_
        refine WO.q rfl rfl rfl rfl (fun w' hE19 => (X.moveI rfl)) ?_
        refine WO.q rfl rfl rfl rfl (fun w' hE19 => (X.slL (Row.of_own ho) rfl rfl (by omega) Try.underlying49 Try.sizeOf55)) ?_
        refine WO.nil ?_
        refine WL.op rfl (OW.copyAt (m := n - i) (j := i + 1) (news := _) (own_ext o10 (Ext.drew _)) (by decide) (Row.ext (Row.part (Row.of_own ho) i n (by omega) (Nat.le_refl _)) (Ext.trans (Ext.own hx13 o9 (Nat.le_refl _) hx17) (Ext.drew _))) (by rw [List.take_take, Nat.min_self]) (fun u hu => h1x u (List.mem_of_mem_drop (List.mem_of_mem_take hu))) rfl (by rw [show n + 1 - (i + 1) = n - i by omega]; exact Nat.min_self _) (by omega) rfl rfl Try.underlying49 Try.type55 rfl ?_ (by decide))
        intro w20 ho23 hx22
        have o11 := ho23
        refine WL.nil ?_
        refine thn_n ?_
        refine WF.seq ?_
        refine WF.region ?_
        refine WL.va rfl rfl rfl (X.move rfl) ?_
        refine WL.va rfl rfl rfl (X.assign rfl) ?_
        refine WL.nil ?_
        refine thn_n ?_
        refine WF.ret ?_
        refine thn_r ?_
        refine fin_r ?_
        refine ⟨?_, grown_of_ext (Ext.own (Ext.trans (Ext.own hx13 o9 (Nat.le_refl _) hx17) (Ext.drew _)) (own_ext o10 (Ext.drew _)) (Nat.le_refl _) hx22), .inr fun k hk => (o11.lt k hk).1⟩
        rw [ins_new hxl hnl hi hzl rfl] at o11; exact own_mono o11 hB
      · have gh2_9 := (of_decide_eq_false h2_9)
        have hlt : i < n := by omega
        obtain ⟨ys, b, c, rfl, hc1, hc0, hyl, hom⟩ := own_more ho 1 (by omega) (by omega)
        have h1xy : ∀ u ∈ xs, u.oneCell' = true := h1x
        refine WF.skip ?_
        refine thn_n ?_
        refine WF.seq ?_
        refine WF.region ?_
        refine WL.va rfl rfl rfl (X.move rfl) ?_
        refine WL.va rfl rfl rfl (X.moveI rfl) ?_
        refine WL.va rfl rfl rfl (X.moveI rfl) ?_
        refine WL.va rfl rfl rfl (X.add rfl rfl (show _ = ((n + 1 : Nat) : Int) from w64 (by omega))) ?_
        refine WL.va rfl rfl rfl (X.slHc rfl rfl (by omega) hc0 Try.underlying49 Try.sizeOf55) ?_
        refine WL.va rfl rfl rfl (X.assign rfl) ?_
        refine WL.nil ?_
        refine thn_n ?_
        refine WF.seq ?_
        refine WF.seq ?_
        refine WF.region ?_
        refine WL.va rfl rfl rfl (X.move rfl) ?_
        refine WL.va rfl rfl rfl (X.move rfl) ?_
        refine WL.va rfl rfl rfl (X.moveI rfl) ?_
        refine WL.va rfl rfl rfl (X.moveI rfl) ?_
        refine WL.va rfl rfl rfl (X.add rfl rfl (show _ = ((i + 1 : Nat) : Int) from w64 (by omega))) ?_
        refine WL.va rfl rfl rfl (X.slL (Row.of_own hom) rfl rfl (by omega) Try.underlying49 Try.sizeOf55) ?_
        refine WL.va rfl rfl rfl (X.overlapsF (tR := 4) (fun q => run_callFunc_extern Try.func129 (by kernel_rfl) (by kernel_rfl) (by kernel_rfl) (e := Extern.SlicesOverlaps.overlaps #[49, 49] #[4]) (by kernel_rfl) q _) Try.underlying49 Try.sizeOf55 hv hom hap (by decide) (by omega) (by decide) rfl rfl rfl) ?_
        refine WL.va rfl rfl rfl (X.not rfl) ?_
        refine WL.nil ?_
        refine thn_n ?_
        refine WF.cond_t rfl ?_
        refine WF.seq ?_
        refine WF.drawn (.q 0 (.q 1 (.q 2 (.q 3 (.q 4 (.q 5 (.q 6 (.q 7 .nil)))))))) (fun w' => Ext w w') 8 (by kernel_rfl) (by kernel_rfl) (Ext.drew _) ?_
        refine WO.q rfl rfl rfl rfl (fun w' hE26 => (X.move rfl)) ?_
        refine WO.q rfl rfl rfl rfl (fun w' hE26 => (X.moveI rfl)) ?_
        refine WO.q rfl rfl rfl rfl (fun w' hE26 => (X.moveI rfl)) ?_
        refine WO.q rfl rfl rfl rfl (fun w' hE26 => (X.add rfl rfl (show _ = ((i + 1 : Nat) : Int) from w64 (by omega)))) ?_
        refine WO.q rfl rfl rfl rfl (fun w' hE26 => (X.slL (Row.of_own hom) rfl rfl (by omega) Try.underlying49 Try.sizeOf55)) ?_
        refine WO.q rfl rfl rfl rfl (fun w' hE26 => (X.move rfl)) ?_
        refine WO.q rfl rfl rfl rfl (fun w' hE26 => (X.moveI rfl)) ?_
        refine WO.q rfl rfl rfl rfl (fun w' hE26 => (X.slL (Row.of_own hom) rfl rfl (by omega) Try.underlying49 Try.sizeOf55)) ?_
        refine WO.nil ?_
        refine WL.op rfl (OW.copyAt (m := n - i) (j := i + 1) (news := _) (own_ext hom (Ext.drew _)) (by decide) (Row.ext (Row.part (Row.of_own hom) i (n + 1) (by omega) (Nat.le_refl _)) (Ext.drew _)) rfl (fun u hu => h1x u (List.mem_of_mem_drop ((place_src hxl hyl hlt) ▸ hu))) rfl (by rw [show n + 1 - (i + 1) = n - i by omega]; exact Nat.min_eq_right (by omega)) (by omega) rfl rfl Try.underlying49 Try.type55 rfl ?_ (by decide))
        intro w27 ho30 hx29
        have o15 := ho30
        have g15 := ext_grown (Ext.drew w) hx29
        have hv15 := World.ownsRow.kept (own_ext hv (Ext.drew _)) hx29 hap.ne
        refine WL.nil ?_
        refine thn_n ?_
        refine WF.seq ?_
        refine WF.region ?_
        refine WL.va rfl rfl rfl (X.move rfl) ?_
        refine WL.va rfl rfl rfl (X.moveI rfl) ?_
        refine WL.va rfl rfl rfl (X.slL (Row.of_own o15) rfl rfl (by omega) Try.underlying49 Try.sizeOf55) ?_
        refine WL.va rfl rfl rfl (X.move rfl) ?_
        refine WL.op rfl (OW.copyAt (m := 1) (j := i) (news := news) o15 (by decide) (Row.of_own hv15) (by rw [List.take_of_length_le (by omega)]) h1n rfl (Nat.min_eq_left (by omega)) (by decide) rfl rfl Try.underlying49 Try.type55 rfl ?_ (by decide))
        intro w31 ho34 hx33
        have o16 := ho34
        have g16 := grown2 g15 hx33
        refine WL.nil ?_
        refine thn_n ?_
        refine WF.seq ?_
        refine WF.region ?_
        refine WL.va rfl rfl rfl (X.move rfl) ?_
        refine WL.va rfl rfl rfl (X.assign rfl) ?_
        refine WL.nil ?_
        refine thn_n ?_
        refine WF.ret ?_
        refine thn_r ?_
        refine fin_r ?_
        refine ⟨?_, g16, .inl rfl⟩
        rw [ins_place hxl hyl hnl hlt rfl] at o16; exact o16

theorem find_ok (v : Value) (E : List SV) (c : Int) (w : World) (hv : SRow w v E) : FnOk Try.prog 109 [v, i64 c] w (fun r w' => Idx (fun k => ofC c ((E.map Prod.fst).getD k default)) E.length r ∧ Ext w w') := by
  refine FnOk.enter (rs := [4]) Try.func109 rfl Try.ntmps109 Try.results109 rfl rfl ?_
  refine WF.seq ?_
  refine WF.region ?_
  refine WL.op rfl (OW.box1 rfl rfl ?_ (by decide))
  intro g3 w1 heg3 hlg3 hO3 hx3
  have := World.grownBy.size hx3
  refine WL.va rfl rfl rfl (X.assignI rfl) ?_
  refine WL.nil ?_
  refine thn_n ?_
  refine WF.seq ?_
  refine WF.region ?_
  refine WL.va rfl rfl rfl (X.move rfl) ?_
  refine WL.va rfl rfl rfl (X.makeFunc (evl_cons rfl evl_nil)) ?_
  have hclo : ∀ k wq, k < E.length → Ext w1 wq → CloOk Try.prog (.func (.func 127) #[] [at_ g3].toArray) [agg (el (E.flatMap SV.c) 4 k)] wq (fun r w2 => r = .bool (ofC c (((E.map Prod.fst).getD k default))) ∧ Ext wq w2) := fun k wq hk hx => ⟨_, _, rfl, Try.call127, (by rw [show el (E.flatMap SV.c) 4 k = SV.c (E[k]'hk) from SRow.el hk, show (E.map Prod.fst).getD k default = (E[k]'hk).1 from by simp [hk]]; exact findLit_ok _ _ _ _ (hO3.ext hx))⟩
  refine WL.c rfl rfl rfl (X.call Try.call111 (evl_cons rfl (evl_cons rfl evl_nil))) (indexS_ok _ _ _ _ (fun k => ofC c ((E.map Prod.fst).getD k default)) _ (Row.ext hv hx3) hclo) ?_
  rintro v6 w5 ⟨⟨z, rfl, hz⟩, hx7⟩
  have := World.grownBy.size hx7
  refine WL.va rfl rfl rfl (X.assignI rfl) ?_
  refine WL.nil ?_
  refine thn_n ?_
  refine WF.ret ?_
  refine fin_r ?_
  exact ⟨⟨z, rfl, hz⟩, (Ext.trans hx3 hx7)⟩

end Go.Proofs.Ytpimnlgfhpnjnaa.Se
