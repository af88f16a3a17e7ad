/- The walks of the coordinator's functions: Start, Step, Value, New. -/
import Derived.Test.YtjmddkaokmdkbaaPcoC
namespace Go.Proofs.Ytjmddkaokmdkbaa
open Go Go.RowKit Kf
set_option maxRecDepth 20000

def askM (c : CC) (b : Int) (l : List Int) : List Msg := l.flatMap fun p => if c.ch p = 0 then (c.started b).all (asks p) else []
theorem askM_len {c : CC} {b : Int} (h : c.nac ≤ 7) : ∀ l : List Int, (askM c b l).length ≤ 7 * l.length
  | [] => Nat.le_refl _
  | p :: l => by
    have := askM_len h (b := b) l
    unfold askM at this ⊢
    rw [List.flatMap_cons, List.length_append, List.length_cons]
    have h2 : (if c.ch p = 0 then (c.started b).all (asks p) else []).length ≤ 7 := by
      split
      · have h3 : ((c.started b).all (asks p)).length = c.nac.toNat := allM_len
        omega
      · simp
    omega
theorem getD_at {l : List Int} {k : Nat} (h : k < l.length) : l.getD k 0 = l[k] := by simp [h]
theorem askM_yes {c : CC} {b : Int} {l : List Int} {k : Nat} (hk : k < l.length) (h : c.ch (l.getD k 0) = 0) : askM c b (l.take (k + 1)) = askM c b (l.take k) ++ (c.started b).all (asks (l.getD k 0)) := by
  unfold askM
  rw [List.take_succ_eq_append_getElem hk, List.flatMap_append, getD_at hk] at *
  simp [h]
theorem askM_no {c : CC} {b : Int} {l : List Int} {k : Nat} (hk : k < l.length) (h : ¬ c.ch (l.getD k 0) = 0) : askM c b (l.take (k + 1)) = askM c b (l.take k) := by
  unfold askM
  rw [List.take_succ_eq_append_getElem hk, List.flatMap_append]
  rw [getD_at hk] at h
  simp [h]
theorem OwnM.app {w : World} {B : Nat} {e : TypeId} {v : Value} {l m : List Msg} (h : w.ownsRow B e 17 v (l.length + m.length) (l.flatMap Msg.bare ++ m.flatMap Msg.bare)) : OwnM w B e v (l ++ m) := by
  unfold OwnM; rw [List.length_append, List.flatMap_append]; exact h
theorem bare_ones (l : List Msg) : ∀ u ∈ l.flatMap Msg.bare, u.oneCell' = true := flat_one Msg.bare_one
theorem value_drop {ch : Int → Int} {v : Int} {l : List Int} {k : Nat} (hk : k < l.length) : valueFrom ch v (l.drop k) = if ch (l.getD k 0) = 2 then 2 else valueFrom ch (if ch (l.getD k 0) = 0 then 0 else v) (l.drop (k + 1)) := by
  rw [List.drop_eq_getElem_cons hk, getD_at hk]; rfl
set_option maxHeartbeats 1000000 in
theorem start_ok (F : Fp Rl) (g : Nat) (c : CC) (b : Int) (w : World) (h : CAt w F g c) (hok : c.ok) : FnOk Try.prog 12 [at_ g, i64 b] w (fun r w' => OwnM w' w.heap.size 40 r (c.startM b) ∧ CPost w w' F g (c.started b) r) := by
  obtain ⟨vp, ga, gc, vr, vo, hI⟩ := h
  have hO := hI.obj
  obtain ⟨Lc, hMc, hLc⟩ := hI.ch
  obtain ⟨d1, d2, d3⟩ := hI.dist
  obtain ⟨z1, z2, z3⟩ := hI.lts
  obtain ⟨Bp, Tp, oP, zP, bP, nP⟩ := hI.parts.outT
  have n1 := nP g _ hI.at_ (by simp)
  have n2 := nP gc _ hI.fc (by simp)
  have hp4 := hok.parts
  refine FnOk.enter (rs := [4]) Try.func12 rfl Try.ntmps12 Try.results12 rfl rfl ?_
  refine WF.seq ?_
  refine WF.region ?_
  refine WL.va rfl rfl rfl (X.assign rfl) ?_
  refine WL.nil ?_
  refine thn_n ?_
  refine WF.seq ?_
  refine WF.region ?_
  refine WL.va rfl rfl rfl (X.move rfl) ?_
  refine WL.va rfl rfl rfl (X.move rfl) ?_
  refine WL.va rfl rfl rfl (X.moveI rfl) ?_
  refine WL.va rfl rfl rfl (X.nilCheck rfl) ?_
  refine WL.va rfl rfl rfl (X.fieldAddrP (off := 6) rfl Try.underlying75 rfl rfl Try.sizeOf4) ?_
  refine WL.op rfl (OW.storeO hO (Nat.le_of_ble_eq_true rfl) rfl rfl rfl Try.sizeOf4 ?_)
  intro w1 hO hx3
  have := World.grownBy.size hx3
  replace hMc := hMc.keptO hx3 (by omega)
  replace oP := oP.keptO hx3 (by omega)
  refine WL.va rfl rfl rfl (X.nilCheck rfl) ?_
  refine WL.va rfl rfl rfl (X.fieldAddrP (off := 7) rfl Try.underlying75 rfl rfl Try.sizeOf3) ?_
  refine WL.op rfl (OW.storeO hO (Nat.le_of_ble_eq_true rfl) rfl rfl rfl Try.sizeOf3 ?_)
  intro w5 hO hx7
  have := World.grownBy.size hx7
  replace hMc := hMc.keptO hx7 (by omega)
  replace oP := oP.keptO hx7 (by omega)
  refine WL.nil ?_
  refine thn_n ?_
  refine WF.seq ?_
  refine WF.region ?_
  refine WL.va rfl rfl rfl (X.move rfl) ?_
  refine WL.va rfl rfl rfl (X.move rfl) ?_
  refine WL.op rfl (OW.makeMap (enc := i64) ?_ (by decide))
  intro gM17 w9 hegM17 hlgM17 hM17 hx11
  have := World.grownBy.size hx11
  refine WL.op rfl (OW.makeMap (enc := i64) ?_ (by decide))
  intro gM18 w13 hegM18 hlgM18 hM18 hx15
  have := World.grownBy.size hx15
  refine WL.va rfl rfl rfl (X.nilCheck rfl) ?_
  refine WL.va rfl rfl rfl (X.fieldAddrP (off := 8) rfl Try.underlying75 rfl rfl Try.sizeOf73) ?_
  refine WL.op rfl (OW.storeO (hO.ext (Ext.trans hx11 hx15)) (Nat.le_of_ble_eq_true rfl) rfl rfl rfl Try.sizeOf73 ?_)
  intro w17 hO hx19
  have := World.grownBy.size hx19
  replace hMc := (hMc.ext (Ext.trans hx11 hx15)).keptO hx19 (by omega)
  replace oP := (oP.ext (Ext.trans hx11 hx15)).keptO hx19 (by omega)
  replace hM17 := (hM17.ext hx15).keptO hx19 (by omega)
  replace hM18 := hM18.keptO hx19 (by omega)
  refine WL.va rfl rfl rfl (X.nilCheck rfl) ?_
  refine WL.va rfl rfl rfl (X.fieldAddrP (off := 9) rfl Try.underlying75 rfl rfl Try.sizeOf72) ?_
  refine WL.op rfl (OW.storeO hO (Nat.le_of_ble_eq_true rfl) rfl rfl rfl Try.sizeOf72 ?_)
  intro wS hO hx22
  have := World.grownBy.size hx22
  replace hMc := hMc.keptO hx22 (by omega)
  replace oP := oP.keptO hx22 (by omega)
  replace hM17 := hM17.keptO hx22 (by omega)
  replace hM18 := hM18.keptO hx22 (by omega)
  replace hO : Blk _ _ _ ((c.started b).cells vp ga gc (mp_ gM17) (mp_ gM18)) := hO
  refine WL.nil ?_
  refine thn_n ?_
  refine WF.seq ?_
  refine WF.region ?_
  refine WL.va rfl rfl rfl (X.assign rfl) ?_
  refine WL.nil ?_
  refine thn_n ?_
  refine WF.seq ?_
  refine WF.seq ?_
  refine WF.region ?_
  refine WL.va rfl rfl rfl (X.move rfl) ?_
  refine WL.va rfl rfl rfl (X.nilCheck rfl) ?_
  refine WL.va rfl rfl rfl (X.fieldAddrP (off := 2) rfl Try.underlying75 rfl rfl Try.sizeOf22) ?_
  refine WL.va rfl rfl rfl (X.loadO hO (Ext.refl _) rfl rfl Try.isAgg22) ?_
  refine WL.va rfl rfl rfl (X.len (oP.rd) rfl Try.underlying22) ?_
  refine WL.va rfl rfl rfl (X.moveI rfl) ?_
  refine WL.nil ?_
  refine thn_n ?_
  refine WF.block ?_
  refine WF.named (fun F24 hF25 => ?_)
  refine WF.loopN (fun mL0 f' w' => ∃ (k : Nat) (vm : Value), mL0 = c.parts.length - k ∧ f' 28 = .int .i64 (k : Int) ∧ f' 5 = vm ∧ Agree [0, 1, 4, 8, 9, 10, 11, 12, 13, 14, 15, 16, 17, 18, 19, 20, 21, 22, 23, 24, 25, 26, 27] f' F24 ∧ Ext wS w' ∧ k ≤ c.parts.length ∧ OwnM w' wS.heap.size 40 vm (askM c b (c.parts.take k))) ?_ ?_
  · exact ⟨_, 0, nilS, rfl, (congrFun hF25 28), (congrFun hF25 5), (Agree.refl _ _), (Ext.refl _), ⟨Nat.zero_le _, OwnM.nil _ _ _⟩⟩
  · rintro mL0 fL0 wL0 ⟨k, vm, hmL0, e28_L0, e5_L0, hAL0, hwL0, ⟨hk0, hom⟩⟩
    have := World.grownBy.size hwL0
    have hlm := askM_len (b := b) hok.nac.2 (c.parts.take k)
    have hlk : (c.parts.take k).length = k := by rw [List.length_take]; omega
    refine WF.seq ?_
    refine WF.region ?_
    refine WL.va rfl rfl rfl (X.lss e28_L0 ((hAL0.eq 27).trans (congrFun hF25 27))) ?_
    refine WL.nil ?_
    refine thn_n ?_
    refine WF.seq ?_
    refine WF.cond rfl (fun h0_26 => ?_) (fun h0_26 => ?_)
    · have gh0_26 := (of_decide_eq_true h0_26)
      have hk : k < c.parts.length := by omega
      refine WF.skip ?_
      refine thn_n ?_
      refine WF.seq ?_
      refine WF.block ?_
      refine WF.seq ?_
      refine WF.region ?_
      refine WL.va rfl rfl rfl (X.idx (oP.rd) ((hAL0.eq 26).trans (congrFun hF25 26)) e28_L0 (by omega) Try.underlying22 Try.sizeOf3) ?_
      refine WL.va rfl rfl rfl (X.loadI (oP.rd) hwL0 rfl (by omega) Try.isAgg3) ?_
      refine WL.va rfl rfl rfl (X.assignI rfl) ?_
      refine WL.nil ?_
      refine thn_n ?_
      refine WF.seq ?_
      refine WF.region ?_
      refine WL.va rfl rfl rfl (X.move ((hAL0.eq 0).trans (congrFun hF25 0))) ?_
      refine WL.va rfl rfl rfl (X.nilCheck rfl) ?_
      refine WL.va rfl rfl rfl (X.fieldAddrP (off := 5) rfl Try.underlying75 rfl rfl Try.sizeOf72) ?_
      refine WL.va rfl rfl rfl (X.loadO hO hwL0 rfl rfl Try.isAgg72) ?_
      refine WL.va rfl rfl rfl (X.moveI rfl) ?_
      refine WL.va rfl rfl rfl (X.lookM ki (hMc.ext hwL0) Try.underlying72 Try.zeroValue3 rfl rfl (hLc _)) ?_
      refine WL.va rfl rfl rfl (X.eql rfl rfl) ?_
      refine WL.nil ?_
      refine thn_n ?_
      refine WF.cond rfl (fun h1_28 => ?_) (fun h1_28 => ?_)
      · have gh1_28 := (of_decide_eq_true h1_28)
        have hy := askM_yes (b := b) hk gh1_28
        refine WF.region ?_
        refine WL.va rfl rfl rfl (X.move e5_L0) ?_
        refine WL.va rfl rfl rfl (X.move ((hAL0.eq 0).trans (congrFun hF25 0))) ?_
        refine WL.va rfl rfl rfl (X.moveI rfl) ?_
        refine WL.va rfl rfl rfl (X.buildT (P := Try.prog) (t := 40) (cs := (Msg.bare (asks (c.parts.getD k 0)))) (zs := [i64 0, i64 0, i64 0, i64 0, i64 0, i64 0, i64 0, i64 0, i64 0, i64 0, i64 0, i64 0, i64 0, i64 0, .bool false, .slice none 0 0, .slice none 0 0]) (places := [(0, 1), (1, 1), (2, 1), (3, 1), (4, 1), (5, 1), (6, 1), (7, 1), (8, 1), (9, 1), (10, 1), (11, 1), (12, 1), (13, 1), (14, 1), (15, 1), (16, 1)]) (n := 17) (evp_cons rfl (evp_cons rfl evp_nil)) Try.type40 Try.underlying40 rfl rfl ⟨rfl, rfl, trivial⟩ rfl rfl rfl) ?_
        refine WL.c rfl rfl rfl (X.call Try.call30 (evl_cons rfl (evl_cons rfl evl_nil))) (all_ok _ _ _ (c.started b) _ _ _ (asks (c.parts.getD k 0)) _ (hO.ext hwL0) hok.nac.2) ?_
        rintro v31 w30 ⟨hout, hx32⟩
        have := World.grownBy.size hx32
        have hol : ((c.started b).all (asks (c.parts.getD k 0))).length = c.nac.toNat := allM_len
        have hn7 := hok.nac
        refine WL.op rfl (OW.append (bytes := 168) (own_ext hom hx32) (Row.of_own hout) (bare_ones _) rfl rfl Try.underlying36 Try.type40 rfl rfl rfl rfl (by decide) (by unfold maxLen; omega) (by omega) (by omega) ?_ (by decide))
        intro v34 w33 ho36 hx35 hmvhx35
        have := World.grownBy.size hx35
        replace hMc := (hMc.ext (Ext.trans hwL0 hx32)).kept hx35 (fun b hb => by have := ((own_ext hom hx32).lt b hb).1; omega)
        replace oP := (oP.ext (Ext.trans hwL0 hx32)).kept hx35 (fun b hb => by have := ((own_ext hom hx32).lt b hb).1; omega)
        replace hO := (hO.ext (Ext.trans hwL0 hx32)).keptR hx35 (fun b hb => by have := ((own_ext hom hx32).lt b hb).1; omega)
        replace hM17 := (hM17.ext (Ext.trans hwL0 hx32)).kept hx35 (fun b hb => by have := ((own_ext hom hx32).lt b hb).1; omega)
        replace hM18 := (hM18.ext (Ext.trans hwL0 hx32)).kept hx35 (fun b hb => by have := ((own_ext hom hx32).lt b hb).1; omega)
        have hom4 := OwnM.app ho36
        refine WL.va rfl rfl rfl (X.assign rfl) ?_
        refine WL.nil ?_
        refine blk_n ?_
        refine thn_n ?_
        refine WF.region ?_
        refine WL.va rfl rfl rfl (X.add e28_L0 rfl (w64 (by omega))) ?_
        refine WL.va rfl rfl rfl (X.moveI rfl) ?_
        refine WL.nil ?_
        exact thn_n ⟨_, (by omega), k + 1, _, rfl, rfl, rfl, (by repeat (first | exact hAL0 | refine Agree.put ?_ rfl | refine Agree.named hF25 ?_)), (Ext.own (Ext.trans hwL0 hx32) (own_ext hom hx32) (Nat.le_refl _) hx35), ⟨by omega, by rw [hy]; exact hom4⟩⟩
      · have gh1_28 := (of_decide_eq_false h1_28)
        have hy := askM_no (b := b) hk gh1_28
        refine WF.skip ?_
        refine blk_n ?_
        refine thn_n ?_
        refine WF.region ?_
        refine WL.va rfl rfl rfl (X.add e28_L0 rfl (w64 (by omega))) ?_
        refine WL.va rfl rfl rfl (X.moveI rfl) ?_
        refine WL.nil ?_
        first | exact thn_n ⟨_, (by omega), k + 1, _, rfl, rfl, e5_L0, (by repeat (first | exact hAL0 | refine Agree.put ?_ rfl | refine Agree.named hF25 ?_)), hwL0, ⟨by omega, by rw [hy]; exact hom4⟩⟩ | exact thn_n ⟨_, (by omega), k + 1, _, rfl, rfl, e5_L0, (by repeat (first | exact hAL0 | refine Agree.put ?_ rfl | refine Agree.named hF25 ?_)), hwL0, ⟨by omega, by rw [hy]; exact hom⟩⟩
    · have gh0_26 := (of_decide_eq_false h0_26)
      refine WF.exit ?_
      refine thn_x ?_
      refine thn_x ?_
      refine blk_eq ?_
      refine thn_n ?_
      refine WF.seq ?_
      refine WF.region ?_
      refine WL.va rfl rfl rfl (X.move e5_L0) ?_
      refine WL.va rfl rfl rfl (X.assign rfl) ?_
      refine WL.nil ?_
      refine thn_n ?_
      refine WF.ret ?_
      refine fin_r ?_
      rw [List.take_of_length_le (by omega)] at hom
      exact ⟨own_mono hom (by omega), start_fin hI (hO.ext hwL0) (hM17.ext hwL0) (hM18.ext hwL0) (by omega) (by omega) (by omega) ((((((((ChgS.refl (fun b => b = g) w).row1 hx3 (.inl rfl)).row1 hx7 (.inl rfl)).ext hx11).ext hx15).row1 hx19 (.inl rfl)).row1 hx22 (.inl rfl)).ext hwL0) (fun b e => by have := (hom.lt b e).1; exact ⟨by omega, by omega, by omega⟩)⟩

set_option maxHeartbeats 1000000 in
theorem value_ok (F : Fp Rl) (g : Nat) (c : CC) (w : World) (h : CAt w F g c) (hok : c.ok) : FnOk Try.prog 17 [at_ g] w (fun r w' => r = i64 c.value ∧ Ext w w') := by
  obtain ⟨vp, ga, gc, vr, vo, hI⟩ := h
  have hO := hI.obj
  obtain ⟨Lc, hMc, hLc⟩ := hI.ch
  obtain ⟨d1, d2, d3⟩ := hI.dist
  obtain ⟨z1, z2, z3⟩ := hI.lts
  obtain ⟨Bp, Tp, oP, zP, bP, nP⟩ := hI.parts.outT
  have n1 := nP g _ hI.at_ (by simp)
  have n2 := nP gc _ hI.fc (by simp)
  have hp4 := hok.parts
  refine FnOk.enter (rs := [2]) Try.func17 rfl Try.ntmps17 Try.results17 rfl rfl ?_
  refine WF.seq ?_
  refine WF.region ?_
  refine WL.va rfl rfl rfl (X.assignI rfl) ?_
  refine WL.nil ?_
  refine thn_n ?_
  refine WF.seq ?_
  refine WF.region ?_
  refine WL.va rfl rfl rfl (X.assignI rfl) ?_
  refine WL.nil ?_
  refine thn_n ?_
  refine WF.seq ?_
  refine WF.seq ?_
  refine WF.region ?_
  refine WL.va rfl rfl rfl (X.move rfl) ?_
  refine WL.va rfl rfl rfl (X.nilCheck rfl) ?_
  refine WL.va rfl rfl rfl (X.fieldAddrP (off := 2) rfl Try.underlying75 rfl rfl Try.sizeOf22) ?_
  refine WL.va rfl rfl rfl (X.loadO hO (Ext.refl _) rfl rfl Try.isAgg22) ?_
  refine WL.va rfl rfl rfl (X.len (oP.rd) rfl Try.underlying22) ?_
  refine WL.va rfl rfl rfl (X.moveI rfl) ?_
  refine WL.nil ?_
  refine thn_n ?_
  refine WF.block ?_
  refine WF.named (fun F1 hF2 => ?_)
  refine WF.loopN (fun mL0 f' w' => ∃ (k : Nat) (v : Int), mL0 = c.parts.length - k ∧ f' 11 = .int .i64 (k : Int) ∧ f' 3 = i64 v ∧ Agree [0, 6, 7, 8, 9, 10] f' F1 ∧ Ext w w' ∧ k ≤ c.parts.length ∧ valueFrom c.ch 1 c.parts = valueFrom c.ch v (c.parts.drop k)) ?_ ?_
  · exact ⟨_, 0, 1, rfl, (congrFun hF2 11), (congrFun hF2 3), (Agree.refl _ _), (Ext.refl _), ⟨Nat.zero_le _, rfl⟩⟩
  · rintro mL0 fL0 wL0 ⟨k, v, hmL0, e11_L0, e3_L0, hAL0, hwL0, ⟨hk0, hv⟩⟩
    have := World.grownBy.size hwL0
    refine WF.seq ?_
    refine WF.region ?_
    refine WL.va rfl rfl rfl (X.lss e11_L0 ((hAL0.eq 10).trans (congrFun hF2 10))) ?_
    refine WL.nil ?_
    refine thn_n ?_
    refine WF.seq ?_
    refine WF.cond rfl (fun h0_3 => ?_) (fun h0_3 => ?_)
    · have gh0_3 := (of_decide_eq_true h0_3)
      have hk : k < c.parts.length := by omega
      refine WF.skip ?_
      refine thn_n ?_
      refine WF.seq ?_
      refine WF.block ?_
      refine WF.seq ?_
      refine WF.region ?_
      refine WL.va rfl rfl rfl (X.idx (oP.rd) ((hAL0.eq 9).trans (congrFun hF2 9)) e11_L0 (by omega) Try.underlying22 Try.sizeOf3) ?_
      refine WL.va rfl rfl rfl (X.loadI (oP.rd) hwL0 rfl (by omega) Try.isAgg3) ?_
      refine WL.va rfl rfl rfl (X.assignI rfl) ?_
      refine WL.nil ?_
      refine thn_n ?_
      refine WF.seq ?_
      refine WF.region ?_
      refine WL.va rfl rfl rfl (X.move ((hAL0.eq 0).trans (congrFun hF2 0))) ?_
      refine WL.va rfl rfl rfl (X.nilCheck rfl) ?_
      refine WL.va rfl rfl rfl (X.fieldAddrP (off := 5) rfl Try.underlying75 rfl rfl Try.sizeOf72) ?_
      refine WL.va rfl rfl rfl (X.loadO hO hwL0 rfl rfl Try.isAgg72) ?_
      refine WL.va rfl rfl rfl (X.moveI rfl) ?_
      refine WL.va rfl rfl rfl (X.lookM ki (hMc.ext hwL0) Try.underlying72 Try.zeroValue3 rfl rfl (hLc _)) ?_
      refine WL.nil ?_
      refine thn_n ?_
      refine WF.block ?_
      refine WF.seq ?_
      refine WF.region ?_
      refine WL.va rfl rfl rfl (X.eql rfl rfl) ?_
      refine WL.va rfl rfl rfl (X.assignB rfl) ?_
      refine WL.nil ?_
      refine thn_n ?_
      refine WF.cond rfl (fun h1_5 => ?_) (fun h1_5 => ?_)
      · have gh1_5 := (of_decide_eq_true h1_5)
        have hr : c.value = 2 := by unfold CC.value; rw [hv, value_drop hk, if_pos gh1_5]
        refine WF.seq ?_
        refine WF.region ?_
        refine WL.va rfl rfl rfl (X.assignI rfl) ?_
        refine WL.nil ?_
        refine thn_n ?_
        refine WF.ret ?_
        refine blk_r ?_
        refine blk_r ?_
        refine thn_r ?_
        refine thn_r ?_
        refine blk_r ?_
        refine thn_r ?_
        refine fin_r ?_
        rw [hr]; exact ⟨rfl, hwL0⟩
      · have gh1_5 := (of_decide_eq_false h1_5)
        have h2 : ¬ c.ch (c.parts.getD k 0) = 2 := gh1_5
        refine WF.seq ?_
        refine WF.region ?_
        refine WL.va rfl rfl rfl (X.eql rfl rfl) ?_
        refine WL.va rfl rfl rfl (X.assignB rfl) ?_
        refine WL.nil ?_
        refine thn_n ?_
        refine WF.cond rfl (fun h2_7 => ?_) (fun h2_7 => ?_)
        · have gh2_7 := (of_decide_eq_true h2_7)
          have hnx : valueFrom c.ch v (c.parts.drop k) = valueFrom c.ch 0 (c.parts.drop (k + 1)) := by rw [value_drop hk, if_neg h2, if_pos gh2_7]
          refine WF.region ?_
          refine WL.va rfl rfl rfl (X.assignI rfl) ?_
          refine WL.nil ?_
          refine blk_n ?_
          refine blk_n ?_
          refine thn_n ?_
          refine WF.region ?_
          refine WL.va rfl rfl rfl (X.add e11_L0 rfl (w64 (by omega))) ?_
          refine WL.va rfl rfl rfl (X.moveI rfl) ?_
          refine WL.nil ?_
          first | exact thn_n ⟨_, (by omega), k + 1, 0, rfl, rfl, rfl, (by repeat (first | exact hAL0 | refine Agree.put ?_ rfl | refine Agree.named hF2 ?_)), hwL0, ⟨by omega, hv.trans hnx⟩⟩ | exact thn_n ⟨_, (by omega), k + 1, v, rfl, rfl, rfl, (by repeat (first | exact hAL0 | refine Agree.put ?_ rfl | refine Agree.named hF2 ?_)), hwL0, ⟨by omega, hv.trans hnx⟩⟩
        · have gh2_7 := (of_decide_eq_false h2_7)
          have hnx : valueFrom c.ch v (c.parts.drop k) = valueFrom c.ch v (c.parts.drop (k + 1)) := by rw [value_drop hk, if_neg h2, if_neg gh2_7]
          refine WF.skip ?_
          refine blk_n ?_
          refine blk_n ?_
          refine thn_n ?_
          refine WF.region ?_
          refine WL.va rfl rfl rfl (X.add e11_L0 rfl (w64 (by omega))) ?_
          refine WL.va rfl rfl rfl (X.moveI rfl) ?_
          refine WL.nil ?_
          first | exact thn_n ⟨_, (by omega), k + 1, 0, rfl, rfl, e3_L0, (by repeat (first | exact hAL0 | refine Agree.put ?_ rfl | refine Agree.named hF2 ?_)), hwL0, ⟨by omega, hv.trans hnx⟩⟩ | exact thn_n ⟨_, (by omega), k + 1, v, rfl, rfl, e3_L0, (by repeat (first | exact hAL0 | refine Agree.put ?_ rfl | refine Agree.named hF2 ?_)), hwL0, ⟨by omega, hv.trans hnx⟩⟩
    · have gh0_3 := (of_decide_eq_false h0_3)
      refine WF.exit ?_
      refine thn_x ?_
      refine thn_x ?_
      refine blk_eq ?_
      refine thn_n ?_
      refine WF.seq ?_
      refine WF.region ?_
      refine WL.va rfl rfl rfl (X.moveI e3_L0) ?_
      refine WL.va rfl rfl rfl (X.assignI rfl) ?_
      refine WL.nil ?_
      refine thn_n ?_
      refine WF.ret ?_
      refine fin_r ?_
      exact ⟨congrArg i64 (by unfold CC.value; rw [hv, List.drop_of_length_le (by omega)]; rfl), hwL0⟩

theorem top_ok (F : Fp Rl) (g : Nat) (c : CC) (w : World) (h : CAt w F g c) : FnOk Try.prog 19 [at_ g] w (fun r w' => r = i64 c.top ∧ Ext w w') := by
  obtain ⟨vp, ga, gc, vr, vo, hI⟩ := h
  have hO := hI.obj
  refine FnOk.enter (rs := [2]) Try.func19 rfl Try.ntmps19 Try.results19 rfl rfl ?_
  refine WF.seq ?_
  refine WF.region ?_
  refine WL.va rfl rfl rfl (X.assignI rfl) ?_
  refine WL.nil ?_
  refine thn_n ?_
  refine WF.seq ?_
  refine WF.region ?_
  refine WL.va rfl rfl rfl (X.move rfl) ?_
  refine WL.va rfl rfl rfl (X.nilCheck rfl) ?_
  refine WL.va rfl rfl rfl (X.fieldAddrP (off := 10) rfl Try.underlying75 rfl rfl Try.sizeOf3) ?_
  refine WL.va rfl rfl rfl (X.loadO hO (Ext.refl _) rfl rfl Try.isAgg3) ?_
  refine WL.va rfl rfl rfl (X.assignI rfl) ?_
  refine WL.nil ?_
  refine thn_n ?_
  refine WF.ret ?_
  refine fin_r ?_
  exact ⟨rfl, (Ext.refl _)⟩

theorem promise_ok (F : Fp Rl) (g : Nat) (c : CC) (m : Msg) (em dm : Value) (w : World) (h : CAt w F g c) (hok : c.ok) : FnOk Try.prog 35 [at_ g, agg (m.c em dm)] w (fun r w' => OwnM w' w.heap.size 40 r (c.promise m).2 ∧ CPost w w' F g (c.promise m).1 r) := by
  cases hs : c.st
  · exact promise0_ok F g c m em dm w h hok hs
  · exact promise1_ok F g c m em dm w h hok hs
theorem not_dec {p q : Prop} [Decidable p] [Decidable q] (h : q ↔ ¬ p) : (!decide p) = decide q := by
  rw [Bool.eq_iff_iff]; simp [h]
theorem CC.step_a {c : CC} {m : Msg} (h : (m.Txn ≠ c.txn ∨ m.From < 1 ∨ c.nac < m.From ∨ m.Part ∉ c.parts)) : c.step m = (c, []) := if_pos h
theorem CC.step_b {c : CC} {m : Msg} (h : ¬ (m.Txn ≠ c.txn ∨ m.From < 1 ∨ c.nac < m.From ∨ m.Part ∉ c.parts)) (h2 : (m.Kind ≠ 11 ∧ m.Kind ≠ 9)) : c.step m = (c, []) := (if_neg h).trans (if_pos h2)
theorem CC.step_c {c : CC} {m : Msg} (h : ¬ (m.Txn ≠ c.txn ∨ m.From < 1 ∨ c.nac < m.From ∨ m.Part ∉ c.parts)) (h2 : ¬ (m.Kind ≠ 11 ∧ m.Kind ≠ 9)) (h3 : m.Ok = false) : c.step m = ({ c with top := max c.top m.Index }, []) := (if_neg h).trans ((if_neg h2).trans (if_pos h3))
theorem CC.step_d {c : CC} {m : Msg} (h : ¬ (m.Txn ≠ c.txn ∨ m.From < 1 ∨ c.nac < m.From ∨ m.Part ∉ c.parts)) (h2 : ¬ (m.Kind ≠ 11 ∧ m.Kind ≠ 9)) (h3 : ¬ m.Ok = false) (h4 : m.Kind = 11) : c.step m = (c.accept m, []) := (if_neg h).trans ((if_neg h2).trans ((if_neg h3).trans (if_pos h4)))
theorem CC.step_e {c : CC} {m : Msg} (h : ¬ (m.Txn ≠ c.txn ∨ m.From < 1 ∨ c.nac < m.From ∨ m.Part ∉ c.parts)) (h2 : ¬ (m.Kind ≠ 11 ∧ m.Kind ≠ 9)) (h3 : ¬ m.Ok = false) (h4 : ¬ m.Kind = 11) : c.step m = c.promise m := (if_neg h).trans ((if_neg h2).trans ((if_neg h3).trans (if_neg h4)))
set_option maxHeartbeats 1000000 in
theorem step_ok (F : Fp Rl) (g : Nat) (c : CC) (m : Msg) (em dm : Value) (w : World) (h : CAt w F g c) (hok : c.ok) : FnOk Try.prog 14 [at_ g, agg (m.c em dm)] w (fun r w' => OwnM w' w.heap.size 40 r (c.step m).2 ∧ CPost w w' F g (c.step m).1 r) := by
  obtain ⟨vp, ga, gc, vr, vo, hI⟩ := h
  have hO := hI.obj
  obtain ⟨Lc, hMc, hLc⟩ := hI.ch
  obtain ⟨d1, d2, d3⟩ := hI.dist
  obtain ⟨z1, z2, z3⟩ := hI.lts
  obtain ⟨Bp, Tp, oP, zP, bP, nP⟩ := hI.parts.outT
  have n1 := nP g _ hI.at_ (by simp)
  have n2 := nP gc _ hI.fc (by simp)
  have hp4 := hok.parts
  refine FnOk.enter (rs := [4]) Try.func14 rfl Try.ntmps14 Try.results14 rfl rfl ?_
  refine WF.seq ?_
  refine WF.region ?_
  refine WL.op rfl (OW.boxA (cs := (m.c em dm)) rfl ?_ (by decide))
  intro g3 w1 heg3 hlg3 hO3 hx3
  have := World.grownBy.size hx3
  refine WL.va rfl rfl rfl (X.assign rfl) ?_
  refine WL.nil ?_
  refine thn_n ?_
  refine WF.seq ?_
  refine WF.named (fun F5 hF6 => ?_)
  refine WF.cut (fun f' w' => f' 35 = .bool (decide (m.Txn ≠ c.txn ∨ m.From < 1 ∨ c.nac < m.From ∨ m.Part ∉ c.parts)) ∧ Agree [0, 1, 3, 4] f' F5 ∧ Ext w1 w') ?_ ?_
  · refine WF.drawn (.q 0 (.q 1 (.q 2 (.q 3 (.q 4 (.q 5 (.q 6 (.q 7 (.q 8 (.q 9 (.q 10 (.q 11 (.q 12 (.q 13 (.q 14 (.q 15 (.q 16 (.q 17 (.q 18 (.q 19 (.q 20 (.q 21 (.q 22 (.q 23 (.q 24 (.q 25 (.q 26 (.q 27 (.l 28 (.q 29 (.q 30 .nil))))))))))))))))))))))))))))))) (fun w' => Ext w1 w') 31 (by kernel_rfl) (by kernel_rfl) (Ext.drew _) ?_
    have := World.grownBy.size (Ext.drew w1)
    refine WO.q rfl rfl rfl rfl (fun w' hE7 => (X.fieldAddrO (off := 9) (congrFun hF6 3) Try.underlying40 rfl rfl Try.sizeOf3)) ?_
    refine WO.q rfl rfl rfl rfl (fun w' hE7 => (X.loadO hO3 hE7 rfl rfl Try.isAgg3)) ?_
    refine WO.q rfl rfl rfl rfl (fun w' hE7 => (X.move (congrFun hF6 0))) ?_
    refine WO.q rfl rfl rfl rfl (fun w' hE7 => (X.nilCheck rfl)) ?_
    refine WO.q rfl rfl rfl rfl (fun w' hE7 => (X.fieldAddrP (off := 1) rfl Try.underlying75 rfl rfl Try.sizeOf3)) ?_
    refine WO.q rfl rfl rfl rfl (fun w' hE7 => (X.loadO hO (Ext.trans hx3 hE7) rfl rfl Try.isAgg3)) ?_
    refine WO.q rfl rfl rfl rfl (fun w' hE7 => (X.neq rfl rfl)) ?_
    refine WO.q rfl rfl rfl rfl (fun w' hE7 => (X.moveB rfl)) ?_
    refine WO.split (j := 7) rfl (fun h9 => ?_) (fun h9 => ?_)
    · have gh9 := (of_decide_eq_true h9)
      have a1 : m.Txn ≠ c.txn := gh9
      refine WO.qp rfl rfl rfl rfl (congrArg some h9) ?_
      refine WO.qp rfl rfl rfl rfl (congrArg some h9) ?_
      refine WO.qp rfl rfl rfl rfl (congrArg some h9) ?_
      refine WO.q rfl rfl rfl rfl (fun w' hE7 => (X.pickT rfl h9 rfl)) ?_
      refine WO.q rfl rfl rfl rfl (fun w' hE7 => (X.moveB rfl)) ?_
      refine WO.qp rfl rfl rfl rfl rfl ?_
      refine WO.qp rfl rfl rfl rfl rfl ?_
      refine WO.qp rfl rfl rfl rfl rfl ?_
      refine WO.qp rfl rfl rfl rfl rfl ?_
      refine WO.qp rfl rfl rfl rfl rfl ?_
      refine WO.qp rfl rfl rfl rfl rfl ?_
      refine WO.qp rfl rfl rfl rfl rfl ?_
      refine WO.q rfl rfl rfl rfl (fun w' hE7 => (X.pickT rfl rfl rfl)) ?_
      refine WO.q rfl rfl rfl rfl (fun w' hE7 => (X.moveB rfl)) ?_
      refine WO.qp rfl rfl rfl rfl rfl ?_
      refine WO.qp rfl rfl rfl rfl rfl ?_
      refine WO.qp rfl rfl rfl rfl rfl ?_
      refine WO.qp rfl rfl rfl rfl rfl ?_
      refine WO.qp rfl rfl rfl rfl rfl ?_
      refine WO.qp rfl rfl rfl rfl rfl ?_
      refine WO.l ?_
      refine LO.pass rfl (Ext.drew _) rfl rfl rfl rfl ?_
      refine WO.qp rfl rfl rfl rfl rfl ?_
      refine WO.q rfl rfl rfl rfl (fun w' hE7 => (X.pickT rfl rfl rfl)) ?_
      refine WO.nil ?_
      refine WL.nil ?_
      refine thn_n ?_
      exact ⟨(congrArg Value.bool (by first | exact (decide_eq_true (show (m.Txn ≠ c.txn ∨ m.From < 1 ∨ c.nac < m.From ∨ m.Part ∉ c.parts) from .inl a1)).symm | exact (decide_eq_true (show (m.Txn ≠ c.txn ∨ m.From < 1 ∨ c.nac < m.From ∨ m.Part ∉ c.parts) from .inr (.inl a2))).symm | exact (decide_eq_true (show (m.Txn ≠ c.txn ∨ m.From < 1 ∨ c.nac < m.From ∨ m.Part ∉ c.parts) from .inr (.inr (.inl a3)))).symm | exact not_dec ⟨fun e => ((e.resolve_left b1).resolve_left b2).resolve_left b3, fun e => .inr (.inr (.inr e))⟩)), (by repeat (first | exact (Agree.refl _ F5) | refine Agree.put ?_ rfl | refine Agree.named hF6 ?_)), (Ext.drew _)⟩
    · have gh9 := (Decidable.of_not_not (of_decide_eq_false h9))
      have b1 : ¬ m.Txn ≠ c.txn := fun e => e gh9
      refine WO.qg rfl rfl (congrArg some h9) rfl rfl (fun w' hE7 => (X.fieldAddrO (off := 1) (congrFun hF6 3) Try.underlying40 rfl rfl Try.sizeOf3)) ?_
      refine WO.qg rfl rfl (congrArg some h9) rfl rfl (fun w' hE7 => (X.loadO hO3 hE7 rfl rfl Try.isAgg3)) ?_
      refine WO.qg rfl rfl (congrArg some h9) rfl rfl (fun w' hE7 => (X.lss rfl rfl)) ?_
      refine WO.q rfl rfl rfl rfl (fun w' hE7 => (X.pickF rfl h9 rfl)) ?_
      refine WO.q rfl rfl rfl rfl (fun w' hE7 => (X.moveB rfl)) ?_
      refine WO.split (j := 12) rfl (fun h14 => ?_) (fun h14 => ?_)
      · have gh14 := (of_decide_eq_true h14)
        have a2 : m.From < 1 := gh14
        refine WO.qp rfl rfl rfl rfl (congrArg some h14) ?_
        refine WO.qp rfl rfl rfl rfl (congrArg some h14) ?_
        refine WO.qp rfl rfl rfl rfl (congrArg some h14) ?_
        refine WO.qp rfl rfl rfl rfl (congrArg some h14) ?_
        refine WO.qp rfl rfl rfl rfl (congrArg some h14) ?_
        refine WO.qp rfl rfl rfl rfl (congrArg some h14) ?_
        refine WO.qp rfl rfl rfl rfl (congrArg some h14) ?_
        refine WO.q rfl rfl rfl rfl (fun w' hE7 => (X.pickT rfl h14 rfl)) ?_
        refine WO.q rfl rfl rfl rfl (fun w' hE7 => (X.moveB rfl)) ?_
        refine WO.qp rfl rfl rfl rfl rfl ?_
        refine WO.qp rfl rfl rfl rfl rfl ?_
        refine WO.qp rfl rfl rfl rfl rfl ?_
        refine WO.qp rfl rfl rfl rfl rfl ?_
        refine WO.qp rfl rfl rfl rfl rfl ?_
        refine WO.qp rfl rfl rfl rfl rfl ?_
        refine WO.l ?_
        refine LO.pass rfl (Ext.drew _) rfl rfl rfl rfl ?_
        refine WO.qp rfl rfl rfl rfl rfl ?_
        refine WO.q rfl rfl rfl rfl (fun w' hE7 => (X.pickT rfl rfl rfl)) ?_
        refine WO.nil ?_
        refine WL.nil ?_
        refine thn_n ?_
        exact ⟨(congrArg Value.bool (by first | exact (decide_eq_true (show (m.Txn ≠ c.txn ∨ m.From < 1 ∨ c.nac < m.From ∨ m.Part ∉ c.parts) from .inl a1)).symm | exact (decide_eq_true (show (m.Txn ≠ c.txn ∨ m.From < 1 ∨ c.nac < m.From ∨ m.Part ∉ c.parts) from .inr (.inl a2))).symm | exact (decide_eq_true (show (m.Txn ≠ c.txn ∨ m.From < 1 ∨ c.nac < m.From ∨ m.Part ∉ c.parts) from .inr (.inr (.inl a3)))).symm | exact not_dec ⟨fun e => ((e.resolve_left b1).resolve_left b2).resolve_left b3, fun e => .inr (.inr (.inr e))⟩)), (by repeat (first | exact (Agree.refl _ F5) | refine Agree.put ?_ rfl | refine Agree.named hF6 ?_)), (Ext.drew _)⟩
      · have gh14 := (of_decide_eq_false h14)
        have b2 : ¬ m.From < 1 := gh14
        refine WO.qg rfl rfl (congrArg some h14) rfl rfl (fun w' hE7 => (X.fieldAddrO (off := 1) (congrFun hF6 3) Try.underlying40 rfl rfl Try.sizeOf3)) ?_
        refine WO.qg rfl rfl (congrArg some h14) rfl rfl (fun w' hE7 => (X.loadO hO3 hE7 rfl rfl Try.isAgg3)) ?_
        refine WO.qg rfl rfl (congrArg some h14) rfl rfl (fun w' hE7 => (X.move (congrFun hF6 0))) ?_
        refine WO.qg rfl rfl (congrArg some h14) rfl rfl (fun w' hE7 => (X.nilCheck rfl)) ?_
        refine WO.qg rfl rfl (congrArg some h14) rfl rfl (fun w' hE7 => (X.fieldAddrP (off := 3) rfl Try.underlying75 rfl rfl Try.sizeOf3)) ?_
        refine WO.qg rfl rfl (congrArg some h14) rfl rfl (fun w' hE7 => (X.loadO hO (Ext.trans hx3 hE7) rfl rfl Try.isAgg3)) ?_
        refine WO.qg rfl rfl (congrArg some h14) rfl rfl (fun w' hE7 => (X.gtr rfl rfl)) ?_
        refine WO.q rfl rfl rfl rfl (fun w' hE7 => (X.pickF rfl h14 rfl)) ?_
        refine WO.q rfl rfl rfl rfl (fun w' hE7 => (X.moveB rfl)) ?_
        refine WO.split (j := 21) rfl (fun h18 => ?_) (fun h18 => ?_)
        · have gh18 := (of_decide_eq_true h18)
          have a3 : c.nac < m.From := gh18
          refine WO.qp rfl rfl rfl rfl (congrArg some h18) ?_
          refine WO.qp rfl rfl rfl rfl (congrArg some h18) ?_
          refine WO.qp rfl rfl rfl rfl (congrArg some h18) ?_
          refine WO.qp rfl rfl rfl rfl (congrArg some h18) ?_
          refine WO.qp rfl rfl rfl rfl (congrArg some h18) ?_
          refine WO.qp rfl rfl rfl rfl (congrArg some h18) ?_
          refine WO.l ?_
          refine LO.pass rfl (Ext.drew _) rfl rfl rfl (congrArg some h18) ?_
          refine WO.qp rfl rfl rfl rfl (congrArg some h18) ?_
          refine WO.q rfl rfl rfl rfl (fun w' hE7 => (X.pickT rfl h18 rfl)) ?_
          refine WO.nil ?_
          refine WL.nil ?_
          refine thn_n ?_
          exact ⟨(congrArg Value.bool (by first | exact (decide_eq_true (show (m.Txn ≠ c.txn ∨ m.From < 1 ∨ c.nac < m.From ∨ m.Part ∉ c.parts) from .inl a1)).symm | exact (decide_eq_true (show (m.Txn ≠ c.txn ∨ m.From < 1 ∨ c.nac < m.From ∨ m.Part ∉ c.parts) from .inr (.inl a2))).symm | exact (decide_eq_true (show (m.Txn ≠ c.txn ∨ m.From < 1 ∨ c.nac < m.From ∨ m.Part ∉ c.parts) from .inr (.inr (.inl a3)))).symm | exact not_dec ⟨fun e => ((e.resolve_left b1).resolve_left b2).resolve_left b3, fun e => .inr (.inr (.inr e))⟩)), (by repeat (first | exact (Agree.refl _ F5) | refine Agree.put ?_ rfl | refine Agree.named hF6 ?_)), (Ext.drew _)⟩
        · have gh18 := (of_decide_eq_false h18)
          have b3 : ¬ c.nac < m.From := gh18
          refine WO.qg rfl rfl (congrArg some h18) rfl rfl (fun w' hE7 => (X.move (congrFun hF6 0))) ?_
          refine WO.qg rfl rfl (congrArg some h18) rfl rfl (fun w' hE7 => (X.nilCheck rfl)) ?_
          refine WO.qg rfl rfl (congrArg some h18) rfl rfl (fun w' hE7 => (X.fieldAddrP (off := 2) rfl Try.underlying75 rfl rfl Try.sizeOf22)) ?_
          refine WO.qg rfl rfl (congrArg some h18) rfl rfl (fun w' hE7 => (X.loadO hO (Ext.trans hx3 hE7) rfl rfl Try.isAgg22)) ?_
          refine WO.qg rfl rfl (congrArg some h18) rfl rfl (fun w' hE7 => (X.fieldAddrO (off := 10) (congrFun hF6 3) Try.underlying40 rfl rfl Try.sizeOf3)) ?_
          refine WO.qg rfl rfl (congrArg some h18) rfl rfl (fun w' hE7 => (X.loadO hO3 hE7 rfl rfl Try.isAgg3)) ?_
          refine WO.l ?_
          refine LO.gog rfl rfl (congrArg some h18) (OW.enter rfl (by decide) (X.call Try.call33 (evl_cons rfl (evl_cons rfl evl_nil))) (containsI_ok _ c.parts _ _ (oP.ext (Ext.trans hx3 (Ext.drew _))).rd) ?_)
          rintro v21 w20 ⟨rfl, hx22⟩
          have := World.grownBy.size hx22
          refine ⟨(Ext.trans (Ext.drew _) hx22), ?_⟩
          refine WO.qg rfl rfl (congrArg some h18) rfl rfl (fun w' hE7 => (X.not rfl)) ?_
          refine WO.q rfl rfl rfl rfl (fun w' hE7 => (X.pickF rfl h18 rfl)) ?_
          refine WO.nil ?_
          refine WL.nil ?_
          refine thn_n ?_
          exact ⟨(congrArg Value.bool (by first | exact (decide_eq_true (show (m.Txn ≠ c.txn ∨ m.From < 1 ∨ c.nac < m.From ∨ m.Part ∉ c.parts) from .inl a1)).symm | exact (decide_eq_true (show (m.Txn ≠ c.txn ∨ m.From < 1 ∨ c.nac < m.From ∨ m.Part ∉ c.parts) from .inr (.inl a2))).symm | exact (decide_eq_true (show (m.Txn ≠ c.txn ∨ m.From < 1 ∨ c.nac < m.From ∨ m.Part ∉ c.parts) from .inr (.inr (.inl a3)))).symm | exact not_dec ⟨fun e => ((e.resolve_left b1).resolve_left b2).resolve_left b3, fun e => .inr (.inr (.inr e))⟩)), (by repeat (first | exact (Agree.refl _ F5) | refine Agree.put ?_ rfl | refine Agree.named hF6 ?_)), (Ext.trans (Ext.drew _) hx22)⟩
  · rintro fCr1 wCr1 ⟨e35_Cr1, hACr1, hwCr1⟩
    have := World.grownBy.size hwCr1
    refine WF.cond e35_Cr1 (fun h0_25 => ?_) (fun h0_25 => ?_)
    · have gh0_25 := (of_decide_eq_true h0_25)
      have hC1 : (m.Txn ≠ c.txn ∨ m.From < 1 ∨ c.nac < m.From ∨ m.Part ∉ c.parts) := gh0_25
      refine WF.seq ?_
      refine WF.region ?_
      refine WL.va rfl rfl rfl (X.assign rfl) ?_
      refine WL.nil ?_
      refine thn_n ?_
      refine WF.ret ?_
      refine thn_r ?_
      refine fin_r ?_
      rw [CC.step_a hC1]
      exact ⟨OwnM.nil _ _ _, CPost.same ⟨_, _, _, _, _, hI⟩ (Ext.trans hx3 hwCr1)⟩
    · have gh0_25 := (of_decide_eq_false h0_25)
      have hN1 : ¬ (m.Txn ≠ c.txn ∨ m.From < 1 ∨ c.nac < m.From ∨ m.Part ∉ c.parts) := gh0_25
      refine WF.skip ?_
      refine thn_n ?_
      refine WF.seq ?_
      refine WF.block ?_
      refine WF.named (fun F27 hF28 => ?_)
      refine WF.cut (fun f' w' => f' 39 = .bool (decide (m.Kind ≠ 11 ∧ m.Kind ≠ 9)) ∧ Agree [0, 1, 3, 4, 35] f' F27 ∧ wCr1 = w') ?_ ?_
      · refine WF.region ?_
        refine WL.va rfl rfl rfl (X.fieldAddrO (off := 0) ((congrFun hF28 3).trans ((hACr1.eq 3).trans (congrFun hF6 3))) Try.underlying40 rfl rfl Try.sizeOf3) ?_
        refine WL.va rfl rfl rfl (X.loadO hO3 hwCr1 rfl rfl Try.isAgg3) ?_
        refine WL.va rfl rfl rfl (X.neq rfl rfl) ?_
        refine WL.va rfl rfl rfl (X.moveB rfl) ?_
        refine WL.split (j := 3) rfl (fun h30 => ?_) (fun h30 => ?_)
        · have gh30 := (of_decide_eq_true h30)
          have c0 : m.Kind ≠ 11 := gh30
          refine WL.vg rfl (congrArg some h30) rfl rfl (X.fieldAddrO (off := 0) ((congrFun hF28 3).trans ((hACr1.eq 3).trans (congrFun hF6 3))) Try.underlying40 rfl rfl Try.sizeOf3) ?_
          refine WL.vg rfl (congrArg some h30) rfl rfl (X.loadO hO3 hwCr1 rfl rfl Try.isAgg3) ?_
          refine WL.vg rfl (congrArg some h30) rfl rfl (X.neq rfl rfl) ?_
          refine WL.va rfl rfl rfl (X.pickT rfl h30 rfl) ?_
          refine WL.va rfl rfl rfl (X.assignB rfl) ?_
          refine WL.nil ?_
          refine thn_n ?_
          exact ⟨(congrArg Value.bool (by first | exact (decide_eq_false (fun e => e.1 c1)).symm | (apply decide_eq_decide.2; exact ⟨fun e => ⟨c0, e⟩, fun e => e.2⟩))), (by repeat (first | exact (Agree.refl _ F27) | refine Agree.put ?_ rfl | refine Agree.sub hACr1 rfl ?_ | refine Agree.named hF28 ?_ | refine Agree.named hF6 ?_)), rfl⟩
        · have gh30 := (Decidable.of_not_not (of_decide_eq_false h30))
          have c1 : m.Kind = 11 := gh30
          refine WL.p rfl rfl rfl (congrArg some h30) ?_
          refine WL.p rfl rfl rfl (congrArg some h30) ?_
          refine WL.p rfl rfl rfl (congrArg some h30) ?_
          refine WL.va rfl rfl rfl (X.pickF rfl h30 rfl) ?_
          refine WL.va rfl rfl rfl (X.assignB rfl) ?_
          refine WL.nil ?_
          refine thn_n ?_
          exact ⟨(congrArg Value.bool (by first | exact (decide_eq_false (fun e => e.1 c1)).symm | (apply decide_eq_decide.2; exact ⟨fun e => ⟨c0, e⟩, fun e => e.2⟩))), (by repeat (first | exact (Agree.refl _ F27) | refine Agree.put ?_ rfl | refine Agree.sub hACr1 rfl ?_ | refine Agree.named hF28 ?_ | refine Agree.named hF6 ?_)), rfl⟩
      · rintro fCr4 wCr4 ⟨e39_Cr4, hACr4, rfl⟩
        refine WF.cond e39_Cr4 (fun h1_33 => ?_) (fun h1_33 => ?_)
        · have gh1_33 := (of_decide_eq_true h1_33)
          have hK2 : (m.Kind ≠ 11 ∧ m.Kind ≠ 9) := gh1_33
          refine WF.skip ?_
          refine blk_n ?_
          refine thn_n ?_
          refine WF.seq ?_
          refine WF.region ?_
          refine WL.va rfl rfl rfl (X.assign rfl) ?_
          refine WL.nil ?_
          refine thn_n ?_
          refine WF.ret ?_
          refine fin_r ?_
          rw [CC.step_b hN1 hK2]
          exact ⟨OwnM.nil _ _ _, CPost.same ⟨_, _, _, _, _, hI⟩ (Ext.trans hx3 hwCr1)⟩
        · have gh1_33 := (of_decide_eq_false h1_33)
          have hN2 : ¬ (m.Kind ≠ 11 ∧ m.Kind ≠ 9) := gh1_33
          refine WF.seq ?_
          refine WF.region ?_
          refine WL.va rfl rfl rfl (X.fieldAddrO (off := 14) ((hACr4.eq 3).trans ((congrFun hF28 3).trans ((hACr1.eq 3).trans (congrFun hF6 3)))) Try.underlying40 rfl rfl Try.sizeOf4) ?_
          refine WL.va rfl rfl rfl (X.loadO hO3 hwCr1 rfl rfl Try.isAgg4) ?_
          refine WL.va rfl rfl rfl (X.not rfl) ?_
          refine WL.va rfl rfl rfl (X.assignB rfl) ?_
          refine WL.nil ?_
          refine thn_n ?_
          refine WF.cond rfl (fun h2_36 => ?_) (fun h2_36 => ?_)
          · have gh2_36 := (nt h2_36)
            have hk3 : m.Ok = false := gh2_36
            refine WF.drawn (.q 0 (.q 1 (.q 2 (.q 3 (.q 4 (.q 5 (.q 6 (.q 7 (.q 8 (.q 9 .nil)))))))))) (fun w' => Ext wCr1 w') 10 (by kernel_rfl) (by kernel_rfl) (Ext.drew _) ?_
            have := World.grownBy.size (Ext.drew wCr1)
            refine WO.q rfl rfl rfl rfl (fun w' hE38 => (X.move ((hACr4.eq 0).trans ((congrFun hF28 0).trans ((hACr1.eq 0).trans (congrFun hF6 0)))))) ?_
            refine WO.q rfl rfl rfl rfl (fun w' hE38 => (X.move ((hACr4.eq 0).trans ((congrFun hF28 0).trans ((hACr1.eq 0).trans (congrFun hF6 0)))))) ?_
            refine WO.q rfl rfl rfl rfl (fun w' hE38 => (X.nilCheck rfl)) ?_
            refine WO.q rfl rfl rfl rfl (fun w' hE38 => (X.fieldAddrP (off := 10) rfl Try.underlying75 rfl rfl Try.sizeOf3)) ?_
            refine WO.q rfl rfl rfl rfl (fun w' hE38 => (X.loadO hO (Ext.trans (Ext.trans hx3 hwCr1) hE38) rfl rfl Try.isAgg3)) ?_
            refine WO.q rfl rfl rfl rfl (fun w' hE38 => (X.fieldAddrO (off := 5) ((hACr4.eq 3).trans ((congrFun hF28 3).trans ((hACr1.eq 3).trans (congrFun hF6 3)))) Try.underlying40 rfl rfl Try.sizeOf3)) ?_
            refine WO.q rfl rfl rfl rfl (fun w' hE38 => (X.loadO hO3 (Ext.trans hwCr1 hE38) rfl rfl Try.isAgg3)) ?_
            refine WO.q rfl rfl rfl rfl (fun w' hE38 => (X.max2 rfl rfl)) ?_
            refine WO.q rfl rfl rfl rfl (fun w' hE38 => (X.nilCheck rfl)) ?_
            refine WO.q rfl rfl rfl rfl (fun w' hE38 => (X.fieldAddrP (off := 10) rfl Try.underlying75 rfl rfl Try.sizeOf3)) ?_
            refine WO.nil ?_
            refine WL.op rfl (OW.storeO (hO.ext (Ext.trans (Ext.trans hx3 hwCr1) (Ext.drew _))) (Nat.le_of_ble_eq_true rfl) rfl rfl rfl Try.sizeOf3 ?_)
            intro w39 hO hx41
            have := World.grownBy.size hx41
            replace hMc := (hMc.ext (Ext.trans (Ext.trans hx3 hwCr1) (Ext.drew _))).keptO hx41 (by omega)
            replace oP := (oP.ext (Ext.trans (Ext.trans hx3 hwCr1) (Ext.drew _))).keptO hx41 (by omega)
            replace hO3 := (hO3.ext (Ext.trans hwCr1 (Ext.drew _))).keptO hx41 (by omega)
            replace hO : Blk _ _ _ (CC.cells { c with top := max c.top m.Index } vp ga gc vr vo) := hO
            refine WL.nil ?_
            refine blk_n ?_
            refine thn_n ?_
            refine WF.seq ?_
            refine WF.region ?_
            refine WL.va rfl rfl rfl (X.assign rfl) ?_
            refine WL.nil ?_
            refine thn_n ?_
            refine WF.ret ?_
            refine fin_r ?_
            rw [CC.step_c hN1 hN2 hk3]
            exact ⟨OwnM.nil _ _ _, top_fin hI hO (((((ChgS.refl (fun b => b = g) w).ext hx3).ext hwCr1).ext (Ext.drew _)).row1 hx41 (.inl rfl))⟩
          · have gh2_36 := (nf h2_36)
            have hk3 : ¬ m.Ok = false := by rw [gh2_36]; simp
            refine WF.seq ?_
            refine WF.region ?_
            refine WL.va rfl rfl rfl (X.fieldAddrO (off := 0) ((hACr4.eq 3).trans ((congrFun hF28 3).trans ((hACr1.eq 3).trans (congrFun hF6 3)))) Try.underlying40 rfl rfl Try.sizeOf3) ?_
            refine WL.va rfl rfl rfl (X.loadO hO3 hwCr1 rfl rfl Try.isAgg3) ?_
            refine WL.va rfl rfl rfl (X.eql rfl rfl) ?_
            refine WL.va rfl rfl rfl (X.assignB rfl) ?_
            refine WL.nil ?_
            refine thn_n ?_
            refine WF.cond rfl (fun h3_43 => ?_) (fun h3_43 => ?_)
            · have gh3_43 := (of_decide_eq_true h3_43)
              have hk4 : m.Kind = 11 := gh3_43
              refine WF.region ?_
              refine WL.va rfl rfl rfl (X.move ((hACr4.eq 0).trans ((congrFun hF28 0).trans ((hACr1.eq 0).trans (congrFun hF6 0))))) ?_
              refine WL.va rfl rfl rfl (X.loadOA hO3 hwCr1 ((hACr4.eq 3).trans ((congrFun hF28 3).trans ((hACr1.eq 3).trans (congrFun hF6 3)))) rfl Try.isAgg40 Try.sizeOf40) ?_
              have hxA := (show Ext w wCr1 from (Ext.trans hx3 hwCr1))
              refine WL.c rfl rfl rfl (X.call Try.call34 (evl_cons rfl (evl_cons rfl evl_nil))) (accept_ok F g c m em dm _ (CAt.ext ⟨_, _, _, _, _, hI⟩ (Ext.trans hx3 hwCr1)) hok) ?_
              rintro v46 w45 hAc
              refine WL.nil ?_
              refine blk_n ?_
              refine thn_n ?_
              refine WF.seq ?_
              refine WF.region ?_
              refine WL.va rfl rfl rfl (X.assign rfl) ?_
              refine WL.nil ?_
              refine thn_n ?_
              refine WF.ret ?_
              refine fin_r ?_
              rw [CC.step_d hN1 hN2 hk3 hk4]
              exact ⟨OwnM.nil _ _ _, CPost.pre hxA hAc⟩
            · have gh3_43 := (of_decide_eq_false h3_43)
              have hk4 : ¬ m.Kind = 11 := gh3_43
              refine WF.seq ?_
              refine WF.region ?_
              refine WL.va rfl rfl rfl (X.move ((hACr4.eq 0).trans ((congrFun hF28 0).trans ((hACr1.eq 0).trans (congrFun hF6 0))))) ?_
              refine WL.va rfl rfl rfl (X.loadOA hO3 hwCr1 ((hACr4.eq 3).trans ((congrFun hF28 3).trans ((hACr1.eq 3).trans (congrFun hF6 3)))) rfl Try.isAgg40 Try.sizeOf40) ?_
              have hxA := (show Ext w wCr1 from (Ext.trans hx3 hwCr1))
              refine WL.c rfl rfl rfl (X.call Try.call35 (evl_cons rfl (evl_cons rfl evl_nil))) (promise_ok F g c m em dm _ (CAt.ext ⟨_, _, _, _, _, hI⟩ (Ext.trans hx3 hwCr1)) hok) ?_
              rintro v49 w48 ⟨hout, hAc⟩
              refine WL.va rfl rfl rfl (X.assign rfl) ?_
              refine WL.nil ?_
              refine thn_n ?_
              refine WF.ret ?_
              refine blk_r ?_
              refine thn_r ?_
              refine fin_r ?_
              rw [CC.step_e hN1 hN2 hk3 hk4]
              exact ⟨own_mono hout hxA.size, CPost.pre hxA hAc⟩

def headOk (me txn nac : Int) (l : List Int) : Bool := decide (1 ≤ me ∧ me ≤ 199 ∧ 1 ≤ txn ∧ txn ≤ 1099511627776 ∧ 0 < (l.length : Int) ∧ 1 ≤ nac ∧ nac ≤ 7 ∧ nac % 2 ≠ 0)
def partsOk : Int → List Int → Bool
  | _, [] => true
  | a, p :: l => decide (a < p) && (decide (p ≤ 4) && partsOk p l)
def newOk (me txn nac : Int) (l : List Int) : Bool := headOk me txn nac l && partsOk 0 l
theorem parts_drop {a : Int} {l : List Int} {k : Nat} (hk : k < l.length) : partsOk a (l.drop k) = (decide (a < l.getD k 0) && (decide (l.getD k 0 ≤ 4) && partsOk (l.getD k 0) (l.drop (k + 1)))) := by
  rw [List.drop_eq_getElem_cons hk, getD_at hk]; rfl
theorem parts_len : ∀ {l : List Int} {a : Int}, partsOk a l = true → a + l.length ≤ max a 4
  | [], a, _ => by simp; omega
  | p :: l, a, h => by
    simp only [partsOk, Bool.and_eq_true, decide_eq_true_iff] at h
    have := parts_len h.2.2
    rw [List.length_cons]; omega
theorem parts_step {bb : Bool} {a p : Int} {q : Bool} : (bb || !(decide (a < p) && (decide (p ≤ 4) && q))) = ((bb || (decide (p ≤ a) || decide (4 < p))) || !q) := by
  by_cases h1 : a < p
  · have : ¬ p ≤ a := by omega
    by_cases h2 : p ≤ 4
    · have : ¬ 4 < p := by omega
      simp [*]
    · have : 4 < p := by omega
      simp [*]
  · have : p ≤ a := by omega
    simp [*]
theorem new_fin {w w1 w' : World} {g ga gc : Nat} {me txn nac : Int} {l : List Int} {v : Value} (o : OwnI w' w.heap.size 3 v l) (hv : ∀ b, v.ownBlock = some b → b < w1.heap.size) (ha : MapB (encN (n := 3)) w' ga []) (hc : MapB i64 w' gc [])
    (hg : Blk w' g 75 ((CC.new me txn nac l).cells v ga gc (.map none) (.map none))) (n1 : w1.heap.size ≤ ga) (n2 : ga < gc) (n3 : gc < g) (n0 : w.heap.size ≤ w1.heap.size) :
    ∃ F : Fp Rl, CAt w' F g (CC.new me txn nac l) ∧ ∀ b, F b ≠ none → w.heap.size ≤ b := by
  refine ⟨((((Fp.own (fun _ => none) v .parts).put ga .acc).put gc .ch).put g .obj : Fp Rl), ⟨v, ga, gc, .map none, .map none, ?_, Fp.put_at, hg, ?_, ?_, ⟨own_mono o (Nat.zero_le _), fun b hb => ?_⟩, ⟨[], fun _ => none, ha, fun k => rfl, fun k _ => rfl, fun k gi e => by cases e⟩, ⟨[], hc, fun k => rfl⟩, fun e => by cases e⟩, fun b hb => ?_⟩
  · exact Fp.put_below (Fp.put_below (Fp.put_below (Fp.own_below (fun b hb => absurd rfl hb) (fun b hb => (o.lt b hb).2)) ha.lt) hc.lt) hg.lt
  · rw [Fp.put_ne (by omega), Fp.put_ne (by omega)]; exact Fp.put_at
  · rw [Fp.put_ne (by omega)]; exact Fp.put_at
  · have := hv b hb
    rw [Fp.put_ne (by omega), Fp.put_ne (by omega), Fp.put_ne (by omega)]; exact Fp.own_at hb
  · unfold Fp.put at hb
    split at hb
    · omega
    · split at hb
      · omega
      · split at hb
        · omega
        · unfold Fp.own at hb
          split at hb
          · exact (o.lt b ‹_›).1
          · exact absurd rfl hb
set_option maxHeartbeats 2000000 in
theorem new_ok (me txn nac : Int) (v : Value) (l : List Int) (w : World) (hb : Ints w v l) : FnOk Try.prog 8 [i64 me, i64 txn, v, i64 nac] w (fun r w' => (newOk me txn nac l = false → r = .tuple #[.pointer none, i64 3]) ∧ (newOk me txn nac l = true → ∃ g F, r = .tuple #[at_ g, i64 0] ∧ CAt w' F g (CC.new me txn nac l) ∧ ∀ b, F b ≠ none → w.heap.size ≤ b) ∧ Ext w w') := by
  have hl := hb.le64
  refine FnOk.enter (rs := [8, 9]) Try.func8 rfl Try.ntmps8 Try.results8 rfl rfl ?_
  refine WF.seq ?_
  refine WF.region ?_
  refine WL.va rfl rfl rfl (X.assign rfl) ?_
  refine WL.va rfl rfl rfl (X.assignI rfl) ?_
  refine WL.nil ?_
  refine thn_n ?_
  refine WF.named (fun F1 hF2 => ?_)
  refine WF.cut (fun f' w' => f' 10 = .bool (!headOk me txn nac l) ∧ Agree [0, 1, 2, 3, 8, 9] f' F1 ∧ w = w') ?_ ?_
  · refine WF.region ?_
    refine WL.va rfl rfl rfl (X.moveI (congrFun hF2 0)) ?_
    refine WL.va rfl rfl rfl (X.lss rfl rfl) ?_
    refine WL.va rfl rfl rfl (X.moveB rfl) ?_
    refine WL.split (j := 2) rfl (fun h4 => ?_) (fun h4 => ?_)
    · have gh4 := (of_decide_eq_true h4)
      refine WL.p rfl rfl rfl (congrArg some h4) ?_
      refine WL.p rfl rfl rfl (congrArg some h4) ?_
      refine WL.va rfl rfl rfl (X.pickT rfl h4 rfl) ?_
      refine WL.va rfl rfl rfl (X.moveB rfl) ?_
      refine WL.p rfl rfl rfl rfl ?_
      refine WL.p rfl rfl rfl rfl ?_
      refine WL.va rfl rfl rfl (X.pickT rfl rfl rfl) ?_
      refine WL.va rfl rfl rfl (X.moveB rfl) ?_
      refine WL.p rfl rfl rfl rfl ?_
      refine WL.p rfl rfl rfl rfl ?_
      refine WL.va rfl rfl rfl (X.pickT rfl rfl rfl) ?_
      refine WL.va rfl rfl rfl (X.moveB rfl) ?_
      refine WL.p rfl rfl rfl rfl ?_
      refine WL.p rfl rfl rfl rfl ?_
      refine WL.p rfl rfl rfl rfl ?_
      refine WL.va rfl rfl rfl (X.pickT rfl rfl rfl) ?_
      refine WL.va rfl rfl rfl (X.moveB rfl) ?_
      refine WL.p rfl rfl rfl rfl ?_
      refine WL.p rfl rfl rfl rfl ?_
      refine WL.va rfl rfl rfl (X.pickT rfl rfl rfl) ?_
      refine WL.va rfl rfl rfl (X.moveB rfl) ?_
      refine WL.p rfl rfl rfl rfl ?_
      refine WL.p rfl rfl rfl rfl ?_
      refine WL.va rfl rfl rfl (X.pickT rfl rfl rfl) ?_
      refine WL.va rfl rfl rfl (X.moveB rfl) ?_
      refine WL.p rfl rfl rfl rfl ?_
      refine WL.p rfl rfl rfl rfl ?_
      refine WL.p rfl rfl rfl rfl ?_
      refine WL.va rfl rfl rfl (X.pickT rfl rfl rfl) ?_
      refine WL.va rfl rfl rfl (X.assignB rfl) ?_
      refine WL.nil ?_
      refine thn_n ?_
      exact ⟨(congrArg Value.bool (by first | (rw [show headOk me txn nac l = false from decide_eq_false (by omega)]; rfl) | (unfold headOk; refine (not_dec ?_).symm; constructor <;> intro _ <;> omega))), (by repeat (first | exact (Agree.refl _ F1) | refine Agree.put ?_ rfl | refine Agree.named hF2 ?_)), rfl⟩
    · have gh4 := (of_decide_eq_false h4)
      refine WL.vg rfl (congrArg some h4) rfl rfl (X.moveI (congrFun hF2 0)) ?_
      refine WL.vg rfl (congrArg some h4) rfl rfl (X.gtr rfl rfl) ?_
      refine WL.va rfl rfl rfl (X.pickF rfl h4 rfl) ?_
      refine WL.va rfl rfl rfl (X.moveB rfl) ?_
      refine WL.split (j := 6) rfl (fun h13 => ?_) (fun h13 => ?_)
      · have gh13 := (of_decide_eq_true h13)
        refine WL.p rfl rfl rfl (congrArg some h13) ?_
        refine WL.p rfl rfl rfl (congrArg some h13) ?_
        refine WL.va rfl rfl rfl (X.pickT rfl h13 rfl) ?_
        refine WL.va rfl rfl rfl (X.moveB rfl) ?_
        refine WL.p rfl rfl rfl rfl ?_
        refine WL.p rfl rfl rfl rfl ?_
        refine WL.va rfl rfl rfl (X.pickT rfl rfl rfl) ?_
        refine WL.va rfl rfl rfl (X.moveB rfl) ?_
        refine WL.p rfl rfl rfl rfl ?_
        refine WL.p rfl rfl rfl rfl ?_
        refine WL.p rfl rfl rfl rfl ?_
        refine WL.va rfl rfl rfl (X.pickT rfl rfl rfl) ?_
        refine WL.va rfl rfl rfl (X.moveB rfl) ?_
        refine WL.p rfl rfl rfl rfl ?_
        refine WL.p rfl rfl rfl rfl ?_
        refine WL.va rfl rfl rfl (X.pickT rfl rfl rfl) ?_
        refine WL.va rfl rfl rfl (X.moveB rfl) ?_
        refine WL.p rfl rfl rfl rfl ?_
        refine WL.p rfl rfl rfl rfl ?_
        refine WL.va rfl rfl rfl (X.pickT rfl rfl rfl) ?_
        refine WL.va rfl rfl rfl (X.moveB rfl) ?_
        refine WL.p rfl rfl rfl rfl ?_
        refine WL.p rfl rfl rfl rfl ?_
        refine WL.p rfl rfl rfl rfl ?_
        refine WL.va rfl rfl rfl (X.pickT rfl rfl rfl) ?_
        refine WL.va rfl rfl rfl (X.assignB rfl) ?_
        refine WL.nil ?_
        refine thn_n ?_
        exact ⟨(congrArg Value.bool (by first | (rw [show headOk me txn nac l = false from decide_eq_false (by omega)]; rfl) | (unfold headOk; refine (not_dec ?_).symm; constructor <;> intro _ <;> omega))), (by repeat (first | exact (Agree.refl _ F1) | refine Agree.put ?_ rfl | refine Agree.named hF2 ?_)), rfl⟩
      · have gh13 := (of_decide_eq_false h13)
        refine WL.vg rfl (congrArg some h13) rfl rfl (X.moveI (congrFun hF2 1)) ?_
        refine WL.vg rfl (congrArg some h13) rfl rfl (X.lss rfl rfl) ?_
        refine WL.va rfl rfl rfl (X.pickF rfl h13 rfl) ?_
        refine WL.va rfl rfl rfl (X.moveB rfl) ?_
        refine WL.split (j := 10) rfl (fun h21 => ?_) (fun h21 => ?_)
        · have gh21 := (of_decide_eq_true h21)
          refine WL.p rfl rfl rfl (congrArg some h21) ?_
          refine WL.p rfl rfl rfl (congrArg some h21) ?_
          refine WL.va rfl rfl rfl (X.pickT rfl h21 rfl) ?_
          refine WL.va rfl rfl rfl (X.moveB rfl) ?_
          refine WL.p rfl rfl rfl rfl ?_
          refine WL.p rfl rfl rfl rfl ?_
          refine WL.p rfl rfl rfl rfl ?_
          refine WL.va rfl rfl rfl (X.pickT rfl rfl rfl) ?_
          refine WL.va rfl rfl rfl (X.moveB rfl) ?_
          refine WL.p rfl rfl rfl rfl ?_
          refine WL.p rfl rfl rfl rfl ?_
          refine WL.va rfl rfl rfl (X.pickT rfl rfl rfl) ?_
          refine WL.va rfl rfl rfl (X.moveB rfl) ?_
          refine WL.p rfl rfl rfl rfl ?_
          refine WL.p rfl rfl rfl rfl ?_
          refine WL.va rfl rfl rfl (X.pickT rfl rfl rfl) ?_
          refine WL.va rfl rfl rfl (X.moveB rfl) ?_
          refine WL.p rfl rfl rfl rfl ?_
          refine WL.p rfl rfl rfl rfl ?_
          refine WL.p rfl rfl rfl rfl ?_
          refine WL.va rfl rfl rfl (X.pickT rfl rfl rfl) ?_
          refine WL.va rfl rfl rfl (X.assignB rfl) ?_
          refine WL.nil ?_
          refine thn_n ?_
          exact ⟨(congrArg Value.bool (by first | (rw [show headOk me txn nac l = false from decide_eq_false (by omega)]; rfl) | (unfold headOk; refine (not_dec ?_).symm; constructor <;> intro _ <;> omega))), (by repeat (first | exact (Agree.refl _ F1) | refine Agree.put ?_ rfl | refine Agree.named hF2 ?_)), rfl⟩
        · have gh21 := (of_decide_eq_false h21)
          refine WL.vg rfl (congrArg some h21) rfl rfl (X.moveI (congrFun hF2 1)) ?_
          refine WL.vg rfl (congrArg some h21) rfl rfl (X.gtr rfl rfl) ?_
          refine WL.va rfl rfl rfl (X.pickF rfl h21 rfl) ?_
          refine WL.va rfl rfl rfl (X.moveB rfl) ?_
          refine WL.split (j := 14) rfl (fun h28 => ?_) (fun h28 => ?_)
          · have gh28 := (of_decide_eq_true h28)
            refine WL.p rfl rfl rfl (congrArg some h28) ?_
            refine WL.p rfl rfl rfl (congrArg some h28) ?_
            refine WL.p rfl rfl rfl (congrArg some h28) ?_
            refine WL.va rfl rfl rfl (X.pickT rfl h28 rfl) ?_
            refine WL.va rfl rfl rfl (X.moveB rfl) ?_
            refine WL.p rfl rfl rfl rfl ?_
            refine WL.p rfl rfl rfl rfl ?_
            refine WL.va rfl rfl rfl (X.pickT rfl rfl rfl) ?_
            refine WL.va rfl rfl rfl (X.moveB rfl) ?_
            refine WL.p rfl rfl rfl rfl ?_
            refine WL.p rfl rfl rfl rfl ?_
            refine WL.va rfl rfl rfl (X.pickT rfl rfl rfl) ?_
            refine WL.va rfl rfl rfl (X.moveB rfl) ?_
            refine WL.p rfl rfl rfl rfl ?_
            refine WL.p rfl rfl rfl rfl ?_
            refine WL.p rfl rfl rfl rfl ?_
            refine WL.va rfl rfl rfl (X.pickT rfl rfl rfl) ?_
            refine WL.va rfl rfl rfl (X.assignB rfl) ?_
            refine WL.nil ?_
            refine thn_n ?_
            exact ⟨(congrArg Value.bool (by first | (rw [show headOk me txn nac l = false from decide_eq_false (by omega)]; rfl) | (unfold headOk; refine (not_dec ?_).symm; constructor <;> intro _ <;> omega))), (by repeat (first | exact (Agree.refl _ F1) | refine Agree.put ?_ rfl | refine Agree.named hF2 ?_)), rfl⟩
          · have gh28 := (of_decide_eq_false h28)
            refine WL.vg rfl (congrArg some h28) rfl rfl (X.move (congrFun hF2 2)) ?_
            refine WL.vg rfl (congrArg some h28) rfl rfl (X.len hb rfl Try.underlying22) ?_
            refine WL.vg rfl (congrArg some h28) rfl rfl (X.eql rfl rfl) ?_
            refine WL.va rfl rfl rfl (X.pickF rfl h28 rfl) ?_
            refine WL.va rfl rfl rfl (X.moveB rfl) ?_
            refine WL.split (j := 19) rfl (fun h34 => ?_) (fun h34 => ?_)
            · have gh34 := (of_decide_eq_true h34)
              refine WL.p rfl rfl rfl (congrArg some h34) ?_
              refine WL.p rfl rfl rfl (congrArg some h34) ?_
              refine WL.va rfl rfl rfl (X.pickT rfl h34 rfl) ?_
              refine WL.va rfl rfl rfl (X.moveB rfl) ?_
              refine WL.p rfl rfl rfl rfl ?_
              refine WL.p rfl rfl rfl rfl ?_
              refine WL.va rfl rfl rfl (X.pickT rfl rfl rfl) ?_
              refine WL.va rfl rfl rfl (X.moveB rfl) ?_
              refine WL.p rfl rfl rfl rfl ?_
              refine WL.p rfl rfl rfl rfl ?_
              refine WL.p rfl rfl rfl rfl ?_
              refine WL.va rfl rfl rfl (X.pickT rfl rfl rfl) ?_
              refine WL.va rfl rfl rfl (X.assignB rfl) ?_
              refine WL.nil ?_
              refine thn_n ?_
              exact ⟨(congrArg Value.bool (by first | (rw [show headOk me txn nac l = false from decide_eq_false (by omega)]; rfl) | (unfold headOk; refine (not_dec ?_).symm; constructor <;> intro _ <;> omega))), (by repeat (first | exact (Agree.refl _ F1) | refine Agree.put ?_ rfl | refine Agree.named hF2 ?_)), rfl⟩
            · have gh34 := (of_decide_eq_false h34)
              refine WL.vg rfl (congrArg some h34) rfl rfl (X.moveI (congrFun hF2 3)) ?_
              refine WL.vg rfl (congrArg some h34) rfl rfl (X.lss rfl rfl) ?_
              refine WL.va rfl rfl rfl (X.pickF rfl h34 rfl) ?_
              refine WL.va rfl rfl rfl (X.moveB rfl) ?_
              refine WL.split (j := 23) rfl (fun h39 => ?_) (fun h39 => ?_)
              · have gh39 := (of_decide_eq_true h39)
                refine WL.p rfl rfl rfl (congrArg some h39) ?_
                refine WL.p rfl rfl rfl (congrArg some h39) ?_
                refine WL.va rfl rfl rfl (X.pickT rfl h39 rfl) ?_
                refine WL.va rfl rfl rfl (X.moveB rfl) ?_
                refine WL.p rfl rfl rfl rfl ?_
                refine WL.p rfl rfl rfl rfl ?_
                refine WL.p rfl rfl rfl rfl ?_
                refine WL.va rfl rfl rfl (X.pickT rfl rfl rfl) ?_
                refine WL.va rfl rfl rfl (X.assignB rfl) ?_
                refine WL.nil ?_
                refine thn_n ?_
                exact ⟨(congrArg Value.bool (by first | (rw [show headOk me txn nac l = false from decide_eq_false (by omega)]; rfl) | (unfold headOk; refine (not_dec ?_).symm; constructor <;> intro _ <;> omega))), (by repeat (first | exact (Agree.refl _ F1) | refine Agree.put ?_ rfl | refine Agree.named hF2 ?_)), rfl⟩
              · have gh39 := (of_decide_eq_false h39)
                refine WL.vg rfl (congrArg some h39) rfl rfl (X.moveI (congrFun hF2 3)) ?_
                refine WL.vg rfl (congrArg some h39) rfl rfl (X.gtr rfl rfl) ?_
                refine WL.va rfl rfl rfl (X.pickF rfl h39 rfl) ?_
                refine WL.va rfl rfl rfl (X.moveB rfl) ?_
                refine WL.split (j := 27) rfl (fun h43 => ?_) (fun h43 => ?_)
                · have gh43 := (of_decide_eq_true h43)
                  refine WL.p rfl rfl rfl (congrArg some h43) ?_
                  refine WL.p rfl rfl rfl (congrArg some h43) ?_
                  refine WL.p rfl rfl rfl (congrArg some h43) ?_
                  refine WL.va rfl rfl rfl (X.pickT rfl h43 rfl) ?_
                  refine WL.va rfl rfl rfl (X.assignB rfl) ?_
                  refine WL.nil ?_
                  refine thn_n ?_
                  exact ⟨(congrArg Value.bool (by first | (rw [show headOk me txn nac l = false from decide_eq_false (by omega)]; rfl) | (unfold headOk; refine (not_dec ?_).symm; constructor <;> intro _ <;> omega))), (by repeat (first | exact (Agree.refl _ F1) | refine Agree.put ?_ rfl | refine Agree.named hF2 ?_)), rfl⟩
                · have gh43 := (of_decide_eq_false h43)
                  refine WL.vg rfl (congrArg some h43) rfl rfl (X.moveI (congrFun hF2 3)) ?_
                  refine WL.vg rfl (congrArg some h43) rfl rfl (X.rem rfl rfl (by omega) (IntWalk.rem_in _ _ (by omega))) ?_
                  refine WL.vg rfl (congrArg some h43) rfl rfl (X.eql rfl rfl) ?_
                  refine WL.va rfl rfl rfl (X.pickF rfl h43 rfl) ?_
                  refine WL.va rfl rfl rfl (X.assignB rfl) ?_
                  refine WL.nil ?_
                  refine thn_n ?_
                  exact ⟨(congrArg Value.bool (by first | (rw [show headOk me txn nac l = false from decide_eq_false (by omega)]; rfl) | (unfold headOk; refine (not_dec ?_).symm; constructor <;> intro _ <;> omega))), (by repeat (first | exact (Agree.refl _ F1) | refine Agree.put ?_ rfl | refine Agree.named hF2 ?_)), rfl⟩
  · rintro fCr1 wCr1 ⟨e10_Cr1, hACr1, rfl⟩
    refine WF.seq ?_
    refine WF.region ?_
    refine WL.va rfl rfl rfl (X.assignI rfl) ?_
    refine WL.nil ?_
    refine thn_n ?_
    refine WF.seq ?_
    refine WF.seq ?_
    refine WF.region ?_
    refine WL.va rfl rfl rfl (X.move ((hACr1.eq 2).trans (congrFun hF2 2))) ?_
    refine WL.va rfl rfl rfl (X.len hb rfl Try.underlying22) ?_
    refine WL.va rfl rfl rfl (X.moveI rfl) ?_
    refine WL.nil ?_
    refine thn_n ?_
    refine WF.block ?_
    refine WF.named (fun F47 hF48 => ?_)
    refine WF.loopN (fun mL0 f' w' => ∃ (k : Nat) (bb : Bool) (last : Int), mL0 = l.length - k ∧ f' 48 = .int .i64 (k : Int) ∧ f' 10 = .bool bb ∧ f' 11 = i64 last ∧ Agree [0, 1, 2, 3, 8, 9, 46, 47] f' F47 ∧ Ext w w' ∧ k ≤ l.length ∧ (!headOk me txn nac l || !partsOk 0 l) = (bb || !partsOk last (l.drop k))) ?_ ?_
    · exact ⟨_, 0, (!headOk me txn nac l), 0, rfl, (congrFun hF48 48), ((congrFun hF48 10).trans e10_Cr1), (congrFun hF48 11), (Agree.refl _ _), (Ext.refl _), ⟨Nat.zero_le _, rfl⟩⟩
    · rintro mL0 fL0 wL0 ⟨k, bb, last, hmL0, e48_L0, e10_L0, e11_L0, hAL0, hwL0, ⟨hk0, hbb⟩⟩
      refine WF.seq ?_
      refine WF.region ?_
      refine WL.va rfl rfl rfl (X.lss e48_L0 ((hAL0.eq 47).trans (congrFun hF48 47))) ?_
      refine WL.nil ?_
      refine thn_n ?_
      refine WF.seq ?_
      refine WF.cond rfl (fun h0_50 => ?_) (fun h0_50 => ?_)
      · have gh0_50 := (of_decide_eq_true h0_50)
        have hk : k < l.length := by omega
        refine WF.skip ?_
        refine thn_n ?_
        refine WF.seq ?_
        refine WF.block ?_
        refine WF.seq ?_
        refine WF.region ?_
        refine WL.va rfl rfl rfl (X.idx hb ((hAL0.eq 46).trans (congrFun hF48 46)) e48_L0 (by omega) Try.underlying22 Try.sizeOf3) ?_
        refine WL.va rfl rfl rfl (X.loadI hb hwL0 rfl (by omega) Try.isAgg3) ?_
        refine WL.va rfl rfl rfl (X.assignI rfl) ?_
        refine WL.nil ?_
        refine thn_n ?_
        refine WF.named (fun F52 hF53 => ?_)
        refine WF.cut (fun f' w' => f' 10 = .bool (bb || (decide (l.getD k 0 ≤ last) || decide (4 < l.getD k 0))) ∧ Agree [0, 1, 2, 3, 8, 9, 11, 13, 46, 47, 48, 49, 50, 51] f' F52 ∧ wL0 = w') ?_ ?_
        · refine WF.region ?_
          refine WL.va rfl rfl rfl (X.moveB ((congrFun hF53 10).trans e10_L0)) ?_
          refine WL.va rfl rfl rfl (X.moveB rfl) ?_
          refine WL.split (j := 1) rfl (fun h54 => ?_) (fun h54 => ?_)
          · have gh54 := h54
            have x1 : bb = true := gh54
            refine WL.p rfl rfl rfl (congrArg some h54) ?_
            refine WL.p rfl rfl rfl (congrArg some h54) ?_
            refine WL.p rfl rfl rfl (congrArg some h54) ?_
            refine WL.va rfl rfl rfl (X.pickT rfl h54 rfl) ?_
            refine WL.va rfl rfl rfl (X.moveB rfl) ?_
            refine WL.p rfl rfl rfl rfl ?_
            refine WL.p rfl rfl rfl rfl ?_
            refine WL.va rfl rfl rfl (X.pickT rfl rfl rfl) ?_
            refine WL.va rfl rfl rfl (X.assignB rfl) ?_
            refine WL.nil ?_
            refine thn_n ?_
            exact ⟨(congrArg Value.bool (by first | (rw [x1, decide_eq_true x2]; rfl) | (rw [x1, decide_eq_false x2]; rfl) | (rw [x1]; rfl))), (by repeat (first | exact (Agree.refl _ F52) | refine Agree.put ?_ rfl | refine Agree.sub hAL0 rfl ?_ | refine Agree.sub hACr1 rfl ?_ | refine Agree.named hF53 ?_ | refine Agree.named hF48 ?_ | refine Agree.named hF2 ?_)), rfl⟩
          · have gh54 := h54
            have x1 : bb = false := gh54
            refine WL.vg rfl (congrArg some h54) rfl rfl (X.moveI (congrFun hF53 13)) ?_
            refine WL.vg rfl (congrArg some h54) rfl rfl (X.moveI ((congrFun hF53 11).trans e11_L0)) ?_
            refine WL.vg rfl (congrArg some h54) rfl rfl (X.leq rfl rfl) ?_
            refine WL.va rfl rfl rfl (X.pickF rfl h54 rfl) ?_
            refine WL.va rfl rfl rfl (X.moveB rfl) ?_
            refine WL.split (j := 6) rfl (fun h58 => ?_) (fun h58 => ?_)
            · have gh58 := (of_decide_eq_true h58)
              have x2 : l.getD k 0 ≤ last := gh58
              refine WL.p rfl rfl rfl (congrArg some h58) ?_
              refine WL.p rfl rfl rfl (congrArg some h58) ?_
              refine WL.va rfl rfl rfl (X.pickT rfl h58 rfl) ?_
              refine WL.va rfl rfl rfl (X.assignB rfl) ?_
              refine WL.nil ?_
              refine thn_n ?_
              exact ⟨(congrArg Value.bool (by first | (rw [x1, decide_eq_true x2]; rfl) | (rw [x1, decide_eq_false x2]; rfl) | (rw [x1]; rfl))), (by repeat (first | exact (Agree.refl _ F52) | refine Agree.put ?_ rfl | refine Agree.sub hAL0 rfl ?_ | refine Agree.sub hACr1 rfl ?_ | refine Agree.named hF53 ?_ | refine Agree.named hF48 ?_ | refine Agree.named hF2 ?_)), rfl⟩
            · have gh58 := (of_decide_eq_false h58)
              have x2 : ¬ l.getD k 0 ≤ last := gh58
              refine WL.vg rfl (congrArg some h58) rfl rfl (X.moveI (congrFun hF53 13)) ?_
              refine WL.vg rfl (congrArg some h58) rfl rfl (X.gtr rfl rfl) ?_
              refine WL.va rfl rfl rfl (X.pickF rfl h58 rfl) ?_
              refine WL.va rfl rfl rfl (X.assignB rfl) ?_
              refine WL.nil ?_
              refine thn_n ?_
              exact ⟨(congrArg Value.bool (by first | (rw [x1, decide_eq_true x2]; rfl) | (rw [x1, decide_eq_false x2]; rfl) | (rw [x1]; rfl))), (by repeat (first | exact (Agree.refl _ F52) | refine Agree.put ?_ rfl | refine Agree.sub hAL0 rfl ?_ | refine Agree.sub hACr1 rfl ?_ | refine Agree.named hF53 ?_ | refine Agree.named hF48 ?_ | refine Agree.named hF2 ?_)), rfl⟩
        · rintro fCr6 wCr6 ⟨e10_Cr6, hACr6, rfl⟩
          refine WF.region ?_
          refine WL.va rfl rfl rfl (X.moveI ((hACr6.eq 13).trans (congrFun hF53 13))) ?_
          refine WL.va rfl rfl rfl (X.assignI rfl) ?_
          refine WL.nil ?_
          refine blk_n ?_
          refine thn_n ?_
          refine WF.region ?_
          refine WL.va rfl rfl rfl (X.add ((hACr6.eq 48).trans ((congrFun hF53 48).trans e48_L0)) rfl (w64 (by omega))) ?_
          refine WL.va rfl rfl rfl (X.moveI rfl) ?_
          refine WL.nil ?_
          exact thn_n ⟨_, (by omega), k + 1, _, l.getD k 0, rfl, rfl, e10_Cr6, rfl, (by repeat (first | exact hAL0 | refine Agree.put ?_ rfl | refine Agree.sub hACr6 rfl ?_ | refine Agree.sub hACr1 rfl ?_ | refine Agree.named hF53 ?_ | refine Agree.named hF48 ?_ | refine Agree.named hF2 ?_)), hwL0, ⟨by omega, by rw [hbb, parts_drop hk, parts_step]⟩⟩
      · have gh0_50 := (of_decide_eq_false h0_50)
        refine WF.exit ?_
        refine thn_x ?_
        refine thn_x ?_
        refine blk_eq ?_
        refine thn_n ?_
        refine WF.seq ?_
        refine WF.seq ?_
        refine WF.region ?_
        refine WL.va rfl rfl rfl (X.moveB e10_L0) ?_
        refine WL.nil ?_
        refine thn_n ?_
        refine WF.cond rfl (fun h1_61 => ?_) (fun h1_61 => ?_)
        · have gh1_61 := h1_61
          have hbad : newOk me txn nac l = false := by rw [gh1_61, List.drop_of_length_le (by omega)] at hbb; unfold newOk; rw [← Bool.not_inj_iff, Bool.not_and]; exact hbb
          refine WF.seq ?_
          refine WF.region ?_
          refine WL.va rfl rfl rfl (X.assign rfl) ?_
          refine WL.va rfl rfl rfl (X.assignI rfl) ?_
          refine WL.nil ?_
          refine thn_n ?_
          refine WF.ret ?_
          refine thn_r ?_
          refine fin_r ?_
          exact ⟨fun _ => rfl, (fun e => by rw [hbad] at e; cases e), hwL0⟩
        · have gh1_61 := h1_61
          have hgood : newOk me txn nac l = true := by rw [gh1_61, List.drop_of_length_le (by omega)] at hbb; unfold newOk; rw [← Bool.not_inj_iff, Bool.not_and]; exact hbb
          have hpl : l.length ≤ 4 := by have h2 : headOk me txn nac l = true ∧ partsOk 0 l = true := by simpa [newOk] using hgood
                                        have := parts_len h2.2; omega
          refine WF.skip ?_
          refine thn_n ?_
          refine WF.seq ?_
          refine WF.region ?_
          refine WL.va rfl rfl rfl (X.moveI ((hAL0.eq 0).trans ((congrFun hF48 0).trans ((hACr1.eq 0).trans (congrFun hF2 0))))) ?_
          refine WL.va rfl rfl rfl (X.moveI ((hAL0.eq 1).trans ((congrFun hF48 1).trans ((hACr1.eq 1).trans (congrFun hF2 1))))) ?_
          refine WL.va rfl rfl rfl (X.move ((hAL0.eq 2).trans ((congrFun hF48 2).trans ((hACr1.eq 2).trans (congrFun hF2 2))))) ?_
          have hz0 := ((show Ext w wL0 from hwL0)).size
          refine WL.c rfl rfl rfl (X.call Try.call28 (evl_cons rfl evl_nil)) (cloneI_ok _ l _ (Row.ext hb hwL0) (by omega)) ?_
          rintro vP wP ⟨oP, hx63⟩
          have hz1 := World.grownBy.size hx63
          have tP := fun b hb => (oP.lt b hb).2
          refine WL.va rfl rfl rfl (X.moveI ((hAL0.eq 3).trans ((congrFun hF48 3).trans ((hACr1.eq 3).trans (congrFun hF2 3))))) ?_
          refine WL.op rfl (OW.makeMap (enc := (encN (n := 3))) ?_ (by decide))
          intro gM70 w65 hegM70 hlgM70 hM70 hx67
          have := World.grownBy.size hx67
          refine WL.op rfl (OW.makeMap (enc := i64) ?_ (by decide))
          intro gM71 w69 hegM71 hlgM71 hM71 hx71
          have := World.grownBy.size hx71
          refine WL.va rfl rfl rfl (X.buildT (P := Try.prog) (t := 75) (cs := ((CC.new me txn nac l).cells vP gM70 gM71 (.map none) (.map none))) (zs := [i64 0, i64 0, .slice none 0 0, i64 0, .map none, .map none, .bool false, i64 0, .map none, .map none, i64 0]) (places := [(0, 1), (1, 1), (2, 1), (3, 1), (4, 1), (5, 1), (6, 1), (7, 1), (8, 1), (9, 1), (10, 1)]) (n := 11) (evp_cons rfl (evp_cons rfl (evp_cons rfl (evp_cons rfl (evp_cons rfl (evp_cons rfl evp_nil)))))) Try.type75 Try.underlying75 rfl rfl ⟨rfl, rfl, own_one oP, rfl, rfl, rfl, trivial⟩ rfl rfl rfl) ?_
          refine WL.op rfl (OW.boxA (cs := _) rfl ?_ (by decide))
          intro g73 w73 heg73 hlg73 hO73 hx75
          have := World.grownBy.size hx75
          refine WL.va rfl rfl rfl (X.assign rfl) ?_
          refine WL.va rfl rfl rfl (X.assignI rfl) ?_
          refine WL.nil ?_
          refine thn_n ?_
          refine WF.ret ?_
          refine fin_r ?_
          obtain ⟨F, h1, h2⟩ := new_fin (w1 := wP) (own_mono (own_ext oP (Ext.trans (Ext.trans hx67 hx71) hx75)) (by omega)) tP (hM70.ext (Ext.trans hx71 hx75)) (hM71.ext hx75) hO73 (by omega) (by omega) (by omega) (by omega)
          exact ⟨(fun e => by rw [hgood] at e; cases e), fun _ => ⟨_, F, rfl, h1, h2⟩, (Ext.trans (Ext.trans (Ext.trans (Ext.trans hwL0 hx63) hx67) hx71) hx75)⟩

end Go.Proofs.Ytjmddkaokmdkbaa
