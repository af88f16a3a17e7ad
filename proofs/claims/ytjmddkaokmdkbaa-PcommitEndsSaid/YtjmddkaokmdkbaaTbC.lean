/- The walk of the table's function come. -/
import Derived.Test.YtjmddkaokmdkbaaTbX
namespace Go.Proofs.Ytjmddkaokmdkbaa
open Go Go.RowKit Kf
set_option maxRecDepth 20000

section
variable {w0 w w' : World} {G : Fp TR} {g n i a : Nat} {x x' : Tb} {m : Msg} {v vp vv vc vo : Value} {vk : Nat → Value} {gk : Nat → Nat} {l : List Acc} {B : Nat}
theorem come_s (hm : x.post[i]? = some m) (h : m.Kind ≠ 8 ∧ m.Kind ≠ 10) : x.come i = (x.less i).stepC (m.To - 1).toNat m := by
  have e : x.post.getD i Msg.zero = m := by rw [List.getD_eq_getElem?_getD, hm]; rfl
  unfold Tb.come; simp only [e]; exact if_pos h
theorem come_t (hm : x.post[i]? = some m) (h : m.Kind = 8 ∨ m.Kind = 10) : x.come i = (x.less i).takeM m := by
  have e : x.post.getD i Msg.zero = m := by rw [List.getD_eq_getElem?_getD, hm]; rfl
  unfold Tb.come; simp only [e]; exact if_neg (by omega)
theorem TIn.setKept2 (h : TIn w0 w G g x n vp vv vc vo vk gk) (hg : Blk w' g 63 (x'.cells vp vv vc vo (updN vk a v))) (e : x' = { x with kept := updN x.kept a l }) (ho : w'.ownsRow B 102 5 v l.length (l.flatMap Acc.c)) (hv : ∀ b, v.ownBlock = some b → w.heap.size ≤ b) (hC : ChgS (fun b => b = g) w w') :
    ∃ G' : Fp TR, (∀ b, b < w.heap.size → G b = none → G' b = none) ∧ ChgS G.on w w' ∧ TG w0 w' G' g x' n ∧ ∀ b, v.ownBlock ≠ some b → G b = none → G' b = none := by
  subst e
  obtain ⟨h1, h2, h3, h4, h5, h6, h7, h8⟩ := h.row (r := .kept a) (v := v) (.inr (.inr (.inr (.inr ⟨a, rfl⟩)))) (fun b e => ⟨(ho.lt b e).2, .inr (hv b e)⟩) (hC.mono fun b e => .inl e)
  refine ⟨_, h2, h3, ⟨vp, vv, vc, vo, updN vk a v, gk, h4, h5, h6, h1 _ _ h.at_, hg, h7 h.parts (by simp) (by simp), h7 h.votes (by simp) (by simp), fun j hj => ?_, h7 h.coords (by simp) (by simp), h7 h.post (by simp) (by simp), h8⟩, fun b hb e => ?_⟩
  · by_cases e : j = a
    · subst e
      show RowF _ _ _ 102 5 (updN vk j v j) (updN x.kept j l j).length ((updN x.kept j l j).flatMap Acc.c)
      rw [updN_at, updN_at]; exact RowF.mk' ho
    · show RowF _ _ _ 102 5 (updN vk a v j) (updN x.kept a l j).length ((updN x.kept a l j).flatMap Acc.c)
      rw [updN_ne e, updN_ne e]; exact h7 (h.kept j hj) (by simpa using e) (by simp)
  · show (if v.ownBlock = some b then some (.kept a) else G b) = none
    rw [if_neg hb]; exact e
end
set_option maxHeartbeats 16000000 in
theorem tcome_ok (w0 w : World) (G : Fp TR) (g i : Nat) (x : Tb) (m : Msg) (h : TG w0 w G g x 3) (hm : x.post[i]? = some m) (h64 : In64 m.ints) (h1 : m.Kind = 8 ∨ m.Kind = 10 → 1 ≤ m.To ∧ m.To ≤ 7 ∧ (x.kept m.To.toNat).length ≤ 1100) (h2 : m.Kind ≠ 8 ∧ m.Kind ≠ 10 → 1 ≤ m.To ∧ m.To ≤ 3) (hok : ∀ k, k < 3 → (x.co k).ok) (hP : x.post.length ≤ 100000) : FnOk Try.prog 26 [at_ g, i64 (i : Int)] w (fun _ w' => TP w0 w w' G g (x.come i) 3) := by
  obtain ⟨hi, hmi⟩ := List.getElem?_eq_some_iff.mp hm
  have hlt : (x.post.take i).length = i := by simp; omega
  have hld : (x.post.drop (i + 1)).length = x.post.length - (i + 1) := by simp
  have hlp : (x.less i).post.length = x.post.length - 1 := by show (x.post.take i ++ x.post.drop (i + 1)).length = _; rw [List.length_append]; omega
  have hsz0 := h.since.size
  obtain ⟨vp, vv, vc, vo, vk, gk, hI⟩ := h
  have hx := hI.obj
  have tg := hx.lt
  refine FnOk.enter (rs := []) Try.func26 rfl Try.ntmps26 Try.results26 rfl rfl ?_
  refine WF.seq ?_
  refine WF.region ?_
  refine WL.va rfl rfl rfl (X.move rfl) ?_
  refine WL.va rfl rfl rfl (X.nilCheck rfl) ?_
  refine WL.va rfl rfl rfl (X.fieldAddrO (off := 13) rfl Try.underlying63 rfl rfl Try.sizeOf36) ?_
  refine WL.va rfl rfl rfl (X.loadO hx (Ext.refl _) rfl rfl Try.isAgg36) ?_
  refine WL.va rfl rfl rfl (X.moveI rfl) ?_
  refine WL.va rfl rfl rfl (X.idx (hI.post.rd) rfl rfl (by omega) Try.underlying36 Try.sizeOf40) ?_
  refine WL.va rfl rfl rfl (X.loadEl (hI.post.rd) (Ext.refl _) rfl (by omega) (by rw [flat_el Msg.bare_len hi, hmi]) Try.isAgg40 Try.sizeOf40) ?_
  refine WL.op rfl (OW.allocO (cs := [i64 0, i64 0, i64 0, i64 0, i64 0, i64 0, i64 0, i64 0, i64 0, i64 0, i64 0, i64 0, i64 0, i64 0, .bool false, .slice none 0 0, .slice none 0 0]) Try.zeroValue40 rfl ?_ (by decide))
  intro g4 w1 heg4 hlg4 hO4 hx3
  have := World.grownBy.size hx3
  have hIb := (hI.ext hx3)
  have hg4 : G g4 = none := Fp.fresh hI.below (by omega)
  refine WL.op rfl (OW.storeOA hO4 rfl rfl rfl (Msg.bare_one m) Try.sizeOf40 ?_)
  intro wR hO4 hx6
  have := World.grownBy.size hx6
  replace hx := (hx.ext hx3).keptO hx6 (by omega)
  replace hO4 : Blk _ _ _ (Msg.bare m) := hO4
  have hIR : TIn w0 wR G g x 3 vp vv vc vo vk gk := hIb.off hx6 hg4 (by omega)
  have heW : Ext w wR := (show Ext w wR from (Ext.store hx3 hx6 (by omega)))
  refine WL.nil ?_
  refine thn_n ?_
  refine WF.seq ?_
  refine WF.drawn (.q 0 (.q 2 (.q 3 (.q 4 (.q 5 (.q 6 (.q 7 (.q 9 (.q 10 (.q 11 (.q 12 (.q 13 (.q 14 (.q 15 (.l 1 (.l 8 (.l 16 (.q 17 (.q 18 .nil))))))))))))))))))) (fun w' => Ext wR w') 19 (by kernel_rfl) (by kernel_rfl) (Ext.drew _) ?_
  have := World.grownBy.size (Ext.drew wR)
  refine WO.q rfl rfl rfl rfl (fun w' hE8 => (X.move rfl)) ?_
  refine WO.q rfl rfl rfl rfl (fun w' hE8 => (X.move rfl)) ?_
  refine WO.q rfl rfl rfl rfl (fun w' hE8 => (X.nilCheck rfl)) ?_
  refine WO.q rfl rfl rfl rfl (fun w' hE8 => (X.fieldAddrO (off := 13) rfl Try.underlying63 rfl rfl Try.sizeOf36)) ?_
  refine WO.q rfl rfl rfl rfl (fun w' hE8 => (X.loadO hx hE8 rfl rfl Try.isAgg36)) ?_
  refine WO.q rfl rfl rfl rfl (fun w' hE8 => (X.moveI rfl)) ?_
  refine WO.q rfl rfl rfl rfl (fun w' hE8 => (X.slH (hIR.post.rd) rfl rfl (by omega) Try.underlying36 Try.sizeOf40)) ?_
  refine WO.q rfl rfl rfl rfl (fun w' hE8 => (X.move rfl)) ?_
  refine WO.q rfl rfl rfl rfl (fun w' hE8 => (X.nilCheck rfl)) ?_
  refine WO.q rfl rfl rfl rfl (fun w' hE8 => (X.fieldAddrO (off := 13) rfl Try.underlying63 rfl rfl Try.sizeOf36)) ?_
  refine WO.q rfl rfl rfl rfl (fun w' hE8 => (X.loadO hx hE8 rfl rfl Try.isAgg36)) ?_
  refine WO.q rfl rfl rfl rfl (fun w' hE8 => (X.moveI rfl)) ?_
  refine WO.q rfl rfl rfl rfl (fun w' hE8 => (X.add rfl rfl (show IntKind.i64.wrap ((i : Int) + 1) = ((i + 1 : Nat) : Int) from by rw [w64 (by omega)]; omega))) ?_
  refine WO.q rfl rfl rfl rfl (fun w' hE8 => (X.slL (hIR.post.rd) rfl rfl (by omega) Try.underlying36 Try.sizeOf40)) ?_
  refine WO.l ?_
  refine LO.go rfl rfl (OW.lit0 Try.underlying36 Try.sizeOf40 ?_ (by decide))
  intro v9 wZ ho11 hx10
  have := World.grownBy.size hx10
  have hoZ := ho11
  refine ⟨(Ext.trans (Ext.drew _) hx10), ?_⟩
  refine WO.l ?_
  refine LO.go rfl rfl (OW.append (bytes := 168) hoZ (Row.ext (msgs_take hIR.post.rd (by omega)) (Ext.trans (Ext.drew _) hx10)) bares_one rfl rfl Try.underlying36 Try.type40 rfl rfl rfl rfl (by decide) (by unfold maxLen; omega) (by omega) ((Ext.trans (Ext.drew _) hx10)).size ?_ (by decide))
  intro v12 wT ho14 hx13 hmvhx13
  have hoT := ho14
  refine ⟨(Ext.own (Ext.trans (Ext.drew _) hx10) hoZ (Nat.le_refl _) hx13), ?_⟩
  refine WO.l ?_
  refine LO.go rfl rfl (OW.append (bytes := 168) hoT (Row.ext (msgs_drop hIR.post.rd (by omega)) (Ext.own (Ext.trans (Ext.drew _) hx10) hoZ (Nat.le_refl _) hx13)) bares_one rfl rfl Try.underlying36 Try.type40 rfl rfl rfl rfl (by decide) (by unfold maxLen; omega) (by omega) ((Ext.own (Ext.trans (Ext.drew _) hx10) hoZ (Nat.le_refl _) hx13)).size ?_ (by decide))
  intro vL wP ho16 hx15 hmvhx15
  have hoL : World.ownsRow wP wR.heap.size 40 17 vL (x.less i).post.length ((x.less i).post.flatMap Msg.bare) := by have q := ho16; simpa [Tb.less, List.flatMap_append] using q
  refine ⟨(Ext.own (Ext.own (Ext.trans (Ext.drew _) hx10) hoZ (Nat.le_refl _) hx13) hoT (Nat.le_refl _) hx15), ?_⟩
  refine WO.q rfl rfl rfl rfl (fun w' hE8 => (X.nilCheck rfl)) ?_
  refine WO.q rfl rfl rfl rfl (fun w' hE8 => (X.fieldAddrO (off := 13) rfl Try.underlying63 rfl rfl Try.sizeOf36)) ?_
  refine WO.nil ?_
  have heP : Ext wR wP := (show Ext wR wP from (Ext.own (Ext.own (Ext.trans (Ext.drew _) hx10) hoZ (Nat.le_refl _) hx13) hoT (Nat.le_refl _) hx15))
  refine WL.op rfl (OW.storeO (hx.ext (Ext.own (Ext.own (Ext.trans (Ext.drew _) hx10) hoZ (Nat.le_refl _) hx13) hoT (Nat.le_refl _) hx15)) (Nat.le_of_ble_eq_true rfl) rfl rfl (own_one hoL) Try.sizeOf36 ?_)
  intro wS hx hx18
  have := World.grownBy.size hx18
  replace hO4 := (hO4.ext (Ext.own (Ext.own (Ext.trans (Ext.drew _) hx10) hoZ (Nat.le_refl _) hx13) hoT (Nat.le_refl _) hx15)).keptO hx18 (by omega)
  replace hx : Blk _ _ _ (Tb.cells (x.less i) vp vv vc vL vk) := hx
  have hTL : TP w0 wR wS G g (x.less i) 3 := hIR.setPost (l := (x.less i).post) hx (own_mono (hoL.kept hx18 (.inr fun e => by have := (hoL.lt g e).1; omega)) (Nat.zero_le _)) (fun b e => .inr (hoL.lt b e).1) ((ChgS.of_ext heP).row1 hx18 (.inl (.inl rfl)))
  obtain ⟨G1, ng1, cg1, vp, vv, vc, vo, vk, gk, hI⟩ := hTL
  replace hx := hI.obj
  have hg41 := ng1 g4 (by omega) hg4
  refine WL.nil ?_
  refine thn_n ?_
  refine WF.named (fun F20 hF21 => ?_)
  refine WF.cut (fun f' w' => Agree [0, 1, 4, 9, 10, 11, 12, 13, 14, 15, 16, 17, 18, 19, 20, 21, 22, 23, 24, 25, 26, 27, 28, 29, 30, 31, 32, 33, 34] f' F20 ∧ wS = w' ∧ (m.Kind = 8 ∨ m.Kind = 10)) ?_ ?_
  · refine WF.seq ?_
    refine WF.region ?_
    refine WL.va rfl rfl rfl (X.fieldAddrO (off := 0) (congrFun hF21 4) Try.underlying40 rfl rfl Try.sizeOf3) ?_
    refine WL.va rfl rfl rfl (X.loadO hO4 (Ext.refl _) rfl rfl Try.isAgg3) ?_
    refine WL.va rfl rfl rfl (X.neq rfl rfl) ?_
    refine WL.va rfl rfl rfl (X.moveB rfl) ?_
    refine WL.split (j := 3) rfl (fun h23 => ?_) (fun h23 => ?_)
    · have gh23 := (of_decide_eq_true h23)
      have q8 : m.Kind ≠ 8 := gh23
      refine WL.vg rfl (congrArg some h23) rfl rfl (X.fieldAddrO (off := 0) (congrFun hF21 4) Try.underlying40 rfl rfl Try.sizeOf3) ?_
      refine WL.vg rfl (congrArg some h23) rfl rfl (X.loadO hO4 (Ext.refl _) rfl rfl Try.isAgg3) ?_
      refine WL.vg rfl (congrArg some h23) rfl rfl (X.neq rfl rfl) ?_
      refine WL.va rfl rfl rfl (X.pickT rfl h23 rfl) ?_
      refine WL.nil ?_
      refine thn_n ?_
      refine WF.cond rfl (fun h0_24 => ?_) (fun h0_24 => ?_)
      · have gh0_24 := (of_decide_eq_true h0_24)
        have q10 : m.Kind ≠ 10 := gh0_24
        obtain ⟨hT1, hT3⟩ := h2 ⟨q8, q10⟩
        obtain ⟨kk, hkk, hke⟩ : ∃ kk : Nat, kk < 3 ∧ m.To - 1 = (kk : Int) := ⟨(m.To - 1).toNat, by omega, by omega⟩
        have hsl := step_len (m := m) (hok kk hkk)
        refine WF.seq ?_
        refine WF.drawn (.q 0 (.q 1 (.q 2 (.q 3 (.q 4 (.q 5 (.q 6 (.q 7 (.q 8 (.q 9 (.q 10 (.q 11 (.q 12 (.q 13 (.q 14 (.l 15 (.l 16 (.q 17 (.q 18 .nil))))))))))))))))))) (fun w' => ChgS (SS G1 kk) wS w') 19 (by kernel_rfl) (by kernel_rfl) (ChgS.of_ext (Ext.drew _)) ?_
        have := World.grownBy.size (Ext.drew wS)
        refine WO.q rfl rfl rfl rfl (fun w' hE26 => (X.move (congrFun hF21 0))) ?_
        refine WO.q rfl rfl rfl rfl (fun w' hE26 => (X.move (congrFun hF21 0))) ?_
        refine WO.q rfl rfl rfl rfl (fun w' hE26 => (X.nilCheck rfl)) ?_
        refine WO.q rfl rfl rfl rfl (fun w' hE26 => (X.fieldAddrO (off := 13) rfl Try.underlying63 rfl rfl Try.sizeOf36)) ?_
        refine WO.q rfl rfl rfl rfl (fun w' hE26 => (X.loadO (off := 13) (hx.chgS hE26 (ss_no hI.at_ (by simp) (by simp))) (Ext.refl _) rfl rfl Try.isAgg36)) ?_
        refine WO.q rfl rfl rfl rfl (fun w' hE26 => (X.move (congrFun hF21 0))) ?_
        refine WO.q rfl rfl rfl rfl (fun w' hE26 => (X.nilCheck rfl)) ?_
        refine WO.q rfl rfl rfl rfl (fun w' hE26 => (X.fieldAddrO (off := 11) rfl Try.underlying63 rfl rfl Try.sizeOf61)) ?_
        refine WO.q rfl rfl rfl rfl (fun w' hE26 => (X.loadO (off := 11) (hx.chgS hE26 (ss_no hI.at_ (by simp) (by simp))) (Ext.refl _) rfl rfl Try.isAgg61)) ?_
        refine WO.q rfl rfl rfl rfl (fun w' hE26 => (X.fieldAddrO (off := 2) (congrFun hF21 4) Try.underlying40 rfl rfl Try.sizeOf3)) ?_
        refine WO.q rfl rfl rfl rfl (fun w' hE26 => (X.loadO (off := 2) (hO4.chgS hE26 (ss_none hg41)) (Ext.refl _) rfl rfl Try.isAgg3)) ?_
        refine WO.q rfl rfl rfl rfl (fun w' hE26 => (X.sub rfl rfl (show IntKind.i64.wrap (m.To - 1) = (kk : Int) from by rw [w64 (by omega)]; exact hke))) ?_
        refine WO.q rfl rfl rfl rfl (fun w' hE26 => (X.idx (hI.coords.rd) rfl rfl hkk Try.underlying61 Try.sizeOf27)) ?_
        refine WO.q rfl rfl rfl rfl (fun w' hE26 => (X.loadP1 (hI.coords.chgS hE26 (fun b e => ss_no e (by simp) (by simp))).rd (Ext.refl _) rfl (ptrs_at hkk) Try.isAgg27)) ?_
        refine WO.q rfl rfl rfl rfl (fun w' hE26 => (X.loadOA (hO4.chgS hE26 (ss_none hg41)) (Ext.refl _) (congrFun hF21 4) rfl Try.isAgg40 Try.sizeOf40)) ?_
        refine WO.l ?_
        refine LO.go rfl rfl (OW.enter rfl (by decide) (X.call Try.call14 (evl_cons (v := at_ (gk kk)) rfl (evl_cons (v := agg (Msg.bare m)) rfl evl_nil))) (step_ok (coF G1 kk) (gk kk) (x.co kk) m nilS nilS _ ((hI.co kk hkk).ext (Ext.drew _)) (hok kk hkk)) ?_)
        rintro vM wM ⟨oM, F9, f1, f2, f3, f4⟩
        refine ⟨(ChgS.trans (ChgS.of_ext (Ext.drew _)) f3 (fun i hi => .inl (.inl hi))), ?_⟩
        have hCe : ChgS (SS G1 kk) wS wM := ChgS.trans (ChgS.of_ext (Ext.drew _)) f3 (fun i hi => .inl (.inl hi))
        obtain ⟨G2, n2, c2, hI2, hr2⟩ := (hI.ext (Ext.drew _)).setCo hkk ⟨F9, f1, f2, f3, f4⟩ (fun b e => (oM.lt b e).1)
        have hx := hI2.obj
        refine WO.l ?_
        have hJ := hI2
        refine LO.go rfl rfl (OW.append (bytes := 168) hJ.post.own (Row.of_own oM) bares_one rfl rfl Try.underlying36 Try.type40 rfl rfl rfl rfl (by decide) (by unfold maxLen; show (x.less i).post.length + _ ≤ _; omega) (by show ((x.less i).post.length + _) * 168 ≤ _; omega) (Nat.zero_le _) ?_ (by decide))
        intro vo2 w28 ho30 hx29 hmvhx29
        have := World.grownBy.size hx29
        replace hx := hx.keptR hx29 (fun b e => Fp.ne (hJ.post.fp b e) hJ.at_ (by simp))
        have hmA := hmvhx29
        have hxA := hx29
        have hoA := ho30
        have hEa : ChgS (SS G1 kk) wS w28 := hCe.row hx29 (fun b e => .inl (.inr (hI.post.fp b e)))
        refine ⟨hEa, ?_⟩
        refine WO.q rfl rfl rfl rfl (fun w' hE26 => (X.nilCheck rfl)) ?_
        refine WO.q rfl rfl rfl rfl (fun w' hE26 => (X.fieldAddrO (off := 13) rfl Try.underlying63 rfl rfl Try.sizeOf36)) ?_
        refine WO.nil ?_
        refine WL.op rfl (OW.storeO hx (Nat.le_of_ble_eq_true rfl) rfl rfl (own_one hoA) Try.sizeOf36 ?_)
        intro w31 hx hx33
        have := World.grownBy.size hx33
        replace hx : Blk _ _ _ (Tb.cells (x.less i) vp vv vc vo2 vk) := hx
        have hTP := hJ.pushed (ms := ((x.co kk).step m).2) hoA hmA hxA hx33 hx
        refine WL.nil ?_
        refine thn_n ?_
        refine WF.ret ?_
        refine thn_r ?_
        refine fin_r ?_
        have hce : x.come i = (x.less i).stepC kk m := by rw [come_s hm ⟨q8, q10⟩, show (m.To - 1).toNat = kk from by omega]
        rw [hce]
        exact TP.pre heW (TP.join ng1 cg1 (TP.pre (Ext.drew _) (TP.join n2 c2 hTP)))
      · have gh0_24 := (Decidable.of_not_not (of_decide_eq_false h0_24))
        have qK : m.Kind = 8 ∨ m.Kind = 10 := .inr (by have := gh0_24; omega)
        refine WF.skip ?_
        refine thn_n ?_
        exact ⟨(by repeat (first | exact (Agree.refl _ F20) | refine Agree.put ?_ rfl | refine Agree.named hF21 ?_)), rfl, qK⟩
    · have gh23 := (Decidable.of_not_not (of_decide_eq_false h23))
      have qK : m.Kind = 8 ∨ m.Kind = 10 := .inl (by have := gh23; omega)
      refine WL.p rfl rfl rfl (congrArg some h23) ?_
      refine WL.p rfl rfl rfl (congrArg some h23) ?_
      refine WL.p rfl rfl rfl (congrArg some h23) ?_
      refine WL.va rfl rfl rfl (X.pickF rfl h23 rfl) ?_
      refine WL.nil ?_
      refine thn_n ?_
      refine WF.cond_f rfl ?_
      refine WF.skip ?_
      refine thn_n ?_
      exact ⟨(by repeat (first | exact (Agree.refl _ F20) | refine Agree.put ?_ rfl | refine Agree.named hF21 ?_)), rfl, qK⟩
  · rintro fCs2 wCs2 ⟨hACs2, rfl, qK⟩
    obtain ⟨hT1, hT7, hKl⟩ := h1 qK
    obtain ⟨a, ha, hTo⟩ : ∃ a : Nat, a < 8 ∧ m.To = (a : Int) := ⟨m.To.toNat, by omega, by omega⟩
    have hae : m.To.toNat = a := by omega
    refine WF.named (fun F36 hF37 => ?_)
    refine WF.cut (fun f' w' => Agree [0, 1, 4, 9, 10, 11, 12, 13, 14, 15, 16, 17, 18, 19, 20, 21, 22, 23, 24, 25, 26, 27, 28, 29, 30, 31, 32, 33, 34] f' F36 ∧ True ∧ ChgS (fun b => b = g) wS w' ∧ TIn w0 w' G1 g { x.less i with above := x.above || (decide (m.Kind = 10) && decide (0 < m.Ballot)) } 3 vp vv vc vo vk gk ∧ Blk w' g4 40 (Msg.bare m)) ?_ ?_
    · refine WF.region ?_
      refine WL.va rfl rfl rfl (X.move ((congrFun hF37 0).trans ((hACs2.eq 0).trans (congrFun hF21 0)))) ?_
      refine WL.va rfl rfl rfl (X.move ((congrFun hF37 0).trans ((hACs2.eq 0).trans (congrFun hF21 0)))) ?_
      refine WL.va rfl rfl rfl (X.nilCheck rfl) ?_
      refine WL.va rfl rfl rfl (X.fieldAddrO (off := 15) rfl Try.underlying63 rfl rfl Try.sizeOf4) ?_
      refine WL.va rfl rfl rfl (X.loadO hx (Ext.refl _) rfl rfl Try.isAgg4) ?_
      refine WL.va rfl rfl rfl (X.moveB rfl) ?_
      refine WL.split (j := 5) rfl (fun h39 => ?_) (fun h39 => ?_)
      · have gh39 := h39
        have qa : x.above = true := gh39
        refine WL.p rfl rfl rfl (congrArg some h39) ?_
        refine WL.p rfl rfl rfl (congrArg some h39) ?_
        refine WL.p rfl rfl rfl (congrArg some h39) ?_
        refine WL.p rfl rfl rfl (congrArg some h39) ?_
        refine WL.pn rfl rfl rfl rfl ?_
        refine WL.pn rfl rfl rfl rfl ?_
        refine WL.pn rfl rfl rfl rfl ?_
        refine WL.p rfl rfl rfl (congrArg some h39) ?_
        refine WL.va rfl rfl rfl (X.pickT rfl h39 rfl) ?_
        refine WL.va rfl rfl rfl (X.nilCheck rfl) ?_
        refine WL.va rfl rfl rfl (X.fieldAddrO (off := 15) rfl Try.underlying63 rfl rfl Try.sizeOf4) ?_
        have hIb := hI
        refine WL.op rfl (OW.storeO hx (Nat.le_of_ble_eq_true rfl) rfl rfl rfl Try.sizeOf4 ?_)
        intro w41 hx hx43
        have := World.grownBy.size hx43
        replace hO4 := hO4.keptO hx43 (by omega)
        obtain ⟨_, hx2, rfl⟩ : ∃ b, Blk w41 g 63 (Tb.cells { x.less i with above := b } vp vv vc vo vk) ∧ b = (x.above || (decide (m.Kind = 10) && decide (0 < m.Ballot))) := by first | exact ⟨true, hx, by simp [qa]⟩ | exact ⟨false, hx, by simp [qa, q10]⟩ | exact ⟨decide (0 < m.Ballot), hx, by simp [qa, q10]⟩
        have hI3 := hIb.setN (x' := { x.less i with above := x.above || (decide (m.Kind = 10) && decide (0 < m.Ballot)) }) hx43 hx2 rfl rfl rfl rfl rfl
        have hcA : ChgS (fun b => b = g) wS w41 := (ChgS.refl _ wS).row1 hx43 (.inl rfl)
        refine WL.nil ?_
        refine thn_n ?_
        exact ⟨(by repeat (first | exact (Agree.refl _ F36) | refine Agree.put ?_ rfl | refine Agree.sub hACs2 rfl ?_ | refine Agree.named hF37 ?_ | refine Agree.named hF21 ?_)), trivial, ⟨hcA, hI3, hO4⟩⟩
      · have gh39 := h39
        have qa : x.above = false := gh39
        refine WL.vg rfl (congrArg some h39) rfl rfl (X.fieldAddrO (off := 0) ((congrFun hF37 4).trans ((hACs2.eq 4).trans (congrFun hF21 4))) Try.underlying40 rfl rfl Try.sizeOf3) ?_
        refine WL.vg rfl (congrArg some h39) rfl rfl (X.loadO hO4 (Ext.refl _) rfl rfl Try.isAgg3) ?_
        refine WL.vg rfl (congrArg some h39) rfl rfl (X.eql rfl rfl) ?_
        refine WL.vg rfl (congrArg some h39) rfl rfl (X.moveB rfl) ?_
        refine WL.split (j := 9) rfl (fun h46 => ?_) (fun h46 => ?_)
        · have gh46 := (of_decide_eq_true h46)
          have q10 : m.Kind = 10 := gh46
          refine WL.vg rfl (congrArg some h46) rfl rfl (X.fieldAddrO (off := 11) ((congrFun hF37 4).trans ((hACs2.eq 4).trans (congrFun hF21 4))) Try.underlying40 rfl rfl Try.sizeOf3) ?_
          refine WL.vg rfl (congrArg some h46) rfl rfl (X.loadO hO4 (Ext.refl _) rfl rfl Try.isAgg3) ?_
          refine WL.vg rfl (congrArg some h46) rfl rfl (X.gtr rfl rfl) ?_
          refine WL.vg rfl (congrArg some h39) rfl rfl (X.pickT rfl h46 rfl) ?_
          refine WL.va rfl rfl rfl (X.pickF rfl h39 rfl) ?_
          refine WL.va rfl rfl rfl (X.nilCheck rfl) ?_
          refine WL.va rfl rfl rfl (X.fieldAddrO (off := 15) rfl Try.underlying63 rfl rfl Try.sizeOf4) ?_
          have hIb := hI
          refine WL.op rfl (OW.storeO hx (Nat.le_of_ble_eq_true rfl) rfl rfl rfl Try.sizeOf4 ?_)
          intro w48 hx hx50
          have := World.grownBy.size hx50
          replace hO4 := hO4.keptO hx50 (by omega)
          obtain ⟨_, hx2, rfl⟩ : ∃ b, Blk w48 g 63 (Tb.cells { x.less i with above := b } vp vv vc vo vk) ∧ b = (x.above || (decide (m.Kind = 10) && decide (0 < m.Ballot))) := by first | exact ⟨true, hx, by simp [qa]⟩ | exact ⟨false, hx, by simp [qa, q10]⟩ | exact ⟨decide (0 < m.Ballot), hx, by simp [qa, q10]⟩
          have hI3 := hIb.setN (x' := { x.less i with above := x.above || (decide (m.Kind = 10) && decide (0 < m.Ballot)) }) hx50 hx2 rfl rfl rfl rfl rfl
          have hcA : ChgS (fun b => b = g) wS w48 := (ChgS.refl _ wS).row1 hx50 (.inl rfl)
          refine WL.nil ?_
          refine thn_n ?_
          exact ⟨(by repeat (first | exact (Agree.refl _ F36) | refine Agree.put ?_ rfl | refine Agree.sub hACs2 rfl ?_ | refine Agree.named hF37 ?_ | refine Agree.named hF21 ?_)), trivial, ⟨hcA, hI3, hO4⟩⟩
        · have gh46 := (of_decide_eq_false h46)
          have q10 : ¬ m.Kind = 10 := gh46
          refine WL.p rfl rfl rfl (congrArg some h46) ?_
          refine WL.p rfl rfl rfl (congrArg some h46) ?_
          refine WL.p rfl rfl rfl (congrArg some h46) ?_
          refine WL.vg rfl (congrArg some h39) rfl rfl (X.pickF rfl h46 rfl) ?_
          refine WL.va rfl rfl rfl (X.pickF rfl h39 rfl) ?_
          refine WL.va rfl rfl rfl (X.nilCheck rfl) ?_
          refine WL.va rfl rfl rfl (X.fieldAddrO (off := 15) rfl Try.underlying63 rfl rfl Try.sizeOf4) ?_
          have hIb := hI
          refine WL.op rfl (OW.storeO hx (Nat.le_of_ble_eq_true rfl) rfl rfl rfl Try.sizeOf4 ?_)
          intro w53 hx hx55
          have := World.grownBy.size hx55
          replace hO4 := hO4.keptO hx55 (by omega)
          obtain ⟨_, hx2, rfl⟩ : ∃ b, Blk w53 g 63 (Tb.cells { x.less i with above := b } vp vv vc vo vk) ∧ b = (x.above || (decide (m.Kind = 10) && decide (0 < m.Ballot))) := by first | exact ⟨true, hx, by simp [qa]⟩ | exact ⟨false, hx, by simp [qa, q10]⟩ | exact ⟨decide (0 < m.Ballot), hx, by simp [qa, q10]⟩
          have hI3 := hIb.setN (x' := { x.less i with above := x.above || (decide (m.Kind = 10) && decide (0 < m.Ballot)) }) hx55 hx2 rfl rfl rfl rfl rfl
          have hcA : ChgS (fun b => b = g) wS w53 := (ChgS.refl _ wS).row1 hx55 (.inl rfl)
          refine WL.nil ?_
          refine thn_n ?_
          exact ⟨(by repeat (first | exact (Agree.refl _ F36) | refine Agree.put ?_ rfl | refine Agree.sub hACs2 rfl ?_ | refine Agree.named hF37 ?_ | refine Agree.named hF21 ?_)), trivial, ⟨hcA, hI3, hO4⟩⟩
    · rintro fCr4 wCr4 ⟨hACr4, hwCr4, ⟨hcA, hI, hO4⟩⟩
      have hx := hI.obj
      have tg4 := hx.lt
      have hcA1 : ChgS G1.on wS wCr4 := hcA.mono fun b e => e ▸ on_of hI.at_
      refine WF.seq ?_
      refine WF.drawn (.q 0 (.q 1 (.q 2 (.q 3 (.q 4 (.q 5 (.q 6 (.q 7 (.q 8 (.q 9 (.l 10 (.q 11 (.q 12 (.q 13 (.q 14 (.q 15 (.q 16 (.q 17 .nil)))))))))))))))))) (fun w' => Ext wCr4 w') 18 (by kernel_rfl) (by kernel_rfl) (Ext.drew _) ?_
      have := World.grownBy.size (Ext.drew wCr4)
      refine WO.q rfl rfl rfl rfl (fun w' hE57 => (X.move ((hACr4.eq 0).trans ((congrFun hF37 0).trans ((hACs2.eq 0).trans (congrFun hF21 0)))))) ?_
      refine WO.q rfl rfl rfl rfl (fun w' hE57 => (X.fieldAddrO (off := 2) ((hACr4.eq 4).trans ((congrFun hF37 4).trans ((hACs2.eq 4).trans (congrFun hF21 4)))) Try.underlying40 rfl rfl Try.sizeOf3)) ?_
      refine WO.q rfl rfl rfl rfl (fun w' hE57 => (X.loadO hO4 hE57 rfl rfl Try.isAgg3)) ?_
      refine WO.q rfl rfl rfl rfl (fun w' hE57 => (X.nilCheck rfl)) ?_
      refine WO.q rfl rfl rfl rfl (fun w' hE57 => (X.fieldAddrO (off := 3) rfl Try.underlying63 rfl rfl Try.sizeOf60)) ?_
      refine WO.q rfl rfl rfl rfl (fun w' hE57 => (X.idxArrP (k := a) rfl ((rfl).trans (congrArg i64 hTo)) ha Try.underlying60 Try.sizeOf59)) ?_
      refine WO.q rfl rfl rfl rfl (fun w' hE57 => (X.loadO (off := 3 + a) hx hE57 rfl (cells_kept ha) Try.isAgg59)) ?_
      refine WO.q rfl rfl rfl rfl (fun w' hE57 => (X.fieldAddrO (off := 2) ((hACr4.eq 4).trans ((congrFun hF37 4).trans ((hACs2.eq 4).trans (congrFun hF21 4)))) Try.underlying40 rfl rfl Try.sizeOf3)) ?_
      refine WO.q rfl rfl rfl rfl (fun w' hE57 => (X.loadO hO4 hE57 rfl rfl Try.isAgg3)) ?_
      refine WO.q rfl rfl rfl rfl (fun w' hE57 => (X.loadOA hO4 hE57 ((hACr4.eq 4).trans ((congrFun hF37 4).trans ((hACs2.eq 4).trans (congrFun hF21 4)))) rfl Try.isAgg40 Try.sizeOf40)) ?_
      refine WO.l ?_
      refine LO.go rfl rfl (OW.enter rfl (by decide) (X.call Try.call43 (evl_cons (v := (vk a)) rfl (evl_cons (v := (i64 m.To)) rfl (evl_cons (v := (agg (Msg.bare m))) rfl evl_nil)))) (take_ok (vk a) (x.kept a) m.To m nilS nilS _ (Row.ext (hI.kept a ha).rd (Ext.drew _)) (hae ▸ hKl) h64) ?_)
      rintro v58 wK ⟨⟨vv2, vm2, rfl, oV, oM, hap⟩, hx59⟩
      have := World.grownBy.size hx59
      refine ⟨(Ext.trans (Ext.drew _) hx59), ?_⟩
      refine WO.q rfl rfl rfl rfl (fun w' hE57 => (X.move rfl)) ?_
      refine WO.q rfl rfl rfl rfl (fun w' hE57 => (X.extract rfl rfl)) ?_
      refine WO.q rfl rfl rfl rfl (fun w' hE57 => (X.extract rfl rfl)) ?_
      refine WO.q rfl rfl rfl rfl (fun w' hE57 => (X.extract rfl rfl)) ?_
      refine WO.q rfl rfl rfl rfl (fun w' hE57 => (X.assign rfl)) ?_
      refine WO.q rfl rfl rfl rfl (fun w' hE57 => (X.assign rfl)) ?_
      refine WO.q rfl rfl rfl rfl (fun w' hE57 => (X.assignB rfl)) ?_
      refine WO.nil ?_
      refine WL.nil ?_
      refine thn_n ?_
      refine WF.seq ?_
      refine WF.drawn (.q 0 (.q 1 (.q 2 (.q 3 (.q 4 (.q 5 (.q 6 .nil))))))) (fun w' => Ext wK w') 7 (by kernel_rfl) (by kernel_rfl) (Ext.drew _) ?_
      have := World.grownBy.size (Ext.drew wK)
      refine WO.q rfl rfl rfl rfl (fun w' hE61 => (X.move ((hACr4.eq 0).trans ((congrFun hF37 0).trans ((hACs2.eq 0).trans (congrFun hF21 0)))))) ?_
      refine WO.q rfl rfl rfl rfl (fun w' hE61 => (X.fieldAddrO (off := 2) ((hACr4.eq 4).trans ((congrFun hF37 4).trans ((hACs2.eq 4).trans (congrFun hF21 4)))) Try.underlying40 rfl rfl Try.sizeOf3)) ?_
      refine WO.q rfl rfl rfl rfl (fun w' hE61 => (X.loadO hO4 (Ext.trans (Ext.trans (Ext.drew _) hx59) hE61) rfl rfl Try.isAgg3)) ?_
      refine WO.q rfl rfl rfl rfl (fun w' hE61 => (X.move rfl)) ?_
      refine WO.q rfl rfl rfl rfl (fun w' hE61 => (X.nilCheck rfl)) ?_
      refine WO.q rfl rfl rfl rfl (fun w' hE61 => (X.fieldAddrO (off := 3) rfl Try.underlying63 rfl rfl Try.sizeOf60)) ?_
      refine WO.q rfl rfl rfl rfl (fun w' hE61 => (X.idxArrP (k := a) rfl ((rfl).trans (congrArg i64 hTo)) ha Try.underlying60 Try.sizeOf59)) ?_
      refine WO.nil ?_
      have heK : Ext wCr4 wK.drew := (show Ext wCr4 wK.drew from (Ext.trans (Ext.trans (Ext.drew _) hx59) (Ext.drew _)))
      have heV : Ext wK wK.drew := (show Ext wK wK.drew from (Ext.drew _))
      have hIb := hI
      refine WL.op rfl (OW.storeO (hx.ext (Ext.trans (Ext.trans (Ext.drew _) hx59) (Ext.drew _))) (show 3 + a < 17 from by omega) rfl rfl (own_one oV) Try.sizeOf59 ?_)
      intro wL hx hx63
      have := World.grownBy.size hx63
      replace hO4 := (hO4.ext (Ext.trans (Ext.trans (Ext.drew _) hx59) (Ext.drew _))).keptO hx63 (by omega)
      have hx6 : Blk wL g 63 ((Tb.cells { x.less i with above := x.above || (decide (m.Kind = 10) && decide (0 < m.Ballot)) } vp vv vc vo vk).set (3 + a) vv2) := hx
      rw [cells_set (x := { x.less i with above := x.above || (decide (m.Kind = 10) && decide (0 < m.Ballot)) }) (x' := ((x.less i).took m)) ha rfl rfl rfl rfl rfl] at hx6
      have gno : ∀ {b}, wCr4.heap.size ≤ b → b ≠ g := fun h e => by omega
      obtain ⟨G2, n2, c2, hT2, off2⟩ := hIb.setKept2 (x' := ((x.less i).took m)) (a := a) hx6 (by have := hae; subst this; rfl) ((own_ext oV heV).kept hx63 (.inr fun e => gno (oV.lt g e).1 rfl)) (fun b e => (oV.lt b e).1) ((ChgS.of_ext heK).row1 hx63 (.inl rfl))
      obtain ⟨l, hl⟩ : ∃ l, l = (takeA (x.kept a) m.To m).2.1 := ⟨_, rfl⟩
      have hll : l.length ≤ 1 := by rw [hl]; exact takeA_len _ _ _
      rw [show (takeA (x.kept a) m.To m).2.1 = l from hl.symm] at oM
      have hvm : ∀ b, vm2.ownBlock = some b → G2 b = none := fun b e => off2 b (fun e2 => hap b e2 e) (Fp.fresh hIb.below (oM.lt b e).1)
      have oM6 := (own_ext oM heV).kept hx63 (.inr fun e => gno (oM.lt g e).1 rfl)
      have hpK : ((x.less i).took m).post.length = x.post.length - 1 := hlp
      refine WL.nil ?_
      refine thn_n ?_
      refine WF.seq ?_
      refine WF.region ?_
      refine WL.va rfl rfl rfl (X.assignI rfl) ?_
      refine WL.nil ?_
      refine thn_n ?_
      refine WF.block ?_
      refine WF.named (fun F66 hF67 => ?_)
      refine WF.loopN (fun mL0 f' w' => ∃ (j : Nat), mL0 = l.length - j ∧ f' 8 = .int .i64 (j : Int) ∧ Agree [0, 1, 4, 5, 6, 9, 10, 11, 12, 13, 14, 15, 16, 17, 18, 19, 20, 21, 22, 23, 24, 25, 26, 27, 28, 29, 30, 31, 32, 33, 34, 79, 80, 81, 82, 83, 84, 85, 86, 87, 88, 89, 90, 91, 92, 93, 94, 95, 96, 97, 98, 99, 100] f' F66 ∧ True ∧ j ≤ l.length ∧ TP w0 wL w' G2 g (outN ((x.less i).took m) l j) 3) ?_ ?_
      · exact ⟨_, 0, rfl, (congrFun hF67 8), (Agree.refl _ _), trivial, ⟨Nat.zero_le _, TP.refl hT2 (Ext.refl _)⟩⟩
      · rintro mL0 fL0 wL0 ⟨j, hmL0, e8_L0, hAL0, hwL0, ⟨hj0, hT⟩⟩
        obtain ⟨G3, n3, c3, vp, vv, vc, vo, vk, gk, hI⟩ := hT
        have hx := hI.obj
        have hpg : ∀ b, vo.ownBlock = some b → b ≠ g := fun b e => Fp.ne (hI.post.fp b e) hI.at_ (by simp)
        have hp_parts := hI.parts.ne hI.post (by simp)
        have hp_votes := hI.votes.ne hI.post (by simp)
        have oRw : Row wL0 vm2 l.length 17 (l.flatMap Msg.bare) := Row.of_own (own_chgS oM6 c3 (fun b e q => q (hvm b e)))
        have hjl := outN_len (x := ((x.less i).took m)) (l := l) j hj0
        have hpm : vm2.ownBlock = none ∨ vm2.ownBlock ≠ vo.ownBlock := by
          cases hb : vm2.ownBlock with
          | none => exact .inl rfl
          | some b => exact .inr fun e => by
                        have q := hI.post.fp b e.symm
                        rw [n3 b (oM6.lt b hb).2 (hvm b hb)] at q; cases q
        refine WF.seq ?_
        refine WF.seq ?_
        refine WF.region ?_
        refine WL.va rfl rfl rfl (X.moveI e8_L0) ?_
        refine WL.va rfl rfl rfl (X.move ((hAL0.eq 6).trans (congrFun hF67 6))) ?_
        refine WL.va rfl rfl rfl (X.len oRw rfl Try.underlying36) ?_
        refine WL.va rfl rfl rfl (X.lss rfl rfl) ?_
        refine WL.nil ?_
        refine thn_n ?_
        refine WF.cond rfl (fun h1_68 => ?_) (fun h1_68 => ?_)
        · have gh1_68 := (of_decide_eq_true h1_68)
          have hjn : j < l.length := by have := gh1_68; omega
          refine WF.skip ?_
          refine thn_n ?_
          refine WF.seq ?_
          refine WF.block ?_
          refine WF.seq ?_
          refine WF.seq ?_
          refine WF.region ?_
          refine WL.va rfl rfl rfl (X.move ((hAL0.eq 6).trans (congrFun hF67 6))) ?_
          refine WL.va rfl rfl rfl (X.moveI e8_L0) ?_
          refine WL.va rfl rfl rfl (X.idx oRw rfl rfl hjn Try.underlying36 Try.sizeOf40) ?_
          refine WL.va rfl rfl rfl (X.fieldAddrA rfl Try.underlying40 rfl rfl Try.sizeOf3) ?_
          refine WL.va rfl rfl rfl (X.loadE oRw (Ext.refl _) rfl hjn ((Msg.get hjn (off := 0) (by decide)).trans rfl) Try.isAgg3) ?_
          refine WL.va rfl rfl rfl (X.eql rfl rfl) ?_
          refine WL.nil ?_
          refine thn_n ?_
          refine WF.cond rfl (fun h2_70 => ?_) (fun h2_70 => ?_)
          · have gh2_70 := (of_decide_eq_true h2_70)
            have q11 : (l[j]'hjn).Kind = 11 := gh2_70
            refine WF.seq ?_
            refine WF.region ?_
            refine WL.va rfl rfl rfl (X.move ((hAL0.eq 0).trans ((congrFun hF67 0).trans ((hACr4.eq 0).trans ((congrFun hF37 0).trans ((hACs2.eq 0).trans (congrFun hF21 0))))))) ?_
            refine WL.va rfl rfl rfl (X.move ((hAL0.eq 6).trans (congrFun hF67 6))) ?_
            refine WL.va rfl rfl rfl (X.moveI e8_L0) ?_
            refine WL.va rfl rfl rfl (X.idx oRw rfl rfl hjn Try.underlying36 Try.sizeOf40) ?_
            refine WL.va rfl rfl rfl (X.loadEl oRw (Ext.refl _) rfl hjn (flat_el Msg.bare_len hjn) Try.isAgg40 Try.sizeOf40) ?_
            refine WL.c rfl rfl rfl (X.call Try.call44 (evl_cons (v := at_ g) rfl (evl_cons (v := (agg (Msg.bare (l[j]'hjn)))) rfl evl_nil))) (tells_ok w0 _ G3 g (outN ((x.less i).took m) l j) (l[j]'hjn) ⟨_, _, _, _, _, _, hI⟩ (by omega)) ?_
            rintro v73 w72 hTP
            have hob : outN ((x.less i).took m) l (j + 1) = (outN ((x.less i).took m) l j).tells (l[j]'hjn) := by rw [outN_s hjn]; exact if_pos q11
            refine WL.nil ?_
            refine thn_n ?_
            refine WF.exit ?_
            refine thn_x ?_
            refine blk_eq ?_
            refine thn_n ?_
            refine WF.region ?_
            refine WL.va rfl rfl rfl (X.moveI e8_L0) ?_
            refine WL.va rfl rfl rfl (X.add rfl rfl (w64 (by omega))) ?_
            refine WL.va rfl rfl rfl (X.assignI rfl) ?_
            refine WL.nil ?_
            exact thn_n ⟨_, (by omega), j + 1, rfl, rfl, (by repeat (first | exact hAL0 | refine Agree.put ?_ rfl | refine Agree.sub hACr4 rfl ?_ | refine Agree.sub hACs2 rfl ?_ | refine Agree.named hF67 ?_ | refine Agree.named hF37 ?_ | refine Agree.named hF21 ?_)), trivial, ⟨by omega, by rw [hob]; exact TP.join n3 c3 hTP⟩⟩
          · have gh2_70 := (of_decide_eq_false h2_70)
            have q11 : ¬ (l[j]'hjn).Kind = 11 := gh2_70
            refine WF.skip ?_
            refine thn_n ?_
            refine WF.seq ?_
            refine WF.region ?_
            refine WL.va rfl rfl rfl (X.move ((hAL0.eq 6).trans (congrFun hF67 6))) ?_
            refine WL.va rfl rfl rfl (X.moveI e8_L0) ?_
            refine WL.va rfl rfl rfl (X.idx oRw rfl rfl hjn Try.underlying36 Try.sizeOf40) ?_
            refine WL.va rfl rfl rfl (X.fieldAddrA rfl Try.underlying40 rfl rfl Try.sizeOf3) ?_
            refine WL.va rfl rfl rfl (X.loadE oRw (Ext.refl _) rfl hjn ((Msg.get hjn (off := 2) (by decide)).trans rfl) Try.isAgg3) ?_
            refine WL.va rfl rfl rfl (X.geq rfl rfl) ?_
            refine WL.va rfl rfl rfl (X.moveB rfl) ?_
            refine WL.split (j := 6) rfl (fun h76 => ?_) (fun h76 => ?_)
            · have gh76 := (of_decide_eq_true h76)
              have q1 : 1 ≤ (l[j]'hjn).To := gh76
              refine WL.vg rfl (congrArg some h76) rfl rfl (X.move ((hAL0.eq 6).trans (congrFun hF67 6))) ?_
              refine WL.vg rfl (congrArg some h76) rfl rfl (X.moveI e8_L0) ?_
              refine WL.vg rfl (congrArg some h76) rfl rfl (X.idx oRw rfl rfl hjn Try.underlying36 Try.sizeOf40) ?_
              refine WL.vg rfl (congrArg some h76) rfl rfl (X.fieldAddrA rfl Try.underlying40 rfl rfl Try.sizeOf3) ?_
              refine WL.vg rfl (congrArg some h76) rfl rfl (X.loadE oRw (Ext.refl _) rfl hjn ((Msg.get hjn (off := 2) (by decide)).trans rfl) Try.isAgg3) ?_
              refine WL.vg rfl (congrArg some h76) rfl rfl (X.leq rfl rfl) ?_
              refine WL.va rfl rfl rfl (X.pickT rfl h76 rfl) ?_
              refine WL.nil ?_
              refine thn_n ?_
              refine WF.cond rfl (fun h3_77 => ?_) (fun h3_77 => ?_)
              · have gh3_77 := (of_decide_eq_true h3_77)
                have q3 : (l[j]'hjn).To ≤ 3 := gh3_77
                refine WF.drawn (.q 0 (.q 1 (.q 2 (.q 3 (.q 4 (.q 5 (.q 6 (.q 7 (.q 8 (.l 9 (.l 10 (.q 11 (.q 12 .nil))))))))))))) (fun w' => World.grownBy wL0 w' vo.ownBlock) 13 (by kernel_rfl) (by kernel_rfl) (grown_of_ext (Ext.drew _)) ?_
                have := World.grownBy.size (Ext.drew wL0)
                refine WO.q rfl rfl rfl rfl (fun w' hE79 => (X.move ((hAL0.eq 0).trans ((congrFun hF67 0).trans ((hACr4.eq 0).trans ((congrFun hF37 0).trans ((hACs2.eq 0).trans (congrFun hF21 0)))))))) ?_
                refine WO.q rfl rfl rfl rfl (fun w' hE79 => (X.move ((hAL0.eq 0).trans ((congrFun hF67 0).trans ((hACr4.eq 0).trans ((congrFun hF37 0).trans ((hACs2.eq 0).trans (congrFun hF21 0)))))))) ?_
                refine WO.q rfl rfl rfl rfl (fun w' hE79 => (X.nilCheck rfl)) ?_
                refine WO.q rfl rfl rfl rfl (fun w' hE79 => (X.fieldAddrO (off := 13) rfl Try.underlying63 rfl rfl Try.sizeOf36)) ?_
                refine WO.q rfl rfl rfl rfl (fun w' hE79 => (X.loadO (hx.kept hE79 (fun e => hpg _ e rfl)) (Ext.refl _) rfl rfl Try.isAgg36)) ?_
                refine WO.q rfl rfl rfl rfl (fun w' hE79 => (X.move ((hAL0.eq 6).trans (congrFun hF67 6)))) ?_
                refine WO.q rfl rfl rfl rfl (fun w' hE79 => (X.moveI e8_L0)) ?_
                refine WO.q rfl rfl rfl rfl (fun w' hE79 => (X.idx oRw rfl rfl hjn Try.underlying36 Try.sizeOf40)) ?_
                refine WO.q rfl rfl rfl rfl (fun w' hE79 => (X.loadEl (Row.grown oRw hE79 hpm) (Ext.refl _) rfl hjn (flat_el Msg.bare_len hjn) Try.isAgg40 Try.sizeOf40)) ?_
                refine WO.l ?_
                refine LO.go rfl rfl (OW.lits (vs := [agg (Msg.bare (l[j]'hjn))]) (evp_cons rfl evp_nil) Try.underlying36 Try.sizeOf40 Try.zeroValue40 ⟨rfl, trivial⟩ rfl rfl rfl ?_ (by decide))
                intro v81 w80 ho83 hx82
                have := World.grownBy.size hx82
                have o1 : World.ownsRow w80 _ 40 17 v81 1 (Msg.bare (l[j]'hjn)) := ho83
                have hJ := (hI.ext (Ext.trans (Ext.drew _) hx82))
                have heJ := (Ext.trans (Ext.drew _) hx82)
                refine ⟨(grown_ext (grown_of_ext (Ext.drew _)) hx82), ?_⟩
                refine WO.l ?_
                refine LO.go rfl rfl (OW.append (bytes := 168) hJ.post.own (Row.of_own o1) (Msg.bare_one (l[j]'hjn)) rfl rfl Try.underlying36 Try.type40 rfl rfl rfl rfl (by decide) (by unfold maxLen; omega) (by omega) (Nat.zero_le _) ?_ (by decide))
                intro vo2 w84 ho86 hx85 hmvhx85
                have := World.grownBy.size hx85
                replace hx := (hx.ext (Ext.trans (Ext.drew _) hx82)).keptR hx85 (fun b e => by first | exact hpg b e)
                have hmA := hmvhx85
                have hxA := hx85
                have hoA := ho86
                refine ⟨(grown2 (grown_ext (grown_of_ext (Ext.drew _)) hx82) hx85), ?_⟩
                refine WO.q rfl rfl rfl rfl (fun w' hE79 => (X.nilCheck rfl)) ?_
                refine WO.q rfl rfl rfl rfl (fun w' hE79 => (X.fieldAddrO (off := 13) rfl Try.underlying63 rfl rfl Try.sizeOf36)) ?_
                refine WO.nil ?_
                refine WL.op rfl (OW.storeO hx (Nat.le_of_ble_eq_true rfl) rfl rfl (own_one hoA) Try.sizeOf36 ?_)
                intro w87 hx hx89
                have := World.grownBy.size hx89
                replace hx : Blk _ _ _ (Tb.cells (outN ((x.less i).took m) l j) vp vv vc vo2 vk) := hx
                have hTP := hJ.pushed (ms := [(l[j]'hjn)]) (by rw [bare_one1]; exact hoA) hmA hxA hx89 hx
                replace hTP := TP.pre heJ hTP
                have hob : outN ((x.less i).took m) l (j + 1) = { outN ((x.less i).took m) l j with post := (outN ((x.less i).took m) l j).post ++ [(l[j]'hjn)] } := by rw [outN_s hjn]; exact (if_neg q11).trans (if_pos ⟨q1, q3⟩)
                refine WL.nil ?_
                refine blk_n ?_
                refine thn_n ?_
                refine WF.region ?_
                refine WL.va rfl rfl rfl (X.moveI e8_L0) ?_
                refine WL.va rfl rfl rfl (X.add rfl rfl (w64 (by omega))) ?_
                refine WL.va rfl rfl rfl (X.assignI rfl) ?_
                refine WL.nil ?_
                exact thn_n ⟨_, (by omega), j + 1, rfl, rfl, (by repeat (first | exact hAL0 | refine Agree.put ?_ rfl | refine Agree.sub hACr4 rfl ?_ | refine Agree.sub hACs2 rfl ?_ | refine Agree.named hF67 ?_ | refine Agree.named hF37 ?_ | refine Agree.named hF21 ?_)), trivial, ⟨by omega, by rw [hob]; exact TP.join n3 c3 hTP⟩⟩
              · have gh3_77 := (of_decide_eq_false h3_77)
                have q3 : ¬ (l[j]'hjn).To ≤ 3 := gh3_77
                refine WF.skip ?_
                refine blk_n ?_
                refine thn_n ?_
                refine WF.region ?_
                refine WL.va rfl rfl rfl (X.moveI e8_L0) ?_
                refine WL.va rfl rfl rfl (X.add rfl rfl (w64 (by omega))) ?_
                refine WL.va rfl rfl rfl (X.assignI rfl) ?_
                refine WL.nil ?_
                first | exact thn_n ⟨_, (by omega), j + 1, rfl, rfl, (by repeat (first | exact hAL0 | refine Agree.put ?_ rfl | refine Agree.sub hACr4 rfl ?_ | refine Agree.sub hACs2 rfl ?_ | refine Agree.named hF67 ?_ | refine Agree.named hF37 ?_ | refine Agree.named hF21 ?_)), trivial, ⟨by omega, by rw [hob]; exact TP.join n3 c3 hTP⟩⟩ | exact thn_n ⟨_, (by omega), j + 1, rfl, rfl, (by repeat (first | exact hAL0 | refine Agree.put ?_ rfl | refine Agree.sub hACr4 rfl ?_ | refine Agree.sub hACs2 rfl ?_ | refine Agree.named hF67 ?_ | refine Agree.named hF37 ?_ | refine Agree.named hF21 ?_)), trivial, ⟨by omega, by rw [outN_s hjn, show (outN ((x.less i).took m) l j).out1 (l[j]'hjn) = outN ((x.less i).took m) l j from (if_neg q11).trans (if_neg (by omega))]; exact TP.join n3 c3 ⟨G3, fun _ _ e => e, ChgS.refl _ _, ⟨_, _, _, _, _, _, hI⟩⟩⟩⟩
            · have gh76 := (of_decide_eq_false h76)
              have q1 : ¬ 1 ≤ (l[j]'hjn).To := gh76
              refine WL.p rfl rfl rfl (congrArg some h76) ?_
              refine WL.p rfl rfl rfl (congrArg some h76) ?_
              refine WL.p rfl rfl rfl (congrArg some h76) ?_
              refine WL.p rfl rfl rfl (congrArg some h76) ?_
              refine WL.p rfl rfl rfl (congrArg some h76) ?_
              refine WL.p rfl rfl rfl (congrArg some h76) ?_
              refine WL.va rfl rfl rfl (X.pickF rfl h76 rfl) ?_
              refine WL.nil ?_
              refine thn_n ?_
              refine WF.cond_f rfl ?_
              refine WF.skip ?_
              refine blk_n ?_
              refine thn_n ?_
              refine WF.region ?_
              refine WL.va rfl rfl rfl (X.moveI e8_L0) ?_
              refine WL.va rfl rfl rfl (X.add rfl rfl (w64 (by omega))) ?_
              refine WL.va rfl rfl rfl (X.assignI rfl) ?_
              refine WL.nil ?_
              first | exact thn_n ⟨_, (by omega), j + 1, rfl, rfl, (by repeat (first | exact hAL0 | refine Agree.put ?_ rfl | refine Agree.sub hACr4 rfl ?_ | refine Agree.sub hACs2 rfl ?_ | refine Agree.named hF67 ?_ | refine Agree.named hF37 ?_ | refine Agree.named hF21 ?_)), trivial, ⟨by omega, by rw [hob]; exact TP.join n3 c3 hTP⟩⟩ | exact thn_n ⟨_, (by omega), j + 1, rfl, rfl, (by repeat (first | exact hAL0 | refine Agree.put ?_ rfl | refine Agree.sub hACr4 rfl ?_ | refine Agree.sub hACs2 rfl ?_ | refine Agree.named hF67 ?_ | refine Agree.named hF37 ?_ | refine Agree.named hF21 ?_)), trivial, ⟨by omega, by rw [outN_s hjn, show (outN ((x.less i).took m) l j).out1 (l[j]'hjn) = outN ((x.less i).took m) l j from (if_neg q11).trans (if_neg (by omega))]; exact TP.join n3 c3 ⟨G3, fun _ _ e => e, ChgS.refl _ _, ⟨_, _, _, _, _, _, hI⟩⟩⟩⟩
        · have gh1_68 := (of_decide_eq_false h1_68)
          have hje : l.length ≤ j := by have := gh1_68; omega
          refine WF.exit ?_
          refine thn_x ?_
          refine thn_x ?_
          refine blk_eq ?_
          refine fin_n ?_
          have hce : x.come i = outN ((x.less i).took m) l j := by
            rw [come_t hm qK, outN_all hje, hl, ← hae]
            rfl
          rw [hce]
          exact TP.pre heW (TP.join ng1 cg1 (TP.join (fun _ _ e => e) hcA1 (TP.join n2 c2 ⟨G3, n3, c3, ⟨_, _, _, _, _, _, hI⟩⟩)))

end Go.Proofs.Ytjmddkaokmdkbaa
