/- The walk of the document's reading of a directory. -/
import Derived.Test.YtpimnlgfhpnjnaaRnV
import Derived.Test.YtpimnlgfhpnjnaaRnW
namespace Go.Proofs.Ytpimnlgfhpnjnaa
open Go Go.RowKit Kf
set_option maxRecDepth 20000

/-- behind an append of a session whose bytes are newer -/
theorem SOwnT.appN {w w' : World} {B T : Nat} {v v' dv : Value} {E : List Se.SV} {s : Se.Ses} (h : SOwnT w B T v E) (hd : OwnB w T 5 dv s.Data) (hr : w'.ownsRow B 55 4 v' (E.length + 1) (E.flatMap Se.SV.c ++ Se.SV.c (s, dv))) (k : w.grownBy w' v.ownBlock) (hm : Kf.Moved w v v') (hB : B ≤ T) : Se.SOwn w' B v' (E ++ [(s, dv)]) := by
  have hdv : Apart dv v := fun b h1 h2 => by have := (hd.lt b h1).1; have := h.top.1 b h2; omega
  have hin : ∀ e ∈ E ++ [(s, dv)], e ∈ E ∨ e = (s, dv) := fun e he => by
    rcases List.mem_append.1 he with he | he
    · exact .inl he
    · rw [List.mem_singleton] at he; exact .inr he
  refine ⟨by simpa [List.flatMap_append] using hr, fun e he => ?_, fun e he => ?_, ?_⟩
  · rcases hin e he with he | he
    · exact (h.own.data e he).kept k (h.own.off e he).ne
    · subst he; exact own_mono (hd.kept k hdv.ne) hB
  · rcases hin e he with he | he
    · exact Apart.moved (h.own.off e he) (h.own.data e he) hm
    · subst he; exact Apart.moved hdv hd hm
  · rw [List.pairwise_append]
    refine ⟨h.own.pair, List.pairwise_singleton _ _, fun x hx y hy b h1 h2 => ?_⟩
    rw [List.mem_singleton] at hy; subst hy
    have := h.top.2 x hx b h1
    have := (hd.lt b h2).1
    omega
theorem SOwnT.nil (w : World) (B T : Nat) : SOwnT w B T nilS [] := ⟨Se.SOwn.nil _ _, (fun b hb => by cases hb), fun e he => by cases he⟩
theorem DOwn.zero (w : World) (B T : Nat) : DOwn w B T nilS nilS Dr.zero.m [] := ⟨⟨OwnR.nil _ _ _, fun b hb => by cases hb⟩, SOwnT.nil _ _ _, apart_nilL _, fun e he => by cases he⟩
section
variable {s s1 s2 : Pk.RS} {m1 : Mp} {S1 : List Se.Ses}
theorem end_alt (hA : (s1 = tM s ∧ m1 = mM s) ∨ (s1.bad = true ∧ (tM s).bad = true)) (hB : rdL rdS s1 = (S1, s2) ∨ (s2.bad = true ∧ (rdL rdS s1).2.bad = true)) : (s2 = tD s ∧ S1 = sD s ∧ m1 = mM s) ∨ (s2.bad = true ∧ (tD s).bad = true) := by
  rcases hA with ⟨e1, e2⟩ | ⟨h1, h2⟩
  · rcases hB with e | ⟨h3, h4⟩
    · rw [e1] at e
      exact .inl ⟨by unfold tD; rw [e], by unfold sD; rw [e], e2⟩
    · rw [e1] at h4; exact .inr ⟨h3, h4⟩
  · right
    refine ⟨?_, rdL_dead rdS_bad h2⟩
    rcases hB with e | ⟨h3, _⟩
    · have := rdL_dead (rd := rdS) rdS_bad h1
      rw [e] at this; exact this
    · exact h3
theorem getD_err (h : (s2 = tD s ∧ S1 = sD s ∧ m1 = mM s) ∨ (s2.bad = true ∧ (tD s).bad = true)) (he : s2.err ≠ 0) : getD s = (Dr.zero, s2.err) := by
  have e : s2.err = (tD s).err := by
    rcases h with ⟨e, _⟩ | ⟨h1, h2⟩
    · rw [e]
    · rw [err_bad h1, err_bad h2]
  unfold getD
  rw [if_pos (by rw [← e]; exact he), e]
theorem getD_fin (h : (s2 = tD s ∧ S1 = sD s ∧ m1 = mM s) ∨ (s2.bad = true ∧ (tD s).bad = true)) (he : s2.err = 0) : getD s = if codeOf (checkB m1) = 0 then (if risesB S1 = true then (⟨m1, S1⟩, 0) else (Dr.zero, 15)) else (Dr.zero, codeOf (checkB m1)) := by
  rcases h with ⟨e1, e2, e3⟩ | ⟨h1, _⟩
  · unfold getD
    rw [← e1, ← e2, ← e3, if_neg (not_not_intro he)]
    cases checkB m1 <;> simp [codeOf]
  · rw [err_bad h1] at he; exact absurd he (by decide)
end
def RisesUp (F : List Se.SV) (j : Nat) : Prop := ∀ i (hi : i < F.length), 1 ≤ i → i < j → (F[i - 1]'(by omega)).1.Client < F[i].1.Client
theorem risesB_up {F : List Se.SV} {j : Nat} (h : RisesUp F j) (hj : F.length ≤ j) : risesB (F.map Prod.fst) = true := by
  unfold risesB
  rw [List.all_eq_true]
  intro i hi
  have hlt : i < F.length := by simpa using hi
  by_cases h0 : i = 0
  · simp [h0]
  · have := h i hlt (by omega) (by omega)
    simp [List.getD_eq_getElem?_getD, List.getElem?_eq_getElem hlt, List.getElem?_eq_getElem (show i - 1 < F.length by omega), this]
theorem risesB_no {F : List Se.SV} {i : Nat} (hi : i < F.length) (h1 : 1 ≤ i) (h : ¬ (F[i - 1]'(by omega)).1.Client < F[i].1.Client) : ¬ risesB (F.map Prod.fst) = true := by
  unfold risesB
  rw [List.all_eq_true]
  intro hall
  have := hall i (by simpa using hi)
  simp [List.getD_eq_getElem?_getD, List.getElem?_eq_getElem hi, List.getElem?_eq_getElem (show i - 1 < F.length by omega), show ¬ i = 0 by omega] at this
  exact h this
theorem RisesUp.next {F : List Se.SV} {j : Nat} (h : RisesUp F j) (hj : j < F.length) (h1 : 1 ≤ j) (k : (F[j - 1]'(by omega)).1.Client < F[j].1.Client) : RisesUp F (j + 1) := fun i hi h2 h3 => by
  by_cases e : i = j
  · subst e; exact k
  · exact h i hi h2 (by omega)
set_option maxHeartbeats 8000000 in
theorem getDirR_ok (v : Value) (l : List UInt8) (w : World) (hb : Bytes w v l) (hl : l.length ≤ 1000000) : FnOk Try.prog 35 [v] w (fun x w' => (∃ v2 u2 F, x = .tuple #[agg ((getD ⟨l, false⟩).1.c v2 u2), i64 (getD ⟨l, false⟩).2] ∧ F.map Prod.fst = (getD ⟨l, false⟩).1.S ∧ DOwn w' w.heap.size w'.heap.size v2 u2 (getD ⟨l, false⟩).1.m F) ∧ Ext w w') := by
  refine FnOk.enterC (rs := [.cell 2 51, .tmp 3]) Try.func35 rfl Try.ntmps35 Try.results35 rfl rfl ?_
  refine WF.seq ?_
  refine WF.region ?_
  refine WL.op rfl (OW.allocO (cs := [.slice none 0 0, i64 0, i64 0, i64 0, i64 0, i64 0, i64 0, .slice none 0 0]) Try.zeroValue51 rfl ?_ (by decide))
  intro g2 w1 heg2 hlg2 hO2 hx2
  have := World.grownBy.size hx2
  refine WL.va rfl rfl rfl (X.assignI rfl) ?_
  refine WL.nil ?_
  refine thn_n ?_
  refine WF.seq ?_
  refine WF.region ?_
  refine WL.va rfl rfl rfl (X.move rfl) ?_
  have hz1 := ((show Ext w w1 from hx2)).size
  refine WL.c rfl rfl rfl (X.call Try.call68 (evl_cons rfl evl_nil)) (qRead_ok _ _ _ (Row.ext hb hx2) (by omega)) ?_
  rintro vr wr ⟨⟨vb, hp0⟩, hx4⟩
  have := World.grownBy.size hx4
  have hp1 := RRT.of hp0
  have hr0 := hp1.hr
  have hrl := hp1.low
  have hpT := hp1
  refine WL.va rfl rfl rfl (X.assign rfl) ?_
  refine WL.nil ?_
  refine thn_n ?_
  refine WF.seq ?_
  refine WF.region ?_
  refine WL.va rfl rfl rfl (X.move rfl) ?_
  refine WL.c rfl rfl rfl (X.call Try.call69 (evl_cons rfl evl_nil)) (readR_ok vr vb l _ _ _ _ hpT (Nat.le_refl _) hl) ?_
  rintro v5 wy ⟨⟨l1, s1, vR, rfl, hq1, oR, hX⟩, hx6⟩
  have := World.grownBy.size hx6
  replace hO2 := (hO2.ext hx4).keptR hx6 (fun b hb => by have := hrl b hb; omega)
  replace hpT := hq1
  have oRT := OwnT.of oR
  have hO2y := hO2
  have oRy := oRT
  have hwy := (grown_trans (Ext.trans hx2 hx4) hx6 (fun i hi => by have := hrl i hi; omega))
  refine WL.va rfl rfl rfl (X.buildF (P := Try.prog) (t := 51) (cs := (Dr.c ⟨mp6 l1 s1, []⟩ vR nilS)) (evp_cons rfl evp_nil) Try.type51 Try.underlying51 rfl rfl (fill51a _ _ _ _ _ _ _)) ?_
  refine WL.op rfl (OW.allocO (cs := [.slice none 0 0, i64 0, i64 0, i64 0, i64 0, i64 0, i64 0, .slice none 0 0]) Try.zeroValue51 rfl ?_ (by decide))
  intro g5 w7 heg5 hlg5 hO5 hx9
  have := World.grownBy.size hx9
  refine WL.op rfl (OW.storeOA hO5 rfl rfl rfl (Dr.c_one ⟨mp6 l1 s1, []⟩ ((oRT.ext hx9)).rd rfl) Try.sizeOf51 ?_)
  intro wz hO5 hx12
  have := World.grownBy.size hx12
  replace hO2 := (hO2.ext hx9).keptO hx12 (by omega)
  replace hpT := (hpT.ext hx9).keptO hx12 (by omega)
  replace oRT := (oRT.ext hx9).keptO hx12 (by omega)
  replace hO5 : Blk _ _ _ (Dr.c ⟨mp6 l1 s1, []⟩ vR nilS) := hO5
  have hzz : wr.heap.size ≤ wy.heap.size := by omega
  have t5 := hO5.lt
  refine WL.nil ?_
  refine thn_n ?_
  refine WF.seq ?_
  refine WF.region ?_
  refine WL.va rfl rfl rfl (X.move rfl) ?_
  have hxy := (Ext.store hx9 hx12 (by omega))
  have hln := (hpT).len
  have hnn := manyN_nn (six s1)
  have hle := int_le (six s1)
  refine WL.c rfl rfl rfl (X.call Try.call75 (evl_cons rfl evl_nil)) (manyR_ok vr vb l (six s1) _ _ _ hpT) ?_
  rintro v15 w14 ⟨rfl, hq1, hx16⟩
  have := World.grownBy.size hx16
  replace hO5 := hO5.keptR hx16 (fun b hb => by have := hr0 b hb; have := hrl b hb; first | omega | exact .inr hb | exact .inl (by omega))
  replace hpT := hq1
  have hmax : manyN (six s1) ≤ 1000000 := by
    unfold manyN
    split
    · rename_i hc; have := hc.2; omega
    · omega
  have hG : SinceR wy w14 (asRow vr).ownBlock := SinceR.kept ⟨grown_of_ext hxy⟩ hx16 (fun b hb => .inr hb)
  refine WL.va rfl rfl rfl (X.assignI rfl) ?_
  refine WL.nil ?_
  refine thn_n ?_
  refine WF.named (fun F17 hF18 => ?_)
  refine WF.cut (fun f' w' => ∃ (s2 : Pk.RS) (u : Value) (F : List Se.SV), Agree [0, 2, 3, 4, 5, 6, 11, 12, 13, 14, 15, 16, 17] f' F17 ∧ True ∧ (rdL rdS (six s1) = (F.map Prod.fst, s2) ∨ (s2.bad = true ∧ (rdL rdS (six s1)).2.bad = true)) ∧ F.length ≤ 1000000 ∧ RRT w' w1.heap.size wr.heap.size vr vb l s2 ∧ Blk w' g5 51 (Dr.c ⟨mp6 l1 s1, []⟩ vR u) ∧ SOwnT w' wz.heap.size w'.heap.size u F ∧ SinceR wy w' (asRow vr).ownBlock ∧ wz.heap.size ≤ w'.heap.size) ?_ ?_
  · refine WF.seq ?_
    refine WF.region ?_
    refine WL.va rfl rfl rfl (X.assignI rfl) ?_
    refine WL.nil ?_
    refine thn_n ?_
    refine WF.block ?_
    refine WF.named (fun F19 hF20 => ?_)
    refine WF.loopN (fun mL0 f' w' => ∃ (k : Nat) (u : Value) (F : List Se.SV), mL0 = (manyN (six s1)).toNat - k ∧ f' 7 = .int .i64 (k : Int) ∧ Agree [0, 2, 3, 4, 5, 6, 11, 12, 13, 14, 15, 16, 17] f' F19 ∧ True ∧ (k : Int) ≤ manyN (six s1) ∧ F.map Prod.fst = (rdN rdS (manyS (six s1)) k).1 ∧ RRT w' w1.heap.size wr.heap.size vr vb l (rdN rdS (manyS (six s1)) k).2 ∧ Blk w' g5 51 (Dr.c ⟨mp6 l1 s1, []⟩ vR u) ∧ SOwnT w' wz.heap.size w'.heap.size u F ∧ SinceR wy w' (asRow vr).ownBlock ∧ wz.heap.size ≤ w'.heap.size) ?_ ?_
    · exact ⟨_, 0, nilS, [], rfl, (congrFun hF20 7), (Agree.refl _ _), trivial, ⟨hnn, rfl, hpT, hO5, SOwnT.nil _ _ _, hG, by omega⟩⟩
    · rintro mL0 fL0 wL0 ⟨k, u, F, hmL0, e7_L0, hAL0, hwL0, ⟨hk0, hF, hpT, hO5, oFT, hG, hzL⟩⟩
      have hGz := World.grownBy.size hG.x
      obtain ⟨sk, hsk⟩ : ∃ sk, (rdN rdS (manyS (six s1)) k).2 = sk := ⟨_, rfl⟩
      have hFl : F.length = k := by have := congrArg List.length hF; rw [rdN_len, List.length_map] at this; exact this
      rw [hsk] at hpT
      have q5 := hO5.lt
      obtain ⟨⟨aL, hpL⟩, hr8, hr9⟩ := hpT
      have hpT : RRT wL0 w1.heap.size wr.heap.size vr vb l sk := ⟨⟨aL, hpL⟩, hr8, hr9⟩
      refine WF.seq ?_
      refine WF.seq ?_
      refine WF.region ?_
      refine WL.va rfl rfl rfl (X.moveI e7_L0) ?_
      refine WL.va rfl rfl rfl (X.moveI ((hAL0.eq 6).trans ((congrFun hF20 6).trans (congrFun hF18 6)))) ?_
      refine WL.va rfl rfl rfl (X.lss rfl rfl) ?_
      refine WL.va rfl rfl rfl (X.moveB rfl) ?_
      refine WL.split (j := 3) rfl (fun h22 => ?_) (fun h22 => ?_)
      · have gh22 := (of_decide_eq_true h22)
        have hkn : (k : Int) < manyN (six s1) := gh22
        refine WL.vg rfl (congrArg some h22) rfl rfl (X.move ((hAL0.eq 4).trans ((congrFun hF20 4).trans (congrFun hF18 4)))) ?_
        refine WL.vg rfl (congrArg some h22) rfl rfl (X.nilCheckV hpL.var rfl) ?_
        refine WL.vg rfl (congrArg some h22) rfl rfl (X.fieldAddr hpL.var rfl Try.underlying107 rfl rfl Try.sizeOf4) ?_
        refine WL.vg rfl (congrArg some h22) rfl rfl (X.loadF hpL.var (Ext.refl _) rfl rfl Try.isAgg4) ?_
        refine WL.vg rfl (congrArg some h22) rfl rfl (X.not rfl) ?_
        refine WL.va rfl rfl rfl (X.pickT rfl h22 rfl) ?_
        refine WL.nil ?_
        refine thn_n ?_
        refine WF.cond rfl (fun h0_24 => ?_) (fun h0_24 => ?_)
        · have gh0_24 := (nt h0_24)
          have hnb : sk.bad = false := by simpa using gh0_24
          refine WF.skip ?_
          refine thn_n ?_
          refine WF.seq ?_
          refine WF.block ?_
          refine WF.seq ?_
          refine WF.region ?_
          refine WL.va rfl rfl rfl (X.move ((hAL0.eq 4).trans ((congrFun hF20 4).trans (congrFun hF18 4)))) ?_
          refine WL.c rfl rfl rfl (X.call Try.call76 (evl_cons (v := vr) rfl evl_nil)) (qIntT hpT) ?_
          rintro v27 w26 ⟨rfl, hq1, hx28⟩
          have := World.grownBy.size hx28
          replace hO5 := hO5.keptR hx28 (fun b hb => by have := hr0 b hb; first | omega | exact .inr hb | exact .inl (by omega))
          replace hG := hG.kept hx28 (fun b hb => by have := hr0 b hb; first | omega | exact .inr hb | exact .inl (by omega))
          replace oFT := oFT.kept hx28 (fun b hb => by have := hr0 b hb; first | omega | exact .inr hb | exact .inl (by omega))
          replace hpT := hq1
          refine WL.va rfl rfl rfl (X.buildL (P := Try.prog) (t := 55) (cs := [i64 sk.int.1, i64 0, i64 0, nilS]) (evp_cons rfl evp_nil) Try.type55 Try.underlying55 rfl rfl ⟨rfl, trivial⟩ rfl) ?_
          refine WL.op rfl (OW.allocO (cs := [i64 0, i64 0, i64 0, .slice none 0 0]) Try.zeroValue55 rfl ?_ (by decide))
          intro g8 w29 heg8 hlg8 hO8 hx31
          have := World.grownBy.size hx31
          refine WL.op rfl (OW.storeOA hO8 rfl rfl rfl (by simp [Value.oneCell']) Try.sizeOf55 ?_)
          intro w33 hO8 hx35
          have := World.grownBy.size hx35
          replace hpT := (hpT.ext hx31).keptO hx35 (by omega)
          replace hO5 := (hO5.ext hx31).keptO hx35 (by omega)
          replace hG := (hG.ext hx31).keptO hx35 (by omega)
          replace oFT := (oFT.ext hx31).keptO hx35 (by omega)
          replace hO8 : Blk _ _ _ [i64 sk.int.1, i64 0, i64 0, nilS] := hO8
          refine WL.nil ?_
          refine thn_n ?_
          refine WF.seq ?_
          refine WF.region ?_
          refine WL.va rfl rfl rfl (X.move ((hAL0.eq 4).trans ((congrFun hF20 4).trans (congrFun hF18 4)))) ?_
          refine WL.c rfl rfl rfl (X.call Try.call76 (evl_cons (v := vr) rfl evl_nil)) (qIntT hpT) ?_
          rintro v38 w37 ⟨rfl, hq1, hx39⟩
          have := World.grownBy.size hx39
          replace hO5 := hO5.keptR hx39 (fun b hb => by have := hr0 b hb; first | omega | exact .inr hb | exact .inl (by omega))
          replace hG := hG.kept hx39 (fun b hb => by have := hr0 b hb; first | omega | exact .inr hb | exact .inl (by omega))
          replace oFT := oFT.kept hx39 (fun b hb => by have := hr0 b hb; first | omega | exact .inr hb | exact .inl (by omega))
          replace hO8 := hO8.keptR hx39 (fun b hb => by have := hr0 b hb; first | omega | exact .inr hb | exact .inl (by omega))
          replace hpT := hq1
          refine WL.va rfl rfl rfl (X.fieldAddrO (off := 1) rfl Try.underlying55 rfl rfl Try.sizeOf3) ?_
          refine WL.op rfl (OW.storeO hO8 (Nat.le_of_ble_eq_true rfl) rfl rfl rfl Try.sizeOf3 ?_)
          intro w40 hO8 hx42
          have := World.grownBy.size hx42
          replace hpT := hpT.keptO hx42 (by omega)
          replace hO5 := hO5.keptO hx42 (by omega)
          replace hG := hG.keptO hx42 (by omega)
          replace oFT := oFT.keptO hx42 (by omega)
          replace hO8 : Blk _ _ _ [i64 sk.int.1, i64 sk.int.2.int.1, i64 0, nilS] := hO8
          refine WL.nil ?_
          refine thn_n ?_
          refine WF.seq ?_
          refine WF.region ?_
          refine WL.va rfl rfl rfl (X.move ((hAL0.eq 4).trans ((congrFun hF20 4).trans (congrFun hF18 4)))) ?_
          refine WL.c rfl rfl rfl (X.call Try.call76 (evl_cons (v := vr) rfl evl_nil)) (qIntT hpT) ?_
          rintro v45 w44 ⟨rfl, hq1, hx46⟩
          have := World.grownBy.size hx46
          replace hO5 := hO5.keptR hx46 (fun b hb => by have := hr0 b hb; first | omega | exact .inr hb | exact .inl (by omega))
          replace hG := hG.kept hx46 (fun b hb => by have := hr0 b hb; first | omega | exact .inr hb | exact .inl (by omega))
          replace oFT := oFT.kept hx46 (fun b hb => by have := hr0 b hb; first | omega | exact .inr hb | exact .inl (by omega))
          replace hO8 := hO8.keptR hx46 (fun b hb => by have := hr0 b hb; first | omega | exact .inr hb | exact .inl (by omega))
          replace hpT := hq1
          refine WL.va rfl rfl rfl (X.fieldAddrO (off := 2) rfl Try.underlying55 rfl rfl Try.sizeOf53) ?_
          refine WL.va rfl rfl rfl (X.fieldAddrP (off := 0) rfl Try.underlying53 rfl rfl Try.sizeOf28) ?_
          refine WL.op rfl (OW.storeO hO8 (Nat.le_of_ble_eq_true rfl) rfl rfl rfl Try.sizeOf28 ?_)
          intro w47 hO8 hx49
          have := World.grownBy.size hx49
          replace hpT := hpT.keptO hx49 (by omega)
          replace hO5 := hO5.keptO hx49 (by omega)
          replace hG := hG.keptO hx49 (by omega)
          replace oFT := oFT.keptO hx49 (by omega)
          replace hO8 : Blk _ _ _ [i64 sk.int.1, i64 sk.int.2.int.1, i64 sk.int.2.int.2.int.1, nilS] := hO8
          refine WL.nil ?_
          refine thn_n ?_
          refine WF.seq ?_
          refine WF.region ?_
          refine WL.va rfl rfl rfl (X.move ((hAL0.eq 4).trans ((congrFun hF20 4).trans (congrFun hF18 4)))) ?_
          have hzB := (hG).x.size
          refine WL.c rfl rfl rfl (X.call Try.call77 (evl_cons (v := vr) rfl evl_nil)) (qBlobT hpT) ?_
          rintro vB w51 ⟨oB, hq1, hx52⟩
          have := World.grownBy.size hx52
          replace hO5 := hO5.keptR hx52 (fun b hb => by have := hr0 b hb; first | omega | exact .inr hb | exact .inl (by omega))
          replace hG := hG.kept hx52 (fun b hb => by have := hr0 b hb; first | omega | exact .inr hb | exact .inl (by omega))
          replace oFT := oFT.kept hx52 (fun b hb => by have := hr0 b hb; first | omega | exact .inr hb | exact .inl (by omega))
          replace hO8 := hO8.keptR hx52 (fun b hb => by have := hr0 b hb; first | omega | exact .inr hb | exact .inl (by omega))
          replace hpT := hq1
          have oBT := OwnT.of oB
          have hbB := Bytes.of_own oB
          refine WL.va rfl rfl rfl (X.fieldAddrO (off := 2) rfl Try.underlying55 rfl rfl Try.sizeOf53) ?_
          refine WL.va rfl rfl rfl (X.fieldAddrP (off := 1) rfl Try.underlying53 rfl rfl Try.sizeOf46) ?_
          refine WL.op rfl (OW.storeO hO8 (Nat.le_of_ble_eq_true rfl) rfl rfl (own_one oBT.own) Try.sizeOf46 ?_)
          intro w53 hO8 hx55
          have := World.grownBy.size hx55
          replace hpT := hpT.keptO hx55 (by omega)
          replace hO5 := hO5.keptO hx55 (by omega)
          replace hG := hG.keptO hx55 (by omega)
          replace oFT := oFT.keptO hx55 (by omega)
          replace oBT := oBT.keptO hx55 (by omega)
          replace hO8 : Blk _ _ _ [i64 sk.int.1, i64 sk.int.2.int.1, i64 sk.int.2.int.2.int.1, vB] := hO8
          refine WL.nil ?_
          refine thn_n ?_
          refine WF.region ?_
          refine WL.va rfl rfl rfl (X.fieldAddrO (off := 7) ((hAL0.eq 5).trans ((congrFun hF20 5).trans (congrFun hF18 5))) Try.underlying51 rfl rfl Try.sizeOf49) ?_
          refine WL.va rfl rfl rfl (X.loadO hO5 (Ext.refl _) rfl rfl Try.isAgg49) ?_
          refine WL.va rfl rfl rfl (X.loadOA hO8 (Ext.refl _) rfl rfl Try.isAgg55 Try.sizeOf55) ?_
          refine WL.op rfl (OW.lits (vs := [agg (Se.SV.c ((⟨sk.int.1, sk.int.2.int.1, sk.int.2.int.2.int.1, sk.int.2.int.2.int.2.blob.1⟩ : Se.Ses), vB))]) (evp_cons rfl evp_nil) Try.underlying49 Try.sizeOf55 Try.zeroValue55 ⟨rfl, trivial⟩ rfl rfl rfl ?_ (by decide))
          intro v58 w57 ho60 hx59
          have := World.grownBy.size hx59
          have o1 : World.ownsRow w57 _ 55 4 v58 1 (Se.SV.c ((⟨sk.int.1, sk.int.2.int.1, sk.int.2.int.2.int.1, sk.int.2.int.2.int.2.blob.1⟩ : Se.Ses), vB)) := ho60
          have hovX := (oFT.ext hx59)
          have hov := hovX.own.row
          have hoB2 : OwnB w57 wL0.heap.size 5 vB (⟨sk.int.1, sk.int.2.int.1, sk.int.2.int.2.int.1, sk.int.2.int.2.int.2.blob.1⟩ : Se.Ses).Data := own_mono ((oBT.ext hx59)).own (by omega)
          refine WL.op rfl (OW.append (bytes := 48) hov (Row.of_own o1) (Se.SV.c_one (e := ((⟨sk.int.1, sk.int.2.int.1, sk.int.2.int.2.int.1, sk.int.2.int.2.int.2.blob.1⟩ : Se.Ses), vB)) hbB) rfl rfl Try.underlying49 Try.type55 rfl rfl rfl rfl (by decide) (by unfold maxLen; omega) (by omega) (by omega) ?_ (by decide))
          intro u2 w61 ho63 hx62 hmvhx62
          have := World.grownBy.size hx62
          replace hpT := (hpT.ext hx59).kept hx62 (fun b hb => by have h1 := (hov.lt b hb).1; have h3 := hovX.top.1 b hb; first | omega | exact .inl (by omega))
          replace hO5 := (hO5.ext hx59).keptR hx62 (fun b hb => by have h1 := (hov.lt b hb).1; have h3 := hovX.top.1 b hb; first | omega | exact .inl (by omega))
          replace hG := (hG.ext hx59).kept hx62 (fun b hb => by have h1 := (hov.lt b hb).1; have h3 := hovX.top.1 b hb; first | omega | exact .inl (by omega))
          replace hO8 := (hO8.ext hx59).keptR hx62 (fun b hb => by have h1 := (hov.lt b hb).1; have h3 := hovX.top.1 b hb; first | omega | exact .inl (by omega))
          have ho2 := hovX.appN hoB2 ho63 hx62 hmvhx62 (by omega)
          replace oFT := SOwnT.of ho2
          refine WL.va rfl rfl rfl (X.fieldAddrO (off := 7) ((hAL0.eq 5).trans ((congrFun hF20 5).trans (congrFun hF18 5))) Try.underlying51 rfl rfl Try.sizeOf49) ?_
          refine WL.op rfl (OW.storeO hO5 (Nat.le_of_ble_eq_true rfl) rfl rfl (own_one ho2.row) Try.sizeOf49 ?_)
          intro w65 hO5 hx67
          have := World.grownBy.size hx67
          replace hpT := hpT.keptO hx67 (by omega)
          replace hG := hG.keptO hx67 (by omega)
          replace oFT := oFT.keptO hx67 (by omega)
          replace hO8 := hO8.keptO hx67 (by omega)
          replace hO5 : Blk _ _ _ (Dr.c ⟨mp6 l1 s1, []⟩ vR u2) := hO5
          refine WL.nil ?_
          refine blk_n ?_
          refine thn_n ?_
          refine WF.region ?_
          refine WL.va rfl rfl rfl (X.moveI e7_L0) ?_
          refine WL.va rfl rfl rfl (X.add rfl rfl (w64 (by omega))) ?_
          refine WL.va rfl rfl rfl (X.assignI rfl) ?_
          refine WL.nil ?_
          exact thn_n ⟨_, (by omega), k + 1, u2, F ++ [((⟨sk.int.1, sk.int.2.int.1, sk.int.2.int.2.int.1, sk.int.2.int.2.int.2.blob.1⟩ : Se.Ses), vB)], rfl, rfl, (by repeat (first | exact hAL0 | refine Agree.put ?_ rfl | refine Agree.named hF20 ?_ | refine Agree.named hF18 ?_)), trivial, ⟨by omega, by rw [rdN_succ, rdS_eq, List.map_append, hF, hsk]; rfl, by rw [rdN_succ, rdS_eq, hsk]; exact ⟨hpT, hO5, SOwnT.of (oFT).own, hG, by omega⟩⟩⟩
        · have gh0_24 := (nf h0_24)
          have hx : manyN (six s1) ≤ (k : Int) ∨ sk.bad = true := .inr (by simpa using gh0_24)
          refine WF.exit ?_
          refine thn_x ?_
          refine thn_x ?_
          refine blk_eq ?_
          refine thn_n ?_
          exact ⟨_, _, _, (by repeat (first | exact (Agree.refl _ F17) | refine Agree.put ?_ rfl | refine Agree.sub hAL0 rfl ?_ | refine Agree.named hF20 ?_ | refine Agree.named hF18 ?_)), trivial, ⟨by have := many_end rdS_bad hk0 (by rw [hsk]; exact hx); rw [hsk] at this; rcases this with e | e; exact .inl (e.trans (Prod.ext hF.symm hsk)); exact .inr e, by omega, hpT, hO5, SOwnT.of (oFT).own, hG, by omega⟩⟩
      · have gh22 := (of_decide_eq_false h22)
        have hx : manyN (six s1) ≤ (k : Int) ∨ sk.bad = true := .inl (by have := gh22; omega)
        refine WL.p rfl rfl rfl (congrArg some h22) ?_
        refine WL.p rfl rfl rfl (congrArg some h22) ?_
        refine WL.p rfl rfl rfl (congrArg some h22) ?_
        refine WL.p rfl rfl rfl (congrArg some h22) ?_
        refine WL.p rfl rfl rfl (congrArg some h22) ?_
        refine WL.va rfl rfl rfl (X.pickF rfl h22 rfl) ?_
        refine WL.nil ?_
        refine thn_n ?_
        refine WF.cond_f rfl ?_
        refine WF.exit ?_
        refine thn_x ?_
        refine thn_x ?_
        refine blk_eq ?_
        refine thn_n ?_
        exact ⟨_, _, _, (by repeat (first | exact (Agree.refl _ F17) | refine Agree.put ?_ rfl | refine Agree.sub hAL0 rfl ?_ | refine Agree.named hF20 ?_ | refine Agree.named hF18 ?_)), trivial, ⟨by have := many_end rdS_bad hk0 (by rw [hsk]; exact hx); rw [hsk] at this; rcases this with e | e; exact .inl (e.trans (Prod.ext hF.symm hsk)); exact .inr e, by omega, hpT, hO5, SOwnT.of (oFT).own, hG, by omega⟩⟩
  · rintro fCs4 wCs4 ⟨s2, u, F, hACs4, hwCs4, ⟨hB, hFl, hpT, hO5, oFT, hG, hzL⟩⟩
    have hGz := World.grownBy.size hG.x
    have hO2 := hO2y.kept hG.x (fun e => by have := hrl _ e; omega)
    have oRT := oRy.kept hG.x (fun b hb => by have := hr0 b hb; omega)
    have q5 := hO5.lt
    have q2 := hO2.lt
    refine WF.seq ?_
    refine WF.region ?_
    refine WL.va rfl rfl rfl (X.move ((hACs4.eq 4).trans (congrFun hF18 4))) ?_
    have hAlt := end_alt (s := ⟨l, false⟩) hX hB
    refine WL.c rfl rfl rfl (X.call Try.call70 (evl_cons rfl evl_nil)) (qEndT hpT) ?_
    rintro v71 w70 ⟨rfl, hx72⟩
    have := World.grownBy.size hx72
    refine WL.va rfl rfl rfl (X.assignI rfl) ?_
    refine WL.nil ?_
    refine thn_n ?_
    refine WF.seq ?_
    refine WF.seq ?_
    refine WF.region ?_
    refine WL.va rfl rfl rfl (X.moveI rfl) ?_
    refine WL.va rfl rfl rfl (X.eql rfl rfl) ?_
    refine WL.nil ?_
    refine thn_n ?_
    refine WF.cond rfl (fun h1_73 => ?_) (fun h1_73 => ?_)
    · have gh1_73 := (of_decide_eq_true h1_73)
      have hE0 : s2.err = 0 := gh1_73
      refine WF.region ?_
      refine WL.va rfl rfl rfl (X.fieldAddrO (off := 0) ((hACs4.eq 5).trans (congrFun hF18 5)) Try.underlying51 rfl rfl Try.sizeOf26) ?_
      refine WL.va rfl rfl rfl (X.loadOP hO5 hx72 rfl rfl rfl Try.isAgg26 Try.sizeOf26) ?_
      refine WL.c rfl rfl rfl (X.call Try.call12 (evl_cons rfl evl_nil)) (checkRef_eq (m := mp6 l1 s1) ((oRT.ext hx72)).rd (mp6_E _ _)) ?_
      rintro v76 w75 ⟨rfl, hx77⟩
      have := World.grownBy.size hx77
      refine WL.va rfl rfl rfl (X.assignI rfl) ?_
      refine WL.nil ?_
      refine thn_n ?_
      refine WF.seq ?_
      refine WF.seq ?_
      refine WF.region ?_
      refine WL.va rfl rfl rfl (X.moveI rfl) ?_
      refine WL.va rfl rfl rfl (X.neq rfl rfl) ?_
      refine WL.nil ?_
      refine thn_n ?_
      refine WF.cond rfl (fun h2_78 => ?_) (fun h2_78 => ?_)
      · have gh2_78 := (of_decide_eq_true h2_78)
        have hF := gh2_78
        refine WF.seq ?_
        refine WF.region ?_
        refine WL.va rfl rfl rfl (X.build evp_nil Try.type51 Try.underlying51 rfl rfl trivial rfl) ?_
        refine WL.va rfl rfl rfl (X.moveI rfl) ?_
        refine WL.op rfl (OW.storeOA (hO2.ext (Ext.trans hx72 hx77)) ((hACs4.eq 2).trans (congrFun hF18 2)) rfl rfl (by simp [Value.oneCell']) Try.sizeOf51 ?_)
        intro w80 hO2 hx82
        have := World.grownBy.size hx82
        replace oFT := (oFT.ext (Ext.trans hx72 hx77)).keptO hx82 (by omega)
        replace oRT := (oRT.ext (Ext.trans hx72 hx77)).keptO hx82 (by omega)
        replace hO5 := (hO5.ext (Ext.trans hx72 hx77)).keptO hx82 (by omega)
        refine WL.va rfl rfl rfl (X.assignI rfl) ?_
        refine WL.nil ?_
        refine thn_n ?_
        refine WF.ret ?_
        refine thn_r ?_
        refine finC_r (vs := [_, _]) ⟨⟨_, ((hACs4.eq 2).trans (congrFun hF18 2)), readO hO2 Try.isAgg51 Try.sizeOf51⟩, rfl, trivial⟩ ?_
        first | (rw [getD_fin hAlt hE0, if_neg hF]; exact ⟨⟨nilS, nilS, [], rfl, rfl, DOwn.zero _ _ _⟩, (Ext.store (Ext.trans (Ext.trans (grown_trans hwy hG.x (fun i hi => by have := hrl i hi; omega)) hx72) hx77) hx82 (by omega))⟩) | (rw [getD_err hAlt hE0]; exact ⟨⟨nilS, nilS, [], rfl, rfl, DOwn.zero _ _ _⟩, (Ext.store (Ext.trans (Ext.trans (grown_trans hwy hG.x (fun i hi => by have := hrl i hi; omega)) hx72) hx77) hx82 (by omega))⟩)
      · have gh2_78 := (Decidable.of_not_not (of_decide_eq_false h2_78))
        have hF := gh2_78
        refine WF.skip ?_
        refine thn_n ?_
        refine WF.seq ?_
        refine WF.seq ?_
        refine WF.region ?_
        refine WL.va rfl rfl rfl (X.assignI rfl) ?_
        refine WL.nil ?_
        refine thn_n ?_
        refine WF.block ?_
        refine WF.named (fun F84 hF85 => ?_)
        refine WF.loopN (fun mL1 f' w' => ∃ (j : Nat), mL1 = F.length - j ∧ f' 10 = .int .i64 (j : Int) ∧ Agree [0, 2, 4, 5, 6, 9, 11, 12, 13, 14, 15, 16, 17, 50, 51, 52, 53, 54, 55, 56, 57, 58] f' F84 ∧ Ext wCs4 w' ∧ 1 ≤ j ∧ (j ≤ F.length ∨ j = 1) ∧ RisesUp F j) ?_ ?_
        · exact ⟨_, 1, rfl, (congrFun hF85 10), (Agree.refl _ _), (Ext.trans hx72 hx77), ⟨Nat.le_refl _, .inr rfl, fun i _ h1 h2 => by omega⟩⟩
        · rintro mL1 fL1 wL1 ⟨j, hmL1, e10_L1, hAL1, hwL1, ⟨hj1, hj2, hup⟩⟩
          have := World.grownBy.size hwL1
          refine WF.seq ?_
          refine WF.seq ?_
          refine WF.region ?_
          refine WL.va rfl rfl rfl (X.moveI e10_L1) ?_
          refine WL.va rfl rfl rfl (X.fieldAddrO (off := 7) ((hAL1.eq 5).trans ((congrFun hF85 5).trans ((hACs4.eq 5).trans (congrFun hF18 5)))) Try.underlying51 rfl rfl Try.sizeOf49) ?_
          refine WL.va rfl rfl rfl (X.loadO hO5 hwL1 rfl rfl Try.isAgg49) ?_
          refine WL.va rfl rfl rfl (X.len (oFT.rd) rfl Try.underlying49) ?_
          refine WL.va rfl rfl rfl (X.lss rfl rfl) ?_
          refine WL.nil ?_
          refine thn_n ?_
          refine WF.cond rfl (fun h3_86 => ?_) (fun h3_86 => ?_)
          · have gh3_86 := (of_decide_eq_true h3_86)
            have hj : j < F.length := by have := gh3_86; omega
            refine WF.skip ?_
            refine thn_n ?_
            refine WF.seq ?_
            refine WF.block ?_
            refine WF.seq ?_
            refine WF.drawn (.q 0 (.q 1 (.q 2 (.q 3 (.q 4 (.q 5 (.q 6 (.q 7 (.q 8 (.q 9 (.q 10 (.q 11 (.q 12 (.q 13 .nil)))))))))))))) (fun w' => Ext wL1 w') 14 (by kernel_rfl) (by kernel_rfl) (Ext.drew _) ?_
            have := World.grownBy.size (Ext.drew wL1)
            refine WO.q rfl rfl rfl rfl (fun w' hE88 => (X.fieldAddrO (off := 7) ((hAL1.eq 5).trans ((congrFun hF85 5).trans ((hACs4.eq 5).trans (congrFun hF18 5)))) Try.underlying51 rfl rfl Try.sizeOf49)) ?_
            refine WO.q rfl rfl rfl rfl (fun w' hE88 => (X.loadO hO5 (Ext.trans hwL1 hE88) rfl rfl Try.isAgg49)) ?_
            refine WO.q rfl rfl rfl rfl (fun w' hE88 => (X.moveI e10_L1)) ?_
            refine WO.q rfl rfl rfl rfl (fun w' hE88 => (X.sub rfl rfl (show IntKind.i64.wrap ((j : Int) - 1) = ((j - 1 : Nat) : Int) from by rw [w64 (by omega)]; omega))) ?_
            refine WO.q rfl rfl rfl rfl (fun w' hE88 => (X.idx (oFT.rd) rfl rfl (by omega) Try.underlying49 Try.sizeOf55)) ?_
            refine WO.q rfl rfl rfl rfl (fun w' hE88 => (X.fieldAddrA rfl Try.underlying55 rfl rfl Try.sizeOf3)) ?_
            refine WO.q rfl rfl rfl rfl (fun w' hE88 => (X.loadE (oFT.rd) (Ext.trans hwL1 hE88) rfl (by omega) ((Se.SRow.get (k := j - 1) (by omega) (by decide)).trans rfl) Try.isAgg3)) ?_
            refine WO.q rfl rfl rfl rfl (fun w' hE88 => (X.fieldAddrO (off := 7) ((hAL1.eq 5).trans ((congrFun hF85 5).trans ((hACs4.eq 5).trans (congrFun hF18 5)))) Try.underlying51 rfl rfl Try.sizeOf49)) ?_
            refine WO.q rfl rfl rfl rfl (fun w' hE88 => (X.loadO hO5 (Ext.trans hwL1 hE88) rfl rfl Try.isAgg49)) ?_
            refine WO.q rfl rfl rfl rfl (fun w' hE88 => (X.moveI e10_L1)) ?_
            refine WO.q rfl rfl rfl rfl (fun w' hE88 => (X.idx (oFT.rd) rfl rfl (by omega) Try.underlying49 Try.sizeOf55)) ?_
            refine WO.q rfl rfl rfl rfl (fun w' hE88 => (X.fieldAddrA rfl Try.underlying55 rfl rfl Try.sizeOf3)) ?_
            refine WO.q rfl rfl rfl rfl (fun w' hE88 => (X.loadE (oFT.rd) (Ext.trans hwL1 hE88) rfl (by omega) ((Se.SRow.get (k := j) (by omega) (by decide)).trans rfl) Try.isAgg3)) ?_
            refine WO.q rfl rfl rfl rfl (fun w' hE88 => (X.geq rfl rfl)) ?_
            refine WO.nil ?_
            refine WL.nil ?_
            refine thn_n ?_
            refine WF.cond rfl (fun h4_89 => ?_) (fun h4_89 => ?_)
            · have gh4_89 := (of_decide_eq_true h4_89)
              have hge : ¬ (F[j - 1]'(by omega)).1.Client < F[j].1.Client := by have := gh4_89; omega
              refine WF.seq ?_
              refine WF.region ?_
              refine WL.va rfl rfl rfl (X.build evp_nil Try.type51 Try.underlying51 rfl rfl trivial rfl) ?_
              refine WL.op rfl (OW.storeOA (hO2.ext (Ext.trans hwL1 (Ext.drew _))) ((hAL1.eq 2).trans ((congrFun hF85 2).trans ((hACs4.eq 2).trans (congrFun hF18 2)))) rfl rfl (by simp [Value.oneCell']) Try.sizeOf51 ?_)
              intro w91 hO2 hx93
              have := World.grownBy.size hx93
              replace oFT := (oFT.ext (Ext.trans hwL1 (Ext.drew _))).keptO hx93 (by omega)
              replace oRT := (oRT.ext (Ext.trans hwL1 (Ext.drew _))).keptO hx93 (by omega)
              replace hO5 := (hO5.ext (Ext.trans hwL1 (Ext.drew _))).keptO hx93 (by omega)
              refine WL.va rfl rfl rfl (X.assignI rfl) ?_
              refine WL.nil ?_
              refine thn_n ?_
              refine WF.ret ?_
              refine blk_r ?_
              refine thn_r ?_
              refine thn_r ?_
              refine blk_r ?_
              refine thn_r ?_
              refine finC_r (vs := [_, _]) ⟨⟨_, ((hAL1.eq 2).trans ((congrFun hF85 2).trans ((hACs4.eq 2).trans (congrFun hF18 2)))), readO hO2 Try.isAgg51 Try.sizeOf51⟩, rfl, trivial⟩ ?_
              rw [getD_fin hAlt hE0, if_pos hF, if_neg (risesB_no hj hj1 hge)]; exact ⟨⟨nilS, nilS, [], rfl, rfl, DOwn.zero _ _ _⟩, (Ext.store (Ext.trans (Ext.trans (grown_trans hwy hG.x (fun i hi => by have := hrl i hi; omega)) hwL1) (Ext.drew _)) hx93 (by omega))⟩
            · have gh4_89 := (of_decide_eq_false h4_89)
              have hlt : (F[j - 1]'(by omega)).1.Client < F[j].1.Client := by have := gh4_89; omega
              refine WF.skip ?_
              refine blk_n ?_
              refine thn_n ?_
              refine WF.region ?_
              refine WL.va rfl rfl rfl (X.moveI e10_L1) ?_
              refine WL.va rfl rfl rfl (X.add rfl rfl (w64 (by omega))) ?_
              refine WL.va rfl rfl rfl (X.assignI rfl) ?_
              refine WL.nil ?_
              exact thn_n ⟨_, (by omega), j + 1, rfl, rfl, (by repeat (first | exact hAL1 | refine Agree.put ?_ rfl | refine Agree.sub hACs4 rfl ?_ | refine Agree.named hF85 ?_ | refine Agree.named hF18 ?_)), (Ext.trans hwL1 (Ext.drew _)), ⟨by omega, .inl (by omega), hup.next hj hj1 hlt⟩⟩
          · have gh3_86 := (of_decide_eq_false h3_86)
            have hj : F.length ≤ j := by have := gh3_86; omega
            refine WF.exit ?_
            refine thn_x ?_
            refine thn_x ?_
            refine blk_eq ?_
            refine thn_n ?_
            refine WF.seq ?_
            refine WF.region ?_
            refine WL.va rfl rfl rfl (X.loadOA hO5 hwL1 ((hAL1.eq 5).trans ((congrFun hF85 5).trans ((hACs4.eq 5).trans (congrFun hF18 5)))) rfl Try.isAgg51 Try.sizeOf51) ?_
            refine WL.op rfl (OW.storeOA (hO2.ext hwL1) ((hAL1.eq 2).trans ((congrFun hF85 2).trans ((hACs4.eq 2).trans (congrFun hF18 2)))) rfl rfl (Dr.c_one ⟨mp6 l1 s1, []⟩ ((oRT.ext hwL1)).rd (own_one ((oFT.ext hwL1)).own.row)) Try.sizeOf51 ?_)
            intro w95 hO2 hx97
            have := World.grownBy.size hx97
            replace oFT := (oFT.ext hwL1).keptO hx97 (by omega)
            replace oRT := (oRT.ext hwL1).keptO hx97 (by omega)
            replace hO5 := (hO5.ext hwL1).keptO hx97 (by omega)
            refine WL.va rfl rfl rfl (X.assignI rfl) ?_
            refine WL.nil ?_
            refine thn_n ?_
            refine WF.ret ?_
            refine finC_r (vs := [_, _]) ⟨⟨_, ((hAL1.eq 2).trans ((congrFun hF85 2).trans ((hACs4.eq 2).trans (congrFun hF18 2)))), readO hO2 Try.isAgg51 Try.sizeOf51⟩, rfl, trivial⟩ ?_
            rw [getD_fin hAlt hE0, if_pos hF, if_pos (risesB_up hup hj)]; exact ⟨⟨vR, u, F, rfl, rfl, ⟨(by show RgT _ _ _ vR (mp6 l1 s1).R; rw [mp6_R]; exact ownT_up oRT (by omega) (by omega)), (oFT).mono (by omega) (by omega), apart_S (oRT) (oFT) (.inl (by omega))⟩⟩, (Ext.store (Ext.trans (grown_trans hwy hG.x (fun i hi => by have := hrl i hi; omega)) hwL1) hx97 (by omega))⟩
    · have gh1_73 := (of_decide_eq_false h1_73)
      have hE0 : ¬ s2.err = 0 := gh1_73
      refine WF.skip ?_
      refine thn_n ?_
      refine WF.seq ?_
      refine WF.seq ?_
      refine WF.region ?_
      refine WL.va rfl rfl rfl (X.moveI rfl) ?_
      refine WL.va rfl rfl rfl (X.neq rfl rfl) ?_
      refine WL.nil ?_
      refine thn_n ?_
      refine WF.cond rfl (fun h2_99 => ?_) (fun h2_99 => ?_)
      · have gh2_99 := (of_decide_eq_true h2_99)
        have hF := gh2_99
        refine WF.seq ?_
        refine WF.region ?_
        refine WL.va rfl rfl rfl (X.build evp_nil Try.type51 Try.underlying51 rfl rfl trivial rfl) ?_
        refine WL.va rfl rfl rfl (X.moveI rfl) ?_
        refine WL.op rfl (OW.storeOA (hO2.ext hx72) ((hACs4.eq 2).trans (congrFun hF18 2)) rfl rfl (by simp [Value.oneCell']) Try.sizeOf51 ?_)
        intro w101 hO2 hx103
        have := World.grownBy.size hx103
        replace oFT := (oFT.ext hx72).keptO hx103 (by omega)
        replace oRT := (oRT.ext hx72).keptO hx103 (by omega)
        replace hO5 := (hO5.ext hx72).keptO hx103 (by omega)
        refine WL.va rfl rfl rfl (X.assignI rfl) ?_
        refine WL.nil ?_
        refine thn_n ?_
        refine WF.ret ?_
        refine thn_r ?_
        refine finC_r (vs := [_, _]) ⟨⟨_, ((hACs4.eq 2).trans (congrFun hF18 2)), readO hO2 Try.isAgg51 Try.sizeOf51⟩, rfl, trivial⟩ ?_
        first | (rw [getD_fin hAlt hE0, if_neg hF]; exact ⟨⟨nilS, nilS, [], rfl, rfl, DOwn.zero _ _ _⟩, (Ext.store (Ext.trans (grown_trans hwy hG.x (fun i hi => by have := hrl i hi; omega)) hx72) hx103 (by omega))⟩) | (rw [getD_err hAlt hE0]; exact ⟨⟨nilS, nilS, [], rfl, rfl, DOwn.zero _ _ _⟩, (Ext.store (Ext.trans (grown_trans hwy hG.x (fun i hi => by have := hrl i hi; omega)) hx72) hx103 (by omega))⟩)
      · have gh2_99 := (Decidable.of_not_not (of_decide_eq_false h2_99))
        have hF := gh2_99
        exact absurd gh2_99 hE0

end Go.Proofs.Ytpimnlgfhpnjnaa
