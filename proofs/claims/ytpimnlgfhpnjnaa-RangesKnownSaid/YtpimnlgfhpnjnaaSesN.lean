/- The walk of session.Note. -/
import Derived.Test.YtpimnlgfhpnjnaaSesA
namespace Go.Proofs.Ytpimnlgfhpnjnaa.Se
open Go Go.RowKit Kf
set_option maxRecDepth 20000

theorem SDat.one1 {w : World} {E : List SV} (h : SDat w E) {k : Nat} (hk : k < E.length) : ∀ u ∈ SV.c E[k], u.oneCell' = true := SV.c_one (h _ (List.getElem_mem hk))
theorem idx_map {E : List SV} {p : Ses → Bool} {k : Nat} (hk : k < E.length) : p ((E.map Prod.fst).getD k default) = p (E[k]).1 := by simp [hk]
theorem note_set {E F : List SV} {s : Ses} {dv : Value} {k : Nat} (h0 : ¬ s.Client = 0) (hF : F.map Prod.fst = E.map Prod.fst) (hk : k < E.length) (hp : ofC s.Client ((E.map Prod.fst).getD k default) = true) (hn : ∀ j, j < k → ofC s.Client ((E.map Prod.fst).getD j default) = false) : (F.set k (s, dv)).map Prod.fst = noteS (E.map Prod.fst) s := by
  have hk' : k < (E.map Prod.fst).length := by simpa using hk
  have hg : ∀ j (hj : j < (E.map Prod.fst).length), (E.map Prod.fst).getD j default = (E.map Prod.fst)[j] := fun j hj => by rw [List.getD_eq_getElem?_getD, List.getElem?_eq_getElem hj]; rfl
  unfold noteS
  rw [if_neg h0, hasS_at hk' (by rw [← hg k hk']; exact hp), layL_set, setL_at hk' (by rw [← hg k hk']; exact hp) (fun j hj hjk => by rw [← hg j hj]; exact hn j hjk), List.map_set, hF]
theorem note_ins {E F : List SV} {s : Ses} {dv : Value} {i : Nat} (h0 : ¬ s.Client = 0) (hF : F.map Prod.fst = E.map Prod.fst) (hn : ∀ j, j < E.length → ofC s.Client ((E.map Prod.fst).getD j default) = false)
    (hi : i < E.length) (hp : overC s.Client ((E.map Prod.fst).getD i default) = true) (hb : ∀ j, j < i → overC s.Client ((E.map Prod.fst).getD j default) = false) : (F.take i ++ [(s, dv)] ++ F.drop i).map Prod.fst = noteS (E.map Prod.fst) s := by
  have hi' : i < (E.map Prod.fst).length := by simpa using hi
  have hg : ∀ j (hj : j < (E.map Prod.fst).length), (E.map Prod.fst).getD j default = (E.map Prod.fst)[j] := fun j hj => by rw [List.getD_eq_getElem?_getD, List.getElem?_eq_getElem hj]; rfl
  unfold noteS
  rw [if_neg h0, hasS_none (fun j hj => by rw [← hg j hj]; exact hn j (by simpa using hj)), layL_ins, insL_at hi' (by rw [← hg i hi']; exact hp) (fun j hj hjk => by rw [← hg j hj]; exact hb j hjk), ← hF]
  simp
theorem note_end {E F : List SV} {s : Ses} {dv : Value} (h0 : ¬ s.Client = 0) (hF : F.map Prod.fst = E.map Prod.fst) (hn : ∀ j, j < E.length → ofC s.Client ((E.map Prod.fst).getD j default) = false)
    (hb : ∀ j, j < E.length → overC s.Client ((E.map Prod.fst).getD j default) = false) : (F ++ [(s, dv)]).map Prod.fst = noteS (E.map Prod.fst) s := by
  have hg : ∀ j (hj : j < (E.map Prod.fst).length), (E.map Prod.fst).getD j default = (E.map Prod.fst)[j] := fun j hj => by rw [List.getD_eq_getElem?_getD, List.getElem?_eq_getElem hj]; rfl
  unfold noteS
  rw [if_neg h0, hasS_none (fun j hj => by rw [← hg j hj]; exact hn j (by simpa using hj)), layL_ins, insL_end (fun j hj => by rw [← hg j hj]; exact hb j (by simpa using hj)), ← hF]
  simp
set_option maxHeartbeats 4000000 in
theorem note_ok (v : Value) (l : List Ses) (c q code : Int) (dv0 : Value) (dl : List UInt8) (w : World) (h : Sess w v l) (hl : l.length ≤ 1000) (hd : ∀ s ∈ l, s.Data.length ≤ 1000000) (hb : Bytes w dv0 dl) (hdl : dl.length ≤ 1000000) : FnOk Try.prog 89 [v, i64 c, i64 q, agg [i64 code, dv0]] w (fun r w' => (∃ F, F.map Prod.fst = noteS l ⟨c, q, code, dl⟩ ∧ SOwn w' w.heap.size r F) ∧ Ext w w') := by
  obtain ⟨E, rfl, re, de⟩ := h
  simp only [List.length_map] at hl
  refine FnOk.enter (rs := [8]) Try.func89 rfl Try.ntmps89 Try.results89 rfl rfl ?_
  refine WF.seq ?_
  refine WF.region ?_
  refine WL.op rfl (OW.box1 rfl rfl ?_ (by decide))
  intro g5 w1 heg5 hlg5 hO5 hx3
  have := World.grownBy.size hx3
  refine WL.op rfl (OW.boxA (cs := [i64 code, dv0]) rfl ?_ (by decide))
  intro g7 wb heg7 hlg7 hO7 hx6
  have := World.grownBy.size hx6
  refine WL.va rfl rfl rfl (X.assign rfl) ?_
  refine WL.nil ?_
  refine thn_n ?_
  refine WF.seq ?_
  refine WF.region ?_
  have hwb := World.grownBy.size (Ext.trans hx3 hx6)
  refine WL.va rfl rfl rfl (X.move rfl) ?_
  refine WL.va rfl rfl rfl (X.len re rfl Try.underlying49) ?_
  refine WL.va rfl rfl rfl (X.add rfl rfl (show _ = ((E.length + 1 : Nat) : Int) from w64 (by omega))) ?_
  refine WL.op rfl (OW.make0 (n := E.length + 1) rfl rfl Try.underlying49 Try.type55 rfl rfl (show 48 * (E.length + 1) ≤ _ by omega) (by unfold maxLen; omega) ?_ (by decide))
  intro vm wm ho9 hx8
  obtain ⟨B, hBe⟩ : ∃ B, B = wb.heap.size := ⟨_, rfl⟩
  have hmk : SOwn wm B vm [] := ⟨by rw [hBe]; exact ho9, (fun e he => by cases he), (fun e he => by cases he), List.Pairwise.nil⟩
  have hwB : w.heap.size ≤ B := by omega
  have hszm := World.grownBy.size hx8
  refine WL.va rfl rfl rfl (X.assign rfl) ?_
  refine WL.nil ?_
  refine thn_n ?_
  refine WF.seq ?_
  refine WF.seq ?_
  refine WF.region ?_
  refine WL.va rfl rfl rfl (X.move rfl) ?_
  refine WL.va rfl rfl rfl (X.len re rfl Try.underlying49) ?_
  refine WL.va rfl rfl rfl (X.moveI rfl) ?_
  refine WL.nil ?_
  refine thn_n ?_
  refine WF.block ?_
  refine WF.named (fun F10 hF11 => ?_)
  refine WF.loopN (fun mL0 f' w' => ∃ (k : Nat) (vo : Value) (O : List SV), mL0 = E.length - k ∧ f' 21 = .int .i64 (k : Int) ∧ f' 9 = vo ∧ Agree [0, 1, 2, 3, 5, 7, 8, 15, 16, 17, 18, 19, 20] f' F10 ∧ Ext w w' ∧ Blk w' g5 3 [i64 c] ∧ Blk w' g7 53 [i64 code, dv0] ∧ k ≤ E.length ∧ O.length = k ∧ SOwn w' B vo O ∧ O.map Prod.fst = (E.map Prod.fst).take k ∧ wm.heap.size ≤ w'.heap.size) ?_ ?_
  · exact ⟨_, 0, vm, [], rfl, (congrFun hF11 21), (congrFun hF11 9), (Agree.refl _ _), (Ext.trans (Ext.trans hx3 hx6) hx8), ⟨(hO5.ext (Ext.trans hx6 hx8)), (hO7.ext hx8), Nat.zero_le _, rfl, hmk, rfl, Nat.le_refl _⟩⟩
  · rintro mL0 fL0 wL0 ⟨k, vo, O, hmL0, e21_L0, e9_L0, hAL0, hwL0, ⟨hO5, hO7, hk0, hOl, ho, hO, hsz⟩⟩
    have := World.grownBy.size hwL0
    refine WF.seq ?_
    refine WF.region ?_
    refine WL.va rfl rfl rfl (X.lss e21_L0 ((hAL0.eq 20).trans (congrFun hF11 20))) ?_
    refine WL.nil ?_
    refine thn_n ?_
    refine WF.seq ?_
    refine WF.cond rfl (fun h0_12 => ?_) (fun h0_12 => ?_)
    · have gh0_12 := (of_decide_eq_true h0_12)
      have hk : k < E.length := by omega
      refine WF.skip ?_
      refine thn_n ?_
      refine WF.seq ?_
      refine WF.block ?_
      refine WF.seq ?_
      refine WF.region ?_
      refine WL.va rfl rfl rfl (X.idx re ((hAL0.eq 19).trans (congrFun hF11 19)) e21_L0 (by omega) Try.underlying49 Try.sizeOf55) ?_
      refine WL.va rfl rfl rfl (X.loadEl re hwL0 rfl (by omega) (SRow.el hk) Try.isAgg55 Try.sizeOf55) ?_
      refine WL.op rfl (OW.allocO (cs := [i64 0, i64 0, i64 0, .slice none 0 0]) Try.zeroValue55 rfl ?_ (by decide))
      intro g11 w14 heg11 hlg11 hO11 hx16
      have := World.grownBy.size hx16
      refine WL.op rfl (OW.storeOA hO11 rfl rfl rfl (SDat.one1 de hk) Try.sizeOf55 ?_)
      intro w18 hO11 hx20
      have := World.grownBy.size hx20
      replace hO5 := (hO5.ext hx16).keptO hx20 (by omega)
      replace hO7 := (hO7.ext hx16).keptO hx20 (by omega)
      replace hO11 : Blk _ _ _ (SV.c (E[k]'hk)) := hO11
      refine WL.nil ?_
      refine thn_n ?_
      refine WF.region ?_
      refine WL.va rfl rfl rfl (X.move e9_L0) ?_
      refine WL.va rfl rfl rfl (X.loadOA hO11 (Ext.refl _) rfl rfl Try.isAgg55 Try.sizeOf55) ?_
      have hoA := ho.ext (Ext.store hx16 hx20 (by omega))
      have hBz0 := World.grownBy.size (Ext.store hx16 hx20 (by omega))
      have hBz : B ≤ w18.heap.size := by omega
      refine WL.c rfl rfl rfl (X.call Try.call110 (evl_cons rfl evl_nil)) (clone_ok (E[k]'hk) _ (Row.ext (de _ (List.getElem_mem hk)) (Ext.trans hwL0 (Ext.store hx16 hx20 (by omega)))) (hd _ (List.mem_map.2 ⟨_, List.getElem_mem hk, rfl⟩))) ?_
      rintro r0 w22 ⟨dv, rfl, od, hx23⟩
      have := World.grownBy.size hx23
      have gq1 := hx23
      refine WL.op rfl (OW.lits (vs := [agg (SV.c ((E[k]'hk).1, dv))]) (evp_cons rfl evp_nil) Try.underlying49 Try.sizeOf55 Try.zeroValue55 ⟨rfl, trivial⟩ rfl rfl rfl ?_ (by decide))
      intro v25 w24 ho27 hx26
      have := World.grownBy.size hx26
      have o1 : World.ownsRow w24 _ 55 4 v25 1 (SV.c ((E[k]'hk).1, dv)) := ho27
      have gq2 := hx26
      refine WL.op rfl (OW.append (bytes := 48) (own_ext (own_ext hoA.row gq1) gq2) (Row.of_own o1) (SV.c_one (e := ((E[k]'hk).1, dv)) (Bytes.of_own od)) rfl rfl Try.underlying49 Try.type55 rfl rfl rfl rfl (by decide) (by unfold maxLen; omega) (by omega) (Nat.le_trans hBz (Nat.le_trans (World.grownBy.size gq1) (World.grownBy.size gq2))) ?_ (by decide))
      intro v29 w28 ho31 hx30 hmvhx30
      have := World.grownBy.size hx30
      replace hO5 := (hO5.ext (Ext.trans hx23 hx26)).keptR hx30 (fun b hb => by have h1 := hoA.row.lt b hb; have h2 := ho.row.lt b hb; omega)
      replace hO7 := (hO7.ext (Ext.trans hx23 hx26)).keptR hx30 (fun b hb => by have h1 := hoA.row.lt b hb; have h2 := ho.row.lt b hb; omega)
      replace hO11 := (hO11.ext (Ext.trans hx23 hx26)).keptR hx30 (fun b hb => by have h1 := hoA.row.lt b hb; have h2 := ho.row.lt b hb; omega)
      have ho2 := hoA.app (s := (E[k]'hk).1) od gq1 gq2 ho31 hx30 hmvhx30 hBz
      have hszq := World.grownBy.size hx30
      refine WL.va rfl rfl rfl (X.assign rfl) ?_
      refine WL.nil ?_
      refine blk_n ?_
      refine thn_n ?_
      refine WF.region ?_
      refine WL.va rfl rfl rfl (X.add e21_L0 rfl (w64 (by omega))) ?_
      refine WL.va rfl rfl rfl (X.moveI rfl) ?_
      refine WL.nil ?_
      exact thn_n ⟨_, (by omega), k + 1, _, _, rfl, rfl, rfl, (by repeat (first | exact hAL0 | refine Agree.put ?_ rfl | refine Agree.named hF11 ?_)), (Ext.own (Ext.trans (Ext.trans (Ext.trans hwL0 (Ext.store hx16 hx20 (by omega))) hx23) hx26) (own_ext (own_ext hoA.row gq1) gq2) hwB hx30), ⟨hO5, hO7, by omega, by simp [hOl], ho2, by rw [take_map hk, List.map_append, hO]; rfl, by omega⟩⟩
    · have gh0_12 := (of_decide_eq_false h0_12)
      refine WF.exit ?_
      refine thn_x ?_
      refine thn_x ?_
      refine blk_eq ?_
      refine thn_n ?_
      refine WF.seq ?_
      refine WF.seq ?_
      refine WF.region ?_
      refine WL.va rfl rfl rfl (X.loadO hO5 (Ext.refl _) ((hAL0.eq 5).trans (congrFun hF11 5)) rfl Try.isAgg3) ?_
      refine WL.va rfl rfl rfl (X.eql rfl rfl) ?_
      refine WL.nil ?_
      refine thn_n ?_
      refine WF.cond rfl (fun h1_32 => ?_) (fun h1_32 => ?_)
      · have gh1_32 := (of_decide_eq_true h1_32)
        have hc0 := gh1_32
        refine WF.seq ?_
        refine WF.region ?_
        refine WL.va rfl rfl rfl (X.move e9_L0) ?_
        refine WL.va rfl rfl rfl (X.assign rfl) ?_
        refine WL.nil ?_
        refine thn_n ?_
        refine WF.ret ?_
        refine thn_r ?_
        refine fin_r ?_
        exact ⟨⟨_, by rw [hO, List.take_of_length_le (by simp; omega)]; exact (if_pos hc0).symm, ho.mono hwB⟩, hwL0⟩
      · have gh1_32 := (of_decide_eq_false h1_32)
        have hc0 := gh1_32
        have hOE : O.map Prod.fst = E.map Prod.fst := by rw [hO, List.take_of_length_le (by simp; omega)]
        refine WF.skip ?_
        refine thn_n ?_
        refine WF.seq ?_
        refine WF.region ?_
        refine WL.va rfl rfl rfl (X.loadO hO5 (Ext.refl _) ((hAL0.eq 5).trans (congrFun hF11 5)) rfl Try.isAgg3) ?_
        refine WL.va rfl rfl rfl (X.moveI ((hAL0.eq 2).trans (congrFun hF11 2))) ?_
        refine WL.va rfl rfl rfl (X.loadOA hO7 (Ext.refl _) ((hAL0.eq 7).trans (congrFun hF11 7)) rfl Try.isAgg53 Try.sizeOf53) ?_
        refine WL.va rfl rfl rfl (X.buildF (P := Try.prog) (t := 55) (cs := (SV.c ((⟨c, q, code, dl⟩ : Ses), dv0))) (evp_cons rfl (evp_cons rfl (evp_cons rfl evp_nil))) Try.type55 Try.underlying55 rfl rfl rfl) ?_
        have hoN := ho.ext (Ext.refl wL0)
        have hBn : B ≤ wL0.heap.size := by omega
        refine WL.c rfl rfl rfl (X.call Try.call110 (evl_cons rfl evl_nil)) (clone_ok ((⟨c, q, code, dl⟩ : Ses), dv0) _ (Row.ext hb hwL0) hdl) ?_
        rintro r1 wn1 ⟨dn, rfl, on, hx34⟩
        have := World.grownBy.size hx34
        have gn1 := hx34
        refine WL.op rfl (OW.allocO (cs := [i64 0, i64 0, i64 0, .slice none 0 0]) Try.zeroValue55 rfl ?_ (by decide))
        intro g12 w35 heg12 hlg12 hO12 hx37
        have := World.grownBy.size hx37
        refine WL.op rfl (OW.storeOA hO12 rfl rfl rfl (SV.c_one (e := ((⟨c, q, code, dl⟩ : Ses), dn)) (Bytes.of_own on)) Try.sizeOf55 ?_)
        intro w39 hO12 hx41
        have := World.grownBy.size hx41
        replace hO5 := (hO5.ext (Ext.trans hx34 hx37)).keptO hx41 (by omega)
        replace hO7 := (hO7.ext (Ext.trans hx34 hx37)).keptO hx41 (by omega)
        replace hO12 : Blk _ _ _ (SV.c ((⟨c, q, code, dl⟩ : Ses), dn)) := hO12
        refine WL.nil ?_
        refine thn_n ?_
        refine WF.seq ?_
        refine WF.seq ?_
        refine WF.region ?_
        refine WL.va rfl rfl rfl (X.move ((hAL0.eq 0).trans (congrFun hF11 0))) ?_
        refine WL.va rfl rfl rfl (X.loadO hO5 (Ext.refl _) ((hAL0.eq 5).trans (congrFun hF11 5)) rfl Try.isAgg3) ?_
        refine WL.c rfl rfl rfl (X.call Try.call109 (evl_cons rfl (evl_cons rfl evl_nil))) (find_ok _ E c _ (Row.ext re (Ext.trans (Ext.trans hwL0 hx34) (Ext.store hx37 hx41 (by omega))))) ?_
        rintro v44 w43 ⟨⟨z, rfl, hz⟩, hx45⟩
        have := World.grownBy.size hx45
        refine WL.va rfl rfl rfl (X.assignI rfl) ?_
        refine WL.nil ?_
        refine thn_n ?_
        refine WF.seq ?_
        refine WF.region ?_
        refine WL.va rfl rfl rfl (X.moveI rfl) ?_
        refine WL.va rfl rfl rfl (X.geq rfl rfl) ?_
        refine WL.nil ?_
        refine thn_n ?_
        refine WF.cond rfl (fun h2_46 => ?_) (fun h2_46 => ?_)
        · have gh2_46 := (of_decide_eq_true h2_46)
          obtain ⟨k2, rfl, hk2, hpk, hbf⟩ := hz.pos (by omega)
          refine WF.seq ?_
          refine WF.region ?_
          refine WL.va rfl rfl rfl (X.move e9_L0) ?_
          refine WL.va rfl rfl rfl (X.moveI rfl) ?_
          refine WL.va rfl rfl rfl (X.loadOA hO12 hx45 rfl rfl Try.isAgg55 Try.sizeOf55) ?_
          refine WL.va rfl rfl rfl (X.idx ho.srow rfl rfl (by omega) Try.underlying49 Try.sizeOf55) ?_
          have hw2 := (Ext.trans (Ext.store hx37 hx41 (by omega)) hx45)
          refine WL.op rfl (OW.storeEl (ds := (SV.c ((⟨c, q, code, dl⟩ : Ses), dn))) (own_ext hoN.row (Ext.trans gn1 hw2)) (by omega) rfl rfl rfl (SV.c_one (e := ((⟨c, q, code, dl⟩ : Ses), dn)) (Bytes.of_own on)) Try.sizeOf55 ?_)
          intro w48 ho51 hx50
          have hF := hoN.set on gn1 hw2 (by omega) ho51 hx50 hBn
          refine WL.nil ?_
          refine thn_n ?_
          refine WF.seq ?_
          refine WF.region ?_
          refine WL.va rfl rfl rfl (X.move e9_L0) ?_
          refine WL.va rfl rfl rfl (X.assign rfl) ?_
          refine WL.nil ?_
          refine thn_n ?_
          refine WF.ret ?_
          refine thn_r ?_
          refine fin_r ?_
          exact ⟨⟨_, note_set hc0 hOE (by omega) hpk hbf, hF.mono hwB⟩, (Ext.own (Ext.trans (Ext.trans (Ext.trans hwL0 hx34) (Ext.store hx37 hx41 (by omega))) hx45) (own_ext hoN.row (Ext.trans gn1 hw2)) hwB hx50)⟩
        · have gh2_46 := (of_decide_eq_false h2_46)
          have hnone := (hz.neg (by omega)).2
          refine WF.skip ?_
          refine thn_n ?_
          refine WF.seq ?_
          refine WF.region ?_
          refine WL.va rfl rfl rfl (X.move ((hAL0.eq 0).trans (congrFun hF11 0))) ?_
          refine WL.va rfl rfl rfl (X.makeFunc (evl_cons ((hAL0.eq 5).trans (congrFun hF11 5)) evl_nil)) ?_
          have hclo : ∀ k wq, k < E.length → Ext w43 wq → CloOk Try.prog (.func (.func 112) #[] [at_ g5].toArray) [agg (el (E.flatMap SV.c) 4 k)] wq (fun r w2 => r = .bool (overC c (((E.map Prod.fst).getD k default))) ∧ Ext wq w2) := fun k wq hk hx => ⟨_, _, rfl, Try.call112, (by rw [show el (E.flatMap SV.c) 4 k = SV.c (E[k]'hk) from SRow.el hk, show (E.map Prod.fst).getD k default = (E[k]'hk).1 from by simp [hk]]; exact noteLit_ok _ _ _ _ ((hO5.ext hx45).ext hx))⟩
          refine WL.c rfl rfl rfl (X.call Try.call111 (evl_cons rfl (evl_cons rfl evl_nil))) (indexS_ok _ _ _ _ (fun k => overC c ((E.map Prod.fst).getD k default)) _ (Row.ext re (Ext.trans (Ext.trans (Ext.trans hwL0 hx34) (Ext.store hx37 hx41 (by omega))) hx45)) hclo) ?_
          rintro v53 w52 ⟨⟨y, rfl, hy⟩, hx54⟩
          have := World.grownBy.size hx54
          refine WL.va rfl rfl rfl (X.assignI rfl) ?_
          refine WL.nil ?_
          refine thn_n ?_
          refine WF.seq ?_
          refine WF.seq ?_
          refine WF.region ?_
          refine WL.va rfl rfl rfl (X.moveI rfl) ?_
          refine WL.va rfl rfl rfl (X.lss rfl rfl) ?_
          refine WL.nil ?_
          refine thn_n ?_
          refine WF.cond rfl (fun h3_55 => ?_) (fun h3_55 => ?_)
          · have gh3_55 := (of_decide_eq_true h3_55)
            have hyn := (hy.neg (by omega)).2
            refine WF.seq ?_
            refine WF.region ?_
            refine WL.va rfl rfl rfl (X.move e9_L0) ?_
            refine WL.va rfl rfl rfl (X.loadOA hO12 (Ext.trans hx45 hx54) rfl rfl Try.isAgg55 Try.sizeOf55) ?_
            refine WL.op rfl (OW.lits (vs := [agg (SV.c ((⟨c, q, code, dl⟩ : Ses), dn))]) (evp_cons rfl evp_nil) Try.underlying49 Try.sizeOf55 Try.zeroValue55 ⟨rfl, trivial⟩ rfl rfl rfl ?_ (by decide))
            intro v58 w57 ho60 hx59
            have := World.grownBy.size hx59
            have o1 : World.ownsRow w57 _ 55 4 v58 1 (SV.c ((⟨c, q, code, dl⟩ : Ses), dn)) := ho60
            have hw2 := (Ext.trans (Ext.trans (Ext.trans (Ext.store hx37 hx41 (by omega)) hx45) hx54) hx59)
            refine WL.op rfl (OW.append (bytes := 48) (own_ext hoN.row (Ext.trans gn1 hw2)) (Row.of_own o1) (SV.c_one (e := ((⟨c, q, code, dl⟩ : Ses), dn)) (Bytes.of_own on)) rfl rfl Try.underlying49 Try.type55 rfl rfl rfl rfl (by decide) (by unfold maxLen; omega) (by omega) (Nat.le_trans hBn (World.grownBy.size (Ext.trans gn1 hw2))) ?_ (by decide))
            intro v62 w61 ho65 hx63 hmvhx63
            have hF := hoN.app on gn1 hw2 ho65 hx63 hmvhx63 hBn
            refine WL.va rfl rfl rfl (X.assign rfl) ?_
            refine WL.nil ?_
            refine thn_n ?_
            refine WF.ret ?_
            refine thn_r ?_
            refine fin_r ?_
            exact ⟨⟨_, note_end hc0 hOE hnone hyn, hF.mono hwB⟩, (Ext.own (Ext.trans (Ext.trans (Ext.trans (Ext.trans (Ext.trans hwL0 hx34) (Ext.store hx37 hx41 (by omega))) hx45) hx54) hx59) (own_ext hoN.row (Ext.trans gn1 hw2)) hwB hx63)⟩
          · have gh3_55 := (of_decide_eq_false h3_55)
            obtain ⟨i, rfl, hi, hpi, hbi⟩ := hy.pos (by omega)
            refine WF.skip ?_
            refine thn_n ?_
            refine WF.seq ?_
            refine WF.region ?_
            refine WL.va rfl rfl rfl (X.move e9_L0) ?_
            refine WL.va rfl rfl rfl (X.moveI rfl) ?_
            refine WL.va rfl rfl rfl (X.loadOA hO12 (Ext.trans hx45 hx54) rfl rfl Try.isAgg55 Try.sizeOf55) ?_
            refine WL.op rfl (OW.lits (vs := [agg (SV.c ((⟨c, q, code, dl⟩ : Ses), dn))]) (evp_cons rfl evp_nil) Try.underlying49 Try.sizeOf55 Try.zeroValue55 ⟨rfl, trivial⟩ rfl rfl rfl ?_ (by decide))
            intro v67 w66 ho69 hx68
            have := World.grownBy.size hx68
            have o1 : World.ownsRow w66 _ 55 4 v67 1 (SV.c ((⟨c, q, code, dl⟩ : Ses), dn)) := ho69
            have hso1 := World.grownBy.size hx68
            have hw2 := (Ext.trans (Ext.trans (Ext.trans (Ext.store hx37 hx41 (by omega)) hx45) hx54) hx68)
            have hBn2 := World.grownBy.size (Ext.trans gn1 hw2)
            refine WL.c rfl rfl rfl (X.call Try.call113 (evl_cons rfl (evl_cons rfl (evl_cons rfl evl_nil)))) (insertS_ok _ _ _ _ O.length i _ _ _ (own_ext hoN.row (Ext.trans gn1 hw2)) o1 (fun b h1 h2 => by have := (o1.lt b h1).1; have := (hoN.row.lt b h2).2; omega) hoN.sdat.one (SV.c_one (e := ((⟨c, q, code, dl⟩ : Ses), dn)) (Bytes.of_own on)) (by omega) (by omega) (by omega)) ?_
            rintro v71 w70 ⟨oi, hx72, hmv⟩
            have := World.grownBy.size hx72
            have hF := hoN.ins on gn1 hw2 (by omega) oi hx72 hmv hBn
            refine WL.va rfl rfl rfl (X.assign rfl) ?_
            refine WL.nil ?_
            refine thn_n ?_
            refine WF.ret ?_
            refine fin_r ?_
            exact ⟨⟨_, note_ins hc0 hOE hnone hi hpi hbi, hF.mono hwB⟩, (Ext.own (Ext.trans (Ext.trans (Ext.trans (Ext.trans (Ext.trans hwL0 hx34) (Ext.store hx37 hx41 (by omega))) hx45) hx54) hx68) (own_ext hoN.row (Ext.trans gn1 hw2)) hwB hx72)⟩

end Go.Proofs.Ytpimnlgfhpnjnaa.Se
