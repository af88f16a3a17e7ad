/- The walks of Ask and Note. -/
import Derived.Test.YtpimnlgfhpnjnaaSesF
namespace Go.Proofs.Ytpimnlgfhpnjnaa.Se
open Go Go.RowKit Kf
set_option maxRecDepth 20000

theorem X.fieldP {P : Program} {f : Fr} {w : World} {dst : Option Tmp} {ty s : TypeId} {pos : String} {aft : Array Edge} {gd : Option (Nat × Bool)} {x : Operand} {off sz : Nat} {cs ds : List Value} {fs : Array Field} {fl : Field} {i : Nat} (hx : ev f x = agg cs) (hs : P.underlying s = some (.struct fs)) (hf : fs[i]? = some fl) (ho : fl.offset = off) (ht : ∀ w, (isAgg fl.type).run P w = .ok true w) (hz : ∀ w, (sizeOf fl.type).run P w = .ok sz w) (hv : (cs.drop off).take sz = ds) :
    (execOp (ev f) ⟨dst, .field s x i, ty, pos, aft, gd⟩).run P w = .ok (.value (agg ds)) w := by
  subst ho hv
  simp [execOp, hx, Instr.field, run_underlying hs, hf, asAgg, Go.part, ht, hz, Result.andThen]
theorem nil_bytes (w : World) : Bytes w (.slice none 0 0) [] := Row.nil w 1
theorem nil_own (w : World) (B : Nat) : OwnB w B 5 (.slice none 0 0) [] := World.ownsRow_nil _ _ _ _
theorem ask_at {E : List SV} {c q : Int} {k : Nat} (hc : ¬ c = 0) (hk : k < E.length) (hp : ofC c ((E.map Prod.fst).getD k default) = true) (hn : ∀ j, j < k → ofC c ((E.map Prod.fst).getD j default) = false) :
    askS (E.map Prod.fst) c q = if E[k].1.Seq < q then ((0, []), 0) else if q < E[k].1.Seq then ((0, []), 15) else ((E[k].1.Code, E[k].1.Data), 7) := by
  have hf : findS (E.map Prod.fst) c = some E[k].1 := by
    have := findS_at (l := E.map Prod.fst) (c := c) (k := k) (by simpa using hk) (by simpa [hk] using hp) (fun j hj hjk => by have := hn j hjk; simp only [List.length_map] at hj; simpa [hj] using this)
    rw [this]; simp
  unfold askS; rw [if_neg hc, hf]
theorem ask_non {E : List SV} {c q : Int} (hn : ∀ j, j < E.length → ofC c ((E.map Prod.fst).getD j default) = false) : askS (E.map Prod.fst) c q = ((0, []), 0) := by
  have hf : findS (E.map Prod.fst) c = none := findS_none fun j hj => by have := hn j (by simpa using hj); simp only [List.length_map] at hj; simpa [hj] using this
  unfold askS; rw [hf]; split <;> rfl
set_option maxHeartbeats 800000 in
theorem ask_ok (v : Value) (l : List Ses) (c q : Int) (w : World) (h : Sess w v l) (hd : ∀ s ∈ l, s.Data.length ≤ 1000000) : FnOk Try.prog 87 [v, i64 c, i64 q] w (fun r w' => (∃ dv, r = .tuple #[agg [i64 (askS l c q).1.1, dv], i64 (askS l c q).2] ∧ OwnB w' w.heap.size 5 dv (askS l c q).1.2) ∧ Ext w w') := by
  obtain ⟨E, rfl, re, de⟩ := h
  have hle : (E.length : Int) ≤ 9223372036854775807 := by obtain ⟨_, c, _, h1, h2, _⟩ := re.shape; unfold maxLen at h2; omega
  refine FnOk.enterC (rs := [.cell 6 53, .tmp 7]) Try.func87 rfl Try.ntmps87 Try.results87 rfl rfl ?_
  refine WF.seq ?_
  refine WF.region ?_
  refine WL.op rfl (OW.allocO (cs := [i64 0, .slice none 0 0]) Try.zeroValue53 rfl ?_ (by decide))
  intro g6 w1 heg6 hlg6 hO6 hx3
  have := World.grownBy.size hx3
  refine WL.va rfl rfl rfl (X.assignI rfl) ?_
  refine WL.nil ?_
  refine thn_n ?_
  refine WF.seq ?_
  refine WF.region ?_
  refine WL.va rfl rfl rfl (X.move rfl) ?_
  refine WL.va rfl rfl rfl (X.moveI rfl) ?_
  refine WL.c rfl rfl rfl (X.call Try.call109 (evl_cons rfl (evl_cons rfl evl_nil))) (find_ok _ E c _ (Row.ext re hx3)) ?_
  rintro v6 w5 ⟨⟨z, rfl, hz⟩, hx7⟩
  have := World.grownBy.size hx7
  refine WL.va rfl rfl rfl (X.assignI rfl) ?_
  refine WL.nil ?_
  refine thn_n ?_
  refine WF.seq ?_
  refine WF.block ?_
  refine WF.seq ?_
  refine WF.region ?_
  refine WL.va rfl rfl rfl (X.moveI rfl) ?_
  refine WL.va rfl rfl rfl (X.eql rfl rfl) ?_
  refine WL.va rfl rfl rfl (X.moveB rfl) ?_
  refine WL.split (j := 2) rfl (fun h9 => ?_) (fun h9 => ?_)
  · have gh9 := (of_decide_eq_true h9)
    have hres : askS (E.map Prod.fst) c q = ((0, []), 0) := if_pos gh9
    refine WL.p rfl rfl rfl (congrArg some h9) ?_
    refine WL.p rfl rfl rfl (congrArg some h9) ?_
    refine WL.va rfl rfl rfl (X.pickT rfl h9 rfl) ?_
    refine WL.va rfl rfl rfl (X.moveB rfl) ?_
    refine WL.p rfl rfl rfl rfl ?_
    refine WL.p rfl rfl rfl rfl ?_
    refine WL.p rfl rfl rfl rfl ?_
    refine WL.p rfl rfl rfl rfl ?_
    refine WL.p rfl rfl rfl rfl ?_
    refine WL.p rfl rfl rfl rfl ?_
    refine WL.p rfl rfl rfl rfl ?_
    refine WL.va rfl rfl rfl (X.pickT rfl rfl rfl) ?_
    refine WL.va rfl rfl rfl (X.assignB rfl) ?_
    refine WL.nil ?_
    refine thn_n ?_
    refine WF.cond_t rfl ?_
    refine WF.seq ?_
    refine WF.region ?_
    refine WL.va rfl rfl rfl (X.buildL (P := Try.prog) (t := 53) (cs := [i64 0, .slice none 0 0]) evp_nil Try.type53 Try.underlying53 rfl rfl trivial rfl) ?_
    refine WL.op rfl (OW.storeOA (hO6.ext hx7) rfl rfl rfl (by simp [Value.oneCell']) Try.sizeOf53 ?_)
    intro w12 hO6 hx14
    have := World.grownBy.size hx14
    refine WL.va rfl rfl rfl (X.assignI rfl) ?_
    refine WL.nil ?_
    refine thn_n ?_
    refine WF.ret ?_
    refine blk_r ?_
    refine thn_r ?_
    refine finC_r (vs := [_, _]) ⟨⟨_, rfl, readO hO6 Try.isAgg53 Try.sizeOf53⟩, rfl, trivial⟩ ?_
    rw [hres]; exact ⟨⟨_, rfl, nil_own _ _⟩, (Ext.store (Ext.trans hx3 hx7) hx14 (by omega))⟩
  · have gh9 := (of_decide_eq_false h9)
    have hc := gh9
    refine WL.vg rfl (congrArg some h9) rfl rfl (X.moveI rfl) ?_
    refine WL.vg rfl (congrArg some h9) rfl rfl (X.lss rfl rfl) ?_
    refine WL.va rfl rfl rfl (X.pickF rfl h9 rfl) ?_
    refine WL.va rfl rfl rfl (X.moveB rfl) ?_
    refine WL.split (j := 6) rfl (fun h17 => ?_) (fun h17 => ?_)
    · have gh17 := (of_decide_eq_true h17)
      have hres : askS (E.map Prod.fst) c q = ((0, []), 0) := ask_non (hz.neg (by omega)).2
      refine WL.p rfl rfl rfl (congrArg some h17) ?_
      refine WL.p rfl rfl rfl (congrArg some h17) ?_
      refine WL.p rfl rfl rfl (congrArg some h17) ?_
      refine WL.p rfl rfl rfl (congrArg some h17) ?_
      refine WL.p rfl rfl rfl (congrArg some h17) ?_
      refine WL.p rfl rfl rfl (congrArg some h17) ?_
      refine WL.p rfl rfl rfl (congrArg some h17) ?_
      refine WL.va rfl rfl rfl (X.pickT rfl h17 rfl) ?_
      refine WL.va rfl rfl rfl (X.assignB rfl) ?_
      refine WL.nil ?_
      refine thn_n ?_
      refine WF.cond_t rfl ?_
      refine WF.seq ?_
      refine WF.region ?_
      refine WL.va rfl rfl rfl (X.buildL (P := Try.prog) (t := 53) (cs := [i64 0, .slice none 0 0]) evp_nil Try.type53 Try.underlying53 rfl rfl trivial rfl) ?_
      refine WL.op rfl (OW.storeOA (hO6.ext hx7) rfl rfl rfl (by simp [Value.oneCell']) Try.sizeOf53 ?_)
      intro w19 hO6 hx21
      have := World.grownBy.size hx21
      refine WL.va rfl rfl rfl (X.assignI rfl) ?_
      refine WL.nil ?_
      refine thn_n ?_
      refine WF.ret ?_
      refine blk_r ?_
      refine thn_r ?_
      refine finC_r (vs := [_, _]) ⟨⟨_, rfl, readO hO6 Try.isAgg53 Try.sizeOf53⟩, rfl, trivial⟩ ?_
      rw [hres]; exact ⟨⟨_, rfl, nil_own _ _⟩, (Ext.store (Ext.trans hx3 hx7) hx21 (by omega))⟩
    · have gh17 := (of_decide_eq_false h17)
      obtain ⟨k, rfl, hk, hpk, hbf⟩ := hz.pos (by omega)
      have hask := ask_at (q := q) hc hk hpk hbf
      refine WL.vg rfl (congrArg some h17) rfl rfl (X.moveI rfl) ?_
      refine WL.vg rfl (congrArg some h17) rfl rfl (X.move rfl) ?_
      refine WL.vg rfl (congrArg some h17) rfl rfl (X.moveI rfl) ?_
      refine WL.vg rfl (congrArg some h17) rfl rfl (X.idx re rfl rfl (by omega) Try.underlying49 Try.sizeOf55) ?_
      refine WL.vg rfl (congrArg some h17) rfl rfl (X.fieldAddrA rfl Try.underlying55 rfl rfl Try.sizeOf3) ?_
      refine WL.vg rfl (congrArg some h17) rfl rfl (X.loadE re (Ext.trans hx3 hx7) rfl (by omega) ((SRow.get hk (by decide)).trans rfl) Try.isAgg3) ?_
      refine WL.vg rfl (congrArg some h17) rfl rfl (X.gtr rfl rfl) ?_
      refine WL.va rfl rfl rfl (X.pickF rfl h17 rfl) ?_
      refine WL.va rfl rfl rfl (X.assignB rfl) ?_
      refine WL.nil ?_
      refine thn_n ?_
      refine WF.cond rfl (fun h0_23 => ?_) (fun h0_23 => ?_)
      · have gh0_23 := (of_decide_eq_true h0_23)
        have hres : askS (E.map Prod.fst) c q = ((0, []), 0) := by rw [hask, if_pos (by omega)]
        refine WF.seq ?_
        refine WF.region ?_
        refine WL.va rfl rfl rfl (X.buildL (P := Try.prog) (t := 53) (cs := [i64 0, .slice none 0 0]) evp_nil Try.type53 Try.underlying53 rfl rfl trivial rfl) ?_
        refine WL.op rfl (OW.storeOA (hO6.ext hx7) rfl rfl rfl (by simp [Value.oneCell']) Try.sizeOf53 ?_)
        intro w25 hO6 hx27
        have := World.grownBy.size hx27
        refine WL.va rfl rfl rfl (X.assignI rfl) ?_
        refine WL.nil ?_
        refine thn_n ?_
        refine WF.ret ?_
        refine blk_r ?_
        refine thn_r ?_
        refine finC_r (vs := [_, _]) ⟨⟨_, rfl, readO hO6 Try.isAgg53 Try.sizeOf53⟩, rfl, trivial⟩ ?_
        rw [hres]; exact ⟨⟨_, rfl, nil_own _ _⟩, (Ext.store (Ext.trans hx3 hx7) hx27 (by omega))⟩
      · have gh0_23 := (of_decide_eq_false h0_23)
        have hq1 := gh0_23
        refine WF.seq ?_
        refine WF.region ?_
        refine WL.va rfl rfl rfl (X.moveI rfl) ?_
        refine WL.va rfl rfl rfl (X.move rfl) ?_
        refine WL.va rfl rfl rfl (X.moveI rfl) ?_
        refine WL.va rfl rfl rfl (X.idx re rfl rfl (by omega) Try.underlying49 Try.sizeOf55) ?_
        refine WL.va rfl rfl rfl (X.fieldAddrA rfl Try.underlying55 rfl rfl Try.sizeOf3) ?_
        refine WL.va rfl rfl rfl (X.loadE re (Ext.trans hx3 hx7) rfl (by omega) ((SRow.get hk (by decide)).trans rfl) Try.isAgg3) ?_
        refine WL.va rfl rfl rfl (X.lss rfl rfl) ?_
        refine WL.va rfl rfl rfl (X.assignB rfl) ?_
        refine WL.nil ?_
        refine thn_n ?_
        refine WF.cond rfl (fun h1_29 => ?_) (fun h1_29 => ?_)
        · have gh1_29 := (of_decide_eq_true h1_29)
          have hres : askS (E.map Prod.fst) c q = ((0, []), 15) := by rw [hask, if_neg (by omega), if_pos (by omega)]
          refine WF.seq ?_
          refine WF.region ?_
          refine WL.va rfl rfl rfl (X.buildL (P := Try.prog) (t := 53) (cs := [i64 0, .slice none 0 0]) evp_nil Try.type53 Try.underlying53 rfl rfl trivial rfl) ?_
          refine WL.op rfl (OW.storeOA (hO6.ext hx7) rfl rfl rfl (by simp [Value.oneCell']) Try.sizeOf53 ?_)
          intro w31 hO6 hx33
          have := World.grownBy.size hx33
          refine WL.va rfl rfl rfl (X.assignI rfl) ?_
          refine WL.nil ?_
          refine thn_n ?_
          refine WF.ret ?_
          refine blk_r ?_
          refine thn_r ?_
          refine finC_r (vs := [_, _]) ⟨⟨_, rfl, readO hO6 Try.isAgg53 Try.sizeOf53⟩, rfl, trivial⟩ ?_
          rw [hres]; exact ⟨⟨_, rfl, nil_own _ _⟩, (Ext.store (Ext.trans hx3 hx7) hx33 (by omega))⟩
        · have gh1_29 := (of_decide_eq_false h1_29)
          have hres : askS (E.map Prod.fst) c q = ((E[k].1.Code, E[k].1.Data), 7) := by rw [hask, if_neg (by omega), if_neg (by omega)]
          refine WF.skip ?_
          refine blk_n ?_
          refine thn_n ?_
          refine WF.seq ?_
          refine WF.region ?_
          refine WL.va rfl rfl rfl (X.move rfl) ?_
          refine WL.va rfl rfl rfl (X.moveI rfl) ?_
          refine WL.va rfl rfl rfl (X.idx re rfl rfl (by omega) Try.underlying49 Try.sizeOf55) ?_
          refine WL.va rfl rfl rfl (X.loadEl re (Ext.trans hx3 hx7) rfl (by omega) (SRow.el hk) Try.isAgg55 Try.sizeOf55) ?_
          have szq := World.grownBy.size (Ext.trans hx3 hx7)
          refine WL.c rfl rfl rfl (X.call Try.call110 (evl_cons rfl evl_nil)) (clone_ok E[k] _ (Row.ext (de _ (List.getElem_mem hk)) (Ext.trans hx3 hx7)) (hd _ (List.mem_map.2 ⟨_, List.getElem_mem hk, rfl⟩))) ?_
          rintro v36 w35 ⟨dv, rfl, od, hx37⟩
          have := World.grownBy.size hx37
          refine WL.va rfl rfl rfl (X.fieldP rfl Try.underlying55 rfl rfl Try.isAgg53 Try.sizeOf53 rfl) ?_
          refine WL.op rfl (OW.storeOA (hO6.ext (Ext.trans hx7 hx37)) rfl rfl rfl (show ∀ u ∈ [i64 E[k].1.Code, dv], u.oneCell' = true from by intro u hu; simp only [List.mem_cons, List.not_mem_nil, or_false] at hu; rcases hu with rfl | rfl; rfl; exact own_one od) Try.sizeOf53 ?_)
          intro w38 hO6 hx40
          have := World.grownBy.size hx40
          replace od := own_keptO od hx40 (by omega)
          replace hO6 : Blk _ _ _ [i64 E[k].1.Code, dv] := hO6
          refine WL.va rfl rfl rfl (X.assignI rfl) ?_
          refine WL.nil ?_
          refine thn_n ?_
          refine WF.ret ?_
          refine finC_r (vs := [_, _]) ⟨⟨_, rfl, readO hO6 Try.isAgg53 Try.sizeOf53⟩, rfl, trivial⟩ ?_
          rw [hres]; exact ⟨⟨_, rfl, own_mono od szq⟩, (Ext.store (Ext.trans (Ext.trans hx3 hx7) hx37) hx40 (by omega))⟩

/-- what is told when the first k sessions are not it -/
theorem ask_drop {E : List SV} {c q : Int} {k : Nat} (hc : ¬ c = 0) (hk : k < E.length) : askS ((E.map Prod.fst).drop k) c q = if E[k].1.Client = c then (if E[k].1.Seq < q then ((0, []), 0) else if q < E[k].1.Seq then ((0, []), 15) else ((E[k].1.Code, E[k].1.Data), 7)) else askS ((E.map Prod.fst).drop (k + 1)) c q := by
  unfold askS
  rw [if_neg hc, if_neg hc, findS_drop (by simpa using hk)]
  unfold ofC
  rw [List.getElem_map]
  by_cases h : E[k].1.Client = c
  · rw [if_pos h, decide_eq_true h, if_pos rfl]
  · rw [if_neg h, decide_eq_false h, if_neg (by simp)]
set_option maxHeartbeats 800000 in
theorem refAsk_ok (v : Value) (l : List Ses) (c q : Int) (w : World) (h : Sess w v l) (hd : ∀ s ∈ l, s.Data.length ≤ 1000000) : FnOk Try.prog 90 [v, i64 c, i64 q] w (fun r w' => (∃ dv, r = .tuple #[agg [i64 (askS l c q).1.1, dv], i64 (askS l c q).2] ∧ OwnB w' w.heap.size 5 dv (askS l c q).1.2) ∧ Ext w w') := by
  obtain ⟨E, rfl, re, de⟩ := h
  have hle : (E.length : Int) ≤ 9223372036854775807 := by obtain ⟨_, c, _, h1, h2, _⟩ := re.shape; unfold maxLen at h2; omega
  refine FnOk.enterC (rs := [.cell 6 53, .tmp 7]) Try.func90 rfl Try.ntmps90 Try.results90 rfl rfl ?_
  refine WF.seq ?_
  refine WF.region ?_
  refine WL.op rfl (OW.allocO (cs := [i64 0, .slice none 0 0]) Try.zeroValue53 rfl ?_ (by decide))
  intro g6 w1 heg6 hlg6 hO6 hx2
  have := World.grownBy.size hx2
  refine WL.va rfl rfl rfl (X.assignI rfl) ?_
  refine WL.nil ?_
  refine thn_n ?_
  refine WF.seq ?_
  refine WF.seq ?_
  refine WF.region ?_
  refine WL.va rfl rfl rfl (X.assignI rfl) ?_
  refine WL.nil ?_
  refine thn_n ?_
  refine WF.block ?_
  refine WF.named (fun F4 hF5 => ?_)
  refine WF.loopN (fun mL0 f' w' => ∃ (k : Nat), mL0 = E.length - k ∧ f' 8 = .int .i64 (k : Int) ∧ Agree [0, 1, 2, 6] f' F4 ∧ Ext w1 w' ∧ k ≤ E.length ∧ askS (E.map Prod.fst) c q = askS ((E.map Prod.fst).drop k) c q) ?_ ?_
  · exact ⟨_, 0, rfl, (congrFun hF5 8), (Agree.refl _ _), (Ext.refl _), ⟨Nat.zero_le _, rfl⟩⟩
  · rintro mL0 fL0 wL0 ⟨k, hmL0, e8_L0, hAL0, hwL0, ⟨hk0, hno⟩⟩
    have := World.grownBy.size hwL0
    refine WF.seq ?_
    refine WF.seq ?_
    refine WF.region ?_
    refine WL.va rfl rfl rfl (X.moveI e8_L0) ?_
    refine WL.va rfl rfl rfl (X.move ((hAL0.eq 0).trans (congrFun hF5 0))) ?_
    refine WL.va rfl rfl rfl (X.len re rfl Try.underlying49) ?_
    refine WL.va rfl rfl rfl (X.lss rfl rfl) ?_
    refine WL.va rfl rfl rfl (X.moveB rfl) ?_
    refine WL.split (j := 4) rfl (fun h7 => ?_) (fun h7 => ?_)
    · have gh7 := (of_decide_eq_true h7)
      have hk : k < E.length := by omega
      refine WL.vg rfl (congrArg some h7) rfl rfl (X.moveI ((hAL0.eq 1).trans (congrFun hF5 1))) ?_
      refine WL.vg rfl (congrArg some h7) rfl rfl (X.neq rfl rfl) ?_
      refine WL.va rfl rfl rfl (X.pickT rfl h7 rfl) ?_
      refine WL.nil ?_
      refine thn_n ?_
      refine WF.cond rfl (fun h0_8 => ?_) (fun h0_8 => ?_)
      · have gh0_8 := (of_decide_eq_true h0_8)
        have hc : ¬ c = 0 := gh0_8
        have hdr := ask_drop (q := q) hc hk
        refine WF.skip ?_
        refine thn_n ?_
        refine WF.seq ?_
        refine WF.block ?_
        refine WF.seq ?_
        refine WF.seq ?_
        refine WF.region ?_
        refine WL.va rfl rfl rfl (X.move ((hAL0.eq 0).trans (congrFun hF5 0))) ?_
        refine WL.va rfl rfl rfl (X.moveI e8_L0) ?_
        refine WL.va rfl rfl rfl (X.idx re rfl rfl (by omega) Try.underlying49 Try.sizeOf55) ?_
        refine WL.va rfl rfl rfl (X.fieldAddrA rfl Try.underlying55 rfl rfl Try.sizeOf3) ?_
        refine WL.va rfl rfl rfl (X.loadE re (Ext.trans hx2 hwL0) rfl (by omega) ((SRow.get hk (by decide)).trans rfl) Try.isAgg3) ?_
        refine WL.va rfl rfl rfl (X.moveI ((hAL0.eq 1).trans (congrFun hF5 1))) ?_
        refine WL.va rfl rfl rfl (X.neq rfl rfl) ?_
        refine WL.nil ?_
        refine thn_n ?_
        refine WF.cond rfl (fun h1_10 => ?_) (fun h1_10 => ?_)
        · have gh1_10 := (of_decide_eq_true h1_10)
          have hno2 : askS (E.map Prod.fst) c q = askS ((E.map Prod.fst).drop (k + 1)) c q := by rw [hno, hdr, if_neg gh1_10]
          refine WF.exit ?_
          refine thn_x ?_
          refine blk_eq ?_
          refine thn_n ?_
          refine WF.region ?_
          refine WL.va rfl rfl rfl (X.moveI e8_L0) ?_
          refine WL.va rfl rfl rfl (X.add rfl rfl (w64 (by omega))) ?_
          refine WL.va rfl rfl rfl (X.assignI rfl) ?_
          refine WL.nil ?_
          exact thn_n ⟨_, (by omega), k + 1, rfl, rfl, (by repeat (first | exact hAL0 | refine Agree.put ?_ rfl | refine Agree.named hF5 ?_)), hwL0, ⟨by omega, hno2⟩⟩
        · have gh1_10 := (Decidable.of_not_not (of_decide_eq_false h1_10))
          have hcl := gh1_10
          refine WF.skip ?_
          refine thn_n ?_
          refine WF.seq ?_
          refine WF.seq ?_
          refine WF.region ?_
          refine WL.va rfl rfl rfl (X.moveI ((hAL0.eq 2).trans (congrFun hF5 2))) ?_
          refine WL.va rfl rfl rfl (X.move ((hAL0.eq 0).trans (congrFun hF5 0))) ?_
          refine WL.va rfl rfl rfl (X.moveI e8_L0) ?_
          refine WL.va rfl rfl rfl (X.idx re rfl rfl (by omega) Try.underlying49 Try.sizeOf55) ?_
          refine WL.va rfl rfl rfl (X.fieldAddrA rfl Try.underlying55 rfl rfl Try.sizeOf3) ?_
          refine WL.va rfl rfl rfl (X.loadE re (Ext.trans hx2 hwL0) rfl (by omega) ((SRow.get hk (by decide)).trans rfl) Try.isAgg3) ?_
          refine WL.va rfl rfl rfl (X.gtr rfl rfl) ?_
          refine WL.nil ?_
          refine thn_n ?_
          refine WF.cond rfl (fun h2_12 => ?_) (fun h2_12 => ?_)
          · have gh2_12 := (of_decide_eq_true h2_12)
            have hres : askS (E.map Prod.fst) c q = ((0, []), 0) := by rw [hno, hdr, if_pos hcl, if_pos (by omega)]
            refine WF.seq ?_
            refine WF.region ?_
            refine WL.va rfl rfl rfl (X.buildL (P := Try.prog) (t := 53) (cs := [i64 0, .slice none 0 0]) evp_nil Try.type53 Try.underlying53 rfl rfl trivial rfl) ?_
            refine WL.op rfl (OW.storeOA (hO6.ext hwL0) ((hAL0.eq 6).trans (congrFun hF5 6)) rfl rfl (by simp [Value.oneCell']) Try.sizeOf53 ?_)
            intro w14 hO6 hx16
            have := World.grownBy.size hx16
            refine WL.va rfl rfl rfl (X.assignI rfl) ?_
            refine WL.nil ?_
            refine thn_n ?_
            refine WF.ret ?_
            refine thn_r ?_
            refine blk_r ?_
            refine thn_r ?_
            refine thn_r ?_
            refine blk_r ?_
            refine thn_r ?_
            refine finC_r (vs := [_, _]) ⟨⟨_, ((hAL0.eq 6).trans (congrFun hF5 6)), readO hO6 Try.isAgg53 Try.sizeOf53⟩, rfl, trivial⟩ ?_
            rw [hres]; exact ⟨⟨_, rfl, nil_own _ _⟩, (Ext.store (Ext.trans hx2 hwL0) hx16 (by omega))⟩
          · have gh2_12 := (of_decide_eq_false h2_12)
            have hq1 := gh2_12
            refine WF.skip ?_
            refine thn_n ?_
            refine WF.seq ?_
            refine WF.seq ?_
            refine WF.region ?_
            refine WL.va rfl rfl rfl (X.moveI ((hAL0.eq 2).trans (congrFun hF5 2))) ?_
            refine WL.va rfl rfl rfl (X.move ((hAL0.eq 0).trans (congrFun hF5 0))) ?_
            refine WL.va rfl rfl rfl (X.moveI e8_L0) ?_
            refine WL.va rfl rfl rfl (X.idx re rfl rfl (by omega) Try.underlying49 Try.sizeOf55) ?_
            refine WL.va rfl rfl rfl (X.fieldAddrA rfl Try.underlying55 rfl rfl Try.sizeOf3) ?_
            refine WL.va rfl rfl rfl (X.loadE re (Ext.trans hx2 hwL0) rfl (by omega) ((SRow.get hk (by decide)).trans rfl) Try.isAgg3) ?_
            refine WL.va rfl rfl rfl (X.lss rfl rfl) ?_
            refine WL.nil ?_
            refine thn_n ?_
            refine WF.cond rfl (fun h3_18 => ?_) (fun h3_18 => ?_)
            · have gh3_18 := (of_decide_eq_true h3_18)
              have hres : askS (E.map Prod.fst) c q = ((0, []), 15) := by rw [hno, hdr, if_pos hcl, if_neg (by omega), if_pos (by omega)]
              refine WF.seq ?_
              refine WF.region ?_
              refine WL.va rfl rfl rfl (X.buildL (P := Try.prog) (t := 53) (cs := [i64 0, .slice none 0 0]) evp_nil Try.type53 Try.underlying53 rfl rfl trivial rfl) ?_
              refine WL.op rfl (OW.storeOA (hO6.ext hwL0) ((hAL0.eq 6).trans (congrFun hF5 6)) rfl rfl (by simp [Value.oneCell']) Try.sizeOf53 ?_)
              intro w20 hO6 hx22
              have := World.grownBy.size hx22
              refine WL.va rfl rfl rfl (X.assignI rfl) ?_
              refine WL.nil ?_
              refine thn_n ?_
              refine WF.ret ?_
              refine thn_r ?_
              refine blk_r ?_
              refine thn_r ?_
              refine thn_r ?_
              refine blk_r ?_
              refine thn_r ?_
              refine finC_r (vs := [_, _]) ⟨⟨_, ((hAL0.eq 6).trans (congrFun hF5 6)), readO hO6 Try.isAgg53 Try.sizeOf53⟩, rfl, trivial⟩ ?_
              rw [hres]; exact ⟨⟨_, rfl, nil_own _ _⟩, (Ext.store (Ext.trans hx2 hwL0) hx22 (by omega))⟩
            · have gh3_18 := (of_decide_eq_false h3_18)
              have hres : askS (E.map Prod.fst) c q = ((E[k].1.Code, E[k].1.Data), 7) := by rw [hno, hdr, if_pos hcl, if_neg (by omega), if_neg (by omega)]
              refine WF.skip ?_
              refine thn_n ?_
              refine WF.seq ?_
              refine WF.drawn (.q 0 (.q 1 (.q 2 (.q 3 (.q 4 (.q 5 (.q 6 (.q 7 (.q 8 (.q 9 (.q 10 (.q 11 (.l 12 (.q 13 .nil)))))))))))))) (fun w' => Ext wL0 w') 14 (by kernel_rfl) (by kernel_rfl) (Ext.drew _) ?_
              have := World.grownBy.size (Ext.drew wL0)
              refine WO.q rfl rfl rfl rfl (fun w' hE24 => (X.move ((hAL0.eq 0).trans (congrFun hF5 0)))) ?_
              refine WO.q rfl rfl rfl rfl (fun w' hE24 => (X.moveI e8_L0)) ?_
              refine WO.q rfl rfl rfl rfl (fun w' hE24 => (X.idx re rfl rfl (by omega) Try.underlying49 Try.sizeOf55)) ?_
              refine WO.q rfl rfl rfl rfl (fun w' hE24 => (X.fieldAddrA rfl Try.underlying55 rfl rfl Try.sizeOf53)) ?_
              refine WO.q rfl rfl rfl rfl (fun w' hE24 => (X.fieldAddrAA (off := 0) rfl Try.underlying53 rfl rfl Try.sizeOf28)) ?_
              refine WO.q rfl rfl rfl rfl (fun w' hE24 => (X.loadE re (Ext.trans (Ext.trans hx2 hwL0) hE24) rfl (by omega) ((SRow.get hk (by decide)).trans rfl) Try.isAgg28)) ?_
              refine WO.q rfl rfl rfl rfl (fun w' hE24 => (X.move ((hAL0.eq 0).trans (congrFun hF5 0)))) ?_
              refine WO.q rfl rfl rfl rfl (fun w' hE24 => (X.moveI e8_L0)) ?_
              refine WO.q rfl rfl rfl rfl (fun w' hE24 => (X.idx re rfl rfl (by omega) Try.underlying49 Try.sizeOf55)) ?_
              refine WO.q rfl rfl rfl rfl (fun w' hE24 => (X.fieldAddrA rfl Try.underlying55 rfl rfl Try.sizeOf53)) ?_
              refine WO.q rfl rfl rfl rfl (fun w' hE24 => (X.fieldAddrAA (off := 1) rfl Try.underlying53 rfl rfl Try.sizeOf46)) ?_
              refine WO.q rfl rfl rfl rfl (fun w' hE24 => (X.loadE re (Ext.trans (Ext.trans hx2 hwL0) hE24) rfl (by omega) ((SRow.get hk (by decide)).trans rfl) Try.isAgg46)) ?_
              refine WO.l ?_
              have szq := World.grownBy.size (Ext.trans (Ext.trans hx2 hwL0) (Ext.drew _))
              refine LO.go rfl rfl (OW.enter rfl (by decide) (X.call Try.call85 (evl_cons rfl evl_nil)) (copyBytes_ok _ E[k].1.Data _ (Row.ext (de _ (List.getElem_mem hk)) (Ext.trans (Ext.trans hx2 hwL0) (Ext.drew _))) (Nat.le_trans (hd _ (List.mem_map.2 ⟨_, List.getElem_mem hk, rfl⟩)) (by decide))) ?_)
              rintro dv w25 ⟨od, hx26⟩
              have := World.grownBy.size hx26
              refine ⟨(Ext.trans (Ext.drew _) hx26), ?_⟩
              refine WO.q rfl rfl rfl rfl (fun w' hE24 => (X.buildL (P := Try.prog) (t := 53) (cs := [i64 E[k].1.Code, dv]) (evp_cons rfl (evp_cons rfl evp_nil)) Try.type53 Try.underlying53 rfl rfl ⟨rfl, own_one od, trivial⟩ rfl)) ?_
              refine WO.nil ?_
              refine WL.op rfl (OW.storeOA (hO6.ext (Ext.trans (Ext.trans hwL0 (Ext.drew _)) hx26)) ((hAL0.eq 6).trans (congrFun hF5 6)) rfl rfl (show ∀ u ∈ [i64 E[k].1.Code, dv], u.oneCell' = true from by intro u hu; simp only [List.mem_cons, List.not_mem_nil, or_false] at hu; rcases hu with rfl | rfl; rfl; exact own_one od) Try.sizeOf53 ?_)
              intro w27 hO6 hx29
              have := World.grownBy.size hx29
              replace od := own_keptO od hx29 (by omega)
              replace hO6 : Blk _ _ _ [i64 E[k].1.Code, dv] := hO6
              refine WL.va rfl rfl rfl (X.assignI rfl) ?_
              refine WL.nil ?_
              refine thn_n ?_
              refine WF.ret ?_
              refine blk_r ?_
              refine thn_r ?_
              refine thn_r ?_
              refine blk_r ?_
              refine thn_r ?_
              refine finC_r (vs := [_, _]) ⟨⟨_, ((hAL0.eq 6).trans (congrFun hF5 6)), readO hO6 Try.isAgg53 Try.sizeOf53⟩, rfl, trivial⟩ ?_
              rw [hres]; exact ⟨⟨_, rfl, own_mono od szq⟩, (Ext.store (Ext.trans (Ext.trans (Ext.trans hx2 hwL0) (Ext.drew _)) hx26) hx29 (by omega))⟩
      · have gh0_8 := (Decidable.of_not_not (of_decide_eq_false h0_8))
        have hend : askS (E.map Prod.fst) c q = ((0, []), 0) := if_pos gh0_8
        refine WF.exit ?_
        refine thn_x ?_
        refine thn_x ?_
        refine blk_eq ?_
        refine thn_n ?_
        refine WF.seq ?_
        refine WF.region ?_
        refine WL.va rfl rfl rfl (X.buildL (P := Try.prog) (t := 53) (cs := [i64 0, .slice none 0 0]) evp_nil Try.type53 Try.underlying53 rfl rfl trivial rfl) ?_
        refine WL.op rfl (OW.storeOA (hO6.ext hwL0) ((hAL0.eq 6).trans (congrFun hF5 6)) rfl rfl (by simp [Value.oneCell']) Try.sizeOf53 ?_)
        intro w31 hO6 hx33
        have := World.grownBy.size hx33
        refine WL.va rfl rfl rfl (X.assignI rfl) ?_
        refine WL.nil ?_
        refine thn_n ?_
        refine WF.ret ?_
        refine finC_r (vs := [_, _]) ⟨⟨_, ((hAL0.eq 6).trans (congrFun hF5 6)), readO hO6 Try.isAgg53 Try.sizeOf53⟩, rfl, trivial⟩ ?_
        rw [hend]; exact ⟨⟨_, rfl, nil_own _ _⟩, (Ext.store (Ext.trans hx2 hwL0) hx33 (by omega))⟩
    · have gh7 := (of_decide_eq_false h7)
      have hend : askS (E.map Prod.fst) c q = ((0, []), 0) := by rw [hno, List.drop_of_length_le (by simp; omega)]; unfold askS; split <;> rfl
      refine WL.p rfl rfl rfl (congrArg some h7) ?_
      refine WL.p rfl rfl rfl (congrArg some h7) ?_
      refine WL.va rfl rfl rfl (X.pickF rfl h7 rfl) ?_
      refine WL.nil ?_
      refine thn_n ?_
      refine WF.cond_f rfl ?_
      refine WF.exit ?_
      refine thn_x ?_
      refine thn_x ?_
      refine blk_eq ?_
      refine thn_n ?_
      refine WF.seq ?_
      refine WF.region ?_
      refine WL.va rfl rfl rfl (X.buildL (P := Try.prog) (t := 53) (cs := [i64 0, .slice none 0 0]) evp_nil Try.type53 Try.underlying53 rfl rfl trivial rfl) ?_
      refine WL.op rfl (OW.storeOA (hO6.ext hwL0) ((hAL0.eq 6).trans (congrFun hF5 6)) rfl rfl (by simp [Value.oneCell']) Try.sizeOf53 ?_)
      intro w36 hO6 hx38
      have := World.grownBy.size hx38
      refine WL.va rfl rfl rfl (X.assignI rfl) ?_
      refine WL.nil ?_
      refine thn_n ?_
      refine WF.ret ?_
      refine finC_r (vs := [_, _]) ⟨⟨_, ((hAL0.eq 6).trans (congrFun hF5 6)), readO hO6 Try.isAgg53 Try.sizeOf53⟩, rfl, trivial⟩ ?_
      rw [hend]; exact ⟨⟨_, rfl, nil_own _ _⟩, (Ext.store (Ext.trans hx2 hwL0) hx38 (by omega))⟩

end Go.Proofs.Ytpimnlgfhpnjnaa.Se
