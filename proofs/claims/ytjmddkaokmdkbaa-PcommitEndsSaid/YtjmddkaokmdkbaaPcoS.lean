/- The walks of the document's coordinator: promise, Step, New. -/
import Derived.Test.YtjmddkaokmdkbaaPcoR
namespace Go.Proofs.Ytjmddkaokmdkbaa
open Go Go.RowKit Kf
set_option maxRecDepth 20000

theorem of_yes {l : List Hd} {p : Int} {k : Nat} (hk : k < l.length) (h : l[k].Part = p) : (l.take (k + 1)).filter (fun h => decide (h.Part = p)) = (l.take k).filter (fun h => decide (h.Part = p)) ++ [l[k]] := by
  rw [List.take_succ_eq_append_getElem hk, List.filter_append]; simp [h]
theorem of_no {l : List Hd} {p : Int} {k : Nat} (hk : k < l.length) (h : ¬ l[k].Part = p) : (l.take (k + 1)).filter (fun h => decide (h.Part = p)) = (l.take k).filter (fun h => decide (h.Part = p)) := by
  rw [List.take_succ_eq_append_getElem hk, List.filter_append]; simp [h]
theorem flt_len {l : List Hd} {p : Int} : (l.filter fun h => decide (h.Part = p)).length ≤ l.length := List.length_filter_le _ _
theorem app_hd {w : World} {B : Nat} {v : Value} {l : List Hd} {h : Hd} (o : w.ownsRow B 80 5 v (l.length + 1) (l.flatMap Hd.c ++ h.c)) : w.ownsRow B 80 5 v (l ++ [h]).length ((l ++ [h]).flatMap Hd.c) := by
  rw [List.length_append, List.flatMap_append]; simpa using o
theorem app_int {w : World} {B : Nat} {v : Value} {l : List Int} {x : Int} (o : w.ownsRow B 3 1 v (l.length + 1) (l.map i64 ++ [i64 x])) : w.ownsRow B 3 1 v (l ++ [x]).length ((l ++ [x]).map i64) := by
  rw [List.length_append, List.map_append]; simpa using o
theorem RC.promise_a {c : RC} {m : Msg} (h : (c.st = false ∨ m.Ballot ≠ c.bal ∨ m.Part ∈ c.prop)) : c.promise m = (c, []) := if_pos h
theorem RC.promise_b {c : RC} {m : Msg} (h1 : ¬ (c.st = false ∨ m.Ballot ≠ c.bal ∨ m.Part ∈ c.prop)) (h2 : (c.ofP m.Part).any (fun h => h.From == m.From) = true) : c.promise m = (c, []) := (if_neg h1).trans (if_pos h2)
theorem RC.promise_c {c : RC} {m : Msg} (h1 : ¬ (c.st = false ∨ m.Ballot ≠ c.bal ∨ m.Part ∈ c.prop)) (h2 : ¬ (c.ofP m.Part).any (fun h => h.From == m.From) = true) (h3 : 2 * ((c.ofP m.Part ++ [hdP m]).length : Int) ≤ c.nac) : c.promise m = ({ c with prom := c.prom ++ [hdP m] }, []) := (if_neg h1).trans ((if_neg h2).trans (if_pos h3))
theorem RC.promise_d {c : RC} {m : Msg} (h1 : ¬ (c.st = false ∨ m.Ballot ≠ c.bal ∨ m.Part ∈ c.prop)) (h2 : ¬ (c.ofP m.Part).any (fun h => h.From == m.From) = true) (h3 : ¬ 2 * ((c.ofP m.Part ++ [hdP m]).length : Int) ≤ c.nac) : c.promise m = ({ c with prom := c.prom ++ [hdP m], prop := c.prop ++ [m.Part] }, c.all (says m.Part (bestV (c.ofP m.Part ++ [hdP m])))) := (if_neg h1).trans ((if_neg h2).trans (if_neg h3))
theorem R_fin2 {w w' : World} {F : Fp Rl} {g : Nat} {c c' : RC} {vp va vr vo vr' vo' : Value} (h : RIn w F g c vp va vr vo) (hg : Blk w' g 49 (c'.cells vp va vr' vo')) (hp : c'.parts = c.parts) (hac : c'.acc = c.acc)
    (hC : ChgS (fun b => b = g ∨ ∃ r, F b = some r ∧ (r = Rl.pr ∨ r = Rl.po)) w w') (hr : w'.ownsRow 0 80 5 vr' c'.prom.length (c'.prom.flatMap Hd.c)) (hr2 : ∀ b, vr'.ownBlock = some b → F b = some .pr ∨ F b = none ∧ w.heap.size ≤ b)
    (ho : w'.ownsRow 0 3 1 vo' c'.prop.length (c'.prop.map i64)) (ho2 : ∀ b, vo'.ownBlock = some b → F b = some .po ∨ F b = none ∧ w.heap.size ≤ b) (hap : ∀ b, vr'.ownBlock = some b → vo'.ownBlock ≠ some b) : RPost w w' F g c' :=
  R_fin (Q := fun r => r = Rl.pr ∨ r = Rl.po) h hg hp hC (by simp) (by simp) (.inl ⟨by simp, rfl, hac⟩) (fun b e => .inl (h.acc.fp b e)) (.inr hr) hr2 (.inr ho) ho2
    (dis_own (fun b e => .inl (h.acc.fp b e)) hr2 (by simp) (.inl h.acc.fp)) (dis_own (fun b e => .inl (h.acc.fp b e)) ho2 (by simp) (.inl h.acc.fp)) hap
set_option maxHeartbeats 8000000 in
theorem promiseR_ok (F : Fp Rl) (g : Nat) (c : RC) (m : Msg) (em dm : Value) (w : World) (h : RAt w F g c) (hok : c.ok) : FnOk Try.prog 37 [at_ g, agg (m.c em dm)] w (fun r w' => OwnM w' w.heap.size 40 r (c.promise m).2 ∧ RPost w w' F g (c.promise m).1) := by
  obtain ⟨vp, va, vr, vo, hI⟩ := h
  have hO := hI.obj
  have zg := Fp.lt hI.below hI.at_
  obtain ⟨Bp, Tp, oP, zP, bP, nP⟩ := hI.parts.outT
  obtain ⟨Ba, Ta, oA, zA, bA, nA⟩ := hI.acc.outT
  obtain ⟨Br, Tr, oR, zR, bR, nR⟩ := hI.prom.outT
  obtain ⟨Bo, To, oo, zo, bo, no⟩ := hI.prop.outT
  have n1 := nP g _ hI.at_ (by simp)
  have n2 := nA g _ hI.at_ (by simp)
  have n3 := nR g _ hI.at_ (by simp)
  have n4 := no g _ hI.at_ (by simp)
  obtain ⟨hn1, hn7⟩ := hok.nac
  have hp4 := hok.parts
  have ha4 := hok.acc
  have hr4 := hok.prom
  have ho4 := hok.prop
  have hrl : (c.prom.length : Int) ≤ 9223372036854775807 := by omega
  refine FnOk.enter (rs := [4]) Try.func37 rfl Try.ntmps37 Try.results37 rfl rfl ?_
  refine WF.seq ?_
  refine WF.region ?_
  refine WL.op rfl (OW.boxA (cs := (m.c em dm)) rfl ?_ (by decide))
  intro g3 w1 heg3 hlg3 hO3 hx3
  have := World.grownBy.size hx3
  refine WL.va rfl rfl rfl (X.assign rfl) ?_
  refine WL.nil ?_
  refine thn_n ?_
  refine WF.seq ?_
  refine WF.named (fun F5 hF6 => ?_)
  refine WF.cut (fun f' w' => f' 34 = .bool (decide (c.st = false ∨ m.Ballot ≠ c.bal ∨ m.Part ∈ c.prop)) ∧ Agree [0, 1, 3, 4] f' F5 ∧ Ext w1 w') ?_ ?_
  · refine WF.drawn (.q 0 (.q 1 (.q 2 (.q 3 (.q 4 (.q 5 (.q 6 (.q 7 (.q 8 (.q 9 (.q 10 (.q 11 (.q 12 (.q 13 (.q 14 (.q 15 (.q 16 (.q 17 (.q 18 (.q 19 (.q 20 (.l 21 (.q 22 .nil))))))))))))))))))))))) (fun w' => Ext w1 w') 23 (by kernel_rfl) (by kernel_rfl) (Ext.drew _) ?_
    have := World.grownBy.size (Ext.drew w1)
    refine WO.q rfl rfl rfl rfl (fun w' hE7 => (X.move (congrFun hF6 0))) ?_
    refine WO.q rfl rfl rfl rfl (fun w' hE7 => (X.nilCheck rfl)) ?_
    refine WO.q rfl rfl rfl rfl (fun w' hE7 => (X.fieldAddrP (off := 7) rfl Try.underlying49 rfl rfl Try.sizeOf4)) ?_
    refine WO.q rfl rfl rfl rfl (fun w' hE7 => (X.loadO hO (Ext.trans hx3 hE7) rfl rfl Try.isAgg4)) ?_
    refine WO.q rfl rfl rfl rfl (fun w' hE7 => (X.not rfl)) ?_
    refine WO.q rfl rfl rfl rfl (fun w' hE7 => (X.moveB rfl)) ?_
    refine WO.split (j := 5) rfl (fun h10 => ?_) (fun h10 => ?_)
    · have gh10 := (nt h10)
      have a1 : c.st = false := gh10
      refine WO.qp rfl rfl rfl rfl (congrArg some h10) ?_
      refine WO.qp rfl rfl rfl rfl (congrArg some h10) ?_
      refine WO.qp rfl rfl rfl rfl (congrArg some h10) ?_
      refine WO.qp rfl rfl rfl rfl (congrArg some h10) ?_
      refine WO.qp rfl rfl rfl rfl (congrArg some h10) ?_
      refine WO.qp rfl rfl rfl rfl (congrArg some h10) ?_
      refine WO.qp rfl rfl rfl rfl (congrArg some h10) ?_
      refine WO.q rfl rfl rfl rfl (fun w' hE7 => (X.pickT rfl h10 rfl)) ?_
      refine WO.q rfl rfl rfl rfl (fun w' hE7 => (X.moveB rfl)) ?_
      refine WO.qp rfl rfl rfl rfl rfl ?_
      refine WO.qp rfl rfl rfl rfl rfl ?_
      refine WO.qp rfl rfl rfl rfl rfl ?_
      refine WO.qp rfl rfl rfl rfl rfl ?_
      refine WO.qp rfl rfl rfl rfl rfl ?_
      refine WO.qp rfl rfl rfl rfl rfl ?_
      refine WO.l ?_
      refine LO.pass rfl (Ext.drew _) rfl rfl rfl rfl ?_
      refine WO.q rfl rfl rfl rfl (fun w' hE7 => (X.pickT rfl rfl rfl)) ?_
      refine WO.nil ?_
      refine WL.nil ?_
      refine thn_n ?_
      exact ⟨(congrArg Value.bool (by first | exact (decide_eq_true (show (c.st = false ∨ m.Ballot ≠ c.bal ∨ m.Part ∈ c.prop) from .inl a1)).symm | exact (decide_eq_true (show (c.st = false ∨ m.Ballot ≠ c.bal ∨ m.Part ∈ c.prop) from .inr (.inl a2))).symm | (apply decide_eq_decide.2; exact ⟨fun e => .inr (.inr e), fun e => (e.resolve_left b1).resolve_left b2⟩))), (by repeat (first | exact (Agree.refl _ F5) | refine Agree.put ?_ rfl | refine Agree.named hF6 ?_)), (Ext.drew _)⟩
    · have gh10 := (nf h10)
      have b1 : ¬ c.st = false := by rw [gh10]; simp
      refine WO.qg rfl rfl (congrArg some h10) rfl rfl (fun w' hE7 => (X.fieldAddrO (off := 11) (congrFun hF6 3) Try.underlying40 rfl rfl Try.sizeOf3)) ?_
      refine WO.qg rfl rfl (congrArg some h10) rfl rfl (fun w' hE7 => (X.loadO hO3 hE7 rfl rfl Try.isAgg3)) ?_
      refine WO.qg rfl rfl (congrArg some h10) rfl rfl (fun w' hE7 => (X.move (congrFun hF6 0))) ?_
      refine WO.qg rfl rfl (congrArg some h10) rfl rfl (fun w' hE7 => (X.nilCheck rfl)) ?_
      refine WO.qg rfl rfl (congrArg some h10) rfl rfl (fun w' hE7 => (X.fieldAddrP (off := 9) rfl Try.underlying49 rfl rfl Try.sizeOf3)) ?_
      refine WO.qg rfl rfl (congrArg some h10) rfl rfl (fun w' hE7 => (X.loadO hO (Ext.trans hx3 hE7) rfl rfl Try.isAgg3)) ?_
      refine WO.qg rfl rfl (congrArg some h10) rfl rfl (fun w' hE7 => (X.neq rfl rfl)) ?_
      refine WO.q rfl rfl rfl rfl (fun w' hE7 => (X.pickF rfl h10 rfl)) ?_
      refine WO.q rfl rfl rfl rfl (fun w' hE7 => (X.moveB rfl)) ?_
      refine WO.split (j := 14) rfl (fun h14 => ?_) (fun h14 => ?_)
      · have gh14 := (of_decide_eq_true h14)
        have a2 : m.Ballot ≠ c.bal := gh14
        refine WO.qp rfl rfl rfl rfl (congrArg some h14) ?_
        refine WO.qp rfl rfl rfl rfl (congrArg some h14) ?_
        refine WO.qp rfl rfl rfl rfl (congrArg some h14) ?_
        refine WO.qp rfl rfl rfl rfl (congrArg some h14) ?_
        refine WO.qp rfl rfl rfl rfl (congrArg some h14) ?_
        refine WO.qp rfl rfl rfl rfl (congrArg some h14) ?_
        refine WO.l ?_
        refine LO.pass rfl (Ext.drew _) rfl rfl rfl (congrArg some h14) ?_
        refine WO.q rfl rfl rfl rfl (fun w' hE7 => (X.pickT rfl h14 rfl)) ?_
        refine WO.nil ?_
        refine WL.nil ?_
        refine thn_n ?_
        exact ⟨(congrArg Value.bool (by first | exact (decide_eq_true (show (c.st = false ∨ m.Ballot ≠ c.bal ∨ m.Part ∈ c.prop) from .inl a1)).symm | exact (decide_eq_true (show (c.st = false ∨ m.Ballot ≠ c.bal ∨ m.Part ∈ c.prop) from .inr (.inl a2))).symm | (apply decide_eq_decide.2; exact ⟨fun e => .inr (.inr e), fun e => (e.resolve_left b1).resolve_left b2⟩))), (by repeat (first | exact (Agree.refl _ F5) | refine Agree.put ?_ rfl | refine Agree.named hF6 ?_)), (Ext.drew _)⟩
      · have gh14 := (Decidable.of_not_not (of_decide_eq_false h14))
        have b2 : ¬ m.Ballot ≠ c.bal := fun e => e gh14
        refine WO.qg rfl rfl (congrArg some h14) rfl rfl (fun w' hE7 => (X.move (congrFun hF6 0))) ?_
        refine WO.qg rfl rfl (congrArg some h14) rfl rfl (fun w' hE7 => (X.nilCheck rfl)) ?_
        refine WO.qg rfl rfl (congrArg some h14) rfl rfl (fun w' hE7 => (X.fieldAddrP (off := 6) rfl Try.underlying49 rfl rfl Try.sizeOf22)) ?_
        refine WO.qg rfl rfl (congrArg some h14) rfl rfl (fun w' hE7 => (X.loadO hO (Ext.trans hx3 hE7) rfl rfl Try.isAgg22)) ?_
        refine WO.qg rfl rfl (congrArg some h14) rfl rfl (fun w' hE7 => (X.fieldAddrO (off := 10) (congrFun hF6 3) Try.underlying40 rfl rfl Try.sizeOf3)) ?_
        refine WO.qg rfl rfl (congrArg some h14) rfl rfl (fun w' hE7 => (X.loadO hO3 hE7 rfl rfl Try.isAgg3)) ?_
        refine WO.l ?_
        refine LO.gog rfl rfl (congrArg some h14) (OW.enter rfl (by decide) (X.call Try.call36 (evl_cons rfl (evl_cons rfl evl_nil))) (inR_ok _ c.prop _ _ (oo.ext (Ext.trans hx3 (Ext.drew _))).rd) ?_)
        rintro v17 w16 ⟨rfl, hx18⟩
        have := World.grownBy.size hx18
        refine ⟨(Ext.trans (Ext.drew _) hx18), ?_⟩
        refine WO.q rfl rfl rfl rfl (fun w' hE7 => (X.pickF rfl h14 rfl)) ?_
        refine WO.nil ?_
        refine WL.nil ?_
        refine thn_n ?_
        exact ⟨(congrArg Value.bool (by first | exact (decide_eq_true (show (c.st = false ∨ m.Ballot ≠ c.bal ∨ m.Part ∈ c.prop) from .inl a1)).symm | exact (decide_eq_true (show (c.st = false ∨ m.Ballot ≠ c.bal ∨ m.Part ∈ c.prop) from .inr (.inl a2))).symm | (apply decide_eq_decide.2; exact ⟨fun e => .inr (.inr e), fun e => (e.resolve_left b1).resolve_left b2⟩))), (by repeat (first | exact (Agree.refl _ F5) | refine Agree.put ?_ rfl | refine Agree.named hF6 ?_)), (Ext.trans (Ext.drew _) hx18)⟩
  · rintro fCr1 wCr1 ⟨e34_Cr1, hACr1, hwCr1⟩
    have := World.grownBy.size hwCr1
    refine WF.cond e34_Cr1 (fun h0_20 => ?_) (fun h0_20 => ?_)
    · have gh0_20 := (of_decide_eq_true h0_20)
      have hp1 : (c.st = false ∨ m.Ballot ≠ c.bal ∨ m.Part ∈ c.prop) := gh0_20
      refine WF.seq ?_
      refine WF.region ?_
      refine WL.va rfl rfl rfl (X.assign rfl) ?_
      refine WL.nil ?_
      refine thn_n ?_
      refine WF.ret ?_
      refine thn_r ?_
      refine fin_r ?_
      rw [RC.promise_a hp1]; exact ⟨OwnM.nil _ _ _, RPost.same ⟨_, _, _, _, hI⟩ (Ext.trans hx3 hwCr1)⟩
    · have gh0_20 := (of_decide_eq_false h0_20)
      have hp1 : ¬ (c.st = false ∨ m.Ballot ≠ c.bal ∨ m.Part ∈ c.prop) := gh0_20
      refine WF.skip ?_
      refine thn_n ?_
      refine WF.seq ?_
      refine WF.region ?_
      refine WL.va rfl rfl rfl (X.assign rfl) ?_
      refine WL.nil ?_
      refine thn_n ?_
      refine WF.seq ?_
      refine WF.seq ?_
      refine WF.region ?_
      refine WL.va rfl rfl rfl (X.assignI rfl) ?_
      refine WL.nil ?_
      refine thn_n ?_
      refine WF.block ?_
      refine WF.named (fun F22 hF23 => ?_)
      refine WF.loopN (fun mL0 f' w' => ∃ (k : Nat) (vq : Value), mL0 = c.prom.length - k ∧ f' 6 = .int .i64 (k : Int) ∧ f' 5 = vq ∧ Agree [0, 1, 3, 4, 34] f' F22 ∧ Ext wCr1 w' ∧ k ≤ c.prom.length ∧ w'.ownsRow wCr1.heap.size 80 5 vq ((c.prom.take k).filter fun h => decide (h.Part = m.Part)).length (((c.prom.take k).filter fun h => decide (h.Part = m.Part)).flatMap Hd.c)) ?_ ?_
      · exact ⟨_, 0, nilS, rfl, (congrFun hF23 6), (congrFun hF23 5), (Agree.refl _ _), (Ext.refl _), ⟨Nat.zero_le _, World.ownsRow_nil _ _ _ _⟩⟩
      · rintro mL0 fL0 wL0 ⟨k, vq, hmL0, e6_L0, e5_L0, hAL0, hwL0, ⟨hk0, hoq⟩⟩
        have := World.grownBy.size hwL0
        have hfl : ((c.prom.take k).filter fun h => decide (h.Part = m.Part)).length ≤ (c.prom.take k).length := flt_len
        rw [List.length_take] at hfl
        refine WF.seq ?_
        refine WF.seq ?_
        refine WF.region ?_
        refine WL.va rfl rfl rfl (X.moveI e6_L0) ?_
        refine WL.va rfl rfl rfl (X.move ((hAL0.eq 0).trans ((congrFun hF23 0).trans ((hACr1.eq 0).trans (congrFun hF6 0))))) ?_
        refine WL.va rfl rfl rfl (X.nilCheck rfl) ?_
        refine WL.va rfl rfl rfl (X.fieldAddrP (off := 5) rfl Try.underlying49 rfl rfl Try.sizeOf47) ?_
        refine WL.va rfl rfl rfl (X.loadO hO (Ext.trans (Ext.trans hx3 hwCr1) hwL0) rfl rfl Try.isAgg47) ?_
        refine WL.va rfl rfl rfl (X.len (oR.rd) rfl Try.underlying47) ?_
        refine WL.va rfl rfl rfl (X.lss rfl rfl) ?_
        refine WL.nil ?_
        refine thn_n ?_
        refine WF.cond rfl (fun h1_24 => ?_) (fun h1_24 => ?_)
        · have gh1_24 := (of_decide_eq_true h1_24)
          have hk : k < c.prom.length := by omega
          refine WF.skip ?_
          refine thn_n ?_
          refine WF.seq ?_
          refine WF.block ?_
          refine WF.seq ?_
          refine WF.drawn (.q 0 (.q 1 (.q 2 (.q 3 (.q 4 (.q 5 (.q 6 (.q 7 (.q 8 (.q 9 (.q 10 .nil))))))))))) (fun w' => Ext wL0 w') 11 (by kernel_rfl) (by kernel_rfl) (Ext.drew _) ?_
          have := World.grownBy.size (Ext.drew wL0)
          refine WO.q rfl rfl rfl rfl (fun w' hE26 => (X.move ((hAL0.eq 0).trans ((congrFun hF23 0).trans ((hACr1.eq 0).trans (congrFun hF6 0)))))) ?_
          refine WO.q rfl rfl rfl rfl (fun w' hE26 => (X.nilCheck rfl)) ?_
          refine WO.q rfl rfl rfl rfl (fun w' hE26 => (X.fieldAddrP (off := 5) rfl Try.underlying49 rfl rfl Try.sizeOf47)) ?_
          refine WO.q rfl rfl rfl rfl (fun w' hE26 => (X.loadO hO (Ext.trans (Ext.trans (Ext.trans hx3 hwCr1) hwL0) hE26) rfl rfl Try.isAgg47)) ?_
          refine WO.q rfl rfl rfl rfl (fun w' hE26 => (X.moveI e6_L0)) ?_
          refine WO.q rfl rfl rfl rfl (fun w' hE26 => (X.idx (oR.rd) rfl rfl (by omega) Try.underlying47 Try.sizeOf80)) ?_
          refine WO.q rfl rfl rfl rfl (fun w' hE26 => (X.fieldAddrA rfl Try.underlying80 rfl rfl Try.sizeOf3)) ?_
          refine WO.q rfl rfl rfl rfl (fun w' hE26 => (X.loadE (oR.rd) (Ext.trans (Ext.trans (Ext.trans hx3 hwCr1) hwL0) hE26) rfl (by omega) ((hd_get hk (by decide)).trans rfl) Try.isAgg3)) ?_
          refine WO.q rfl rfl rfl rfl (fun w' hE26 => (X.fieldAddrO (off := 10) ((hAL0.eq 3).trans ((congrFun hF23 3).trans ((hACr1.eq 3).trans (congrFun hF6 3)))) Try.underlying40 rfl rfl Try.sizeOf3)) ?_
          refine WO.q rfl rfl rfl rfl (fun w' hE26 => (X.loadO hO3 (Ext.trans (Ext.trans hwCr1 hwL0) hE26) rfl rfl Try.isAgg3)) ?_
          refine WO.q rfl rfl rfl rfl (fun w' hE26 => (X.eql rfl rfl)) ?_
          refine WO.nil ?_
          refine WL.nil ?_
          refine thn_n ?_
          refine WF.cond rfl (fun h2_27 => ?_) (fun h2_27 => ?_)
          · have gh2_27 := (of_decide_eq_true h2_27)
            have hyy := of_yes hk gh2_27
            refine WF.region ?_
            refine WL.va rfl rfl rfl (X.move e5_L0) ?_
            refine WL.va rfl rfl rfl (X.move ((hAL0.eq 0).trans ((congrFun hF23 0).trans ((hACr1.eq 0).trans (congrFun hF6 0))))) ?_
            refine WL.va rfl rfl rfl (X.nilCheck rfl) ?_
            refine WL.va rfl rfl rfl (X.fieldAddrP (off := 5) rfl Try.underlying49 rfl rfl Try.sizeOf47) ?_
            refine WL.va rfl rfl rfl (X.loadO hO (Ext.trans (Ext.trans (Ext.trans hx3 hwCr1) hwL0) (Ext.drew _)) rfl rfl Try.isAgg47) ?_
            refine WL.va rfl rfl rfl (X.moveI e6_L0) ?_
            refine WL.va rfl rfl rfl (X.idx (oR.rd) rfl rfl (by omega) Try.underlying47 Try.sizeOf80) ?_
            refine WL.va rfl rfl rfl (X.loadEl (oR.rd) (Ext.trans (Ext.trans (Ext.trans hx3 hwCr1) hwL0) (Ext.drew _)) rfl (by omega) (hd_el hk) Try.isAgg80 Try.sizeOf80) ?_
            refine WL.op rfl (OW.lits (vs := [_]) (evp_cons rfl evp_nil) Try.underlying47 Try.sizeOf80 Try.zeroValue80 ⟨rfl, trivial⟩ rfl rfl rfl ?_ (by decide))
            intro v30 w29 ho32 hx31
            have := World.grownBy.size hx31
            have hlt := ho32
            refine WL.op rfl (OW.append (bytes := 40) (own_ext hoq (Ext.trans (Ext.drew _) hx31)) (Row.of_own hlt) (Hd.c_one _) rfl rfl Try.underlying47 Try.type80 rfl rfl rfl rfl (by decide) (by unfold maxLen; omega) (by omega) (by omega) ?_ (by decide))
            intro v34 w33 ho36 hx35 hmvhx35
            have := World.grownBy.size hx35
            replace oR := (oR.ext (Ext.trans (Ext.trans (Ext.trans (Ext.trans hx3 hwCr1) hwL0) (Ext.drew _)) hx31)).kept hx35 (fun b hb => by have := ((own_ext hoq (Ext.trans (Ext.drew _) hx31)).lt b hb).1; omega)
            replace oo := (oo.ext (Ext.trans (Ext.trans (Ext.trans (Ext.trans hx3 hwCr1) hwL0) (Ext.drew _)) hx31)).kept hx35 (fun b hb => by have := ((own_ext hoq (Ext.trans (Ext.drew _) hx31)).lt b hb).1; omega)
            replace hO := (hO.ext (Ext.trans (Ext.trans (Ext.trans (Ext.trans hx3 hwCr1) hwL0) (Ext.drew _)) hx31)).keptR hx35 (fun b hb => by have := ((own_ext hoq (Ext.trans (Ext.drew _) hx31)).lt b hb).1; omega)
            replace hO3 := (hO3.ext (Ext.trans (Ext.trans (Ext.trans hwCr1 hwL0) (Ext.drew _)) hx31)).keptR hx35 (fun b hb => by have := ((own_ext hoq (Ext.trans (Ext.drew _) hx31)).lt b hb).1; omega)
            have hoq4 := app_hd ho36
            refine WL.va rfl rfl rfl (X.assign rfl) ?_
            refine WL.nil ?_
            refine blk_n ?_
            refine thn_n ?_
            refine WF.region ?_
            refine WL.va rfl rfl rfl (X.moveI e6_L0) ?_
            refine WL.va rfl rfl rfl (X.add rfl rfl (w64 (by omega))) ?_
            refine WL.va rfl rfl rfl (X.assignI rfl) ?_
            refine WL.nil ?_
            exact thn_n ⟨_, (by omega), k + 1, _, rfl, rfl, rfl, (by repeat (first | exact hAL0 | refine Agree.put ?_ rfl | refine Agree.sub hACr1 rfl ?_ | refine Agree.named hF23 ?_ | refine Agree.named hF6 ?_)), (Ext.own (Ext.trans (Ext.trans hwL0 (Ext.drew _)) hx31) (own_ext hoq (Ext.trans (Ext.drew _) hx31)) (Nat.le_refl _) hx35), ⟨by omega, by rw [hyy]; exact hoq4⟩⟩
          · have gh2_27 := (of_decide_eq_false h2_27)
            have hyy := of_no hk gh2_27
            refine WF.skip ?_
            refine blk_n ?_
            refine thn_n ?_
            refine WF.region ?_
            refine WL.va rfl rfl rfl (X.moveI e6_L0) ?_
            refine WL.va rfl rfl rfl (X.add rfl rfl (w64 (by omega))) ?_
            refine WL.va rfl rfl rfl (X.assignI rfl) ?_
            refine WL.nil ?_
            first | exact thn_n ⟨_, (by omega), k + 1, _, rfl, rfl, e5_L0, (by repeat (first | exact hAL0 | refine Agree.put ?_ rfl | refine Agree.sub hACr1 rfl ?_ | refine Agree.named hF23 ?_ | refine Agree.named hF6 ?_)), (Ext.trans hwL0 (Ext.drew _)), ⟨by omega, by rw [hyy]; exact hoq4⟩⟩ | exact thn_n ⟨_, (by omega), k + 1, _, rfl, rfl, e5_L0, (by repeat (first | exact hAL0 | refine Agree.put ?_ rfl | refine Agree.sub hACr1 rfl ?_ | refine Agree.named hF23 ?_ | refine Agree.named hF6 ?_)), (Ext.trans hwL0 (Ext.drew _)), ⟨by omega, by rw [hyy]; exact (own_ext hoq (Ext.drew _))⟩⟩
        · have gh1_24 := (of_decide_eq_false h1_24)
          have hfe : ((c.prom.take k).filter fun h => decide (h.Part = m.Part)) = (c.ofP m.Part) := by unfold RC.ofP; rw [List.take_of_length_le (by omega)]
          rw [hfe] at hoq
          have hol : (c.ofP m.Part).length ≤ c.prom.length := flt_len
          have hll : (c.ofP m.Part ++ [hdP m]).length = (c.ofP m.Part).length + 1 := by simp
          refine WF.exit ?_
          refine thn_x ?_
          refine thn_x ?_
          refine blk_eq ?_
          refine thn_n ?_
          refine WF.seq ?_
          refine WF.seq ?_
          refine WF.region ?_
          refine WL.va rfl rfl rfl (X.assignI rfl) ?_
          refine WL.nil ?_
          refine thn_n ?_
          refine WF.block ?_
          refine WF.named (fun F37 hF38 => ?_)
          refine WF.loopN (fun mL1 f' w' => ∃ (k1 : Nat), mL1 = (c.ofP m.Part).length - k1 ∧ f' 7 = .int .i64 (k1 : Int) ∧ Agree [0, 1, 3, 5, 6, 34, 35, 36, 37, 38, 39, 40, 41] f' F37 ∧ Ext wL0 w' ∧ k1 ≤ (c.ofP m.Part).length ∧ ∀ q (hq : q < (c.ofP m.Part).length), q < k1 → ¬ (c.ofP m.Part)[q].From = m.From) ?_ ?_
          · exact ⟨_, 0, rfl, (congrFun hF38 7), (Agree.refl _ _), (Ext.refl _), ⟨Nat.zero_le _, fun q _ hq => by omega⟩⟩
          · rintro mL1 fL1 wL1 ⟨k1, hmL1, e7_L1, hAL1, hwL1, ⟨hk0, hno⟩⟩
            have := World.grownBy.size hwL1
            refine WF.seq ?_
            refine WF.seq ?_
            refine WF.region ?_
            refine WL.va rfl rfl rfl (X.moveI e7_L1) ?_
            refine WL.va rfl rfl rfl (X.move ((hAL1.eq 5).trans ((congrFun hF38 5).trans e5_L0))) ?_
            refine WL.va rfl rfl rfl (X.len (Row.of_own hoq) rfl Try.underlying47) ?_
            refine WL.va rfl rfl rfl (X.lss rfl rfl) ?_
            refine WL.nil ?_
            refine thn_n ?_
            refine WF.cond rfl (fun h3_39 => ?_) (fun h3_39 => ?_)
            · have gh3_39 := (of_decide_eq_true h3_39)
              have hk1 : k1 < (c.ofP m.Part).length := by omega
              refine WF.skip ?_
              refine thn_n ?_
              refine WF.seq ?_
              refine WF.block ?_
              refine WF.seq ?_
              refine WF.drawn (.q 0 (.q 1 (.q 2 (.q 3 (.q 4 (.q 5 (.q 6 (.q 7 .nil)))))))) (fun w' => Ext wL1 w') 8 (by kernel_rfl) (by kernel_rfl) (Ext.drew _) ?_
              have := World.grownBy.size (Ext.drew wL1)
              refine WO.q rfl rfl rfl rfl (fun w' hE41 => (X.move ((hAL1.eq 5).trans ((congrFun hF38 5).trans e5_L0)))) ?_
              refine WO.q rfl rfl rfl rfl (fun w' hE41 => (X.moveI e7_L1)) ?_
              refine WO.q rfl rfl rfl rfl (fun w' hE41 => (X.idx (Row.of_own hoq) rfl rfl (by omega) Try.underlying47 Try.sizeOf80)) ?_
              refine WO.q rfl rfl rfl rfl (fun w' hE41 => (X.fieldAddrA rfl Try.underlying80 rfl rfl Try.sizeOf3)) ?_
              refine WO.q rfl rfl rfl rfl (fun w' hE41 => (X.loadE (Row.of_own hoq) (Ext.trans hwL1 hE41) rfl (by omega) ((hd_get hk1 (by decide)).trans rfl) Try.isAgg3)) ?_
              refine WO.q rfl rfl rfl rfl (fun w' hE41 => (X.fieldAddrO (off := 1) ((hAL1.eq 3).trans ((congrFun hF38 3).trans ((hAL0.eq 3).trans ((congrFun hF23 3).trans ((hACr1.eq 3).trans (congrFun hF6 3)))))) Try.underlying40 rfl rfl Try.sizeOf3)) ?_
              refine WO.q rfl rfl rfl rfl (fun w' hE41 => (X.loadO hO3 (Ext.trans (Ext.trans (Ext.trans hwCr1 hwL0) hwL1) hE41) rfl rfl Try.isAgg3)) ?_
              refine WO.q rfl rfl rfl rfl (fun w' hE41 => (X.eql rfl rfl)) ?_
              refine WO.nil ?_
              refine WL.nil ?_
              refine thn_n ?_
              refine WF.cond rfl (fun h4_42 => ?_) (fun h4_42 => ?_)
              · have gh4_42 := (of_decide_eq_true h4_42)
                have hp2 : (c.ofP m.Part).any (fun h => h.From == m.From) = true := any_at hk1 (beq_iff_eq.2 gh4_42)
                refine WF.seq ?_
                refine WF.region ?_
                refine WL.va rfl rfl rfl (X.assign rfl) ?_
                refine WL.nil ?_
                refine thn_n ?_
                refine WF.ret ?_
                refine blk_r ?_
                refine thn_r ?_
                refine thn_r ?_
                refine blk_r ?_
                refine thn_r ?_
                refine fin_r ?_
                rw [RC.promise_b hp1 hp2]; exact ⟨OwnM.nil _ _ _, RPost.same ⟨_, _, _, _, hI⟩ (Ext.trans (Ext.trans (Ext.trans (Ext.trans hx3 hwCr1) hwL0) hwL1) (Ext.drew _))⟩
              · have gh4_42 := (of_decide_eq_false h4_42)
                have hne := gh4_42
                refine WF.skip ?_
                refine blk_n ?_
                refine thn_n ?_
                refine WF.region ?_
                refine WL.va rfl rfl rfl (X.moveI e7_L1) ?_
                refine WL.va rfl rfl rfl (X.add rfl rfl (w64 (by omega))) ?_
                refine WL.va rfl rfl rfl (X.assignI rfl) ?_
                refine WL.nil ?_
                exact thn_n ⟨_, (by omega), k1 + 1, rfl, rfl, (by repeat (first | exact hAL1 | refine Agree.put ?_ rfl | refine Agree.sub hAL0 rfl ?_ | refine Agree.sub hACr1 rfl ?_ | refine Agree.named hF38 ?_ | refine Agree.named hF23 ?_ | refine Agree.named hF6 ?_)), (Ext.trans hwL1 (Ext.drew _)), ⟨by omega, fun q hq1 hq2 => by rcases Nat.lt_succ_iff_lt_or_eq.1 hq2 with h | rfl; exact hno q hq1 h; exact hne⟩⟩
            · have gh3_39 := (of_decide_eq_false h3_39)
              have hp2 : ¬ (c.ofP m.Part).any (fun h => h.From == m.From) = true := fun e => by obtain ⟨x, hx, e⟩ := List.any_eq_true.1 e; obtain ⟨q, hq, rfl⟩ := List.getElem_of_mem hx; exact hno q hq (by omega) (beq_iff_eq.1 e)
              have oF := OwnT.of (own_ext hoq hwL1)
              refine WF.exit ?_
              refine thn_x ?_
              refine thn_x ?_
              refine blk_eq ?_
              refine thn_n ?_
              refine WF.seq ?_
              refine WF.region ?_
              refine WL.va rfl rfl rfl (X.fieldAddrO (off := 10) ((hAL1.eq 3).trans ((congrFun hF38 3).trans ((hAL0.eq 3).trans ((congrFun hF23 3).trans ((hACr1.eq 3).trans (congrFun hF6 3)))))) Try.underlying40 rfl rfl Try.sizeOf3) ?_
              refine WL.va rfl rfl rfl (X.loadO hO3 (Ext.trans (Ext.trans hwCr1 hwL0) hwL1) rfl rfl Try.isAgg3) ?_
              refine WL.va rfl rfl rfl (X.fieldAddrO (off := 1) ((hAL1.eq 3).trans ((congrFun hF38 3).trans ((hAL0.eq 3).trans ((congrFun hF23 3).trans ((hACr1.eq 3).trans (congrFun hF6 3)))))) Try.underlying40 rfl rfl Try.sizeOf3) ?_
              refine WL.va rfl rfl rfl (X.loadO hO3 (Ext.trans (Ext.trans hwCr1 hwL0) hwL1) rfl rfl Try.isAgg3) ?_
              refine WL.va rfl rfl rfl (X.fieldAddrO (off := 5) ((hAL1.eq 3).trans ((congrFun hF38 3).trans ((hAL0.eq 3).trans ((congrFun hF23 3).trans ((hACr1.eq 3).trans (congrFun hF6 3)))))) Try.underlying40 rfl rfl Try.sizeOf3) ?_
              refine WL.va rfl rfl rfl (X.loadO hO3 (Ext.trans (Ext.trans hwCr1 hwL0) hwL1) rfl rfl Try.isAgg3) ?_
              refine WL.va rfl rfl rfl (X.fieldAddrO (off := 12) ((hAL1.eq 3).trans ((congrFun hF38 3).trans ((hAL0.eq 3).trans ((congrFun hF23 3).trans ((hACr1.eq 3).trans (congrFun hF6 3)))))) Try.underlying40 rfl rfl Try.sizeOf3) ?_
              refine WL.va rfl rfl rfl (X.loadO hO3 (Ext.trans (Ext.trans hwCr1 hwL0) hwL1) rfl rfl Try.isAgg3) ?_
              refine WL.va rfl rfl rfl (X.buildL (P := Try.prog) (t := 80) (cs := (Hd.c (hdP m))) (evp_cons rfl (evp_cons rfl (evp_cons rfl (evp_cons rfl evp_nil)))) Try.type80 Try.underlying80 rfl rfl ⟨rfl, rfl, rfl, rfl, trivial⟩ rfl) ?_
              refine WL.op rfl (OW.allocO (cs := [i64 0, i64 0, i64 0, i64 0, i64 0]) Try.zeroValue80 rfl ?_ (by decide))
              intro g8 w44 heg8 hlg8 hO8 hx46
              have := World.grownBy.size hx46
              refine WL.op rfl (OW.storeOA hO8 rfl rfl rfl (Hd.c_one _) Try.sizeOf80 ?_)
              intro w48 hO8 hx50
              have := World.grownBy.size hx50
              replace oR := (oR.ext (Ext.trans (Ext.trans (Ext.trans (Ext.trans hx3 hwCr1) hwL0) hwL1) hx46)).keptO hx50 (by omega)
              replace oo := (oo.ext (Ext.trans (Ext.trans (Ext.trans (Ext.trans hx3 hwCr1) hwL0) hwL1) hx46)).keptO hx50 (by omega)
              replace hO := (hO.ext (Ext.trans (Ext.trans (Ext.trans (Ext.trans hx3 hwCr1) hwL0) hwL1) hx46)).keptO hx50 (by omega)
              replace hO3 := (hO3.ext (Ext.trans (Ext.trans (Ext.trans hwCr1 hwL0) hwL1) hx46)).keptO hx50 (by omega)
              replace oF := (oF.ext hx46).keptO hx50 (by omega)
              refine WL.nil ?_
              refine thn_n ?_
              refine WF.seq ?_
              refine WF.drawn (.q 0 (.q 1 (.q 2 (.q 3 (.q 4 (.q 5 (.l 6 (.l 7 (.q 8 (.q 9 .nil)))))))))) (fun w' => World.grownBy w48 w' vr.ownBlock) 10 (by kernel_rfl) (by kernel_rfl) (grown_of_ext (Ext.drew _)) ?_
              have := World.grownBy.size (Ext.drew w48)
              refine WO.q rfl rfl rfl rfl (fun w' hE52 => (X.move ((hAL1.eq 0).trans ((congrFun hF38 0).trans ((hAL0.eq 0).trans ((congrFun hF23 0).trans ((hACr1.eq 0).trans (congrFun hF6 0)))))))) ?_
              refine WO.q rfl rfl rfl rfl (fun w' hE52 => (X.move ((hAL1.eq 0).trans ((congrFun hF38 0).trans ((hAL0.eq 0).trans ((congrFun hF23 0).trans ((hACr1.eq 0).trans (congrFun hF6 0)))))))) ?_
              refine WO.q rfl rfl rfl rfl (fun w' hE52 => (X.nilCheck rfl)) ?_
              refine WO.q rfl rfl rfl rfl (fun w' hE52 => (X.fieldAddrP (off := 5) rfl Try.underlying49 rfl rfl Try.sizeOf47)) ?_
              refine WO.q rfl rfl rfl rfl (fun w' hE52 => (X.loadO (hO.kept hE52 (fun e => by have := bR _ e; omega)) (Ext.refl _) rfl rfl Try.isAgg47)) ?_
              refine WO.q rfl rfl rfl rfl (fun w' hE52 => (X.loadOA (hO8.kept hE52 (fun e => by have := bR _ e; omega)) (Ext.refl _) rfl rfl Try.isAgg80 Try.sizeOf80)) ?_
              refine WO.l ?_
              refine LO.go rfl rfl (OW.lits (vs := [_]) (evp_cons rfl evp_nil) Try.underlying47 Try.sizeOf80 Try.zeroValue80 ⟨rfl, trivial⟩ rfl rfl rfl ?_ (by decide))
              intro v54 w53 ho56 hx55
              have := World.grownBy.size hx55
              have hlt := ho56
              refine ⟨(grown_ext (grown_of_ext (Ext.drew _)) hx55), ?_⟩
              refine WO.l ?_
              refine LO.go rfl rfl (OW.append (bytes := 40) (own_mono (oR.ext (Ext.trans (Ext.drew _) hx55)).own (Nat.zero_le _)) (Row.of_own hlt) (Hd.c_one (hdP m)) rfl rfl Try.underlying47 Try.type80 rfl rfl rfl rfl (by decide) (by unfold maxLen; omega) (by omega) (Nat.zero_le _) ?_ (by decide))
              intro vQ w57 ho59 hx58 hmvhx58
              have := World.grownBy.size hx58
              replace oo := (oo.ext (Ext.trans (Ext.drew _) hx55)).kept hx58 (fun b hb => by have := bR b hb; have := no b _ (hI.prom.fp b hb) (by simp); omega)
              replace hO := (hO.ext (Ext.trans (Ext.drew _) hx55)).keptR hx58 (fun b hb => by have := bR b hb; have := no b _ (hI.prom.fp b hb) (by simp); omega)
              replace hO3 := (hO3.ext (Ext.trans (Ext.drew _) hx55)).keptR hx58 (fun b hb => by have := bR b hb; have := no b _ (hI.prom.fp b hb) (by simp); omega)
              replace oF := (oF.ext (Ext.trans (Ext.drew _) hx55)).kept hx58 (fun b hb => by have := bR b hb; have := no b _ (hI.prom.fp b hb) (by simp); omega)
              replace hO8 := (hO8.ext (Ext.trans (Ext.drew _) hx55)).keptR hx58 (fun b hb => by have := bR b hb; have := no b _ (hI.prom.fp b hb) (by simp); omega)
              have hvq := moved_own hmvhx58 hI.prom.fp hI.below (by omega)
              have hleq := Fp.own_le hvq
              obtain ⟨BQ, TQ, oQ, zQ, bQ, nQ⟩ := (RowF.mk' (F := F) (r := Rl.pr) (app_hd (h := hdP m) ho59)).outT
              have n5 := nQ g _ (hleq.sub _ _ hI.at_) (by simp)
              have hapQ : Apart vQ vq := fun b h1 h2 => by
                have h3 := (oF.own.lt b h2).1
                have h4 := oF.top b h2
                rcases hmvhx58 with e | e
                · have := Fp.lt hI.below (hI.prom.fp b (e ▸ h1)); omega
                · have := e b h1; omega
              refine ⟨(grown2 (grown_ext (grown_of_ext (Ext.drew _)) hx55) hx58), ?_⟩
              refine WO.q rfl rfl rfl rfl (fun w' hE52 => (X.nilCheck rfl)) ?_
              refine WO.q rfl rfl rfl rfl (fun w' hE52 => (X.fieldAddrP (off := 5) rfl Try.underlying49 rfl rfl Try.sizeOf47)) ?_
              refine WO.nil ?_
              refine WL.op rfl (OW.storeO hO (Nat.le_of_ble_eq_true rfl) rfl rfl (own_one oQ.own) Try.sizeOf47 ?_)
              intro w60 hO hx62
              have := World.grownBy.size hx62
              replace oo := oo.keptO hx62 (by omega)
              replace hO3 := hO3.keptO hx62 (by omega)
              replace oF := oF.keptO hx62 (by omega)
              replace hO8 := hO8.keptO hx62 (by omega)
              replace oQ := oQ.keptO hx62 (by omega)
              replace hO : Blk _ _ _ (RC.cells { c with prom := c.prom ++ [hdP m] } vp va vQ vo) := hO
              refine WL.nil ?_
              refine thn_n ?_
              refine WF.seq ?_
              refine WF.region ?_
              refine WL.va rfl rfl rfl (X.move ((hAL1.eq 5).trans ((congrFun hF38 5).trans e5_L0))) ?_
              refine WL.va rfl rfl rfl (X.loadOA hO8 (Ext.refl _) rfl rfl Try.isAgg80 Try.sizeOf80) ?_
              refine WL.op rfl (OW.lits (vs := [_]) (evp_cons rfl evp_nil) Try.underlying47 Try.sizeOf80 Try.zeroValue80 ⟨rfl, trivial⟩ rfl rfl rfl ?_ (by decide))
              intro v66 w65 ho68 hx67
              have := World.grownBy.size hx67
              have hlt2 := ho68
              have oQb := (oQ.ext hx67)
              refine WL.op rfl (OW.append (bytes := 40) (oF.ext hx67).own (Row.of_own hlt2) (Hd.c_one (hdP m)) rfl rfl Try.underlying47 Try.type80 rfl rfl rfl rfl (by decide) (by unfold maxLen; omega) (by omega) (by omega) ?_ (by decide))
              intro vF wF ho70 hx69 hmvhx69
              have := World.grownBy.size hx69
              replace oo := (oo.ext hx67).kept hx69 (fun b hb => by have := (oF.own.lt b hb).1; have := oF.top b hb; omega)
              replace hO := (hO.ext hx67).keptR hx69 (fun b hb => by have := (oF.own.lt b hb).1; have := oF.top b hb; omega)
              replace hO3 := (hO3.ext hx67).keptR hx69 (fun b hb => by have := (oF.own.lt b hb).1; have := oF.top b hb; omega)
              replace hO8 := (hO8.ext hx67).keptR hx69 (fun b hb => by have := (oF.own.lt b hb).1; have := oF.top b hb; omega)
              have oF2 := OwnT.of (app_hd (h := hdP m) ho70)
              have oQ : OwnT wF BQ TQ 80 5 vQ _ _ := ⟨oQb.own.kept hx69 hapQ.ne, oQb.top⟩
              refine WL.va rfl rfl rfl (X.assign rfl) ?_
              refine WL.nil ?_
              refine thn_n ?_
              refine WF.seq ?_
              refine WF.seq ?_
              refine WF.region ?_
              refine WL.va rfl rfl rfl (X.move rfl) ?_
              refine WL.va rfl rfl rfl (X.len (oF2.rd) rfl Try.underlying47) ?_
              refine WL.va rfl rfl rfl (X.mul rfl rfl (w64 (by omega))) ?_
              refine WL.va rfl rfl rfl (X.move ((hAL1.eq 0).trans ((congrFun hF38 0).trans ((hAL0.eq 0).trans ((congrFun hF23 0).trans ((hACr1.eq 0).trans (congrFun hF6 0))))))) ?_
              refine WL.va rfl rfl rfl (X.nilCheck rfl) ?_
              refine WL.va rfl rfl rfl (X.fieldAddrP (off := 2) rfl Try.underlying49 rfl rfl Try.sizeOf3) ?_
              refine WL.va rfl rfl rfl (X.loadO hO (Ext.refl _) rfl rfl Try.isAgg3) ?_
              refine WL.va rfl rfl rfl (X.leq rfl rfl) ?_
              refine WL.nil ?_
              refine thn_n ?_
              refine WF.cond rfl (fun h5_71 => ?_) (fun h5_71 => ?_)
              · have gh5_71 := (of_decide_eq_true h5_71)
                have hp3 : 2 * ((c.ofP m.Part ++ [hdP m]).length : Int) ≤ c.nac := gh5_71
                refine WF.seq ?_
                refine WF.region ?_
                refine WL.va rfl rfl rfl (X.assign rfl) ?_
                refine WL.nil ?_
                refine thn_n ?_
                refine WF.ret ?_
                refine thn_r ?_
                refine fin_r ?_
                rw [RC.promise_c hp1 hp2 hp3]
                exact ⟨OwnM.nil _ _ _, R_fin2 hI hO rfl rfl ((((((((((((ChgS.refl (fun b => b = g ∨ ∃ r, F b = some r ∧ (r = Rl.pr ∨ r = Rl.po)) w).ext hx3).ext hwCr1).ext hwL0).ext hwL1).ext (Ext.store hx46 hx50 (by omega))).ext (Ext.drew _)).ext hx55).row hx58 (fun b e => .inl (.inr ⟨_, hI.prom.fp b e, .inl rfl⟩))).row1 hx62 (.inl (.inl rfl))).ext hx67).row hx69 (fun b hb => .inr (by have := (oF.own.lt b hb).1; omega))) (own_mono oQ.own (Nat.zero_le _)) hvq (own_mono oo.own (Nat.zero_le _)) (fun b e => .inl (hI.prop.fp b e)) (dis_own hvq (fun b e => .inl (hI.prop.fp b e)) (by simp) (.inr (.inl hI.prop.fp)))⟩
              · have gh5_71 := (of_decide_eq_false h5_71)
                have hp3 : ¬ 2 * ((c.ofP m.Part ++ [hdP m]).length : Int) ≤ c.nac := gh5_71
                refine WF.skip ?_
                refine thn_n ?_
                refine WF.seq ?_
                refine WF.drawn (.q 0 (.q 1 (.q 2 (.q 3 (.q 4 (.q 5 (.q 6 (.l 7 (.l 8 (.q 9 (.q 10 .nil))))))))))) (fun w' => World.grownBy wF w' vo.ownBlock) 11 (by kernel_rfl) (by kernel_rfl) (grown_of_ext (Ext.drew _)) ?_
                have := World.grownBy.size (Ext.drew wF)
                refine WO.q rfl rfl rfl rfl (fun w' hE73 => (X.move ((hAL1.eq 0).trans ((congrFun hF38 0).trans ((hAL0.eq 0).trans ((congrFun hF23 0).trans ((hACr1.eq 0).trans (congrFun hF6 0)))))))) ?_
                refine WO.q rfl rfl rfl rfl (fun w' hE73 => (X.move ((hAL1.eq 0).trans ((congrFun hF38 0).trans ((hAL0.eq 0).trans ((congrFun hF23 0).trans ((hACr1.eq 0).trans (congrFun hF6 0)))))))) ?_
                refine WO.q rfl rfl rfl rfl (fun w' hE73 => (X.nilCheck rfl)) ?_
                refine WO.q rfl rfl rfl rfl (fun w' hE73 => (X.fieldAddrP (off := 6) rfl Try.underlying49 rfl rfl Try.sizeOf22)) ?_
                refine WO.q rfl rfl rfl rfl (fun w' hE73 => (X.loadO (hO.kept hE73 (fun e => by have := bo _ e; omega)) (Ext.refl _) rfl rfl Try.isAgg22)) ?_
                refine WO.q rfl rfl rfl rfl (fun w' hE73 => (X.fieldAddrO (off := 10) ((hAL1.eq 3).trans ((congrFun hF38 3).trans ((hAL0.eq 3).trans ((congrFun hF23 3).trans ((hACr1.eq 3).trans (congrFun hF6 3)))))) Try.underlying40 rfl rfl Try.sizeOf3)) ?_
                refine WO.q rfl rfl rfl rfl (fun w' hE73 => (X.loadO (hO3.kept hE73 (fun e => by have := bo _ e; omega)) (Ext.refl _) rfl rfl Try.isAgg3)) ?_
                refine WO.l ?_
                refine LO.go rfl rfl (OW.lits (vs := [_]) (evp_cons rfl evp_nil) Try.underlying22 Try.sizeOf3 Try.zeroValue3 ⟨rfl, trivial⟩ rfl rfl rfl ?_ (by decide))
                intro v75 w74 ho77 hx76
                have := World.grownBy.size hx76
                have hlt := ho77
                refine ⟨(grown_ext (grown_of_ext (Ext.drew _)) hx76), ?_⟩
                refine WO.l ?_
                refine LO.go rfl rfl (OW.appendI (own_mono (oo.ext (Ext.trans (Ext.drew _) hx76)).own (Nat.zero_le _)) (show Ints _ _ [m.Part] from Row.of_own hlt) rfl rfl Try.underlying22 Try.type3 rfl rfl rfl rfl (by simp; omega) (Nat.zero_le _) ?_ (by decide))
                intro vW w78 ho80 hx79 hmvhx79
                have := World.grownBy.size hx79
                replace hO := (hO.ext (Ext.trans (Ext.drew _) hx76)).keptR hx79 (fun b hb => by have := bo b hb; have := nQ b _ (hleq.sub _ _ (hI.prop.fp b hb)) (by simp); omega)
                replace hO3 := (hO3.ext (Ext.trans (Ext.drew _) hx76)).keptR hx79 (fun b hb => by have := bo b hb; have := nQ b _ (hleq.sub _ _ (hI.prop.fp b hb)) (by simp); omega)
                replace hO8 := (hO8.ext (Ext.trans (Ext.drew _) hx76)).keptR hx79 (fun b hb => by have := bo b hb; have := nQ b _ (hleq.sub _ _ (hI.prop.fp b hb)) (by simp); omega)
                replace oF2 := (oF2.ext (Ext.trans (Ext.drew _) hx76)).kept hx79 (fun b hb => by have := bo b hb; have := nQ b _ (hleq.sub _ _ (hI.prop.fp b hb)) (by simp); omega)
                replace oQ := (oQ.ext (Ext.trans (Ext.drew _) hx76)).kept hx79 (fun b hb => by have := bo b hb; have := nQ b _ (hleq.sub _ _ (hI.prop.fp b hb)) (by simp); omega)
                have hvw := moved_own hmvhx79 hI.prop.fp hI.below (by omega)
                have hlew := Fp.own_le hvw
                have hQlt : ∀ b, vQ.ownBlock = some b → b < w78.heap.size := fun b hb => by have := bQ b hb; omega
                obtain ⟨BW, TW, oW, zW, bW, nW⟩ := (RowF.mk' (F := F) (r := Rl.po) ho80).outT
                have n6 := nW g _ (hlew.sub _ _ hI.at_) (by simp)
                have hap : ∀ b, vQ.ownBlock = some b → vW.ownBlock ≠ some b := dis_own hvq hvw (by simp) (.inr (.inr (fun b h1 h2 => by
                  rcases hmvhx79 with e | e
                  · have h3 := hI.prop.fp b (e ▸ h2)
                    rcases hvq b h1 with e | e
                    · exact Fp.ne e h3 (by simp) rfl
                    · rw [e.1] at h3; cases h3
                  · have h4 := e b h2; have h5 := bQ b h1; omega)))
                refine ⟨(grown2 (grown_ext (grown_of_ext (Ext.drew _)) hx76) hx79), ?_⟩
                refine WO.q rfl rfl rfl rfl (fun w' hE73 => (X.nilCheck rfl)) ?_
                refine WO.q rfl rfl rfl rfl (fun w' hE73 => (X.fieldAddrP (off := 6) rfl Try.underlying49 rfl rfl Try.sizeOf22)) ?_
                refine WO.nil ?_
                refine WL.op rfl (OW.storeO hO (Nat.le_of_ble_eq_true rfl) rfl rfl (own_one oW.own) Try.sizeOf22 ?_)
                intro wP hO hx82
                have := World.grownBy.size hx82
                replace hO3 := hO3.keptO hx82 (by omega)
                replace hO8 := hO8.keptO hx82 (by omega)
                replace oF2 := oF2.keptO hx82 (by omega)
                replace oQ := oQ.keptO hx82 (by omega)
                replace oW := oW.keptO hx82 (by omega)
                replace hO : Blk _ _ _ (RC.cells { c with prom := c.prom ++ [hdP m], prop := c.prop ++ [m.Part] } vp va vQ vW) := hO
                refine WL.nil ?_
                refine thn_n ?_
                refine WF.seq ?_
                refine WF.region ?_
                refine WL.va rfl rfl rfl (X.buildL (P := Try.prog) (t := 80) (cs := (Hd.c ⟨0, 0, 0, 0, 2⟩)) (evp_cons rfl evp_nil) Try.type80 Try.underlying80 rfl rfl ⟨rfl, trivial⟩ rfl) ?_
                refine WL.op rfl (OW.allocO (cs := [i64 0, i64 0, i64 0, i64 0, i64 0]) Try.zeroValue80 rfl ?_ (by decide))
                intro g9 w84 heg9 hlg9 hO9 hx86
                have := World.grownBy.size hx86
                refine WL.op rfl (OW.storeOA hO9 rfl rfl rfl (Hd.c_one ⟨0, 0, 0, 0, 2⟩) Try.sizeOf80 ?_)
                intro w88 hO9 hx90
                have := World.grownBy.size hx90
                replace hO := (hO.ext hx86).keptO hx90 (by omega)
                replace hO3 := (hO3.ext hx86).keptO hx90 (by omega)
                replace hO8 := (hO8.ext hx86).keptO hx90 (by omega)
                replace oF2 := (oF2.ext hx86).keptO hx90 (by omega)
                replace oQ := (oQ.ext hx86).keptO hx90 (by omega)
                replace oW := (oW.ext hx86).keptO hx90 (by omega)
                replace hO9 : Blk _ _ _ (Hd.c ⟨0, 0, 0, 0, 2⟩) := hO9
                refine WL.nil ?_
                refine thn_n ?_
                refine WF.seq ?_
                refine WF.region ?_
                refine WL.va rfl rfl rfl (X.assignB rfl) ?_
                refine WL.nil ?_
                refine thn_n ?_
                refine WF.seq ?_
                refine WF.seq ?_
                refine WF.region ?_
                refine WL.va rfl rfl rfl (X.assignI rfl) ?_
                refine WL.nil ?_
                refine thn_n ?_
                refine WF.block ?_
                refine WF.named (fun F93 hF94 => ?_)
                refine WF.loopN (fun mL2 f' w' => ∃ (k : Nat) (s : Hd × Bool), mL2 = (c.ofP m.Part ++ [hdP m]).length - k ∧ f' 11 = .int .i64 (k : Int) ∧ f' 10 = .bool s.2 ∧ Agree [0, 1, 3, 5, 6, 7, 8, 9, 34, 35, 36, 37, 38, 39, 40, 41, 65, 66, 67, 68, 79, 80, 81, 82, 83, 84, 85, 86, 87, 88, 89, 90, 91, 92, 93, 94, 95, 96, 97, 98, 99, 100, 101, 102, 103, 104, 105, 106, 107, 108, 109, 110, 111, 112, 113, 114, 115, 116, 117, 118, 119, 120, 121] f' F93 ∧ Ext wP w' ∧ k ≤ (c.ofP m.Part ++ [hdP m]).length ∧ s = ((c.ofP m.Part ++ [hdP m]).take k).foldl best1 (⟨0, 0, 0, 0, 2⟩, false) ∧ Blk w' g9 80 s.1.c ∧ Blk w' g 49 (RC.cells { c with prom := c.prom ++ [hdP m], prop := c.prop ++ [m.Part] } vp va vQ vW) ∧ Blk w' g3 40 (m.c em dm) ∧ OwnT w' BQ TQ 80 5 vQ (c.prom ++ [hdP m]).length ((c.prom ++ [hdP m]).flatMap Hd.c) ∧ OwnT w' BW TW 3 1 vW (c.prop ++ [m.Part]).length ((c.prop ++ [m.Part]).map i64) ∧ OwnT w' wCr1.heap.size wF.heap.size 80 5 vF (c.ofP m.Part ++ [hdP m]).length ((c.ofP m.Part ++ [hdP m]).flatMap Hd.c)) ?_ ?_
                · exact ⟨_, 0, (⟨0, 0, 0, 0, 2⟩, false), rfl, (congrFun hF94 11), (congrFun hF94 10), (Agree.refl _ _), (Ext.store hx86 hx90 (by omega)), ⟨Nat.zero_le _, rfl, hO9, hO, hO3, oQ, oW, oF2⟩⟩
                · rintro mL2 fL2 wL2 ⟨k, s, hmL2, e11_L2, e10_L2, hAL2, hwL2, ⟨hk0, hsk, hO9, hO, hO3, oQ, oW, oF2⟩⟩
                  have := World.grownBy.size hwL2
                  refine WF.seq ?_
                  refine WF.seq ?_
                  refine WF.region ?_
                  refine WL.va rfl rfl rfl (X.moveI e11_L2) ?_
                  refine WL.va rfl rfl rfl (X.move ((hAL2.eq 5).trans (congrFun hF94 5))) ?_
                  refine WL.va rfl rfl rfl (X.len (oF2.rd) rfl Try.underlying47) ?_
                  refine WL.va rfl rfl rfl (X.lss rfl rfl) ?_
                  refine WL.nil ?_
                  refine thn_n ?_
                  refine WF.cond rfl (fun h6_96 => ?_) (fun h6_96 => ?_)
                  · have gh6_96 := (of_decide_eq_true h6_96)
                    have hk2 : k < (c.ofP m.Part ++ [hdP m]).length := by omega
                    refine WF.skip ?_
                    refine thn_n ?_
                    refine WF.seq ?_
                    refine WF.block ?_
                    refine WF.named (fun F98 hF99 => ?_)
                    refine WF.cut (fun f' w' => f' 155 = .bool (decide (((c.ofP m.Part ++ [hdP m])[k].Value = 1 ∨ (c.ofP m.Part ++ [hdP m])[k].Value = 2) ∧ (s.2 = false ∨ s.1.Index < (c.ofP m.Part ++ [hdP m])[k].Index))) ∧ Agree [0, 1, 3, 5, 6, 7, 8, 9, 10, 11, 34, 35, 36, 37, 38, 39, 40, 41, 65, 66, 67, 68, 79, 80, 81, 82, 83, 84, 85, 86, 87, 88, 89, 90, 91, 92, 93, 94, 95, 96, 97, 98, 99, 100, 101, 102, 103, 104, 105, 106, 107, 108, 109, 110, 111, 112, 113, 114, 115, 116, 117, 118, 119, 120, 121, 122, 123, 124, 125] f' F98 ∧ Ext wL2 w') ?_ ?_
                    · refine WF.drawn (.q 0 (.q 1 (.q 2 (.q 3 (.q 4 (.q 5 (.q 6 (.q 7 (.q 8 (.q 9 (.q 10 (.q 11 (.q 12 (.q 13 (.q 14 (.q 15 (.q 16 (.q 17 (.q 18 (.q 19 (.q 20 (.q 21 (.q 22 (.q 23 (.q 24 (.q 25 (.q 26 (.q 27 .nil)))))))))))))))))))))))))))) (fun w' => Ext wL2 w') 28 (by kernel_rfl) (by kernel_rfl) (Ext.drew _) ?_
                      have := World.grownBy.size (Ext.drew wL2)
                      refine WO.q rfl rfl rfl rfl (fun w' hE100 => (X.move ((congrFun hF99 5).trans ((hAL2.eq 5).trans (congrFun hF94 5))))) ?_
                      refine WO.q rfl rfl rfl rfl (fun w' hE100 => (X.moveI ((congrFun hF99 11).trans e11_L2))) ?_
                      refine WO.q rfl rfl rfl rfl (fun w' hE100 => (X.idx (oF2.rd) rfl rfl (by omega) Try.underlying47 Try.sizeOf80)) ?_
                      refine WO.q rfl rfl rfl rfl (fun w' hE100 => (X.fieldAddrA rfl Try.underlying80 rfl rfl Try.sizeOf3)) ?_
                      refine WO.q rfl rfl rfl rfl (fun w' hE100 => (X.loadE (oF2.rd) hE100 rfl (by omega) ((hd_get hk2 (by decide)).trans rfl) Try.isAgg3)) ?_
                      refine WO.q rfl rfl rfl rfl (fun w' hE100 => (X.eql rfl rfl)) ?_
                      refine WO.q rfl rfl rfl rfl (fun w' hE100 => (X.moveB rfl)) ?_
                      refine WO.split (j := 6) rfl (fun h102 => ?_) (fun h102 => ?_)
                      · have gh102 := (of_decide_eq_true h102)
                        have q1 : ((c.ofP m.Part ++ [hdP m])[k].Value = 1 ∨ (c.ofP m.Part ++ [hdP m])[k].Value = 2) := .inl gh102
                        refine WO.qp rfl rfl rfl rfl (congrArg some h102) ?_
                        refine WO.qp rfl rfl rfl rfl (congrArg some h102) ?_
                        refine WO.qp rfl rfl rfl rfl (congrArg some h102) ?_
                        refine WO.qp rfl rfl rfl rfl (congrArg some h102) ?_
                        refine WO.qp rfl rfl rfl rfl (congrArg some h102) ?_
                        refine WO.qp rfl rfl rfl rfl (congrArg some h102) ?_
                        refine WO.q rfl rfl rfl rfl (fun w' hE100 => (X.pickT rfl h102 rfl)) ?_
                        refine WO.q rfl rfl rfl rfl (fun w' hE100 => (X.moveB rfl)) ?_
                        refine WO.qg rfl rfl rfl rfl rfl (fun w' hE100 => (X.moveB ((congrFun hF99 10).trans e10_L2))) ?_
                        refine WO.qg rfl rfl rfl rfl rfl (fun w' hE100 => (X.not rfl)) ?_
                        refine WO.qg rfl rfl rfl rfl rfl (fun w' hE100 => (X.moveB rfl)) ?_
                        refine WO.split (j := 17) rfl (fun h105 => ?_) (fun h105 => ?_)
                        · have gh105 := (nt h105)
                          have q2 : (s.2 = false ∨ s.1.Index < (c.ofP m.Part ++ [hdP m])[k].Index) := .inl gh105
                          refine WO.qp rfl rfl rfl rfl (congrArg some h105) ?_
                          refine WO.qp rfl rfl rfl rfl (congrArg some h105) ?_
                          refine WO.qp rfl rfl rfl rfl (congrArg some h105) ?_
                          refine WO.qp rfl rfl rfl rfl (congrArg some h105) ?_
                          refine WO.qp rfl rfl rfl rfl (congrArg some h105) ?_
                          refine WO.qp rfl rfl rfl rfl (congrArg some h105) ?_
                          refine WO.qp rfl rfl rfl rfl (congrArg some h105) ?_
                          refine WO.qp rfl rfl rfl rfl (congrArg some h105) ?_
                          refine WO.qg rfl rfl rfl rfl rfl (fun w' hE100 => (X.pickT rfl h105 rfl)) ?_
                          refine WO.q rfl rfl rfl rfl (fun w' hE100 => (X.pickT rfl rfl rfl)) ?_
                          refine WO.nil ?_
                          refine WL.nil ?_
                          refine thn_n ?_
                          exact ⟨(congrArg Value.bool (by first | exact (decide_eq_true ⟨q1, q2⟩).symm | exact (decide_eq_decide.2 ⟨fun e => ⟨q1, .inr e⟩, fun e => e.2.resolve_left q3⟩) | exact (decide_eq_false (fun e => qn e.1)).symm)), (by repeat (first | exact (Agree.refl _ F98) | refine Agree.put ?_ rfl | refine Agree.sub hAL2 rfl ?_ | refine Agree.sub hAL1 rfl ?_ | refine Agree.sub hAL0 rfl ?_ | refine Agree.sub hACr1 rfl ?_ | refine Agree.named hF99 ?_ | refine Agree.named hF94 ?_ | refine Agree.named hF38 ?_ | refine Agree.named hF23 ?_ | refine Agree.named hF6 ?_)), (Ext.drew _)⟩
                        · have gh105 := (nf h105)
                          have q3 : ¬ s.2 = false := by rw [gh105]; simp
                          refine WO.qg rfl rfl (congrArg some h105) rfl rfl (fun w' hE100 => (X.move ((congrFun hF99 5).trans ((hAL2.eq 5).trans (congrFun hF94 5))))) ?_
                          refine WO.qg rfl rfl (congrArg some h105) rfl rfl (fun w' hE100 => (X.moveI ((congrFun hF99 11).trans e11_L2))) ?_
                          refine WO.qg rfl rfl (congrArg some h105) rfl rfl (fun w' hE100 => (X.idx (oF2.rd) rfl rfl (by omega) Try.underlying47 Try.sizeOf80)) ?_
                          refine WO.qg rfl rfl (congrArg some h105) rfl rfl (fun w' hE100 => (X.fieldAddrA rfl Try.underlying80 rfl rfl Try.sizeOf3)) ?_
                          refine WO.qg rfl rfl (congrArg some h105) rfl rfl (fun w' hE100 => (X.loadE (oF2.rd) hE100 rfl (by omega) ((hd_get hk2 (by decide)).trans rfl) Try.isAgg3)) ?_
                          refine WO.qg rfl rfl (congrArg some h105) rfl rfl (fun w' hE100 => (X.fieldAddrO (off := 3) ((congrFun hF99 9).trans ((hAL2.eq 9).trans (congrFun hF94 9))) Try.underlying80 rfl rfl Try.sizeOf3)) ?_
                          refine WO.qg rfl rfl (congrArg some h105) rfl rfl (fun w' hE100 => (X.loadO hO9 hE100 rfl rfl Try.isAgg3)) ?_
                          refine WO.qg rfl rfl (congrArg some h105) rfl rfl (fun w' hE100 => (X.gtr rfl rfl)) ?_
                          refine WO.qg rfl rfl rfl rfl rfl (fun w' hE100 => (X.pickF rfl h105 rfl)) ?_
                          refine WO.q rfl rfl rfl rfl (fun w' hE100 => (X.pickT rfl rfl rfl)) ?_
                          refine WO.nil ?_
                          refine WL.nil ?_
                          refine thn_n ?_
                          exact ⟨(congrArg Value.bool (by first | exact (decide_eq_true ⟨q1, q2⟩).symm | exact (decide_eq_decide.2 ⟨fun e => ⟨q1, .inr e⟩, fun e => e.2.resolve_left q3⟩) | exact (decide_eq_false (fun e => qn e.1)).symm)), (by repeat (first | exact (Agree.refl _ F98) | refine Agree.put ?_ rfl | refine Agree.sub hAL2 rfl ?_ | refine Agree.sub hAL1 rfl ?_ | refine Agree.sub hAL0 rfl ?_ | refine Agree.sub hACr1 rfl ?_ | refine Agree.named hF99 ?_ | refine Agree.named hF94 ?_ | refine Agree.named hF38 ?_ | refine Agree.named hF23 ?_ | refine Agree.named hF6 ?_)), (Ext.drew _)⟩
                      · have gh102 := (of_decide_eq_false h102)
                        have q0 : ¬ (c.ofP m.Part ++ [hdP m])[k].Value = 1 := gh102
                        refine WO.qg rfl rfl (congrArg some h102) rfl rfl (fun w' hE100 => (X.move ((congrFun hF99 5).trans ((hAL2.eq 5).trans (congrFun hF94 5))))) ?_
                        refine WO.qg rfl rfl (congrArg some h102) rfl rfl (fun w' hE100 => (X.moveI ((congrFun hF99 11).trans e11_L2))) ?_
                        refine WO.qg rfl rfl (congrArg some h102) rfl rfl (fun w' hE100 => (X.idx (oF2.rd) rfl rfl (by omega) Try.underlying47 Try.sizeOf80)) ?_
                        refine WO.qg rfl rfl (congrArg some h102) rfl rfl (fun w' hE100 => (X.fieldAddrA rfl Try.underlying80 rfl rfl Try.sizeOf3)) ?_
                        refine WO.qg rfl rfl (congrArg some h102) rfl rfl (fun w' hE100 => (X.loadE (oF2.rd) hE100 rfl (by omega) ((hd_get hk2 (by decide)).trans rfl) Try.isAgg3)) ?_
                        refine WO.qg rfl rfl (congrArg some h102) rfl rfl (fun w' hE100 => (X.eql rfl rfl)) ?_
                        refine WO.q rfl rfl rfl rfl (fun w' hE100 => (X.pickF rfl h102 rfl)) ?_
                        refine WO.q rfl rfl rfl rfl (fun w' hE100 => (X.moveB rfl)) ?_
                        refine WO.split (j := 14) rfl (fun h109 => ?_) (fun h109 => ?_)
                        · have gh109 := (of_decide_eq_true h109)
                          have q1 : ((c.ofP m.Part ++ [hdP m])[k].Value = 1 ∨ (c.ofP m.Part ++ [hdP m])[k].Value = 2) := .inr gh109
                          refine WO.qg rfl rfl (congrArg some h109) rfl rfl (fun w' hE100 => (X.moveB ((congrFun hF99 10).trans e10_L2))) ?_
                          refine WO.qg rfl rfl (congrArg some h109) rfl rfl (fun w' hE100 => (X.not rfl)) ?_
                          refine WO.qg rfl rfl (congrArg some h109) rfl rfl (fun w' hE100 => (X.moveB rfl)) ?_
                          refine WO.split (j := 17) rfl (fun h111 => ?_) (fun h111 => ?_)
                          · have gh111 := (nt h111)
                            have q2 : (s.2 = false ∨ s.1.Index < (c.ofP m.Part ++ [hdP m])[k].Index) := .inl gh111
                            refine WO.qp rfl rfl rfl rfl (congrArg some h111) ?_
                            refine WO.qp rfl rfl rfl rfl (congrArg some h111) ?_
                            refine WO.qp rfl rfl rfl rfl (congrArg some h111) ?_
                            refine WO.qp rfl rfl rfl rfl (congrArg some h111) ?_
                            refine WO.qp rfl rfl rfl rfl (congrArg some h111) ?_
                            refine WO.qp rfl rfl rfl rfl (congrArg some h111) ?_
                            refine WO.qp rfl rfl rfl rfl (congrArg some h111) ?_
                            refine WO.qp rfl rfl rfl rfl (congrArg some h111) ?_
                            refine WO.qg rfl rfl (congrArg some h109) rfl rfl (fun w' hE100 => (X.pickT rfl h111 rfl)) ?_
                            refine WO.q rfl rfl rfl rfl (fun w' hE100 => (X.pickT rfl h109 rfl)) ?_
                            refine WO.nil ?_
                            refine WL.nil ?_
                            refine thn_n ?_
                            exact ⟨(congrArg Value.bool (by first | exact (decide_eq_true ⟨q1, q2⟩).symm | exact (decide_eq_decide.2 ⟨fun e => ⟨q1, .inr e⟩, fun e => e.2.resolve_left q3⟩) | exact (decide_eq_false (fun e => qn e.1)).symm)), (by repeat (first | exact (Agree.refl _ F98) | refine Agree.put ?_ rfl | refine Agree.sub hAL2 rfl ?_ | refine Agree.sub hAL1 rfl ?_ | refine Agree.sub hAL0 rfl ?_ | refine Agree.sub hACr1 rfl ?_ | refine Agree.named hF99 ?_ | refine Agree.named hF94 ?_ | refine Agree.named hF38 ?_ | refine Agree.named hF23 ?_ | refine Agree.named hF6 ?_)), (Ext.drew _)⟩
                          · have gh111 := (nf h111)
                            have q3 : ¬ s.2 = false := by rw [gh111]; simp
                            refine WO.qg rfl rfl (congrArg some h111) rfl rfl (fun w' hE100 => (X.move ((congrFun hF99 5).trans ((hAL2.eq 5).trans (congrFun hF94 5))))) ?_
                            refine WO.qg rfl rfl (congrArg some h111) rfl rfl (fun w' hE100 => (X.moveI ((congrFun hF99 11).trans e11_L2))) ?_
                            refine WO.qg rfl rfl (congrArg some h111) rfl rfl (fun w' hE100 => (X.idx (oF2.rd) rfl rfl (by omega) Try.underlying47 Try.sizeOf80)) ?_
                            refine WO.qg rfl rfl (congrArg some h111) rfl rfl (fun w' hE100 => (X.fieldAddrA rfl Try.underlying80 rfl rfl Try.sizeOf3)) ?_
                            refine WO.qg rfl rfl (congrArg some h111) rfl rfl (fun w' hE100 => (X.loadE (oF2.rd) hE100 rfl (by omega) ((hd_get hk2 (by decide)).trans rfl) Try.isAgg3)) ?_
                            refine WO.qg rfl rfl (congrArg some h111) rfl rfl (fun w' hE100 => (X.fieldAddrO (off := 3) ((congrFun hF99 9).trans ((hAL2.eq 9).trans (congrFun hF94 9))) Try.underlying80 rfl rfl Try.sizeOf3)) ?_
                            refine WO.qg rfl rfl (congrArg some h111) rfl rfl (fun w' hE100 => (X.loadO hO9 hE100 rfl rfl Try.isAgg3)) ?_
                            refine WO.qg rfl rfl (congrArg some h111) rfl rfl (fun w' hE100 => (X.gtr rfl rfl)) ?_
                            refine WO.qg rfl rfl (congrArg some h109) rfl rfl (fun w' hE100 => (X.pickF rfl h111 rfl)) ?_
                            refine WO.q rfl rfl rfl rfl (fun w' hE100 => (X.pickT rfl h109 rfl)) ?_
                            refine WO.nil ?_
                            refine WL.nil ?_
                            refine thn_n ?_
                            exact ⟨(congrArg Value.bool (by first | exact (decide_eq_true ⟨q1, q2⟩).symm | exact (decide_eq_decide.2 ⟨fun e => ⟨q1, .inr e⟩, fun e => e.2.resolve_left q3⟩) | exact (decide_eq_false (fun e => qn e.1)).symm)), (by repeat (first | exact (Agree.refl _ F98) | refine Agree.put ?_ rfl | refine Agree.sub hAL2 rfl ?_ | refine Agree.sub hAL1 rfl ?_ | refine Agree.sub hAL0 rfl ?_ | refine Agree.sub hACr1 rfl ?_ | refine Agree.named hF99 ?_ | refine Agree.named hF94 ?_ | refine Agree.named hF38 ?_ | refine Agree.named hF23 ?_ | refine Agree.named hF6 ?_)), (Ext.drew _)⟩
                        · have gh109 := (of_decide_eq_false h109)
                          have qn : ¬ ((c.ofP m.Part ++ [hdP m])[k].Value = 1 ∨ (c.ofP m.Part ++ [hdP m])[k].Value = 2) := fun e => e.elim q0 gh109
                          refine WO.qp rfl rfl rfl rfl (congrArg some h109) ?_
                          refine WO.qp rfl rfl rfl rfl (congrArg some h109) ?_
                          refine WO.qp rfl rfl rfl rfl (congrArg some h109) ?_
                          refine WO.qpn rfl rfl rfl rfl rfl ?_
                          refine WO.qpn rfl rfl rfl rfl rfl ?_
                          refine WO.qpn rfl rfl rfl rfl rfl ?_
                          refine WO.qpn rfl rfl rfl rfl rfl ?_
                          refine WO.qpn rfl rfl rfl rfl rfl ?_
                          refine WO.qpn rfl rfl rfl rfl rfl ?_
                          refine WO.qpn rfl rfl rfl rfl rfl ?_
                          refine WO.qpn rfl rfl rfl rfl rfl ?_
                          refine WO.qp rfl rfl rfl rfl (congrArg some h109) ?_
                          refine WO.q rfl rfl rfl rfl (fun w' hE100 => (X.pickF rfl h109 rfl)) ?_
                          refine WO.nil ?_
                          refine WL.nil ?_
                          refine thn_n ?_
                          exact ⟨(congrArg Value.bool (by first | exact (decide_eq_true ⟨q1, q2⟩).symm | exact (decide_eq_decide.2 ⟨fun e => ⟨q1, .inr e⟩, fun e => e.2.resolve_left q3⟩) | exact (decide_eq_false (fun e => qn e.1)).symm)), (by repeat (first | exact (Agree.refl _ F98) | refine Agree.put ?_ rfl | refine Agree.sub hAL2 rfl ?_ | refine Agree.sub hAL1 rfl ?_ | refine Agree.sub hAL0 rfl ?_ | refine Agree.sub hACr1 rfl ?_ | refine Agree.named hF99 ?_ | refine Agree.named hF94 ?_ | refine Agree.named hF38 ?_ | refine Agree.named hF23 ?_ | refine Agree.named hF6 ?_)), (Ext.drew _)⟩
                    · rintro fCr25 wCr25 ⟨e155_Cr25, hACr25, hwCr25⟩
                      have := World.grownBy.size hwCr25
                      refine WF.cond e155_Cr25 (fun h7_115 => ?_) (fun h7_115 => ?_)
                      · have gh7_115 := (of_decide_eq_true h7_115)
                        have e6 : best1 s (c.ofP m.Part ++ [hdP m])[k] = ((c.ofP m.Part ++ [hdP m])[k], true) := by rw [best1, if_pos gh7_115]
                        refine WF.seq ?_
                        refine WF.region ?_
                        refine WL.va rfl rfl rfl (X.move ((hACr25.eq 5).trans ((congrFun hF99 5).trans ((hAL2.eq 5).trans (congrFun hF94 5))))) ?_
                        refine WL.va rfl rfl rfl (X.moveI ((hACr25.eq 11).trans ((congrFun hF99 11).trans e11_L2))) ?_
                        refine WL.va rfl rfl rfl (X.idx (oF2.rd) rfl rfl (by omega) Try.underlying47 Try.sizeOf80) ?_
                        refine WL.va rfl rfl rfl (X.loadEl (oF2.rd) hwCr25 rfl (by omega) (hd_el hk2) Try.isAgg80 Try.sizeOf80) ?_
                        refine WL.op rfl (OW.storeOA (hO9.ext hwCr25) ((hACr25.eq 9).trans ((congrFun hF99 9).trans ((hAL2.eq 9).trans (congrFun hF94 9)))) rfl rfl (Hd.c_one _) Try.sizeOf80 ?_)
                        intro w117 hO9 hx119
                        have := World.grownBy.size hx119
                        replace hO := (hO.ext hwCr25).keptO hx119 (by omega)
                        replace hO3 := (hO3.ext hwCr25).keptO hx119 (by omega)
                        replace oF2 := (oF2.ext hwCr25).keptO hx119 (by omega)
                        replace oQ := (oQ.ext hwCr25).keptO hx119 (by omega)
                        replace oW := (oW.ext hwCr25).keptO hx119 (by omega)
                        refine WL.nil ?_
                        refine thn_n ?_
                        refine WF.region ?_
                        refine WL.va rfl rfl rfl (X.assignB rfl) ?_
                        refine WL.nil ?_
                        refine blk_n ?_
                        refine thn_n ?_
                        refine WF.region ?_
                        refine WL.va rfl rfl rfl (X.moveI ((hACr25.eq 11).trans ((congrFun hF99 11).trans e11_L2))) ?_
                        refine WL.va rfl rfl rfl (X.add rfl rfl (w64 (by omega))) ?_
                        refine WL.va rfl rfl rfl (X.assignI rfl) ?_
                        refine WL.nil ?_
                        exact thn_n ⟨_, (by omega), k + 1, best1 s (c.ofP m.Part ++ [hdP m])[k], rfl, rfl, (Eq.trans rfl (congrArg Value.bool (by rw [e6]))), (by repeat (first | exact hAL2 | refine Agree.put ?_ rfl | refine Agree.sub hACr25 rfl ?_ | refine Agree.sub hAL1 rfl ?_ | refine Agree.sub hAL0 rfl ?_ | refine Agree.sub hACr1 rfl ?_ | refine Agree.named hF99 ?_ | refine Agree.named hF94 ?_ | refine Agree.named hF38 ?_ | refine Agree.named hF23 ?_ | refine Agree.named hF6 ?_)), (Ext.store (Ext.trans hwL2 hwCr25) hx119 (by omega)), ⟨by omega, by rw [List.take_succ_eq_append_getElem hk2, List.foldl_append, ← hsk]; rfl, by rw [e6]; exact hO9, hO, hO3, oQ, oW, oF2⟩⟩
                      · have gh7_115 := (of_decide_eq_false h7_115)
                        have e6 : best1 s (c.ofP m.Part ++ [hdP m])[k] = s := by rw [best1, if_neg gh7_115]
                        refine WF.skip ?_
                        refine blk_n ?_
                        refine thn_n ?_
                        refine WF.region ?_
                        refine WL.va rfl rfl rfl (X.moveI ((hACr25.eq 11).trans ((congrFun hF99 11).trans e11_L2))) ?_
                        refine WL.va rfl rfl rfl (X.add rfl rfl (w64 (by omega))) ?_
                        refine WL.va rfl rfl rfl (X.assignI rfl) ?_
                        refine WL.nil ?_
                        exact thn_n ⟨_, (by omega), k + 1, best1 s (c.ofP m.Part ++ [hdP m])[k], rfl, rfl, (Eq.trans ((hACr25.eq 10).trans ((congrFun hF99 10).trans e10_L2)) (congrArg Value.bool (by rw [e6]))), (by repeat (first | exact hAL2 | refine Agree.put ?_ rfl | refine Agree.sub hACr25 rfl ?_ | refine Agree.sub hAL1 rfl ?_ | refine Agree.sub hAL0 rfl ?_ | refine Agree.sub hACr1 rfl ?_ | refine Agree.named hF99 ?_ | refine Agree.named hF94 ?_ | refine Agree.named hF38 ?_ | refine Agree.named hF23 ?_ | refine Agree.named hF6 ?_)), (Ext.trans hwL2 hwCr25), ⟨by omega, by rw [List.take_succ_eq_append_getElem hk2, List.foldl_append, ← hsk]; rfl, by rw [e6]; exact (hO9.ext hwCr25), (hO.ext hwCr25), (hO3.ext hwCr25), (oQ.ext hwCr25), (oW.ext hwCr25), (oF2.ext hwCr25)⟩⟩
                  · have gh6_96 := (of_decide_eq_false h6_96)
                    have hbe : bestV (c.ofP m.Part ++ [hdP m]) = s.1.Value := by unfold bestV; rw [hsk, List.take_of_length_le (by omega)]
                    refine WF.exit ?_
                    refine thn_x ?_
                    refine thn_x ?_
                    refine blk_eq ?_
                    refine thn_n ?_
                    refine WF.seq ?_
                    refine WF.region ?_
                    refine WL.va rfl rfl rfl (X.move ((hAL2.eq 0).trans ((congrFun hF94 0).trans ((hAL1.eq 0).trans ((congrFun hF38 0).trans ((hAL0.eq 0).trans ((congrFun hF23 0).trans ((hACr1.eq 0).trans (congrFun hF6 0))))))))) ?_
                    refine WL.va rfl rfl rfl (X.fieldAddrO (off := 10) ((hAL2.eq 3).trans ((congrFun hF94 3).trans ((hAL1.eq 3).trans ((congrFun hF38 3).trans ((hAL0.eq 3).trans ((congrFun hF23 3).trans ((hACr1.eq 3).trans (congrFun hF6 3)))))))) Try.underlying40 rfl rfl Try.sizeOf3) ?_
                    refine WL.va rfl rfl rfl (X.loadO hO3 (Ext.refl _) rfl rfl Try.isAgg3) ?_
                    refine WL.va rfl rfl rfl (X.fieldAddrO (off := 4) ((hAL2.eq 9).trans (congrFun hF94 9)) Try.underlying80 rfl rfl Try.sizeOf3) ?_
                    refine WL.va rfl rfl rfl (X.loadO hO9 (Ext.refl _) rfl rfl Try.isAgg3) ?_
                    refine WL.va rfl rfl rfl (X.buildT (P := Try.prog) (t := 40) (cs := (Msg.bare (says m.Part s.1.Value))) (zs := [i64 0, i64 0, i64 0, i64 0, i64 0, i64 0, i64 0, i64 0, i64 0, i64 0, i64 0, i64 0, i64 0, i64 0, .bool false, .slice none 0 0, .slice none 0 0]) (places := [(0, 1), (1, 1), (2, 1), (3, 1), (4, 1), (5, 1), (6, 1), (7, 1), (8, 1), (9, 1), (10, 1), (11, 1), (12, 1), (13, 1), (14, 1), (15, 1), (16, 1)]) (n := 17) (evp_cons rfl (evp_cons rfl (evp_cons rfl evp_nil))) Try.type40 Try.underlying40 rfl rfl ⟨rfl, rfl, rfl, trivial⟩ rfl rfl rfl) ?_
                    have hzz := ((show Ext wP wL2 from hwL2)).size
                    refine WL.c rfl rfl rfl (X.call Try.call32 (evl_cons rfl (evl_cons rfl evl_nil))) (allR_ok g { c with prom := c.prom ++ [hdP m], prop := c.prop ++ [m.Part] } _ _ _ _ (says m.Part s.1.Value) _ hO hn7) ?_
                    rintro v123 w122 ⟨hout, hx124⟩
                    have := World.grownBy.size hx124
                    refine WL.va rfl rfl rfl (X.assign rfl) ?_
                    refine WL.nil ?_
                    refine thn_n ?_
                    refine WF.ret ?_
                    refine fin_r ?_
                    rw [RC.promise_d hp1 hp2 hp3, hbe]
                    exact ⟨own_mono hout (by omega), R_fin2 hI (hO.ext hx124) rfl rfl ((((((((((((((((((ChgS.refl (fun b => b = g ∨ ∃ r, F b = some r ∧ (r = Rl.pr ∨ r = Rl.po)) w).ext hx3).ext hwCr1).ext hwL0).ext hwL1).ext (Ext.store hx46 hx50 (by omega))).ext (Ext.drew _)).ext hx55).row hx58 (fun b e => .inl (.inr ⟨_, hI.prom.fp b e, .inl rfl⟩))).row1 hx62 (.inl (.inl rfl))).ext hx67).row hx69 (fun b hb => .inr (by have := (oF.own.lt b hb).1; omega))).ext (Ext.drew _)).ext hx76).row hx79 (fun b e => .inl (.inr ⟨_, hI.prop.fp b e, .inr rfl⟩))).row1 hx82 (.inl (.inl rfl))).ext hwL2).ext hx124) (own_mono (oQ.ext hx124).own (Nat.zero_le _)) hvq (own_mono (oW.ext hx124).own (Nat.zero_le _)) hvw hap⟩

theorem RC.step_a {c : RC} {m : Msg} (h : (m.Txn ≠ c.txn ∨ m.Part ∉ c.parts ∨ m.From < 1 ∨ c.nac < m.From ∨ (m.Kind ≠ 9 ∧ m.Kind ≠ 11))) : c.step m = (c, []) := if_pos h
theorem RC.step_b {c : RC} {m : Msg} (h : ¬ (m.Txn ≠ c.txn ∨ m.Part ∉ c.parts ∨ m.From < 1 ∨ c.nac < m.From ∨ (m.Kind ≠ 9 ∧ m.Kind ≠ 11))) (h2 : m.Ok = false) : c.step m = ({ c with top := max c.top m.Index }, []) := (if_neg h).trans (if_pos h2)
theorem RC.step_c {c : RC} {m : Msg} (h : ¬ (m.Txn ≠ c.txn ∨ m.Part ∉ c.parts ∨ m.From < 1 ∨ c.nac < m.From ∨ (m.Kind ≠ 9 ∧ m.Kind ≠ 11))) (h2 : ¬ m.Ok = false) (h3 : m.Kind = 9) : c.step m = c.promise m := (if_neg h).trans ((if_neg h2).trans (if_pos h3))
theorem RC.step_d {c : RC} {m : Msg} (h : ¬ (m.Txn ≠ c.txn ∨ m.Part ∉ c.parts ∨ m.From < 1 ∨ c.nac < m.From ∨ (m.Kind ≠ 9 ∧ m.Kind ≠ 11))) (h2 : ¬ m.Ok = false) (h3 : ¬ m.Kind = 9) : c.step m = (c.accept m, []) := (if_neg h).trans ((if_neg h2).trans (if_neg h3))
theorem RC.accept_y {c : RC} {m : Msg} (h : (m.Kind = 11 ∧ (m.Value = 1 ∨ m.Value = 2))) : c.accept m = { c with acc := c.acc ++ [hdA m] } := if_pos h
theorem RC.accept_n {c : RC} {m : Msg} (h : ¬ (m.Kind = 11 ∧ (m.Value = 1 ∨ m.Value = 2))) : c.accept m = c := if_neg h
theorem R_fin3 {w w' : World} {F : Fp Rl} {g : Nat} {c c' : RC} {vp va vr vo va' : Value} (h : RIn w F g c vp va vr vo) (hg : Blk w' g 49 (c'.cells vp va' vr vo)) (hp : c'.parts = c.parts) (hac : c'.prom = c.prom) (hpo : c'.prop = c.prop)
    (hC : ChgS (fun b => b = g ∨ ∃ r, F b = some r ∧ r = Rl.acc) w w') (hr : w'.ownsRow 0 80 5 va' c'.acc.length (c'.acc.flatMap Hd.c)) (hr2 : ∀ b, va'.ownBlock = some b → F b = some .acc ∨ F b = none ∧ w.heap.size ≤ b) : RPost w w' F g c' :=
  R_fin (Q := fun r => r = Rl.acc) h hg hp hC (by simp) (by simp) (.inr hr) hr2 (.inl ⟨by simp, rfl, hac⟩) (fun b e => .inl (h.prom.fp b e)) (.inl ⟨by simp, rfl, hpo⟩) (fun b e => .inl (h.prop.fp b e))
    (dis_own hr2 (fun b e => .inl (h.prom.fp b e)) (by simp) (.inr (.inl h.prom.fp))) (dis_own hr2 (fun b e => .inl (h.prop.fp b e)) (by simp) (.inr (.inl h.prop.fp))) (dis_own (w := w) (fun b e => .inl (h.prom.fp b e)) (fun b e => .inl (h.prop.fp b e)) (by simp) (.inl h.prom.fp))
set_option maxHeartbeats 4000000 in
theorem stepR_ok (F : Fp Rl) (g : Nat) (c : RC) (m : Msg) (em dm : Value) (w : World) (h : RAt w F g c) (hok : c.ok) : FnOk Try.prog 15 [at_ g, agg (m.c em dm)] w (fun r w' => OwnM w' w.heap.size 40 r (c.step m).2 ∧ RPost w w' F g (c.step m).1) := by
  obtain ⟨vp, va, vr, vo, hI⟩ := h
  have hO := hI.obj
  have zg := Fp.lt hI.below hI.at_
  obtain ⟨Bp, Tp, oP, zP, bP, nP⟩ := hI.parts.outT
  obtain ⟨Ba, Ta, oA, zA, bA, nA⟩ := hI.acc.outT
  obtain ⟨Br, Tr, oR, zR, bR, nR⟩ := hI.prom.outT
  obtain ⟨Bo, To, oo, zo, bo, no⟩ := hI.prop.outT
  have n1 := nP g _ hI.at_ (by simp)
  have n2 := nA g _ hI.at_ (by simp)
  have n3 := nR g _ hI.at_ (by simp)
  have n4 := no g _ hI.at_ (by simp)
  obtain ⟨hn1, hn7⟩ := hok.nac
  have hp4 := hok.parts
  have ha4 := hok.acc
  have hr4 := hok.prom
  have ho4 := hok.prop
  have hrl : (c.prom.length : Int) ≤ 9223372036854775807 := by omega
  refine FnOk.enter (rs := [4]) Try.func15 rfl Try.ntmps15 Try.results15 rfl rfl ?_
  refine WF.seq ?_
  refine WF.region ?_
  refine WL.op rfl (OW.boxA (cs := (m.c em dm)) rfl ?_ (by decide))
  intro g3 w1 heg3 hlg3 hO3 hx3
  have := World.grownBy.size hx3
  refine WL.va rfl rfl rfl (X.assign rfl) ?_
  refine WL.nil ?_
  refine thn_n ?_
  refine WF.seq ?_
  refine WF.named (fun F5 hF6 => ?_)
  refine WF.cut (fun f' w' => f' 45 = .bool (decide (m.Txn ≠ c.txn ∨ m.Part ∉ c.parts ∨ m.From < 1 ∨ c.nac < m.From ∨ (m.Kind ≠ 9 ∧ m.Kind ≠ 11))) ∧ Agree [0, 1, 3, 4] f' F5 ∧ Ext w1 w') ?_ ?_
  · refine WF.drawn (.q 0 (.q 1 (.q 2 (.q 3 (.q 4 (.q 5 (.q 6 (.q 7 (.q 8 (.q 9 (.q 10 (.q 11 (.q 12 (.q 13 (.l 14 (.q 15 (.q 16 (.q 17 (.q 18 (.q 19 (.q 20 (.q 21 (.q 22 (.q 23 (.q 24 (.q 25 (.q 26 (.q 27 (.q 28 (.q 29 (.q 30 (.q 31 (.q 32 (.q 33 (.q 34 (.q 35 (.q 36 (.q 37 (.q 38 (.q 39 (.q 40 .nil))))))))))))))))))))))))))))))))))))))))) (fun w' => Ext w1 w') 41 (by kernel_rfl) (by kernel_rfl) (Ext.drew _) ?_
    have := World.grownBy.size (Ext.drew w1)
    refine WO.q rfl rfl rfl rfl (fun w' hE7 => (X.fieldAddrO (off := 9) (congrFun hF6 3) Try.underlying40 rfl rfl Try.sizeOf3)) ?_
    refine WO.q rfl rfl rfl rfl (fun w' hE7 => (X.loadO hO3 hE7 rfl rfl Try.isAgg3)) ?_
    refine WO.q rfl rfl rfl rfl (fun w' hE7 => (X.move (congrFun hF6 0))) ?_
    refine WO.q rfl rfl rfl rfl (fun w' hE7 => (X.nilCheck rfl)) ?_
    refine WO.q rfl rfl rfl rfl (fun w' hE7 => (X.fieldAddrP (off := 1) rfl Try.underlying49 rfl rfl Try.sizeOf3)) ?_
    refine WO.q rfl rfl rfl rfl (fun w' hE7 => (X.loadO hO (Ext.trans hx3 hE7) rfl rfl Try.isAgg3)) ?_
    refine WO.q rfl rfl rfl rfl (fun w' hE7 => (X.neq rfl rfl)) ?_
    refine WO.q rfl rfl rfl rfl (fun w' hE7 => (X.moveB rfl)) ?_
    refine WO.split (j := 7) rfl (fun h9 => ?_) (fun h9 => ?_)
    · have gh9 := (of_decide_eq_true h9)
      have a1 : m.Txn ≠ c.txn := gh9
      refine WO.qp rfl rfl rfl rfl (congrArg some h9) ?_
      refine WO.qp rfl rfl rfl rfl (congrArg some h9) ?_
      refine WO.qp rfl rfl rfl rfl (congrArg some h9) ?_
      refine WO.qp rfl rfl rfl rfl (congrArg some h9) ?_
      refine WO.qp rfl rfl rfl rfl (congrArg some h9) ?_
      refine WO.qp rfl rfl rfl rfl (congrArg some h9) ?_
      refine WO.l ?_
      refine LO.pass rfl (Ext.drew _) rfl rfl rfl (congrArg some h9) ?_
      refine WO.qp rfl rfl rfl rfl (congrArg some h9) ?_
      refine WO.q rfl rfl rfl rfl (fun w' hE7 => (X.pickT rfl h9 rfl)) ?_
      refine WO.q rfl rfl rfl rfl (fun w' hE7 => (X.moveB rfl)) ?_
      refine WO.qp rfl rfl rfl rfl rfl ?_
      refine WO.qp rfl rfl rfl rfl rfl ?_
      refine WO.qp rfl rfl rfl rfl rfl ?_
      refine WO.q rfl rfl rfl rfl (fun w' hE7 => (X.pickT rfl rfl rfl)) ?_
      refine WO.q rfl rfl rfl rfl (fun w' hE7 => (X.moveB rfl)) ?_
      refine WO.qp rfl rfl rfl rfl rfl ?_
      refine WO.qp rfl rfl rfl rfl rfl ?_
      refine WO.qp rfl rfl rfl rfl rfl ?_
      refine WO.qp rfl rfl rfl rfl rfl ?_
      refine WO.qp rfl rfl rfl rfl rfl ?_
      refine WO.qp rfl rfl rfl rfl rfl ?_
      refine WO.qp rfl rfl rfl rfl rfl ?_
      refine WO.q rfl rfl rfl rfl (fun w' hE7 => (X.pickT rfl rfl rfl)) ?_
      refine WO.q rfl rfl rfl rfl (fun w' hE7 => (X.moveB rfl)) ?_
      refine WO.qp rfl rfl rfl rfl rfl ?_
      refine WO.qp rfl rfl rfl rfl rfl ?_
      refine WO.qp rfl rfl rfl rfl rfl ?_
      refine WO.qp rfl rfl rfl rfl rfl ?_
      refine WO.qpn rfl rfl rfl rfl rfl ?_
      refine WO.qpn rfl rfl rfl rfl rfl ?_
      refine WO.qpn rfl rfl rfl rfl rfl ?_
      refine WO.qp rfl rfl rfl rfl rfl ?_
      refine WO.q rfl rfl rfl rfl (fun w' hE7 => (X.pickT rfl rfl rfl)) ?_
      refine WO.nil ?_
      refine WL.nil ?_
      refine thn_n ?_
      exact ⟨(congrArg Value.bool (by first | exact (decide_eq_true (show (m.Txn ≠ c.txn ∨ m.Part ∉ c.parts ∨ m.From < 1 ∨ c.nac < m.From ∨ (m.Kind ≠ 9 ∧ m.Kind ≠ 11)) from .inl a1)).symm | exact (decide_eq_true (show (m.Txn ≠ c.txn ∨ m.Part ∉ c.parts ∨ m.From < 1 ∨ c.nac < m.From ∨ (m.Kind ≠ 9 ∧ m.Kind ≠ 11)) from .inr (.inl a2))).symm | exact (decide_eq_true (show (m.Txn ≠ c.txn ∨ m.Part ∉ c.parts ∨ m.From < 1 ∨ c.nac < m.From ∨ (m.Kind ≠ 9 ∧ m.Kind ≠ 11)) from .inr (.inr (.inl a3)))).symm | exact (decide_eq_true (show (m.Txn ≠ c.txn ∨ m.Part ∉ c.parts ∨ m.From < 1 ∨ c.nac < m.From ∨ (m.Kind ≠ 9 ∧ m.Kind ≠ 11)) from .inr (.inr (.inr (.inl a4))))).symm | exact (decide_eq_decide.2 ⟨fun e => .inr (.inr (.inr (.inr ⟨a5, e⟩))), fun e => ((((e.resolve_left b1).resolve_left b2).resolve_left b3).resolve_left b4).2⟩) | exact (decide_eq_false (fun (e : (m.Txn ≠ c.txn ∨ m.Part ∉ c.parts ∨ m.From < 1 ∨ c.nac < m.From ∨ (m.Kind ≠ 9 ∧ m.Kind ≠ 11))) => ((((e.resolve_left b1).resolve_left b2).resolve_left b3).resolve_left b4).1 b5)).symm)), (by repeat (first | exact (Agree.refl _ F5) | refine Agree.put ?_ rfl | refine Agree.named hF6 ?_)), (Ext.drew _)⟩
    · have gh9 := (Decidable.of_not_not (of_decide_eq_false h9))
      have b1 : ¬ m.Txn ≠ c.txn := fun e => e gh9
      refine WO.qg rfl rfl (congrArg some h9) rfl rfl (fun w' hE7 => (X.move (congrFun hF6 0))) ?_
      refine WO.qg rfl rfl (congrArg some h9) rfl rfl (fun w' hE7 => (X.nilCheck rfl)) ?_
      refine WO.qg rfl rfl (congrArg some h9) rfl rfl (fun w' hE7 => (X.fieldAddrP (off := 3) rfl Try.underlying49 rfl rfl Try.sizeOf22)) ?_
      refine WO.qg rfl rfl (congrArg some h9) rfl rfl (fun w' hE7 => (X.loadO hO (Ext.trans hx3 hE7) rfl rfl Try.isAgg22)) ?_
      refine WO.qg rfl rfl (congrArg some h9) rfl rfl (fun w' hE7 => (X.fieldAddrO (off := 10) (congrFun hF6 3) Try.underlying40 rfl rfl Try.sizeOf3)) ?_
      refine WO.qg rfl rfl (congrArg some h9) rfl rfl (fun w' hE7 => (X.loadO hO3 hE7 rfl rfl Try.isAgg3)) ?_
      refine WO.l ?_
      refine LO.gog rfl rfl (congrArg some h9) (OW.enter rfl (by decide) (X.call Try.call36 (evl_cons rfl (evl_cons rfl evl_nil))) (inR_ok _ c.parts _ _ (oP.ext (Ext.trans hx3 (Ext.drew _))).rd) ?_)
      rintro v15 w14 ⟨rfl, hx16⟩
      have := World.grownBy.size hx16
      refine ⟨(Ext.trans (Ext.drew _) hx16), ?_⟩
      refine WO.qg rfl rfl (congrArg some h9) rfl rfl (fun w' hE7 => (X.not rfl)) ?_
      refine WO.q rfl rfl rfl rfl (fun w' hE7 => (X.pickF rfl h9 rfl)) ?_
      refine WO.q rfl rfl rfl rfl (fun w' hE7 => (X.moveB rfl)) ?_
      refine WO.split (j := 17) rfl (fun h19 => ?_) (fun h19 => ?_)
      · have gh19 := (nt h19)
        have a2 : m.Part ∉ c.parts := of_decide_eq_false gh19
        refine WO.qp rfl rfl rfl rfl (congrArg some h19) ?_
        refine WO.qp rfl rfl rfl rfl (congrArg some h19) ?_
        refine WO.qp rfl rfl rfl rfl (congrArg some h19) ?_
        refine WO.q rfl rfl rfl rfl (fun w' hE7 => (X.pickT rfl h19 rfl)) ?_
        refine WO.q rfl rfl rfl rfl (fun w' hE7 => (X.moveB rfl)) ?_
        refine WO.qp rfl rfl rfl rfl rfl ?_
        refine WO.qp rfl rfl rfl rfl rfl ?_
        refine WO.qp rfl rfl rfl rfl rfl ?_
        refine WO.qp rfl rfl rfl rfl rfl ?_
        refine WO.qp rfl rfl rfl rfl rfl ?_
        refine WO.qp rfl rfl rfl rfl rfl ?_
        refine WO.qp rfl rfl rfl rfl rfl ?_
        refine WO.q rfl rfl rfl rfl (fun w' hE7 => (X.pickT rfl rfl rfl)) ?_
        refine WO.q rfl rfl rfl rfl (fun w' hE7 => (X.moveB rfl)) ?_
        refine WO.qp rfl rfl rfl rfl rfl ?_
        refine WO.qp rfl rfl rfl rfl rfl ?_
        refine WO.qp rfl rfl rfl rfl rfl ?_
        refine WO.qp rfl rfl rfl rfl rfl ?_
        refine WO.qpn rfl rfl rfl rfl rfl ?_
        refine WO.qpn rfl rfl rfl rfl rfl ?_
        refine WO.qpn rfl rfl rfl rfl rfl ?_
        refine WO.qp rfl rfl rfl rfl rfl ?_
        refine WO.q rfl rfl rfl rfl (fun w' hE7 => (X.pickT rfl rfl rfl)) ?_
        refine WO.nil ?_
        refine WL.nil ?_
        refine thn_n ?_
        exact ⟨(congrArg Value.bool (by first | exact (decide_eq_true (show (m.Txn ≠ c.txn ∨ m.Part ∉ c.parts ∨ m.From < 1 ∨ c.nac < m.From ∨ (m.Kind ≠ 9 ∧ m.Kind ≠ 11)) from .inl a1)).symm | exact (decide_eq_true (show (m.Txn ≠ c.txn ∨ m.Part ∉ c.parts ∨ m.From < 1 ∨ c.nac < m.From ∨ (m.Kind ≠ 9 ∧ m.Kind ≠ 11)) from .inr (.inl a2))).symm | exact (decide_eq_true (show (m.Txn ≠ c.txn ∨ m.Part ∉ c.parts ∨ m.From < 1 ∨ c.nac < m.From ∨ (m.Kind ≠ 9 ∧ m.Kind ≠ 11)) from .inr (.inr (.inl a3)))).symm | exact (decide_eq_true (show (m.Txn ≠ c.txn ∨ m.Part ∉ c.parts ∨ m.From < 1 ∨ c.nac < m.From ∨ (m.Kind ≠ 9 ∧ m.Kind ≠ 11)) from .inr (.inr (.inr (.inl a4))))).symm | exact (decide_eq_decide.2 ⟨fun e => .inr (.inr (.inr (.inr ⟨a5, e⟩))), fun e => ((((e.resolve_left b1).resolve_left b2).resolve_left b3).resolve_left b4).2⟩) | exact (decide_eq_false (fun (e : (m.Txn ≠ c.txn ∨ m.Part ∉ c.parts ∨ m.From < 1 ∨ c.nac < m.From ∨ (m.Kind ≠ 9 ∧ m.Kind ≠ 11))) => ((((e.resolve_left b1).resolve_left b2).resolve_left b3).resolve_left b4).1 b5)).symm)), (by repeat (first | exact (Agree.refl _ F5) | refine Agree.put ?_ rfl | refine Agree.named hF6 ?_)), (Ext.trans (Ext.drew _) hx16)⟩
      · have gh19 := (nf h19)
        have b2 : ¬ m.Part ∉ c.parts := fun e => e (of_decide_eq_true gh19)
        refine WO.qg rfl rfl (congrArg some h19) rfl rfl (fun w' hE7 => (X.fieldAddrO (off := 1) (congrFun hF6 3) Try.underlying40 rfl rfl Try.sizeOf3)) ?_
        refine WO.qg rfl rfl (congrArg some h19) rfl rfl (fun w' hE7 => (X.loadO hO3 hE7 rfl rfl Try.isAgg3)) ?_
        refine WO.qg rfl rfl (congrArg some h19) rfl rfl (fun w' hE7 => (X.lss rfl rfl)) ?_
        refine WO.q rfl rfl rfl rfl (fun w' hE7 => (X.pickF rfl h19 rfl)) ?_
        refine WO.q rfl rfl rfl rfl (fun w' hE7 => (X.moveB rfl)) ?_
        refine WO.split (j := 22) rfl (fun h24 => ?_) (fun h24 => ?_)
        · have gh24 := (of_decide_eq_true h24)
          have a3 : m.From < 1 := gh24
          refine WO.qp rfl rfl rfl rfl (congrArg some h24) ?_
          refine WO.qp rfl rfl rfl rfl (congrArg some h24) ?_
          refine WO.qp rfl rfl rfl rfl (congrArg some h24) ?_
          refine WO.qp rfl rfl rfl rfl (congrArg some h24) ?_
          refine WO.qp rfl rfl rfl rfl (congrArg some h24) ?_
          refine WO.qp rfl rfl rfl rfl (congrArg some h24) ?_
          refine WO.qp rfl rfl rfl rfl (congrArg some h24) ?_
          refine WO.q rfl rfl rfl rfl (fun w' hE7 => (X.pickT rfl h24 rfl)) ?_
          refine WO.q rfl rfl rfl rfl (fun w' hE7 => (X.moveB rfl)) ?_
          refine WO.qp rfl rfl rfl rfl rfl ?_
          refine WO.qp rfl rfl rfl rfl rfl ?_
          refine WO.qp rfl rfl rfl rfl rfl ?_
          refine WO.qp rfl rfl rfl rfl rfl ?_
          refine WO.qpn rfl rfl rfl rfl rfl ?_
          refine WO.qpn rfl rfl rfl rfl rfl ?_
          refine WO.qpn rfl rfl rfl rfl rfl ?_
          refine WO.qp rfl rfl rfl rfl rfl ?_
          refine WO.q rfl rfl rfl rfl (fun w' hE7 => (X.pickT rfl rfl rfl)) ?_
          refine WO.nil ?_
          refine WL.nil ?_
          refine thn_n ?_
          exact ⟨(congrArg Value.bool (by first | exact (decide_eq_true (show (m.Txn ≠ c.txn ∨ m.Part ∉ c.parts ∨ m.From < 1 ∨ c.nac < m.From ∨ (m.Kind ≠ 9 ∧ m.Kind ≠ 11)) from .inl a1)).symm | exact (decide_eq_true (show (m.Txn ≠ c.txn ∨ m.Part ∉ c.parts ∨ m.From < 1 ∨ c.nac < m.From ∨ (m.Kind ≠ 9 ∧ m.Kind ≠ 11)) from .inr (.inl a2))).symm | exact (decide_eq_true (show (m.Txn ≠ c.txn ∨ m.Part ∉ c.parts ∨ m.From < 1 ∨ c.nac < m.From ∨ (m.Kind ≠ 9 ∧ m.Kind ≠ 11)) from .inr (.inr (.inl a3)))).symm | exact (decide_eq_true (show (m.Txn ≠ c.txn ∨ m.Part ∉ c.parts ∨ m.From < 1 ∨ c.nac < m.From ∨ (m.Kind ≠ 9 ∧ m.Kind ≠ 11)) from .inr (.inr (.inr (.inl a4))))).symm | exact (decide_eq_decide.2 ⟨fun e => .inr (.inr (.inr (.inr ⟨a5, e⟩))), fun e => ((((e.resolve_left b1).resolve_left b2).resolve_left b3).resolve_left b4).2⟩) | exact (decide_eq_false (fun (e : (m.Txn ≠ c.txn ∨ m.Part ∉ c.parts ∨ m.From < 1 ∨ c.nac < m.From ∨ (m.Kind ≠ 9 ∧ m.Kind ≠ 11))) => ((((e.resolve_left b1).resolve_left b2).resolve_left b3).resolve_left b4).1 b5)).symm)), (by repeat (first | exact (Agree.refl _ F5) | refine Agree.put ?_ rfl | refine Agree.named hF6 ?_)), (Ext.trans (Ext.drew _) hx16)⟩
        · have gh24 := (of_decide_eq_false h24)
          have b3 : ¬ m.From < 1 := gh24
          refine WO.qg rfl rfl (congrArg some h24) rfl rfl (fun w' hE7 => (X.fieldAddrO (off := 1) (congrFun hF6 3) Try.underlying40 rfl rfl Try.sizeOf3)) ?_
          refine WO.qg rfl rfl (congrArg some h24) rfl rfl (fun w' hE7 => (X.loadO hO3 hE7 rfl rfl Try.isAgg3)) ?_
          refine WO.qg rfl rfl (congrArg some h24) rfl rfl (fun w' hE7 => (X.move (congrFun hF6 0))) ?_
          refine WO.qg rfl rfl (congrArg some h24) rfl rfl (fun w' hE7 => (X.nilCheck rfl)) ?_
          refine WO.qg rfl rfl (congrArg some h24) rfl rfl (fun w' hE7 => (X.fieldAddrP (off := 2) rfl Try.underlying49 rfl rfl Try.sizeOf3)) ?_
          refine WO.qg rfl rfl (congrArg some h24) rfl rfl (fun w' hE7 => (X.loadO hO (Ext.trans hx3 hE7) rfl rfl Try.isAgg3)) ?_
          refine WO.qg rfl rfl (congrArg some h24) rfl rfl (fun w' hE7 => (X.gtr rfl rfl)) ?_
          refine WO.q rfl rfl rfl rfl (fun w' hE7 => (X.pickF rfl h24 rfl)) ?_
          refine WO.q rfl rfl rfl rfl (fun w' hE7 => (X.moveB rfl)) ?_
          refine WO.split (j := 31) rfl (fun h28 => ?_) (fun h28 => ?_)
          · have gh28 := (of_decide_eq_true h28)
            have a4 : c.nac < m.From := gh28
            refine WO.qp rfl rfl rfl rfl (congrArg some h28) ?_
            refine WO.qp rfl rfl rfl rfl (congrArg some h28) ?_
            refine WO.qp rfl rfl rfl rfl (congrArg some h28) ?_
            refine WO.qp rfl rfl rfl rfl (congrArg some h28) ?_
            refine WO.qpn rfl rfl rfl rfl rfl ?_
            refine WO.qpn rfl rfl rfl rfl rfl ?_
            refine WO.qpn rfl rfl rfl rfl rfl ?_
            refine WO.qp rfl rfl rfl rfl (congrArg some h28) ?_
            refine WO.q rfl rfl rfl rfl (fun w' hE7 => (X.pickT rfl h28 rfl)) ?_
            refine WO.nil ?_
            refine WL.nil ?_
            refine thn_n ?_
            exact ⟨(congrArg Value.bool (by first | exact (decide_eq_true (show (m.Txn ≠ c.txn ∨ m.Part ∉ c.parts ∨ m.From < 1 ∨ c.nac < m.From ∨ (m.Kind ≠ 9 ∧ m.Kind ≠ 11)) from .inl a1)).symm | exact (decide_eq_true (show (m.Txn ≠ c.txn ∨ m.Part ∉ c.parts ∨ m.From < 1 ∨ c.nac < m.From ∨ (m.Kind ≠ 9 ∧ m.Kind ≠ 11)) from .inr (.inl a2))).symm | exact (decide_eq_true (show (m.Txn ≠ c.txn ∨ m.Part ∉ c.parts ∨ m.From < 1 ∨ c.nac < m.From ∨ (m.Kind ≠ 9 ∧ m.Kind ≠ 11)) from .inr (.inr (.inl a3)))).symm | exact (decide_eq_true (show (m.Txn ≠ c.txn ∨ m.Part ∉ c.parts ∨ m.From < 1 ∨ c.nac < m.From ∨ (m.Kind ≠ 9 ∧ m.Kind ≠ 11)) from .inr (.inr (.inr (.inl a4))))).symm | exact (decide_eq_decide.2 ⟨fun e => .inr (.inr (.inr (.inr ⟨a5, e⟩))), fun e => ((((e.resolve_left b1).resolve_left b2).resolve_left b3).resolve_left b4).2⟩) | exact (decide_eq_false (fun (e : (m.Txn ≠ c.txn ∨ m.Part ∉ c.parts ∨ m.From < 1 ∨ c.nac < m.From ∨ (m.Kind ≠ 9 ∧ m.Kind ≠ 11))) => ((((e.resolve_left b1).resolve_left b2).resolve_left b3).resolve_left b4).1 b5)).symm)), (by repeat (first | exact (Agree.refl _ F5) | refine Agree.put ?_ rfl | refine Agree.named hF6 ?_)), (Ext.trans (Ext.drew _) hx16)⟩
          · have gh28 := (of_decide_eq_false h28)
            have b4 : ¬ c.nac < m.From := gh28
            refine WO.qg rfl rfl (congrArg some h28) rfl rfl (fun w' hE7 => (X.fieldAddrO (off := 0) (congrFun hF6 3) Try.underlying40 rfl rfl Try.sizeOf3)) ?_
            refine WO.qg rfl rfl (congrArg some h28) rfl rfl (fun w' hE7 => (X.loadO hO3 hE7 rfl rfl Try.isAgg3)) ?_
            refine WO.qg rfl rfl (congrArg some h28) rfl rfl (fun w' hE7 => (X.neq rfl rfl)) ?_
            refine WO.qg rfl rfl (congrArg some h28) rfl rfl (fun w' hE7 => (X.moveB rfl)) ?_
            refine WO.split (j := 35) rfl (fun h31 => ?_) (fun h31 => ?_)
            · have gh31 := (of_decide_eq_true h31)
              have a5 : m.Kind ≠ 9 := gh31
              refine WO.qg rfl rfl (congrArg some h31) rfl rfl (fun w' hE7 => (X.fieldAddrO (off := 0) (congrFun hF6 3) Try.underlying40 rfl rfl Try.sizeOf3)) ?_
              refine WO.qg rfl rfl (congrArg some h31) rfl rfl (fun w' hE7 => (X.loadO hO3 hE7 rfl rfl Try.isAgg3)) ?_
              refine WO.qg rfl rfl (congrArg some h31) rfl rfl (fun w' hE7 => (X.neq rfl rfl)) ?_
              refine WO.qg rfl rfl (congrArg some h28) rfl rfl (fun w' hE7 => (X.pickT rfl h31 rfl)) ?_
              refine WO.q rfl rfl rfl rfl (fun w' hE7 => (X.pickF rfl h28 rfl)) ?_
              refine WO.nil ?_
              refine WL.nil ?_
              refine thn_n ?_
              exact ⟨(congrArg Value.bool (by first | exact (decide_eq_true (show (m.Txn ≠ c.txn ∨ m.Part ∉ c.parts ∨ m.From < 1 ∨ c.nac < m.From ∨ (m.Kind ≠ 9 ∧ m.Kind ≠ 11)) from .inl a1)).symm | exact (decide_eq_true (show (m.Txn ≠ c.txn ∨ m.Part ∉ c.parts ∨ m.From < 1 ∨ c.nac < m.From ∨ (m.Kind ≠ 9 ∧ m.Kind ≠ 11)) from .inr (.inl a2))).symm | exact (decide_eq_true (show (m.Txn ≠ c.txn ∨ m.Part ∉ c.parts ∨ m.From < 1 ∨ c.nac < m.From ∨ (m.Kind ≠ 9 ∧ m.Kind ≠ 11)) from .inr (.inr (.inl a3)))).symm | exact (decide_eq_true (show (m.Txn ≠ c.txn ∨ m.Part ∉ c.parts ∨ m.From < 1 ∨ c.nac < m.From ∨ (m.Kind ≠ 9 ∧ m.Kind ≠ 11)) from .inr (.inr (.inr (.inl a4))))).symm | exact (decide_eq_decide.2 ⟨fun e => .inr (.inr (.inr (.inr ⟨a5, e⟩))), fun e => ((((e.resolve_left b1).resolve_left b2).resolve_left b3).resolve_left b4).2⟩) | exact (decide_eq_false (fun (e : (m.Txn ≠ c.txn ∨ m.Part ∉ c.parts ∨ m.From < 1 ∨ c.nac < m.From ∨ (m.Kind ≠ 9 ∧ m.Kind ≠ 11))) => ((((e.resolve_left b1).resolve_left b2).resolve_left b3).resolve_left b4).1 b5)).symm)), (by repeat (first | exact (Agree.refl _ F5) | refine Agree.put ?_ rfl | refine Agree.named hF6 ?_)), (Ext.trans (Ext.drew _) hx16)⟩
            · have gh31 := (Decidable.of_not_not (of_decide_eq_false h31))
              have b5 : m.Kind = 9 := gh31
              refine WO.qp rfl rfl rfl rfl (congrArg some h31) ?_
              refine WO.qp rfl rfl rfl rfl (congrArg some h31) ?_
              refine WO.qp rfl rfl rfl rfl (congrArg some h31) ?_
              refine WO.qg rfl rfl (congrArg some h28) rfl rfl (fun w' hE7 => (X.pickF rfl h31 rfl)) ?_
              refine WO.q rfl rfl rfl rfl (fun w' hE7 => (X.pickF rfl h28 rfl)) ?_
              refine WO.nil ?_
              refine WL.nil ?_
              refine thn_n ?_
              exact ⟨(congrArg Value.bool (by first | exact (decide_eq_true (show (m.Txn ≠ c.txn ∨ m.Part ∉ c.parts ∨ m.From < 1 ∨ c.nac < m.From ∨ (m.Kind ≠ 9 ∧ m.Kind ≠ 11)) from .inl a1)).symm | exact (decide_eq_true (show (m.Txn ≠ c.txn ∨ m.Part ∉ c.parts ∨ m.From < 1 ∨ c.nac < m.From ∨ (m.Kind ≠ 9 ∧ m.Kind ≠ 11)) from .inr (.inl a2))).symm | exact (decide_eq_true (show (m.Txn ≠ c.txn ∨ m.Part ∉ c.parts ∨ m.From < 1 ∨ c.nac < m.From ∨ (m.Kind ≠ 9 ∧ m.Kind ≠ 11)) from .inr (.inr (.inl a3)))).symm | exact (decide_eq_true (show (m.Txn ≠ c.txn ∨ m.Part ∉ c.parts ∨ m.From < 1 ∨ c.nac < m.From ∨ (m.Kind ≠ 9 ∧ m.Kind ≠ 11)) from .inr (.inr (.inr (.inl a4))))).symm | exact (decide_eq_decide.2 ⟨fun e => .inr (.inr (.inr (.inr ⟨a5, e⟩))), fun e => ((((e.resolve_left b1).resolve_left b2).resolve_left b3).resolve_left b4).2⟩) | exact (decide_eq_false (fun (e : (m.Txn ≠ c.txn ∨ m.Part ∉ c.parts ∨ m.From < 1 ∨ c.nac < m.From ∨ (m.Kind ≠ 9 ∧ m.Kind ≠ 11))) => ((((e.resolve_left b1).resolve_left b2).resolve_left b3).resolve_left b4).1 b5)).symm)), (by repeat (first | exact (Agree.refl _ F5) | refine Agree.put ?_ rfl | refine Agree.named hF6 ?_)), (Ext.trans (Ext.drew _) hx16)⟩
  · rintro fCr1 wCr1 ⟨e45_Cr1, hACr1, hwCr1⟩
    have := World.grownBy.size hwCr1
    refine WF.cond e45_Cr1 (fun h0_34 => ?_) (fun h0_34 => ?_)
    · have gh0_34 := (of_decide_eq_true h0_34)
      have hC1 : (m.Txn ≠ c.txn ∨ m.Part ∉ c.parts ∨ m.From < 1 ∨ c.nac < m.From ∨ (m.Kind ≠ 9 ∧ m.Kind ≠ 11)) := gh0_34
      refine WF.seq ?_
      refine WF.region ?_
      refine WL.va rfl rfl rfl (X.assign rfl) ?_
      refine WL.nil ?_
      refine thn_n ?_
      refine WF.ret ?_
      refine thn_r ?_
      refine fin_r ?_
      rw [RC.step_a hC1]
      exact ⟨OwnM.nil _ _ _, RPost.same ⟨_, _, _, _, hI⟩ (Ext.trans hx3 hwCr1)⟩
    · have gh0_34 := (of_decide_eq_false h0_34)
      have hN1 : ¬ (m.Txn ≠ c.txn ∨ m.Part ∉ c.parts ∨ m.From < 1 ∨ c.nac < m.From ∨ (m.Kind ≠ 9 ∧ m.Kind ≠ 11)) := gh0_34
      refine WF.skip ?_
      refine thn_n ?_
      refine WF.seq ?_
      refine WF.seq ?_
      refine WF.region ?_
      refine WL.va rfl rfl rfl (X.fieldAddrO (off := 14) ((hACr1.eq 3).trans (congrFun hF6 3)) Try.underlying40 rfl rfl Try.sizeOf4) ?_
      refine WL.va rfl rfl rfl (X.loadO hO3 hwCr1 rfl rfl Try.isAgg4) ?_
      refine WL.va rfl rfl rfl (X.not rfl) ?_
      refine WL.nil ?_
      refine thn_n ?_
      refine WF.cond rfl (fun h1_37 => ?_) (fun h1_37 => ?_)
      · have gh1_37 := (nt h1_37)
        have hk3 : m.Ok = false := gh1_37
        refine WF.seq ?_
        refine WF.drawn (.q 0 (.q 1 (.q 2 (.q 3 (.q 4 (.q 5 (.q 6 (.q 7 (.q 8 (.q 9 .nil)))))))))) (fun w' => Ext wCr1 w') 10 (by kernel_rfl) (by kernel_rfl) (Ext.drew _) ?_
        have := World.grownBy.size (Ext.drew wCr1)
        refine WO.q rfl rfl rfl rfl (fun w' hE39 => (X.move ((hACr1.eq 0).trans (congrFun hF6 0)))) ?_
        refine WO.q rfl rfl rfl rfl (fun w' hE39 => (X.move ((hACr1.eq 0).trans (congrFun hF6 0)))) ?_
        refine WO.q rfl rfl rfl rfl (fun w' hE39 => (X.nilCheck rfl)) ?_
        refine WO.q rfl rfl rfl rfl (fun w' hE39 => (X.fieldAddrP (off := 8) rfl Try.underlying49 rfl rfl Try.sizeOf3)) ?_
        refine WO.q rfl rfl rfl rfl (fun w' hE39 => (X.loadO hO (Ext.trans (Ext.trans hx3 hwCr1) hE39) rfl rfl Try.isAgg3)) ?_
        refine WO.q rfl rfl rfl rfl (fun w' hE39 => (X.fieldAddrO (off := 5) ((hACr1.eq 3).trans (congrFun hF6 3)) Try.underlying40 rfl rfl Try.sizeOf3)) ?_
        refine WO.q rfl rfl rfl rfl (fun w' hE39 => (X.loadO hO3 (Ext.trans hwCr1 hE39) rfl rfl Try.isAgg3)) ?_
        refine WO.q rfl rfl rfl rfl (fun w' hE39 => (X.max2 rfl rfl)) ?_
        refine WO.q rfl rfl rfl rfl (fun w' hE39 => (X.nilCheck rfl)) ?_
        refine WO.q rfl rfl rfl rfl (fun w' hE39 => (X.fieldAddrP (off := 8) rfl Try.underlying49 rfl rfl Try.sizeOf3)) ?_
        refine WO.nil ?_
        refine WL.op rfl (OW.storeO (hO.ext (Ext.trans (Ext.trans hx3 hwCr1) (Ext.drew _))) (Nat.le_of_ble_eq_true rfl) rfl rfl rfl Try.sizeOf3 ?_)
        intro w40 hO hx42
        have := World.grownBy.size hx42
        replace oP := (oP.ext (Ext.trans (Ext.trans hx3 hwCr1) (Ext.drew _))).keptO hx42 (by omega)
        replace oA := (oA.ext (Ext.trans (Ext.trans hx3 hwCr1) (Ext.drew _))).keptO hx42 (by omega)
        replace hO3 := (hO3.ext (Ext.trans hwCr1 (Ext.drew _))).keptO hx42 (by omega)
        replace hO : Blk _ _ _ (RC.cells { c with top := max c.top m.Index } vp va vr vo) := hO
        refine WL.nil ?_
        refine thn_n ?_
        refine WF.seq ?_
        refine WF.region ?_
        refine WL.va rfl rfl rfl (X.assign rfl) ?_
        refine WL.nil ?_
        refine thn_n ?_
        refine WF.ret ?_
        refine thn_r ?_
        refine fin_r ?_
        rw [RC.step_b hN1 hk3]
        exact ⟨OwnM.nil _ _ _, R_fin3 hI hO rfl rfl rfl (((((ChgS.refl (fun b => b = g ∨ ∃ r, F b = some r ∧ r = Rl.acc) w).ext hx3).ext hwCr1).ext (Ext.drew _)).row1 hx42 (.inl (.inl rfl))) (own_mono oA.own (Nat.zero_le _)) (fun b e => .inl (hI.acc.fp b e))⟩
      · have gh1_37 := (nf h1_37)
        have hk3 : ¬ m.Ok = false := by rw [gh1_37]; simp
        refine WF.skip ?_
        refine thn_n ?_
        refine WF.seq ?_
        refine WF.named (fun F44 hF45 => ?_)
        refine WF.cut (fun f' w' => f' 71 = .bool (decide (m.Kind = 11 ∧ (m.Value = 1 ∨ m.Value = 2))) ∧ Agree [0, 1, 3, 4, 45, 46, 47, 48] f' F44 ∧ wCr1 = w') ?_ ?_
        · refine WF.region ?_
          refine WL.va rfl rfl rfl (X.fieldAddrO (off := 0) ((congrFun hF45 3).trans ((hACr1.eq 3).trans (congrFun hF6 3))) Try.underlying40 rfl rfl Try.sizeOf3) ?_
          refine WL.va rfl rfl rfl (X.loadO hO3 hwCr1 rfl rfl Try.isAgg3) ?_
          refine WL.va rfl rfl rfl (X.eql rfl rfl) ?_
          refine WL.va rfl rfl rfl (X.moveB rfl) ?_
          refine WL.split (j := 3) rfl (fun h47 => ?_) (fun h47 => ?_)
          · have gh47 := (of_decide_eq_true h47)
            have d1 : m.Kind = 11 := gh47
            refine WL.vg rfl (congrArg some h47) rfl rfl (X.fieldAddrO (off := 12) ((congrFun hF45 3).trans ((hACr1.eq 3).trans (congrFun hF6 3))) Try.underlying40 rfl rfl Try.sizeOf3) ?_
            refine WL.vg rfl (congrArg some h47) rfl rfl (X.loadO hO3 hwCr1 rfl rfl Try.isAgg3) ?_
            refine WL.vg rfl (congrArg some h47) rfl rfl (X.eql rfl rfl) ?_
            refine WL.vg rfl (congrArg some h47) rfl rfl (X.moveB rfl) ?_
            refine WL.split (j := 7) rfl (fun h49 => ?_) (fun h49 => ?_)
            · have gh49 := (of_decide_eq_true h49)
              have d2 : m.Value = 1 := gh49
              refine WL.p rfl rfl rfl (congrArg some h49) ?_
              refine WL.p rfl rfl rfl (congrArg some h49) ?_
              refine WL.p rfl rfl rfl (congrArg some h49) ?_
              refine WL.vg rfl (congrArg some h47) rfl rfl (X.pickT rfl h49 rfl) ?_
              refine WL.va rfl rfl rfl (X.pickT rfl h47 rfl) ?_
              refine WL.nil ?_
              refine thn_n ?_
              exact ⟨(congrArg Value.bool (by first | exact (decide_eq_true (show (m.Kind = 11 ∧ (m.Value = 1 ∨ m.Value = 2)) from ⟨d1, .inl d2⟩)).symm | exact (decide_eq_decide.2 ⟨fun e => ⟨d1, .inr e⟩, fun e => e.2.resolve_left d3⟩) | exact (decide_eq_false (fun (e : (m.Kind = 11 ∧ (m.Value = 1 ∨ m.Value = 2))) => d0 e.1)).symm)), (by repeat (first | exact (Agree.refl _ F44) | refine Agree.put ?_ rfl | refine Agree.sub hACr1 rfl ?_ | refine Agree.named hF45 ?_ | refine Agree.named hF6 ?_)), rfl⟩
            · have gh49 := (of_decide_eq_false h49)
              have d3 : ¬ m.Value = 1 := gh49
              refine WL.vg rfl (congrArg some h49) rfl rfl (X.fieldAddrO (off := 12) ((congrFun hF45 3).trans ((hACr1.eq 3).trans (congrFun hF6 3))) Try.underlying40 rfl rfl Try.sizeOf3) ?_
              refine WL.vg rfl (congrArg some h49) rfl rfl (X.loadO hO3 hwCr1 rfl rfl Try.isAgg3) ?_
              refine WL.vg rfl (congrArg some h49) rfl rfl (X.eql rfl rfl) ?_
              refine WL.vg rfl (congrArg some h47) rfl rfl (X.pickF rfl h49 rfl) ?_
              refine WL.va rfl rfl rfl (X.pickT rfl h47 rfl) ?_
              refine WL.nil ?_
              refine thn_n ?_
              exact ⟨(congrArg Value.bool (by first | exact (decide_eq_true (show (m.Kind = 11 ∧ (m.Value = 1 ∨ m.Value = 2)) from ⟨d1, .inl d2⟩)).symm | exact (decide_eq_decide.2 ⟨fun e => ⟨d1, .inr e⟩, fun e => e.2.resolve_left d3⟩) | exact (decide_eq_false (fun (e : (m.Kind = 11 ∧ (m.Value = 1 ∨ m.Value = 2))) => d0 e.1)).symm)), (by repeat (first | exact (Agree.refl _ F44) | refine Agree.put ?_ rfl | refine Agree.sub hACr1 rfl ?_ | refine Agree.named hF45 ?_ | refine Agree.named hF6 ?_)), rfl⟩
          · have gh47 := (of_decide_eq_false h47)
            have d0 : ¬ m.Kind = 11 := gh47
            refine WL.p rfl rfl rfl (congrArg some h47) ?_
            refine WL.p rfl rfl rfl (congrArg some h47) ?_
            refine WL.p rfl rfl rfl (congrArg some h47) ?_
            refine WL.p rfl rfl rfl (congrArg some h47) ?_
            refine WL.pn rfl rfl rfl rfl ?_
            refine WL.pn rfl rfl rfl rfl ?_
            refine WL.pn rfl rfl rfl rfl ?_
            refine WL.p rfl rfl rfl (congrArg some h47) ?_
            refine WL.va rfl rfl rfl (X.pickF rfl h47 rfl) ?_
            refine WL.nil ?_
            refine thn_n ?_
            exact ⟨(congrArg Value.bool (by first | exact (decide_eq_true (show (m.Kind = 11 ∧ (m.Value = 1 ∨ m.Value = 2)) from ⟨d1, .inl d2⟩)).symm | exact (decide_eq_decide.2 ⟨fun e => ⟨d1, .inr e⟩, fun e => e.2.resolve_left d3⟩) | exact (decide_eq_false (fun (e : (m.Kind = 11 ∧ (m.Value = 1 ∨ m.Value = 2))) => d0 e.1)).symm)), (by repeat (first | exact (Agree.refl _ F44) | refine Agree.put ?_ rfl | refine Agree.sub hACr1 rfl ?_ | refine Agree.named hF45 ?_ | refine Agree.named hF6 ?_)), rfl⟩
        · rintro fCr6 wCr6 ⟨e71_Cr6, hACr6, rfl⟩
          refine WF.cond e71_Cr6 (fun h2_53 => ?_) (fun h2_53 => ?_)
          · have gh2_53 := (of_decide_eq_true h2_53)
            have hac : (m.Kind = 11 ∧ (m.Value = 1 ∨ m.Value = 2)) := gh2_53
            have hk11 := hac.1
            refine WF.drawn (.q 0 (.q 1 (.q 2 (.q 3 (.q 4 (.q 5 (.q 6 (.q 7 (.q 8 (.q 9 (.q 10 (.q 11 (.q 12 (.q 13 (.l 14 (.l 15 (.q 16 (.q 17 .nil)))))))))))))))))) (fun w' => World.grownBy wCr1 w' va.ownBlock) 18 (by kernel_rfl) (by kernel_rfl) (grown_of_ext (Ext.drew _)) ?_
            have := World.grownBy.size (Ext.drew wCr1)
            refine WO.q rfl rfl rfl rfl (fun w' hE55 => (X.move ((hACr6.eq 0).trans ((congrFun hF45 0).trans ((hACr1.eq 0).trans (congrFun hF6 0)))))) ?_
            refine WO.q rfl rfl rfl rfl (fun w' hE55 => (X.move ((hACr6.eq 0).trans ((congrFun hF45 0).trans ((hACr1.eq 0).trans (congrFun hF6 0)))))) ?_
            refine WO.q rfl rfl rfl rfl (fun w' hE55 => (X.nilCheck rfl)) ?_
            refine WO.q rfl rfl rfl rfl (fun w' hE55 => (X.fieldAddrP (off := 4) rfl Try.underlying49 rfl rfl Try.sizeOf47)) ?_
            refine WO.q rfl rfl rfl rfl (fun w' hE55 => (X.loadO ((hO.ext (Ext.trans hx3 hwCr1)).kept hE55 (fun e => by have := bA _ e; omega)) (Ext.refl _) rfl rfl Try.isAgg47)) ?_
            refine WO.q rfl rfl rfl rfl (fun w' hE55 => (X.fieldAddrO (off := 10) ((hACr6.eq 3).trans ((congrFun hF45 3).trans ((hACr1.eq 3).trans (congrFun hF6 3)))) Try.underlying40 rfl rfl Try.sizeOf3)) ?_
            refine WO.q rfl rfl rfl rfl (fun w' hE55 => (X.loadO ((hO3.ext hwCr1).kept hE55 (fun e => by have := bA _ e; omega)) (Ext.refl _) rfl rfl Try.isAgg3)) ?_
            refine WO.q rfl rfl rfl rfl (fun w' hE55 => (X.fieldAddrO (off := 1) ((hACr6.eq 3).trans ((congrFun hF45 3).trans ((hACr1.eq 3).trans (congrFun hF6 3)))) Try.underlying40 rfl rfl Try.sizeOf3)) ?_
            refine WO.q rfl rfl rfl rfl (fun w' hE55 => (X.loadO ((hO3.ext hwCr1).kept hE55 (fun e => by have := bA _ e; omega)) (Ext.refl _) rfl rfl Try.isAgg3)) ?_
            refine WO.q rfl rfl rfl rfl (fun w' hE55 => (X.fieldAddrO (off := 11) ((hACr6.eq 3).trans ((congrFun hF45 3).trans ((hACr1.eq 3).trans (congrFun hF6 3)))) Try.underlying40 rfl rfl Try.sizeOf3)) ?_
            refine WO.q rfl rfl rfl rfl (fun w' hE55 => (X.loadO ((hO3.ext hwCr1).kept hE55 (fun e => by have := bA _ e; omega)) (Ext.refl _) rfl rfl Try.isAgg3)) ?_
            refine WO.q rfl rfl rfl rfl (fun w' hE55 => (X.fieldAddrO (off := 12) ((hACr6.eq 3).trans ((congrFun hF45 3).trans ((hACr1.eq 3).trans (congrFun hF6 3)))) Try.underlying40 rfl rfl Try.sizeOf3)) ?_
            refine WO.q rfl rfl rfl rfl (fun w' hE55 => (X.loadO ((hO3.ext hwCr1).kept hE55 (fun e => by have := bA _ e; omega)) (Ext.refl _) rfl rfl Try.isAgg3)) ?_
            refine WO.q rfl rfl rfl rfl (fun w' hE55 => (X.buildL (P := Try.prog) (t := 80) (cs := (Hd.c (hdA m))) (evp_cons rfl (evp_cons rfl (evp_cons rfl (evp_cons rfl evp_nil)))) Try.type80 Try.underlying80 rfl rfl ⟨rfl, rfl, rfl, rfl, trivial⟩ rfl)) ?_
            refine WO.l ?_
            refine LO.go rfl rfl (OW.lits (vs := [_]) (evp_cons rfl evp_nil) Try.underlying47 Try.sizeOf80 Try.zeroValue80 ⟨rfl, trivial⟩ rfl rfl rfl ?_ (by decide))
            intro v57 w56 ho59 hx58
            have := World.grownBy.size hx58
            have hlt := ho59
            refine ⟨(grown_ext (grown_of_ext (Ext.drew _)) hx58), ?_⟩
            refine WO.l ?_
            refine LO.go rfl rfl (OW.append (bytes := 40) (own_mono (oA.ext (Ext.trans (Ext.trans (Ext.trans hx3 hwCr1) (Ext.drew _)) hx58)).own (Nat.zero_le _)) (Row.of_own hlt) (Hd.c_one (hdA m)) rfl rfl Try.underlying47 Try.type80 rfl rfl rfl rfl (by decide) (by unfold maxLen; omega) (by omega) (Nat.zero_le _) ?_ (by decide))
            intro vQ w60 ho62 hx61 hmvhx61
            have := World.grownBy.size hx61
            replace hO := (hO.ext (Ext.trans (Ext.trans (Ext.trans hx3 hwCr1) (Ext.drew _)) hx58)).keptR hx61 (fun b hb => by have := bA b hb; omega)
            replace hO3 := (hO3.ext (Ext.trans (Ext.trans hwCr1 (Ext.drew _)) hx58)).keptR hx61 (fun b hb => by have := bA b hb; omega)
            have hvq := moved_own hmvhx61 hI.acc.fp hI.below (by omega)
            have hleq := Fp.own_le hvq
            obtain ⟨BQ, TQ, oQ, zQ, bQ, nQ⟩ := (RowF.mk' (F := F) (r := Rl.acc) (app_hd (h := hdA m) ho62)).outT
            have n5 := nQ g _ (hleq.sub _ _ hI.at_) (by simp)
            refine ⟨(grown2 (grown_ext (grown_of_ext (Ext.drew _)) hx58) hx61), ?_⟩
            refine WO.q rfl rfl rfl rfl (fun w' hE55 => (X.nilCheck rfl)) ?_
            refine WO.q rfl rfl rfl rfl (fun w' hE55 => (X.fieldAddrP (off := 4) rfl Try.underlying49 rfl rfl Try.sizeOf47)) ?_
            refine WO.nil ?_
            refine WL.op rfl (OW.storeO hO (Nat.le_of_ble_eq_true rfl) rfl rfl (own_one oQ.own) Try.sizeOf47 ?_)
            intro w63 hO hx66
            have := World.grownBy.size hx66
            replace hO3 := hO3.keptO hx66 (by omega)
            replace oQ := oQ.keptO hx66 (by omega)
            replace hO : Blk _ _ _ (RC.cells { c with acc := c.acc ++ [hdA m] } vp vQ vr vo) := hO
            refine WL.nil ?_
            refine thn_n ?_
            refine WF.seq ?_
            refine WF.seq ?_
            refine WF.region ?_
            refine WL.va rfl rfl rfl (X.fieldAddrO (off := 0) ((hACr6.eq 3).trans ((congrFun hF45 3).trans ((hACr1.eq 3).trans (congrFun hF6 3)))) Try.underlying40 rfl rfl Try.sizeOf3) ?_
            refine WL.va rfl rfl rfl (X.loadO hO3 (Ext.refl _) rfl rfl Try.isAgg3) ?_
            refine WL.va rfl rfl rfl (X.eql rfl rfl) ?_
            refine WL.nil ?_
            refine thn_n ?_
            refine WF.cond rfl (fun h3_68 => ?_) (fun h3_68 => ?_)
            · have gh3_68 := (of_decide_eq_true h3_68)
              have hk9 : m.Kind = 9 := gh3_68
              exact absurd gh3_68 (by omega)
            · have gh3_68 := (of_decide_eq_false h3_68)
              have hk9 : ¬ m.Kind = 9 := gh3_68
              refine WF.skip ?_
              refine thn_n ?_
              refine WF.seq ?_
              refine WF.region ?_
              refine WL.va rfl rfl rfl (X.assign rfl) ?_
              refine WL.nil ?_
              refine thn_n ?_
              refine WF.ret ?_
              refine fin_r ?_
              rw [RC.step_d hN1 hk3 hk9, RC.accept_y hac]
              exact ⟨OwnM.nil _ _ _, R_fin3 hI hO rfl rfl rfl (((((((ChgS.refl (fun b => b = g ∨ ∃ r, F b = some r ∧ r = Rl.acc) w).ext hx3).ext hwCr1).ext (Ext.drew _)).ext hx58).row hx61 (fun b e => .inl (.inr ⟨_, hI.acc.fp b e, rfl⟩))).row1 hx66 (.inl (.inl rfl))) (own_mono oQ.own (Nat.zero_le _)) hvq⟩
          · have gh2_53 := (of_decide_eq_false h2_53)
            have hac : ¬ (m.Kind = 11 ∧ (m.Value = 1 ∨ m.Value = 2)) := gh2_53
            refine WF.skip ?_
            refine thn_n ?_
            refine WF.seq ?_
            refine WF.seq ?_
            refine WF.region ?_
            refine WL.va rfl rfl rfl (X.fieldAddrO (off := 0) ((hACr6.eq 3).trans ((congrFun hF45 3).trans ((hACr1.eq 3).trans (congrFun hF6 3)))) Try.underlying40 rfl rfl Try.sizeOf3) ?_
            refine WL.va rfl rfl rfl (X.loadO hO3 hwCr1 rfl rfl Try.isAgg3) ?_
            refine WL.va rfl rfl rfl (X.eql rfl rfl) ?_
            refine WL.nil ?_
            refine thn_n ?_
            refine WF.cond rfl (fun h3_70 => ?_) (fun h3_70 => ?_)
            · have gh3_70 := (of_decide_eq_true h3_70)
              have hk9 : m.Kind = 9 := gh3_70
              refine WF.seq ?_
              refine WF.region ?_
              refine WL.va rfl rfl rfl (X.move ((hACr6.eq 0).trans ((congrFun hF45 0).trans ((hACr1.eq 0).trans (congrFun hF6 0))))) ?_
              refine WL.va rfl rfl rfl (X.loadOA hO3 hwCr1 ((hACr6.eq 3).trans ((congrFun hF45 3).trans ((hACr1.eq 3).trans (congrFun hF6 3)))) rfl Try.isAgg40 Try.sizeOf40) ?_
              have hxA := (show Ext w wCr1 from (Ext.trans hx3 hwCr1))
              refine WL.c rfl rfl rfl (X.call Try.call37 (evl_cons rfl (evl_cons rfl evl_nil))) (promiseR_ok F g c m em dm _ (RAt.ext ⟨_, _, _, _, hI⟩ (Ext.trans hx3 hwCr1)) hok) ?_
              rintro v73 w72 ⟨hout, hAc⟩
              refine WL.va rfl rfl rfl (X.assign rfl) ?_
              refine WL.nil ?_
              refine thn_n ?_
              refine WF.ret ?_
              refine thn_r ?_
              refine fin_r ?_
              rw [RC.step_c hN1 hk3 hk9]
              exact ⟨own_mono hout hxA.size, RPost.pre hxA hAc⟩
            · have gh3_70 := (of_decide_eq_false h3_70)
              have hk9 : ¬ m.Kind = 9 := gh3_70
              refine WF.skip ?_
              refine thn_n ?_
              refine WF.seq ?_
              refine WF.region ?_
              refine WL.va rfl rfl rfl (X.assign rfl) ?_
              refine WL.nil ?_
              refine thn_n ?_
              refine WF.ret ?_
              refine fin_r ?_
              rw [RC.step_d hN1 hk3 hk9, RC.accept_n hac]
              exact ⟨OwnM.nil _ _ _, RPost.same ⟨_, _, _, _, hI⟩ (Ext.trans hx3 hwCr1)⟩

def chkR (l : List Int) (k : Nat) : Bool := (decide (1 ≤ l.getD k 0) && (decide (l.getD k 0 ≤ 4) && (decide (k = 0) || decide (l.getD (k - 1) 0 < l.getD k 0))))
def allR (l : List Int) (n : Nat) : Bool := (List.range n).all (chkR l)
theorem allR_succ {l : List Int} {n : Nat} : allR l (n + 1) = (allR l n && chkR l n) := by
  unfold allR; rw [List.range_succ, List.all_append]; simp
def newOkR (me txn nac : Int) (l : List Int) : Bool := headOk me txn nac l && allR l l.length
theorem newR_fin {w w' : World} {g : Nat} {me txn nac : Int} {l : List Int} {v : Value} {B : Nat} (o : w'.ownsRow B 3 1 v l.length (l.map i64)) (hv : ∀ b, v.ownBlock = some b → b ≠ g) (hg : Blk w' g 49 ((RC.new me txn nac l).cells v nilS nilS nilS)) (n1 : w.heap.size ≤ g) (n2 : w.heap.size ≤ B) :
    ∃ F : Fp Rl, RAt w' F g (RC.new me txn nac l) ∧ ∀ b, F b ≠ none → w.heap.size ≤ b := by
  refine ⟨((Fp.own (fun _ => none) v .parts).put g .obj : Fp Rl), ⟨v, nilS, nilS, nilS, ?_, Fp.put_at, hg, ⟨own_mono o (Nat.zero_le _), fun b hb => ?_⟩, RowF.nil _ _ _ _ _, RowF.nil _ _ _ _ _, RowF.nil _ _ _ _ _⟩, fun b hb => ?_⟩
  · exact Fp.put_below (Fp.own_below (fun b hb => absurd rfl hb) (fun b hb => (o.lt b hb).2)) hg.lt
  · rw [Fp.put_ne (hv b hb)]; exact Fp.own_at hb
  · unfold Fp.put at hb
    split at hb
    · omega
    · unfold Fp.own at hb
      split at hb
      · have := (o.lt b ‹_›).1; omega
      · exact absurd rfl hb
set_option maxHeartbeats 4000000 in
theorem newR_ok (me txn nac : Int) (v : Value) (l : List Int) (w : World) (hb : Ints w v l) (hz : l.length ≤ 17592186043904) : FnOk Try.prog 9 [i64 me, i64 txn, v, i64 nac] w (fun r w' => (newOkR me txn nac l = false → r = .tuple #[.pointer none, i64 3]) ∧ (newOkR me txn nac l = true → ∃ g F, r = .tuple #[at_ g, i64 0] ∧ RAt w' F g (RC.new me txn nac l) ∧ ∀ b, F b ≠ none → w.heap.size ≤ b) ∧ Ext w w') := by
  have hl := hb.le64
  refine FnOk.enter (rs := [8, 9]) Try.func9 rfl Try.ntmps9 Try.results9 rfl rfl ?_
  refine WF.seq ?_
  refine WF.region ?_
  refine WL.va rfl rfl rfl (X.assign rfl) ?_
  refine WL.va rfl rfl rfl (X.assignI rfl) ?_
  refine WL.nil ?_
  refine thn_n ?_
  refine WF.named (fun F1 hF2 => ?_)
  refine WF.cut (fun f' w' => f' 10 = .bool (headOk me txn nac l) ∧ Agree [0, 1, 2, 3, 8, 9] f' F1 ∧ w = w') ?_ ?_
  · refine WF.region ?_
    refine WL.va rfl rfl rfl (X.moveI (congrFun hF2 0)) ?_
    refine WL.va rfl rfl rfl (X.geq rfl rfl) ?_
    refine WL.va rfl rfl rfl (X.moveB rfl) ?_
    refine WL.split (j := 2) rfl (fun h4 => ?_) (fun h4 => ?_)
    · have gh4 := (of_decide_eq_true h4)
      refine WL.vg rfl (congrArg some h4) rfl rfl (X.moveI (congrFun hF2 0)) ?_
      refine WL.vg rfl (congrArg some h4) rfl rfl (X.leq rfl rfl) ?_
      refine WL.va rfl rfl rfl (X.pickT rfl h4 rfl) ?_
      refine WL.va rfl rfl rfl (X.moveB rfl) ?_
      refine WL.split (j := 6) rfl (fun h6 => ?_) (fun h6 => ?_)
      · have gh6 := (of_decide_eq_true h6)
        refine WL.vg rfl (congrArg some h6) rfl rfl (X.moveI (congrFun hF2 1)) ?_
        refine WL.vg rfl (congrArg some h6) rfl rfl (X.geq rfl rfl) ?_
        refine WL.va rfl rfl rfl (X.pickT rfl h6 rfl) ?_
        refine WL.va rfl rfl rfl (X.moveB rfl) ?_
        refine WL.split (j := 10) rfl (fun h8 => ?_) (fun h8 => ?_)
        · have gh8 := (of_decide_eq_true h8)
          refine WL.vg rfl (congrArg some h8) rfl rfl (X.moveI (congrFun hF2 1)) ?_
          refine WL.vg rfl (congrArg some h8) rfl rfl (X.leq rfl rfl) ?_
          refine WL.va rfl rfl rfl (X.pickT rfl h8 rfl) ?_
          refine WL.va rfl rfl rfl (X.moveB rfl) ?_
          refine WL.split (j := 14) rfl (fun h10 => ?_) (fun h10 => ?_)
          · have gh10 := (of_decide_eq_true h10)
            refine WL.vg rfl (congrArg some h10) rfl rfl (X.move (congrFun hF2 2)) ?_
            refine WL.vg rfl (congrArg some h10) rfl rfl (X.len hb rfl Try.underlying22) ?_
            refine WL.vg rfl (congrArg some h10) rfl rfl (X.gtr rfl rfl) ?_
            refine WL.va rfl rfl rfl (X.pickT rfl h10 rfl) ?_
            refine WL.va rfl rfl rfl (X.moveB rfl) ?_
            refine WL.split (j := 19) rfl (fun h12 => ?_) (fun h12 => ?_)
            · have gh12 := (of_decide_eq_true h12)
              refine WL.vg rfl (congrArg some h12) rfl rfl (X.moveI (congrFun hF2 3)) ?_
              refine WL.vg rfl (congrArg some h12) rfl rfl (X.geq rfl rfl) ?_
              refine WL.va rfl rfl rfl (X.pickT rfl h12 rfl) ?_
              refine WL.va rfl rfl rfl (X.moveB rfl) ?_
              refine WL.split (j := 23) rfl (fun h14 => ?_) (fun h14 => ?_)
              · have gh14 := (of_decide_eq_true h14)
                refine WL.vg rfl (congrArg some h14) rfl rfl (X.moveI (congrFun hF2 3)) ?_
                refine WL.vg rfl (congrArg some h14) rfl rfl (X.leq rfl rfl) ?_
                refine WL.va rfl rfl rfl (X.pickT rfl h14 rfl) ?_
                refine WL.va rfl rfl rfl (X.moveB rfl) ?_
                refine WL.split (j := 27) rfl (fun h16 => ?_) (fun h16 => ?_)
                · have gh16 := (of_decide_eq_true h16)
                  refine WL.vg rfl (congrArg some h16) rfl rfl (X.moveI (congrFun hF2 3)) ?_
                  refine WL.vg rfl (congrArg some h16) rfl rfl (X.rem rfl rfl (by omega) (IntWalk.rem_in _ _ (by omega))) ?_
                  refine WL.vg rfl (congrArg some h16) rfl rfl (X.eql rfl rfl) ?_
                  refine WL.va rfl rfl rfl (X.pickT rfl h16 rfl) ?_
                  refine WL.va rfl rfl rfl (X.assignB rfl) ?_
                  refine WL.nil ?_
                  refine thn_n ?_
                  exact ⟨(congrArg Value.bool (by first | exact (show headOk me txn nac l = false from decide_eq_false (by omega)).symm | (unfold headOk; apply decide_eq_decide.2; constructor <;> intro _ <;> omega))), (by repeat (first | exact (Agree.refl _ F1) | refine Agree.put ?_ rfl | refine Agree.named hF2 ?_)), rfl⟩
                · have gh16 := (of_decide_eq_false h16)
                  refine WL.p rfl rfl rfl (congrArg some h16) ?_
                  refine WL.p rfl rfl rfl (congrArg some h16) ?_
                  refine WL.p rfl rfl rfl (congrArg some h16) ?_
                  refine WL.va rfl rfl rfl (X.pickF rfl h16 rfl) ?_
                  refine WL.va rfl rfl rfl (X.assignB rfl) ?_
                  refine WL.nil ?_
                  refine thn_n ?_
                  exact ⟨(congrArg Value.bool (by first | exact (show headOk me txn nac l = false from decide_eq_false (by omega)).symm | (unfold headOk; apply decide_eq_decide.2; constructor <;> intro _ <;> omega))), (by repeat (first | exact (Agree.refl _ F1) | refine Agree.put ?_ rfl | refine Agree.named hF2 ?_)), rfl⟩
              · have gh14 := (of_decide_eq_false h14)
                refine WL.p rfl rfl rfl (congrArg some h14) ?_
                refine WL.p rfl rfl rfl (congrArg some h14) ?_
                refine WL.va rfl rfl rfl (X.pickF rfl h14 rfl) ?_
                refine WL.va rfl rfl rfl (X.moveB rfl) ?_
                refine WL.p rfl rfl rfl rfl ?_
                refine WL.p rfl rfl rfl rfl ?_
                refine WL.p rfl rfl rfl rfl ?_
                refine WL.va rfl rfl rfl (X.pickF rfl rfl rfl) ?_
                refine WL.va rfl rfl rfl (X.assignB rfl) ?_
                refine WL.nil ?_
                refine thn_n ?_
                exact ⟨(congrArg Value.bool (by first | exact (show headOk me txn nac l = false from decide_eq_false (by omega)).symm | (unfold headOk; apply decide_eq_decide.2; constructor <;> intro _ <;> omega))), (by repeat (first | exact (Agree.refl _ F1) | refine Agree.put ?_ rfl | refine Agree.named hF2 ?_)), rfl⟩
            · have gh12 := (of_decide_eq_false h12)
              refine WL.p rfl rfl rfl (congrArg some h12) ?_
              refine WL.p rfl rfl rfl (congrArg some h12) ?_
              refine WL.va rfl rfl rfl (X.pickF rfl h12 rfl) ?_
              refine WL.va rfl rfl rfl (X.moveB rfl) ?_
              refine WL.p rfl rfl rfl rfl ?_
              refine WL.p rfl rfl rfl rfl ?_
              refine WL.va rfl rfl rfl (X.pickF rfl rfl rfl) ?_
              refine WL.va rfl rfl rfl (X.moveB rfl) ?_
              refine WL.p rfl rfl rfl rfl ?_
              refine WL.p rfl rfl rfl rfl ?_
              refine WL.p rfl rfl rfl rfl ?_
              refine WL.va rfl rfl rfl (X.pickF rfl rfl rfl) ?_
              refine WL.va rfl rfl rfl (X.assignB rfl) ?_
              refine WL.nil ?_
              refine thn_n ?_
              exact ⟨(congrArg Value.bool (by first | exact (show headOk me txn nac l = false from decide_eq_false (by omega)).symm | (unfold headOk; apply decide_eq_decide.2; constructor <;> intro _ <;> omega))), (by repeat (first | exact (Agree.refl _ F1) | refine Agree.put ?_ rfl | refine Agree.named hF2 ?_)), rfl⟩
          · have gh10 := (of_decide_eq_false h10)
            refine WL.p rfl rfl rfl (congrArg some h10) ?_
            refine WL.p rfl rfl rfl (congrArg some h10) ?_
            refine WL.p rfl rfl rfl (congrArg some h10) ?_
            refine WL.va rfl rfl rfl (X.pickF rfl h10 rfl) ?_
            refine WL.va rfl rfl rfl (X.moveB rfl) ?_
            refine WL.p rfl rfl rfl rfl ?_
            refine WL.p rfl rfl rfl rfl ?_
            refine WL.va rfl rfl rfl (X.pickF rfl rfl rfl) ?_
            refine WL.va rfl rfl rfl (X.moveB rfl) ?_
            refine WL.p rfl rfl rfl rfl ?_
            refine WL.p rfl rfl rfl rfl ?_
            refine WL.va rfl rfl rfl (X.pickF rfl rfl rfl) ?_
            refine WL.va rfl rfl rfl (X.moveB rfl) ?_
            refine WL.p rfl rfl rfl rfl ?_
            refine WL.p rfl rfl rfl rfl ?_
            refine WL.p rfl rfl rfl rfl ?_
            refine WL.va rfl rfl rfl (X.pickF rfl rfl rfl) ?_
            refine WL.va rfl rfl rfl (X.assignB rfl) ?_
            refine WL.nil ?_
            refine thn_n ?_
            exact ⟨(congrArg Value.bool (by first | exact (show headOk me txn nac l = false from decide_eq_false (by omega)).symm | (unfold headOk; apply decide_eq_decide.2; constructor <;> intro _ <;> omega))), (by repeat (first | exact (Agree.refl _ F1) | refine Agree.put ?_ rfl | refine Agree.named hF2 ?_)), rfl⟩
        · have gh8 := (of_decide_eq_false h8)
          refine WL.p rfl rfl rfl (congrArg some h8) ?_
          refine WL.p rfl rfl rfl (congrArg some h8) ?_
          refine WL.va rfl rfl rfl (X.pickF rfl h8 rfl) ?_
          refine WL.va rfl rfl rfl (X.moveB rfl) ?_
          refine WL.p rfl rfl rfl rfl ?_
          refine WL.p rfl rfl rfl rfl ?_
          refine WL.p rfl rfl rfl rfl ?_
          refine WL.va rfl rfl rfl (X.pickF rfl rfl rfl) ?_
          refine WL.va rfl rfl rfl (X.moveB rfl) ?_
          refine WL.p rfl rfl rfl rfl ?_
          refine WL.p rfl rfl rfl rfl ?_
          refine WL.va rfl rfl rfl (X.pickF rfl rfl rfl) ?_
          refine WL.va rfl rfl rfl (X.moveB rfl) ?_
          refine WL.p rfl rfl rfl rfl ?_
          refine WL.p rfl rfl rfl rfl ?_
          refine WL.va rfl rfl rfl (X.pickF rfl rfl rfl) ?_
          refine WL.va rfl rfl rfl (X.moveB rfl) ?_
          refine WL.p rfl rfl rfl rfl ?_
          refine WL.p rfl rfl rfl rfl ?_
          refine WL.p rfl rfl rfl rfl ?_
          refine WL.va rfl rfl rfl (X.pickF rfl rfl rfl) ?_
          refine WL.va rfl rfl rfl (X.assignB rfl) ?_
          refine WL.nil ?_
          refine thn_n ?_
          exact ⟨(congrArg Value.bool (by first | exact (show headOk me txn nac l = false from decide_eq_false (by omega)).symm | (unfold headOk; apply decide_eq_decide.2; constructor <;> intro _ <;> omega))), (by repeat (first | exact (Agree.refl _ F1) | refine Agree.put ?_ rfl | refine Agree.named hF2 ?_)), rfl⟩
      · have gh6 := (of_decide_eq_false h6)
        refine WL.p rfl rfl rfl (congrArg some h6) ?_
        refine WL.p rfl rfl rfl (congrArg some h6) ?_
        refine WL.va rfl rfl rfl (X.pickF rfl h6 rfl) ?_
        refine WL.va rfl rfl rfl (X.moveB rfl) ?_
        refine WL.p rfl rfl rfl rfl ?_
        refine WL.p rfl rfl rfl rfl ?_
        refine WL.va rfl rfl rfl (X.pickF rfl rfl rfl) ?_
        refine WL.va rfl rfl rfl (X.moveB rfl) ?_
        refine WL.p rfl rfl rfl rfl ?_
        refine WL.p rfl rfl rfl rfl ?_
        refine WL.p rfl rfl rfl rfl ?_
        refine WL.va rfl rfl rfl (X.pickF rfl rfl rfl) ?_
        refine WL.va rfl rfl rfl (X.moveB rfl) ?_
        refine WL.p rfl rfl rfl rfl ?_
        refine WL.p rfl rfl rfl rfl ?_
        refine WL.va rfl rfl rfl (X.pickF rfl rfl rfl) ?_
        refine WL.va rfl rfl rfl (X.moveB rfl) ?_
        refine WL.p rfl rfl rfl rfl ?_
        refine WL.p rfl rfl rfl rfl ?_
        refine WL.va rfl rfl rfl (X.pickF rfl rfl rfl) ?_
        refine WL.va rfl rfl rfl (X.moveB rfl) ?_
        refine WL.p rfl rfl rfl rfl ?_
        refine WL.p rfl rfl rfl rfl ?_
        refine WL.p rfl rfl rfl rfl ?_
        refine WL.va rfl rfl rfl (X.pickF rfl rfl rfl) ?_
        refine WL.va rfl rfl rfl (X.assignB rfl) ?_
        refine WL.nil ?_
        refine thn_n ?_
        exact ⟨(congrArg Value.bool (by first | exact (show headOk me txn nac l = false from decide_eq_false (by omega)).symm | (unfold headOk; apply decide_eq_decide.2; constructor <;> intro _ <;> omega))), (by repeat (first | exact (Agree.refl _ F1) | refine Agree.put ?_ rfl | refine Agree.named hF2 ?_)), rfl⟩
    · have gh4 := (of_decide_eq_false h4)
      refine WL.p rfl rfl rfl (congrArg some h4) ?_
      refine WL.p rfl rfl rfl (congrArg some h4) ?_
      refine WL.va rfl rfl rfl (X.pickF rfl h4 rfl) ?_
      refine WL.va rfl rfl rfl (X.moveB rfl) ?_
      refine WL.p rfl rfl rfl rfl ?_
      refine WL.p rfl rfl rfl rfl ?_
      refine WL.va rfl rfl rfl (X.pickF rfl rfl rfl) ?_
      refine WL.va rfl rfl rfl (X.moveB rfl) ?_
      refine WL.p rfl rfl rfl rfl ?_
      refine WL.p rfl rfl rfl rfl ?_
      refine WL.va rfl rfl rfl (X.pickF rfl rfl rfl) ?_
      refine WL.va rfl rfl rfl (X.moveB rfl) ?_
      refine WL.p rfl rfl rfl rfl ?_
      refine WL.p rfl rfl rfl rfl ?_
      refine WL.p rfl rfl rfl rfl ?_
      refine WL.va rfl rfl rfl (X.pickF rfl rfl rfl) ?_
      refine WL.va rfl rfl rfl (X.moveB rfl) ?_
      refine WL.p rfl rfl rfl rfl ?_
      refine WL.p rfl rfl rfl rfl ?_
      refine WL.va rfl rfl rfl (X.pickF rfl rfl rfl) ?_
      refine WL.va rfl rfl rfl (X.moveB rfl) ?_
      refine WL.p rfl rfl rfl rfl ?_
      refine WL.p rfl rfl rfl rfl ?_
      refine WL.va rfl rfl rfl (X.pickF rfl rfl rfl) ?_
      refine WL.va rfl rfl rfl (X.moveB rfl) ?_
      refine WL.p rfl rfl rfl rfl ?_
      refine WL.p rfl rfl rfl rfl ?_
      refine WL.p rfl rfl rfl rfl ?_
      refine WL.va rfl rfl rfl (X.pickF rfl rfl rfl) ?_
      refine WL.va rfl rfl rfl (X.assignB rfl) ?_
      refine WL.nil ?_
      refine thn_n ?_
      exact ⟨(congrArg Value.bool (by first | exact (show headOk me txn nac l = false from decide_eq_false (by omega)).symm | (unfold headOk; apply decide_eq_decide.2; constructor <;> intro _ <;> omega))), (by repeat (first | exact (Agree.refl _ F1) | refine Agree.put ?_ rfl | refine Agree.named hF2 ?_)), rfl⟩
  · rintro fCr1 wCr1 ⟨e10_Cr1, hACr1, rfl⟩
    refine WF.seq ?_
    refine WF.region ?_
    refine WL.va rfl rfl rfl (X.moveI ((hACr1.eq 0).trans (congrFun hF2 0))) ?_
    refine WL.va rfl rfl rfl (X.moveI ((hACr1.eq 1).trans (congrFun hF2 1))) ?_
    refine WL.va rfl rfl rfl (X.moveI ((hACr1.eq 3).trans (congrFun hF2 3))) ?_
    refine WL.va rfl rfl rfl (X.buildT (P := Try.prog) (t := 49) (cs := ((RC.new me txn nac []).cells nilS nilS nilS nilS)) (zs := [i64 0, i64 0, i64 0, .slice none 0 0, .slice none 0 0, .slice none 0 0, .slice none 0 0, .bool false, i64 0, i64 0]) (places := [(0, 1), (1, 1), (2, 1), (3, 1), (4, 1), (5, 1), (6, 1), (7, 1), (8, 1), (9, 1)]) (n := 10) (evp_cons rfl (evp_cons rfl (evp_cons rfl evp_nil))) Try.type49 Try.underlying49 rfl rfl ⟨rfl, rfl, rfl, trivial⟩ rfl rfl rfl) ?_
    refine WL.op rfl (OW.boxA (cs := _) rfl ?_ (by decide))
    intro g49 wN heg49 hlg49 hO49 hx48
    have := World.grownBy.size hx48
    refine WL.va rfl rfl rfl (X.assign rfl) ?_
    refine WL.nil ?_
    refine thn_n ?_
    refine WF.seq ?_
    refine WF.seq ?_
    refine WF.region ?_
    refine WL.va rfl rfl rfl (X.assignI rfl) ?_
    refine WL.nil ?_
    refine thn_n ?_
    refine WF.block ?_
    refine WF.named (fun F50 hF51 => ?_)
    refine WF.loopN (fun mL0 f' w' => ∃ (k : Nat) (bb : Bool) (vq : Value), mL0 = l.length - k ∧ f' 12 = .int .i64 (k : Int) ∧ f' 10 = .bool bb ∧ Agree [0, 1, 2, 3, 8, 9, 11, 45, 46, 47, 48, 49] f' F50 ∧ Ext w w' ∧ k ≤ l.length ∧ bb = (headOk me txn nac l && allR l k) ∧ Blk w' g49 49 (RC.cells (RC.new me txn nac (l.take k)) vq nilS nilS nilS) ∧ w'.ownsRow wN.heap.size 3 1 vq (l.take k).length ((l.take k).map i64) ∧ wN.heap.size ≤ w'.heap.size) ?_ ?_
    · exact ⟨_, 0, (headOk me txn nac l), nilS, rfl, (congrFun hF51 12), ((congrFun hF51 10).trans e10_Cr1), (Agree.refl _ _), hx48, ⟨Nat.zero_le _, by simp [allR], hO49, World.ownsRow_nil _ _ _ _, by omega⟩⟩
    · rintro mL0 fL0 wL0 ⟨k, bb, vq, hmL0, e12_L0, e10_L0, hAL0, hwL0, ⟨hk0, hbb, hO49, oq, hwN⟩⟩
      have := World.grownBy.size hwL0
      refine WF.seq ?_
      refine WF.seq ?_
      refine WF.region ?_
      refine WL.va rfl rfl rfl (X.moveI e12_L0) ?_
      refine WL.va rfl rfl rfl (X.move ((hAL0.eq 2).trans ((congrFun hF51 2).trans ((hACr1.eq 2).trans (congrFun hF2 2))))) ?_
      refine WL.va rfl rfl rfl (X.len hb rfl Try.underlying22) ?_
      refine WL.va rfl rfl rfl (X.lss rfl rfl) ?_
      refine WL.nil ?_
      refine thn_n ?_
      refine WF.cond rfl (fun h0_53 => ?_) (fun h0_53 => ?_)
      · have gh0_53 := (of_decide_eq_true h0_53)
        have hk : k < l.length := by omega
        have htk : l.take (k + 1) = l.take k ++ [l.getD k 0] := takeI _ _ hk
        refine WF.skip ?_
        refine thn_n ?_
        refine WF.seq ?_
        refine WF.block ?_
        refine WF.named (fun F55 hF56 => ?_)
        refine WF.cut (fun f' w' => f' 10 = .bool (bb && (decide (1 ≤ l.getD k 0) && (decide (l.getD k 0 ≤ 4) && (decide (k = 0) || decide (l.getD (k - 1) 0 < l.getD k 0))))) ∧ Agree [0, 1, 2, 3, 8, 9, 11, 12, 45, 46, 47, 48, 49, 50, 51, 52, 53] f' F55 ∧ Ext wL0 w') ?_ ?_
        · refine WF.drawn (.q 0 (.q 1 (.q 2 (.q 3 (.q 4 (.q 5 (.q 6 (.q 7 (.q 8 (.q 9 (.q 10 (.q 11 (.q 12 (.q 13 (.q 14 (.q 15 (.q 16 (.q 17 (.q 18 (.q 19 (.q 20 (.q 21 (.q 22 (.q 23 (.q 24 (.q 25 (.q 26 (.q 27 (.q 28 (.q 29 (.q 30 (.q 31 .nil)))))))))))))))))))))))))))))))) (fun w' => Ext wL0 w') 32 (by kernel_rfl) (by kernel_rfl) (Ext.drew _) ?_
          have := World.grownBy.size (Ext.drew wL0)
          refine WO.q rfl rfl rfl rfl (fun w' hE57 => (X.moveB ((congrFun hF56 10).trans e10_L0))) ?_
          refine WO.q rfl rfl rfl rfl (fun w' hE57 => (X.moveB rfl)) ?_
          refine WO.split (j := 1) rfl (fun h58 => ?_) (fun h58 => ?_)
          · have gh58 := h58
            have x1 : bb = true := gh58
            refine WO.qg rfl rfl (congrArg some h58) rfl rfl (fun w' hE57 => (X.move ((congrFun hF56 2).trans ((hAL0.eq 2).trans ((congrFun hF51 2).trans ((hACr1.eq 2).trans (congrFun hF2 2))))))) ?_
            refine WO.qg rfl rfl (congrArg some h58) rfl rfl (fun w' hE57 => (X.moveI ((congrFun hF56 12).trans e12_L0))) ?_
            refine WO.qg rfl rfl (congrArg some h58) rfl rfl (fun w' hE57 => (X.idx hb rfl rfl (by omega) Try.underlying22 Try.sizeOf3)) ?_
            refine WO.qg rfl rfl (congrArg some h58) rfl rfl (fun w' hE57 => (X.loadI hb (Ext.trans hwL0 hE57) rfl (by omega) Try.isAgg3)) ?_
            refine WO.qg rfl rfl (congrArg some h58) rfl rfl (fun w' hE57 => (X.geq rfl rfl)) ?_
            refine WO.q rfl rfl rfl rfl (fun w' hE57 => (X.pickT rfl h58 rfl)) ?_
            refine WO.q rfl rfl rfl rfl (fun w' hE57 => (X.moveB rfl)) ?_
            refine WO.split (j := 8) rfl (fun h60 => ?_) (fun h60 => ?_)
            · have gh60 := (of_decide_eq_true h60)
              have x2 : 1 ≤ l.getD k 0 := gh60
              refine WO.qg rfl rfl (congrArg some h60) rfl rfl (fun w' hE57 => (X.move ((congrFun hF56 2).trans ((hAL0.eq 2).trans ((congrFun hF51 2).trans ((hACr1.eq 2).trans (congrFun hF2 2))))))) ?_
              refine WO.qg rfl rfl (congrArg some h60) rfl rfl (fun w' hE57 => (X.moveI ((congrFun hF56 12).trans e12_L0))) ?_
              refine WO.qg rfl rfl (congrArg some h60) rfl rfl (fun w' hE57 => (X.idx hb rfl rfl (by omega) Try.underlying22 Try.sizeOf3)) ?_
              refine WO.qg rfl rfl (congrArg some h60) rfl rfl (fun w' hE57 => (X.loadI hb (Ext.trans hwL0 hE57) rfl (by omega) Try.isAgg3)) ?_
              refine WO.qg rfl rfl (congrArg some h60) rfl rfl (fun w' hE57 => (X.leq rfl rfl)) ?_
              refine WO.q rfl rfl rfl rfl (fun w' hE57 => (X.pickT rfl h60 rfl)) ?_
              refine WO.q rfl rfl rfl rfl (fun w' hE57 => (X.moveB rfl)) ?_
              refine WO.split (j := 15) rfl (fun h62 => ?_) (fun h62 => ?_)
              · have gh62 := (of_decide_eq_true h62)
                have x3 : l.getD k 0 ≤ 4 := gh62
                refine WO.qg rfl rfl (congrArg some h62) rfl rfl (fun w' hE57 => (X.moveI ((congrFun hF56 12).trans e12_L0))) ?_
                refine WO.qg rfl rfl (congrArg some h62) rfl rfl (fun w' hE57 => (X.eql rfl rfl)) ?_
                refine WO.qg rfl rfl (congrArg some h62) rfl rfl (fun w' hE57 => (X.moveB rfl)) ?_
                refine WO.split (j := 18) rfl (fun h65 => ?_) (fun h65 => ?_)
                · have gh65 := (of_decide_eq_true h65)
                  have x4 : k = 0 := by have := gh65; omega
                  refine WO.qp rfl rfl rfl rfl (congrArg some h65) ?_
                  refine WO.qp rfl rfl rfl rfl (congrArg some h65) ?_
                  refine WO.qp rfl rfl rfl rfl (congrArg some h65) ?_
                  refine WO.qp rfl rfl rfl rfl (congrArg some h65) ?_
                  refine WO.qp rfl rfl rfl rfl (congrArg some h65) ?_
                  refine WO.qp rfl rfl rfl rfl (congrArg some h65) ?_
                  refine WO.qp rfl rfl rfl rfl (congrArg some h65) ?_
                  refine WO.qp rfl rfl rfl rfl (congrArg some h65) ?_
                  refine WO.qp rfl rfl rfl rfl (congrArg some h65) ?_
                  refine WO.qp rfl rfl rfl rfl (congrArg some h65) ?_
                  refine WO.qg rfl rfl (congrArg some h62) rfl rfl (fun w' hE57 => (X.pickT rfl h65 rfl)) ?_
                  refine WO.q rfl rfl rfl rfl (fun w' hE57 => (X.pickT rfl h62 rfl)) ?_
                  refine WO.q rfl rfl rfl rfl (fun w' hE57 => (X.assignB rfl)) ?_
                  refine WO.nil ?_
                  refine WL.nil ?_
                  refine thn_n ?_
                  exact ⟨(congrArg Value.bool (by first | (rw [x1]; rfl) | (rw [x1, decide_eq_false x2]; rfl) | (rw [x1, decide_eq_true x2, decide_eq_false x3]; rfl) | (rw [x1, decide_eq_true x2, decide_eq_true x3, decide_eq_true x4]; rfl) | (rw [x1, decide_eq_true x2, decide_eq_true x3, decide_eq_false x4]; rfl))), (by repeat (first | exact (Agree.refl _ F55) | refine Agree.put ?_ rfl | refine Agree.sub hAL0 rfl ?_ | refine Agree.sub hACr1 rfl ?_ | refine Agree.named hF56 ?_ | refine Agree.named hF51 ?_ | refine Agree.named hF2 ?_)), (Ext.drew _)⟩
                · have gh65 := (of_decide_eq_false h65)
                  have x4 : ¬ k = 0 := by have := gh65; omega
                  have hkm : ((k : Int) - 1).toNat = k - 1 := by omega
                  refine WO.qg rfl rfl (congrArg some h65) rfl rfl (fun w' hE57 => (X.move ((congrFun hF56 2).trans ((hAL0.eq 2).trans ((congrFun hF51 2).trans ((hACr1.eq 2).trans (congrFun hF2 2))))))) ?_
                  refine WO.qg rfl rfl (congrArg some h65) rfl rfl (fun w' hE57 => (X.moveI ((congrFun hF56 12).trans e12_L0))) ?_
                  refine WO.qg rfl rfl (congrArg some h65) rfl rfl (fun w' hE57 => (X.sub rfl rfl (show _ = ((k - 1 : Nat) : Int) from (w64 (by omega)).trans (by omega)))) ?_
                  refine WO.qg rfl rfl (congrArg some h65) rfl rfl (fun w' hE57 => (X.idx hb rfl rfl (by omega) Try.underlying22 Try.sizeOf3)) ?_
                  refine WO.qg rfl rfl (congrArg some h65) rfl rfl (fun w' hE57 => (X.loadI hb (Ext.trans hwL0 hE57) rfl (by omega) Try.isAgg3)) ?_
                  refine WO.qg rfl rfl (congrArg some h65) rfl rfl (fun w' hE57 => (X.move ((congrFun hF56 2).trans ((hAL0.eq 2).trans ((congrFun hF51 2).trans ((hACr1.eq 2).trans (congrFun hF2 2))))))) ?_
                  refine WO.qg rfl rfl (congrArg some h65) rfl rfl (fun w' hE57 => (X.moveI ((congrFun hF56 12).trans e12_L0))) ?_
                  refine WO.qg rfl rfl (congrArg some h65) rfl rfl (fun w' hE57 => (X.idx hb rfl rfl (by omega) Try.underlying22 Try.sizeOf3)) ?_
                  refine WO.qg rfl rfl (congrArg some h65) rfl rfl (fun w' hE57 => (X.loadI hb (Ext.trans hwL0 hE57) rfl (by omega) Try.isAgg3)) ?_
                  refine WO.qg rfl rfl (congrArg some h65) rfl rfl (fun w' hE57 => (X.lss rfl rfl)) ?_
                  refine WO.qg rfl rfl (congrArg some h62) rfl rfl (fun w' hE57 => (X.pickF rfl h65 rfl)) ?_
                  refine WO.q rfl rfl rfl rfl (fun w' hE57 => (X.pickT rfl h62 rfl)) ?_
                  refine WO.q rfl rfl rfl rfl (fun w' hE57 => (X.assignB rfl)) ?_
                  refine WO.nil ?_
                  refine WL.nil ?_
                  refine thn_n ?_
                  exact ⟨(congrArg Value.bool (by first | (rw [x1]; rfl) | (rw [x1, decide_eq_false x2]; rfl) | (rw [x1, decide_eq_true x2, decide_eq_false x3]; rfl) | (rw [x1, decide_eq_true x2, decide_eq_true x3, decide_eq_true x4]; rfl) | (rw [x1, decide_eq_true x2, decide_eq_true x3, decide_eq_false x4]; rfl))), (by repeat (first | exact (Agree.refl _ F55) | refine Agree.put ?_ rfl | refine Agree.sub hAL0 rfl ?_ | refine Agree.sub hACr1 rfl ?_ | refine Agree.named hF56 ?_ | refine Agree.named hF51 ?_ | refine Agree.named hF2 ?_)), (Ext.drew _)⟩
              · have gh62 := (of_decide_eq_false h62)
                have x3 : ¬ l.getD k 0 ≤ 4 := gh62
                refine WO.qp rfl rfl rfl rfl (congrArg some h62) ?_
                refine WO.qp rfl rfl rfl rfl (congrArg some h62) ?_
                refine WO.qp rfl rfl rfl rfl (congrArg some h62) ?_
                refine WO.qpn rfl rfl rfl rfl rfl ?_
                refine WO.qpn rfl rfl rfl rfl rfl ?_
                refine WO.qpn rfl rfl rfl rfl rfl ?_
                refine WO.qpn rfl rfl rfl rfl rfl ?_
                refine WO.qpn rfl rfl rfl rfl rfl ?_
                refine WO.qpn rfl rfl rfl rfl rfl ?_
                refine WO.qpn rfl rfl rfl rfl rfl ?_
                refine WO.qpn rfl rfl rfl rfl rfl ?_
                refine WO.qpn rfl rfl rfl rfl rfl ?_
                refine WO.qpn rfl rfl rfl rfl rfl ?_
                refine WO.qp rfl rfl rfl rfl (congrArg some h62) ?_
                refine WO.q rfl rfl rfl rfl (fun w' hE57 => (X.pickF rfl h62 rfl)) ?_
                refine WO.q rfl rfl rfl rfl (fun w' hE57 => (X.assignB rfl)) ?_
                refine WO.nil ?_
                refine WL.nil ?_
                refine thn_n ?_
                exact ⟨(congrArg Value.bool (by first | (rw [x1]; rfl) | (rw [x1, decide_eq_false x2]; rfl) | (rw [x1, decide_eq_true x2, decide_eq_false x3]; rfl) | (rw [x1, decide_eq_true x2, decide_eq_true x3, decide_eq_true x4]; rfl) | (rw [x1, decide_eq_true x2, decide_eq_true x3, decide_eq_false x4]; rfl))), (by repeat (first | exact (Agree.refl _ F55) | refine Agree.put ?_ rfl | refine Agree.sub hAL0 rfl ?_ | refine Agree.sub hACr1 rfl ?_ | refine Agree.named hF56 ?_ | refine Agree.named hF51 ?_ | refine Agree.named hF2 ?_)), (Ext.drew _)⟩
            · have gh60 := (of_decide_eq_false h60)
              have x2 : ¬ 1 ≤ l.getD k 0 := gh60
              refine WO.qp rfl rfl rfl rfl (congrArg some h60) ?_
              refine WO.qp rfl rfl rfl rfl (congrArg some h60) ?_
              refine WO.qp rfl rfl rfl rfl (congrArg some h60) ?_
              refine WO.qp rfl rfl rfl rfl (congrArg some h60) ?_
              refine WO.qp rfl rfl rfl rfl (congrArg some h60) ?_
              refine WO.q rfl rfl rfl rfl (fun w' hE57 => (X.pickF rfl h60 rfl)) ?_
              refine WO.q rfl rfl rfl rfl (fun w' hE57 => (X.moveB rfl)) ?_
              refine WO.qp rfl rfl rfl rfl rfl ?_
              refine WO.qp rfl rfl rfl rfl rfl ?_
              refine WO.qp rfl rfl rfl rfl rfl ?_
              refine WO.qpn rfl rfl rfl rfl rfl ?_
              refine WO.qpn rfl rfl rfl rfl rfl ?_
              refine WO.qpn rfl rfl rfl rfl rfl ?_
              refine WO.qpn rfl rfl rfl rfl rfl ?_
              refine WO.qpn rfl rfl rfl rfl rfl ?_
              refine WO.qpn rfl rfl rfl rfl rfl ?_
              refine WO.qpn rfl rfl rfl rfl rfl ?_
              refine WO.qpn rfl rfl rfl rfl rfl ?_
              refine WO.qpn rfl rfl rfl rfl rfl ?_
              refine WO.qpn rfl rfl rfl rfl rfl ?_
              refine WO.qp rfl rfl rfl rfl rfl ?_
              refine WO.q rfl rfl rfl rfl (fun w' hE57 => (X.pickF rfl rfl rfl)) ?_
              refine WO.q rfl rfl rfl rfl (fun w' hE57 => (X.assignB rfl)) ?_
              refine WO.nil ?_
              refine WL.nil ?_
              refine thn_n ?_
              exact ⟨(congrArg Value.bool (by first | (rw [x1]; rfl) | (rw [x1, decide_eq_false x2]; rfl) | (rw [x1, decide_eq_true x2, decide_eq_false x3]; rfl) | (rw [x1, decide_eq_true x2, decide_eq_true x3, decide_eq_true x4]; rfl) | (rw [x1, decide_eq_true x2, decide_eq_true x3, decide_eq_false x4]; rfl))), (by repeat (first | exact (Agree.refl _ F55) | refine Agree.put ?_ rfl | refine Agree.sub hAL0 rfl ?_ | refine Agree.sub hACr1 rfl ?_ | refine Agree.named hF56 ?_ | refine Agree.named hF51 ?_ | refine Agree.named hF2 ?_)), (Ext.drew _)⟩
          · have gh58 := h58
            have x1 : bb = false := gh58
            refine WO.qp rfl rfl rfl rfl (congrArg some h58) ?_
            refine WO.qp rfl rfl rfl rfl (congrArg some h58) ?_
            refine WO.qp rfl rfl rfl rfl (congrArg some h58) ?_
            refine WO.qp rfl rfl rfl rfl (congrArg some h58) ?_
            refine WO.qp rfl rfl rfl rfl (congrArg some h58) ?_
            refine WO.q rfl rfl rfl rfl (fun w' hE57 => (X.pickF rfl h58 rfl)) ?_
            refine WO.q rfl rfl rfl rfl (fun w' hE57 => (X.moveB rfl)) ?_
            refine WO.qp rfl rfl rfl rfl rfl ?_
            refine WO.qp rfl rfl rfl rfl rfl ?_
            refine WO.qp rfl rfl rfl rfl rfl ?_
            refine WO.qp rfl rfl rfl rfl rfl ?_
            refine WO.qp rfl rfl rfl rfl rfl ?_
            refine WO.q rfl rfl rfl rfl (fun w' hE57 => (X.pickF rfl rfl rfl)) ?_
            refine WO.q rfl rfl rfl rfl (fun w' hE57 => (X.moveB rfl)) ?_
            refine WO.qp rfl rfl rfl rfl rfl ?_
            refine WO.qp rfl rfl rfl rfl rfl ?_
            refine WO.qp rfl rfl rfl rfl rfl ?_
            refine WO.qpn rfl rfl rfl rfl rfl ?_
            refine WO.qpn rfl rfl rfl rfl rfl ?_
            refine WO.qpn rfl rfl rfl rfl rfl ?_
            refine WO.qpn rfl rfl rfl rfl rfl ?_
            refine WO.qpn rfl rfl rfl rfl rfl ?_
            refine WO.qpn rfl rfl rfl rfl rfl ?_
            refine WO.qpn rfl rfl rfl rfl rfl ?_
            refine WO.qpn rfl rfl rfl rfl rfl ?_
            refine WO.qpn rfl rfl rfl rfl rfl ?_
            refine WO.qpn rfl rfl rfl rfl rfl ?_
            refine WO.qp rfl rfl rfl rfl rfl ?_
            refine WO.q rfl rfl rfl rfl (fun w' hE57 => (X.pickF rfl rfl rfl)) ?_
            refine WO.q rfl rfl rfl rfl (fun w' hE57 => (X.assignB rfl)) ?_
            refine WO.nil ?_
            refine WL.nil ?_
            refine thn_n ?_
            exact ⟨(congrArg Value.bool (by first | (rw [x1]; rfl) | (rw [x1, decide_eq_false x2]; rfl) | (rw [x1, decide_eq_true x2, decide_eq_false x3]; rfl) | (rw [x1, decide_eq_true x2, decide_eq_true x3, decide_eq_true x4]; rfl) | (rw [x1, decide_eq_true x2, decide_eq_true x3, decide_eq_false x4]; rfl))), (by repeat (first | exact (Agree.refl _ F55) | refine Agree.put ?_ rfl | refine Agree.sub hAL0 rfl ?_ | refine Agree.sub hACr1 rfl ?_ | refine Agree.named hF56 ?_ | refine Agree.named hF51 ?_ | refine Agree.named hF2 ?_)), (Ext.drew _)⟩
        · rintro fCr6 wCr6 ⟨e10_Cr6, hACr6, hwCr6⟩
          have := World.grownBy.size hwCr6
          refine WF.drawn (.q 0 (.q 1 (.q 2 (.q 3 (.q 4 (.q 5 (.q 6 (.q 7 (.q 8 (.l 9 (.l 10 (.q 11 (.q 12 .nil))))))))))))) (fun w' => World.grownBy wCr6 w' vq.ownBlock) 13 (by kernel_rfl) (by kernel_rfl) (grown_of_ext (Ext.drew _)) ?_
          have := World.grownBy.size (Ext.drew wCr6)
          refine WO.q rfl rfl rfl rfl (fun w' hE75 => (X.move ((hACr6.eq 11).trans ((congrFun hF56 11).trans ((hAL0.eq 11).trans (congrFun hF51 11)))))) ?_
          refine WO.q rfl rfl rfl rfl (fun w' hE75 => (X.move ((hACr6.eq 11).trans ((congrFun hF56 11).trans ((hAL0.eq 11).trans (congrFun hF51 11)))))) ?_
          refine WO.q rfl rfl rfl rfl (fun w' hE75 => (X.nilCheck rfl)) ?_
          refine WO.q rfl rfl rfl rfl (fun w' hE75 => (X.fieldAddrO (off := 3) rfl Try.underlying49 rfl rfl Try.sizeOf22)) ?_
          refine WO.q rfl rfl rfl rfl (fun w' hE75 => (X.loadO ((hO49.ext hwCr6).kept hE75 (fun e => by have := (oq.lt _ e).1; omega)) (Ext.refl _) rfl rfl Try.isAgg22)) ?_
          refine WO.q rfl rfl rfl rfl (fun w' hE75 => (X.move ((hACr6.eq 2).trans ((congrFun hF56 2).trans ((hAL0.eq 2).trans ((congrFun hF51 2).trans ((hACr1.eq 2).trans (congrFun hF2 2)))))))) ?_
          refine WO.q rfl rfl rfl rfl (fun w' hE75 => (X.moveI ((hACr6.eq 12).trans ((congrFun hF56 12).trans e12_L0)))) ?_
          refine WO.q rfl rfl rfl rfl (fun w' hE75 => (X.idx hb rfl rfl (by omega) Try.underlying22 Try.sizeOf3)) ?_
          refine WO.q rfl rfl rfl rfl (fun w' hE75 => (X.loadI hb (grown_trans (Ext.trans hwL0 hwCr6) hE75 (fun i hi => by have := (oq.lt i hi).1; omega)) rfl (by omega) Try.isAgg3)) ?_
          refine WO.l ?_
          refine LO.go rfl rfl (OW.lits (vs := [i64 (l.getD k 0)]) (evp_cons rfl evp_nil) Try.underlying22 Try.sizeOf3 Try.zeroValue3 ⟨rfl, trivial⟩ rfl rfl rfl ?_ (by decide))
          intro v77 w76 ho79 hx78
          have := World.grownBy.size hx78
          have hlt : OwnI _ _ 3 _ [l.getD k 0] := ho79
          refine ⟨(grown_ext (grown_of_ext (Ext.drew _)) hx78), ?_⟩
          refine WO.l ?_
          refine LO.go rfl rfl (OW.appendI (own_ext oq (Ext.trans (Ext.trans hwCr6 (Ext.drew _)) hx78)) (Ints.of_own hlt) rfl rfl Try.underlying22 Try.type3 rfl rfl rfl rfl (by simp; omega) (by omega) ?_ (by decide))
          intro vn w80 ho82 hx81 hmvhx81
          have := World.grownBy.size hx81
          replace hO49 := (hO49.ext (Ext.trans (Ext.trans hwCr6 (Ext.drew _)) hx78)).keptR hx81 (fun b hb => by have := ((own_ext oq (Ext.trans (Ext.trans hwCr6 (Ext.drew _)) hx78)).lt b hb).1; omega)
          have oq2 := ho82
          refine ⟨(grown2 (grown_ext (grown_of_ext (Ext.drew _)) hx78) hx81), ?_⟩
          refine WO.q rfl rfl rfl rfl (fun w' hE75 => (X.nilCheck rfl)) ?_
          refine WO.q rfl rfl rfl rfl (fun w' hE75 => (X.fieldAddrO (off := 3) rfl Try.underlying49 rfl rfl Try.sizeOf22)) ?_
          refine WO.nil ?_
          refine WL.op rfl (OW.storeO hO49 (Nat.le_of_ble_eq_true rfl) rfl rfl (own_one oq2) Try.sizeOf22 ?_)
          intro w83 hO49 hx85
          have := World.grownBy.size hx85
          replace oq2 := own_keptO oq2 hx85 (by omega)
          refine WL.nil ?_
          refine blk_n ?_
          refine thn_n ?_
          refine WF.region ?_
          refine WL.va rfl rfl rfl (X.moveI ((hACr6.eq 12).trans ((congrFun hF56 12).trans e12_L0))) ?_
          refine WL.va rfl rfl rfl (X.add rfl rfl (w64 (by omega))) ?_
          refine WL.va rfl rfl rfl (X.assignI rfl) ?_
          refine WL.nil ?_
          exact thn_n ⟨_, (by omega), k + 1, _, vn, rfl, rfl, e10_Cr6, (by repeat (first | exact hAL0 | refine Agree.put ?_ rfl | refine Agree.sub hACr6 rfl ?_ | refine Agree.sub hACr1 rfl ?_ | refine Agree.named hF56 ?_ | refine Agree.named hF51 ?_ | refine Agree.named hF2 ?_)), (Ext.store (grown_trans (Ext.trans (Ext.trans (Ext.trans hwL0 hwCr6) (Ext.drew _)) hx78) hx81 (fun i hi => by have := ((own_ext oq (Ext.trans (Ext.trans hwCr6 (Ext.drew _)) hx78)).lt i hi).1; omega)) hx85 (by omega)), ⟨by omega, by rw [hbb, allR_succ, Bool.and_assoc]; rfl, by rw [htk]; exact hO49, by rw [htk]; exact oq2, by omega⟩⟩
      · have gh0_53 := (of_decide_eq_false h0_53)
        have hke : l.take k = l := List.take_of_length_le (by omega)
        rw [hke] at hO49 oq
        refine WF.exit ?_
        refine thn_x ?_
        refine thn_x ?_
        refine blk_eq ?_
        refine thn_n ?_
        refine WF.seq ?_
        refine WF.seq ?_
        refine WF.region ?_
        refine WL.va rfl rfl rfl (X.moveB e10_L0) ?_
        refine WL.va rfl rfl rfl (X.not rfl) ?_
        refine WL.nil ?_
        refine thn_n ?_
        refine WF.cond rfl (fun h1_87 => ?_) (fun h1_87 => ?_)
        · have gh1_87 := (nt h1_87)
          have hbad : newOkR me txn nac l = false := by unfold newOkR; rw [show l.length = k by omega, ← hbb]; exact gh1_87
          refine WF.seq ?_
          refine WF.region ?_
          refine WL.va rfl rfl rfl (X.assign rfl) ?_
          refine WL.va rfl rfl rfl (X.assignI rfl) ?_
          refine WL.nil ?_
          refine thn_n ?_
          refine WF.ret ?_
          refine thn_r ?_
          refine fin_r ?_
          exact ⟨fun _ => rfl, (fun e => by rw [hbad] at e; cases e), hwL0⟩
        · have gh1_87 := (nf h1_87)
          have hgood : newOkR me txn nac l = true := by unfold newOkR; rw [show l.length = k by omega, ← hbb]; exact gh1_87
          refine WF.skip ?_
          refine thn_n ?_
          refine WF.seq ?_
          refine WF.region ?_
          refine WL.va rfl rfl rfl (X.move ((hAL0.eq 11).trans (congrFun hF51 11))) ?_
          refine WL.va rfl rfl rfl (X.assign rfl) ?_
          refine WL.va rfl rfl rfl (X.assignI rfl) ?_
          refine WL.nil ?_
          refine thn_n ?_
          refine WF.ret ?_
          refine fin_r ?_
          obtain ⟨F, h1, h2⟩ := newR_fin (w := w) oq (fun b hb => by have := (oq.lt b hb).1; omega) hO49 (by omega) (by omega)
          exact ⟨(fun e => by rw [hgood] at e; cases e), fun _ => ⟨_, F, rfl, h1, h2⟩, hwL0⟩

end Go.Proofs.Ytjmddkaokmdkbaa
