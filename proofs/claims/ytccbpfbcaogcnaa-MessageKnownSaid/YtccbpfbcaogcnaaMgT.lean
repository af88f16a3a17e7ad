/- The walks of the statements about messages. -/
import Derived.Test.YtccbpfbcaogcnaaLaw
namespace Go.Proofs.Ytccbpfbcaogcnaa
open Go Go.RowKit Kf
set_option maxRecDepth 20000

def askM : Mg := ⟨[8, 1, 2, 0, 0, 0, 0, 0, 0, 9, 3, 5, 0, 0], false, [], []⟩
theorem ask_rng : ∀ k, rng (askM.n.getD k 0)
  | 0 | 1 | 2 | 3 | 4 | 5 | 6 | 7 | 8 | 9 | 10 | 11 | 12 | 13 => by decide
  | k + 14 => (by unfold askM; simp only [List.getD_eq_getElem?_getD]; rw [List.getElem?_eq_none (by simp)]; exact ⟨by decide, by decide⟩)
theorem ask_at (w : World) : MgAt w (.slice none 0 0) (.slice none 0 0) askM := ⟨rfl, ask_rng, (fun e he => by cases he), ⟨[], rfl, Row.of_own (World.ownsRow_nil _ 0 57 _), (fun e he => by cases he)⟩, Bytes.nil _⟩
theorem ask_chk : chk askM = 0 := by decide
theorem ask_len : (mput askM).length = 56 := by rw [mput_len]; rfl
theorem ask_got : got (mput askM) = (askM, 0) := got_back rfl ask_rng (fun e he => by cases he) ask_chk
/-- what is told of a message's bytes -/
def pb (m : Mg) : List UInt8 := if chk m = 0 then mput m else []
theorem pb_ok {m : Mg} (h : chk m = 0) : pb m = mput m := if_pos h
theorem pb_no {m : Mg} (h : chk m ≠ 0) : pb m = [] := if_neg h
theorem mput_le {m : Mg} (h : chk m = 0) : (mput m).length ≤ 65544 := by rw [mput_len]; have := mbytes_len h; omega
section
variable {w : World} {vE vD : Value} {m : Mg}
theorem put_ob (h : MgAt w vE vD m) : FnOk Try.prog 16 [agg (mc m.n m.ok vE vD)] w (fun r w' => (∃ v, r = .tuple #[v, i64 (chk m)] ∧ OwnB w' w.heap.size 5 v (pb m)) ∧ Ext w w') :=
  (put_ok _ _ m w h).mono fun r w' ⟨⟨v, h1, h2, h3⟩, h4⟩ => ⟨⟨v, h1, by
    unfold pb; split
    · exact h2 ‹_›
    · rw [h3 ‹_›]; exact World.ownsRow_nil _ _ _ _⟩, h4⟩
theorem putR_ob (h : MgAt w vE vD m) : FnOk Try.prog 17 [agg (mc m.n m.ok vE vD)] w (fun r w' => (∃ v, r = .tuple #[v, i64 (chk m)] ∧ OwnB w' w.heap.size 5 v (pb m)) ∧ Ext w w') :=
  (putR_ok _ _ m w h).mono fun r w' ⟨⟨v, h1, h2, h3⟩, h4⟩ => ⟨⟨v, h1, by
    unfold pb; split
    · exact h2 ‹_›
    · rw [h3 ‹_›]; exact World.ownsRow_nil _ _ _ _⟩, h4⟩
theorem put_z (h : MgAt w vE vD m) (hc : chk m = 0) : FnOk Try.prog 16 [agg (mc m.n m.ok vE vD)] w (fun r w' => (∃ v, r = .tuple #[v, i64 0] ∧ OwnB w' w.heap.size 5 v (mput m)) ∧ Ext w w') := by
  have := put_ob h
  rwa [hc, pb_ok hc] at this
theorem check_z (h : MgAt w vE vD m) (hc : chk m = 0) : FnOk Try.prog 13 [agg (mc m.n m.ok vE vD)] w (fun r w' => r = i64 0 ∧ Ext w w') := by
  have := check_ok _ _ m w h
  rwa [hc] at this
theorem sameBytes_self {va vb : Value} {l m : List UInt8} (h1 : Bytes w va l) (h2 : Bytes w vb m) (e : l = m) : FnOk Try.prog 18 [va, vb] w (fun r w' => r = .bool true ∧ Ext w w') := by
  have := sameBytes_ok va vb l m w h1 h2
  rwa [decide_eq_true e] at this
theorem sameMsg_eq {a1 a2 b1 b2 : Value} {a b : Mg} (ha : MgAt w a1 a2 a) (hb : MgAt w b1 b2 b) (e : a = b) : FnOk Try.prog 20 [agg (mc a.n a.ok a1 a2), agg (mc b.n b.ok b1 b2)] w (fun r w' => r = .bool true ∧ Ext w w') := by
  have := sameMsg_ok a b _ _ _ _ w ha hb
  rwa [decide_eq_true e] at this
theorem kept_self {va vl : Value} {l : List UInt8} (ha : Bytes w va (l ++ List.replicate 5 0xA5)) (hb : Bytes w vl l) (hm : l.length ≤ 281474976710651) : FnOk Try.prog 24 [va, vl] w (fun r w' => r = .bool true ∧ Ext w w') := by
  have := keptBytes_ok va vl _ l w ha hb hm
  rwa [decide_eq_true rfl] at this
theorem get_to {v : Value} {l : List UInt8} {m : Mg} {e : Int} (hb : Bytes w v l) (hl : l.length ≤ 1000000) (h : got l = (m, e)) : FnOk Try.prog 22 [v] w (fun r w' => (∃ vE vD, r = .tuple #[agg (mc m.n m.ok vE vD), i64 e] ∧ ∃ D L E, MgG w' w.heap.size vE vD m D L E) ∧ Ext w w') := by
  have := get_ok v l w hb hl
  rwa [h] at this
/-- a message that was read, and one that the reference read, behind a change that meets neither -/
theorem MgG.chg {w' : World} {B B1 T1 : Nat} {D : Value} {L : List UInt8} {E : List EV} (h : MgG w B vE vD m D L E) (k : Chg B1 T1 w w') (hT : T1 ≤ B) : MgG w' B vE vD m D L E :=
  ⟨h.pl, own_chg h.row k (fun b hb => .inr (by have := (h.row.lt b hb).1; omega)), own_chg h.own k (fun b hb => .inr (by have := (h.own.lt b hb).1; omega)), h.ap⟩
theorem MgO.chg {w' : World} {B B1 T1 : Nat} (h : MgO w B vE vD m) (k : Chg B1 T1 w w') (hT : T1 ≤ B) : MgO w' B vE vD m := by
  obtain ⟨E, hE, hW⟩ := h.E
  exact ⟨h.len, h.inn, h.ein, ⟨E, hE, hW.chg k (.inl hT)⟩, own_chg h.D k (fun b hb => .inr (by have := (h.D.lt b hb).1; omega))⟩
theorem MgG.keptR {w' : World} {B : Nat} {row : Option Nat} {D : Value} {L : List UInt8} {E : List EV} (h : MgG w B vE vD m D L E) (k : w.grownBy w' row) (hr : ∀ g, row = some g → g < B) : MgG w' B vE vD m D L E := by
  cases row with
  | none => exact h.ext k
  | some g => exact h.keptO k (hr g rfl)
theorem MgO.keptR {w' : World} {B : Nat} {row : Option Nat} (h : MgO w B vE vD m) (k : w.grownBy w' row) (hr : ∀ g, row = some g → g < B) : MgO w' B vE vD m := by
  cases row with
  | none => exact h.ext k
  | some g => exact h.keptO k (.inl (hr g rfl))
end
theorem ask_ok (w : World) : FnOk Try.prog 32 [] w (fun r w' => r = agg (mc askM.n askM.ok (.slice none 0 0) (.slice none 0 0)) ∧ Ext w w') := by
  refine FnOk.enterC (rs := [.cell 0 25]) Try.func32 rfl Try.ntmps32 Try.results32 rfl rfl ?_
  refine WF.seq ?_
  refine WF.region ?_
  refine WL.op rfl (OW.allocO (cs := [i64 0, i64 0, i64 0, i64 0, i64 0, i64 0, i64 0, i64 0, i64 0, i64 0, i64 0, i64 0, i64 0, i64 0, .bool false, .slice none 0 0, .slice none 0 0]) Try.zeroValue25 rfl ?_ (by decide))
  intro g0 w1 heg0 hlg0 hO0 hx3
  have := World.grownBy.size hx3
  refine WL.nil ?_
  refine thn_n ?_
  refine WF.seq ?_
  refine WF.region ?_
  refine WL.va rfl rfl rfl (X.buildT (P := Try.prog) (t := 25) (cs := (mc askM.n askM.ok (.slice none 0 0) (.slice none 0 0))) (zs := [i64 0, i64 0, i64 0, i64 0, i64 0, i64 0, i64 0, i64 0, i64 0, i64 0, i64 0, i64 0, i64 0, i64 0, .bool false, .slice none 0 0, .slice none 0 0]) (places := [(0, 1), (1, 1), (2, 1), (3, 1), (4, 1), (5, 1), (6, 1), (7, 1), (8, 1), (9, 1), (10, 1), (11, 1), (12, 1), (13, 1), (14, 1), (15, 1), (16, 1)]) (n := 17) (evp_cons rfl (evp_cons rfl (evp_cons rfl (evp_cons rfl (evp_cons rfl (evp_cons rfl evp_nil)))))) Try.type25 Try.underlying25 rfl rfl ⟨rfl, rfl, rfl, rfl, rfl, rfl, trivial⟩ rfl rfl rfl) ?_
  refine WL.op rfl (OW.storeOA hO0 rfl rfl rfl (mc_ones _ _ rfl rfl) Try.sizeOf25 ?_)
  intro w5 hO0 hx7
  have := World.grownBy.size hx7
  refine WL.nil ?_
  refine thn_n ?_
  refine WF.ret ?_
  refine finC_r (vs := [_]) ⟨⟨_, rfl, readO hO0 Try.isAgg25 Try.sizeOf25⟩, trivial⟩ ?_
  exact ⟨rfl, (Ext.store hx3 hx7 (by omega))⟩

set_option maxHeartbeats 1000000 in
theorem works_ok (w : World) : FnOk Try.prog 12 [] w (fun r w' => r = .bool true ∧ Ext w w') := by
  refine FnOk.enter (rs := [0]) Try.func12 rfl Try.ntmps12 Try.results12 rfl rfl ?_
  refine WF.seq ?_
  refine WF.region ?_
  refine WL.va rfl rfl rfl (X.assignB rfl) ?_
  refine WL.nil ?_
  refine thn_n ?_
  refine WF.seq ?_
  refine WF.region ?_
  refine WL.c rfl rfl rfl (X.call Try.call32 evl_nil) (ask_ok _) ?_
  rintro v3 w2 ⟨rfl, hx4⟩
  refine WL.c rfl rfl rfl (X.call Try.call16 (evl_cons rfl evl_nil)) (put_z (ask_at _) ask_chk) ?_
  rintro v5 wb ⟨⟨vb, rfl, hb⟩, hx6⟩
  refine WL.va rfl rfl rfl (X.move rfl) ?_
  refine WL.va rfl rfl rfl (X.extract rfl rfl) ?_
  refine WL.va rfl rfl rfl (X.extract rfl rfl) ?_
  refine WL.va rfl rfl rfl (X.assign rfl) ?_
  refine WL.va rfl rfl rfl (X.assignI rfl) ?_
  refine WL.nil ?_
  refine thn_n ?_
  refine WF.seq ?_
  refine WF.region ?_
  refine WL.va rfl rfl rfl (X.move rfl) ?_
  refine WL.c rfl rfl rfl (X.call Try.call22 (evl_cons rfl evl_nil)) (get_to (Row.ext (Bytes.of_own hb) (Ext.refl wb)) (by rw [ask_len]; decide) ask_got) ?_
  rintro v7 wG ⟨⟨p1, p2, rfl, DG, LG, EG, hG⟩, hx8⟩
  refine WL.va rfl rfl rfl (X.move rfl) ?_
  refine WL.va rfl rfl rfl (X.extract rfl rfl) ?_
  refine WL.va rfl rfl rfl (X.extract rfl rfl) ?_
  refine WL.op rfl (OW.allocO (cs := [i64 0, i64 0, i64 0, i64 0, i64 0, i64 0, i64 0, i64 0, i64 0, i64 0, i64 0, i64 0, i64 0, i64 0, .bool false, .slice none 0 0, .slice none 0 0]) Try.zeroValue25 rfl ?_ (by decide))
  intro g3 w9 heg3 hlg3 hO3 hx11
  have := World.grownBy.size hx11
  refine WL.op rfl (OW.storeOA hO3 rfl rfl rfl hG.at.ones Try.sizeOf25 ?_)
  intro w13 hO3 hx15
  have := World.grownBy.size hx15
  refine WL.va rfl rfl rfl (X.assignI rfl) ?_
  refine WL.nil ?_
  refine thn_n ?_
  refine WF.seq ?_
  refine WF.drawn (.q 0 (.q 1 (.q 2 (.q 3 (.q 4 (.q 5 (.q 6 (.q 7 (.q 8 (.q 9 (.q 10 (.q 11 (.q 12 (.l 13 (.l 14 (.q 15 (.q 16 .nil))))))))))))))))) (fun w' => Ext w13 w') 17 (by kernel_rfl) (by kernel_rfl) (Ext.drew _) ?_
  have := World.grownBy.size (Ext.drew w13)
  refine WO.q rfl rfl rfl rfl (fun w' hE17 => (X.moveI rfl)) ?_
  refine WO.q rfl rfl rfl rfl (fun w' hE17 => (X.eql rfl rfl)) ?_
  refine WO.q rfl rfl rfl rfl (fun w' hE17 => (X.moveB rfl)) ?_
  refine WO.qg rfl rfl rfl rfl rfl (fun w' hE17 => (X.move rfl)) ?_
  refine WO.qg rfl rfl rfl rfl rfl (fun w' hE17 => (X.len (Bytes.of_own hb) rfl Try.underlying23)) ?_
  refine WO.qg rfl rfl rfl rfl rfl (fun w' hE17 => (X.eql rfl rfl)) ?_
  refine WO.q rfl rfl rfl rfl (fun w' hE17 => (X.pickT rfl rfl rfl)) ?_
  refine WO.q rfl rfl rfl rfl (fun w' hE17 => (X.moveB rfl)) ?_
  refine WO.qg rfl rfl rfl rfl rfl (fun w' hE17 => (X.moveI rfl)) ?_
  refine WO.qg rfl rfl rfl rfl rfl (fun w' hE17 => (X.eql rfl rfl)) ?_
  refine WO.q rfl rfl rfl rfl (fun w' hE17 => (X.pickT rfl rfl rfl)) ?_
  refine WO.q rfl rfl rfl rfl (fun w' hE17 => (X.moveB rfl)) ?_
  refine WO.qg rfl rfl rfl rfl rfl (fun w' hE17 => (X.loadOA hO3 hE17 rfl rfl Try.isAgg25 Try.sizeOf25)) ?_
  refine WO.l ?_
  refine LO.gog rfl rfl rfl (OW.enter rfl (by decide) (X.call Try.call32 evl_nil) (ask_ok _) ?_)
  rintro v22 w21 ⟨rfl, hx23⟩
  have := World.grownBy.size hx23
  refine ⟨(Ext.trans (Ext.drew _) hx23), ?_⟩
  refine WO.l ?_
  refine LO.gog rfl rfl rfl (OW.enter rfl (by decide) (X.call Try.call20 (evl_cons rfl (evl_cons rfl evl_nil))) (sameMsg_eq (hG.at.ext (Ext.trans (Ext.trans (Ext.store hx11 hx15 (by omega)) (Ext.drew _)) hx23)) (ask_at _) rfl) ?_)
  rintro v25 w24 ⟨rfl, hx26⟩
  have := World.grownBy.size hx26
  refine ⟨(Ext.trans (Ext.trans (Ext.drew _) hx23) hx26), ?_⟩
  refine WO.q rfl rfl rfl rfl (fun w' hE17 => (X.pickT rfl rfl rfl)) ?_
  refine WO.q rfl rfl rfl rfl (fun w' hE17 => (X.assignB rfl)) ?_
  refine WO.nil ?_
  refine WL.nil ?_
  refine thn_n ?_
  refine WF.ret ?_
  refine fin_r ?_
  exact ⟨rfl, (Ext.trans (Ext.trans (Ext.trans (Ext.trans (Ext.trans (Ext.trans hx4 hx6) hx8) (Ext.store hx11 hx15 (by omega))) (Ext.drew _)) hx23) hx26)⟩

theorem big_ok (vE vD : Value) (m : Mg) (w : World) (h : MgAt w vE vD m) : FnOk Try.prog 11 [agg (mc m.n m.ok vE vD)] w (fun r w' => (∃ b, r = .bool b ∧ (b = false → m.small)) ∧ Ext w w') := by
  refine FnOk.enter (rs := [2]) Try.func11 rfl Try.ntmps11 Try.results11 rfl rfl ?_
  refine WF.seq ?_
  refine WF.region ?_
  refine WL.op rfl (OW.boxA (cs := (mc m.n m.ok vE vD)) rfl ?_ (by decide))
  intro g1 w1 heg1 hlg1 hO1 hx3
  have := World.grownBy.size hx3
  refine WL.va rfl rfl rfl (X.assignB rfl) ?_
  refine WL.nil ?_
  refine thn_n ?_
  refine WF.seq ?_
  refine WF.region ?_
  refine WL.va rfl rfl rfl (X.loadOA hO1 (Ext.refl _) rfl rfl Try.isAgg25 Try.sizeOf25) ?_
  refine WL.c rfl rfl rfl (X.call Try.call31 (evl_cons rfl (evl_cons rfl (evl_cons rfl evl_nil)))) (bigMsg_ok vE vD m _ (h.ext hx3)) ?_
  rintro v7 w6 ⟨⟨bb, rfl, hbb⟩, hx8⟩
  have := World.grownBy.size hx8
  refine WL.va rfl rfl rfl (X.assignB rfl) ?_
  refine WL.nil ?_
  refine thn_n ?_
  refine WF.ret ?_
  refine fin_r ?_
  exact ⟨⟨_, rfl, fun q => ⟨by have := (hbb q).1; omega, by have := (hbb q).2.1; omega, fun e he => by have := (hbb q).2.2 e he; omega⟩⟩, (Ext.trans hx3 hx8)⟩

set_option maxHeartbeats 2000000 in
theorem messageChecks_walk (vE vD : Value) (m : Mg) (w : World) (h : MgAt w vE vD m) : FnOk Try.prog 3 [agg (mc m.n m.ok vE vD)] w (fun r w' => r = .bool true ∧ Ext w w') := by
  refine FnOk.enter (rs := [2]) Try.func3 rfl Try.ntmps3 Try.results3 rfl rfl ?_
  refine WF.seq ?_
  refine WF.region ?_
  refine WL.op rfl (OW.boxA (cs := (mc m.n m.ok vE vD)) rfl ?_ (by decide))
  intro g1 w1 heg1 hlg1 hO1 hx3
  have := World.grownBy.size hx3
  refine WL.va rfl rfl rfl (X.assignB rfl) ?_
  refine WL.nil ?_
  refine thn_n ?_
  refine WF.seq ?_
  refine WF.drawn (.q 0 (.l 1 (.q 2 (.l 3 (.q 4 (.q 5 (.q 6 (.q 8 (.l 7 (.l 9 (.q 10 (.q 11 (.l 12 (.q 13 (.q 14 (.q 15 .nil)))))))))))))))) (fun w' => Ext w1 w') 16 (by kernel_rfl) (by kernel_rfl) (Ext.drew _) ?_
  have := World.grownBy.size (Ext.drew w1)
  refine WO.q rfl rfl rfl rfl (fun w' hE6 => (X.loadOA hO1 hE6 rfl rfl Try.isAgg25 Try.sizeOf25)) ?_
  refine WO.l ?_
  refine LO.go rfl rfl (OW.enter rfl (by decide) (X.call Try.call11 (evl_cons rfl evl_nil)) (big_ok vE vD m _ (h.ext (Ext.trans hx3 (Ext.drew _)))) ?_)
  rintro v8 w7 ⟨⟨bb, rfl, hbb⟩, hx9⟩
  have := World.grownBy.size hx9
  refine ⟨(Ext.trans (Ext.drew _) hx9), ?_⟩
  refine WO.q rfl rfl rfl rfl (fun w' hE6 => (X.moveB rfl)) ?_
  refine WO.l ?_
  refine LO.split (j := 2) rfl (fun h11 => ?_) (fun h11 => ?_)
  · have gh11 := h11
    refine LO.gog rfl rfl (congrArg some h11) (OW.enter rfl (by decide) (X.call Try.call12 evl_nil) (works_ok _) ?_)
    rintro v13 w12 ⟨rfl, hx14⟩
    have := World.grownBy.size hx14
    refine ⟨(Ext.trans (Ext.trans (Ext.drew _) hx9) hx14), ?_⟩
    refine WO.q rfl rfl rfl rfl (fun w' hE6 => (X.pickT rfl h11 rfl)) ?_
    refine WO.q rfl rfl rfl rfl (fun w' hE6 => (X.moveB rfl)) ?_
    refine WO.qp rfl rfl rfl rfl rfl ?_
    refine WO.qp rfl rfl rfl rfl rfl ?_
    refine WO.l ?_
    refine LO.pass rfl (Ext.trans (Ext.trans (Ext.drew _) hx9) hx14) rfl rfl rfl rfl ?_
    refine WO.l ?_
    refine LO.pass rfl (Ext.trans (Ext.trans (Ext.drew _) hx9) hx14) rfl rfl rfl rfl ?_
    refine WO.qp rfl rfl rfl rfl rfl ?_
    refine WO.qp rfl rfl rfl rfl rfl ?_
    refine WO.l ?_
    refine LO.passn rfl (Ext.trans (Ext.trans (Ext.drew _) hx9) hx14) rfl rfl rfl rfl ?_
    refine WO.qp rfl rfl rfl rfl rfl ?_
    refine WO.q rfl rfl rfl rfl (fun w' hE6 => (X.pickT rfl rfl rfl)) ?_
    refine WO.q rfl rfl rfl rfl (fun w' hE6 => (X.assignB rfl)) ?_
    refine WO.nil ?_
    refine WL.nil ?_
    refine thn_n ?_
    refine WF.ret ?_
    refine fin_r ?_
    first | exact ⟨rfl, (Ext.trans (Ext.trans (Ext.trans hx3 (Ext.drew _)) hx9) hx14)⟩ | exact absurd rfl (show ¬ chk m = chk m by assumption)
  · have gh11 := h11
    refine LO.pass rfl (Ext.trans (Ext.drew _) hx9) rfl rfl rfl (congrArg some h11) ?_
    refine WO.q rfl rfl rfl rfl (fun w' hE6 => (X.pickF rfl h11 rfl)) ?_
    refine WO.q rfl rfl rfl rfl (fun w' hE6 => (X.moveB rfl)) ?_
    refine WO.qg rfl rfl rfl rfl rfl (fun w' hE6 => (X.loadOA hO1 hE6 rfl rfl Try.isAgg25 Try.sizeOf25)) ?_
    refine WO.qg rfl rfl rfl rfl rfl (fun w' hE6 => (X.loadOA hO1 hE6 rfl rfl Try.isAgg25 Try.sizeOf25)) ?_
    refine WO.l ?_
    refine LO.gog rfl rfl rfl (OW.enter rfl (by decide) (X.call Try.call13 (evl_cons rfl evl_nil)) (check_ok _ _ m _ (h.ext (Ext.trans (Ext.trans hx3 (Ext.drew _)) hx9))) ?_)
    rintro v19 w18 ⟨rfl, hx20⟩
    have := World.grownBy.size hx20
    refine ⟨(Ext.trans (Ext.trans (Ext.drew _) hx9) hx20), ?_⟩
    refine WO.l ?_
    refine LO.gog rfl rfl rfl (OW.enter rfl (by decide) (X.call Try.call14 (evl_cons rfl evl_nil)) (checkR_ok _ _ m _ (h.ext (Ext.trans (Ext.trans (Ext.trans hx3 (Ext.drew _)) hx9) hx20))) ?_)
    rintro v22 w21 ⟨rfl, hx23⟩
    have := World.grownBy.size hx23
    refine ⟨(Ext.trans (Ext.trans (Ext.trans (Ext.drew _) hx9) hx20) hx23), ?_⟩
    refine WO.qg rfl rfl rfl rfl rfl (fun w' hE6 => (X.eql rfl rfl)) ?_
    refine WO.qg rfl rfl rfl rfl rfl (fun w' hE6 => (X.moveB rfl)) ?_
    refine WO.l ?_
    refine LO.split (j := 11) rfl (fun h25 => ?_) (fun h25 => ?_)
    · have gh25 := (of_decide_eq_true h25)
      refine LO.gog rfl rfl (congrArg some h25) (OW.enter rfl (by decide) (X.call Try.call12 evl_nil) (works_ok _) ?_)
      rintro v27 w26 ⟨rfl, hx28⟩
      have := World.grownBy.size hx28
      refine ⟨(Ext.trans (Ext.trans (Ext.trans (Ext.trans (Ext.drew _) hx9) hx20) hx23) hx28), ?_⟩
      refine WO.qg rfl rfl rfl rfl rfl (fun w' hE6 => (X.pickT rfl h25 rfl)) ?_
      refine WO.q rfl rfl rfl rfl (fun w' hE6 => (X.pickF rfl rfl rfl)) ?_
      refine WO.q rfl rfl rfl rfl (fun w' hE6 => (X.assignB rfl)) ?_
      refine WO.nil ?_
      refine WL.nil ?_
      refine thn_n ?_
      refine WF.ret ?_
      refine fin_r ?_
      first | exact ⟨rfl, (Ext.trans (Ext.trans (Ext.trans (Ext.trans (Ext.trans hx3 (Ext.drew _)) hx9) hx20) hx23) hx28)⟩ | exact absurd rfl (show ¬ chk m = chk m by assumption)
    · have gh25 := (of_decide_eq_false h25)
      refine LO.pass rfl (Ext.trans (Ext.trans (Ext.trans (Ext.drew _) hx9) hx20) hx23) rfl rfl rfl (congrArg some h25) ?_
      refine WO.qg rfl rfl rfl rfl rfl (fun w' hE6 => (X.pickF rfl h25 rfl)) ?_
      refine WO.q rfl rfl rfl rfl (fun w' hE6 => (X.pickF rfl rfl rfl)) ?_
      refine WO.q rfl rfl rfl rfl (fun w' hE6 => (X.assignB rfl)) ?_
      refine WO.nil ?_
      refine WL.nil ?_
      refine thn_n ?_
      refine WF.ret ?_
      refine fin_r ?_
      first | exact ⟨rfl, (Ext.trans (Ext.trans (Ext.trans (Ext.trans hx3 (Ext.drew _)) hx9) hx20) hx23)⟩ | exact absurd rfl (show ¬ chk m = chk m by assumption)

set_option maxHeartbeats 2000000 in
theorem messagePuts_walk (vE vD : Value) (m : Mg) (w : World) (h : MgAt w vE vD m) : FnOk Try.prog 4 [agg (mc m.n m.ok vE vD)] w (fun r w' => r = .bool true ∧ Ext w w') := by
  refine FnOk.enter (rs := [2]) Try.func4 rfl Try.ntmps4 Try.results4 rfl rfl ?_
  refine WF.seq ?_
  refine WF.region ?_
  refine WL.op rfl (OW.boxA (cs := (mc m.n m.ok vE vD)) rfl ?_ (by decide))
  intro g1 w1 heg1 hlg1 hO1 hx3
  have := World.grownBy.size hx3
  refine WL.va rfl rfl rfl (X.assignB rfl) ?_
  refine WL.nil ?_
  refine thn_n ?_
  refine WF.seq ?_
  refine WF.seq ?_
  refine WF.region ?_
  refine WL.va rfl rfl rfl (X.loadOA hO1 (Ext.refl _) rfl rfl Try.isAgg25 Try.sizeOf25) ?_
  refine WL.c rfl rfl rfl (X.call Try.call11 (evl_cons rfl evl_nil)) (big_ok vE vD m _ (h.ext hx3)) ?_
  rintro v7 w6 ⟨⟨bb, rfl, hbb⟩, hx8⟩
  have := World.grownBy.size hx8
  refine WL.nil ?_
  refine thn_n ?_
  refine WF.cond rfl (fun h0_9 => ?_) (fun h0_9 => ?_)
  · have gh0_9 := h0_9
    refine WF.seq ?_
    refine WF.region ?_
    refine WL.c rfl rfl rfl (X.call Try.call12 evl_nil) (works_ok _) ?_
    rintro v12 w11 ⟨rfl, hx13⟩
    have := World.grownBy.size hx13
    refine WL.va rfl rfl rfl (X.assignB rfl) ?_
    refine WL.nil ?_
    refine thn_n ?_
    refine WF.ret ?_
    refine thn_r ?_
    refine fin_r ?_
    exact ⟨rfl, (Ext.trans (Ext.trans hx3 hx8) hx13)⟩
  · have gh0_9 := h0_9
    have hsm := hbb gh0_9
    refine WF.skip ?_
    refine thn_n ?_
    refine WF.seq ?_
    refine WF.region ?_
    refine WL.va rfl rfl rfl (X.loadOA hO1 hx8 rfl rfl Try.isAgg25 Try.sizeOf25) ?_
    refine WL.c rfl rfl rfl (X.call Try.call15 (evl_cons rfl evl_nil)) (copyMsg_ok vE vD m _ (h.ext (Ext.trans hx3 hx8)) hsm) ?_
    rintro v15 wA ⟨⟨p1, p2, rfl, hA⟩, hx16⟩
    have := World.grownBy.size hx16
    refine WL.op rfl (OW.allocO (cs := [i64 0, i64 0, i64 0, i64 0, i64 0, i64 0, i64 0, i64 0, i64 0, i64 0, i64 0, i64 0, i64 0, i64 0, .bool false, .slice none 0 0, .slice none 0 0]) Try.zeroValue25 rfl ?_ (by decide))
    intro g3 w17 heg3 hlg3 hO3 hx19
    have := World.grownBy.size hx19
    refine WL.op rfl (OW.storeOA hO3 rfl rfl rfl hA.ones Try.sizeOf25 ?_)
    intro w21 hO3 hx23
    have := World.grownBy.size hx23
    replace hO1 := (hO1.ext (Ext.trans (Ext.trans hx8 hx16) hx19)).keptO hx23 (by omega)
    refine WL.nil ?_
    refine thn_n ?_
    refine WF.seq ?_
    refine WF.region ?_
    refine WL.va rfl rfl rfl (X.loadOA hO3 (Ext.refl _) rfl rfl Try.isAgg25 Try.sizeOf25) ?_
    have hzA := World.grownBy.size (show Ext wA w21 from (Ext.store hx19 hx23 (by omega)))
    refine WL.c rfl rfl rfl (X.call Try.call16 (evl_cons rfl evl_nil)) (put_ob (hA.ext (Ext.store hx19 hx23 (by omega)))) ?_
    rintro v1 w1 ⟨⟨v1, rfl, o1⟩, hx25⟩
    have := World.grownBy.size hx25
    refine WL.va rfl rfl rfl (X.move rfl) ?_
    refine WL.va rfl rfl rfl (X.extract rfl rfl) ?_
    refine WL.va rfl rfl rfl (X.extract rfl rfl) ?_
    refine WL.va rfl rfl rfl (X.assign rfl) ?_
    refine WL.va rfl rfl rfl (X.assignI rfl) ?_
    refine WL.nil ?_
    refine thn_n ?_
    refine WF.seq ?_
    refine WF.region ?_
    refine WL.va rfl rfl rfl (X.loadOA hO3 hx25 rfl rfl Try.isAgg25 Try.sizeOf25) ?_
    have hz1 := World.grownBy.size (show Ext w1 w1 from (Ext.refl _))
    refine WL.c rfl rfl rfl (X.call Try.call16 (evl_cons rfl evl_nil)) (put_ob (hA.ext (Ext.trans (Ext.store hx19 hx23 (by omega)) hx25))) ?_
    rintro v2 w2 ⟨⟨v2, rfl, o2⟩, hx26⟩
    have := World.grownBy.size hx26
    refine WL.va rfl rfl rfl (X.move rfl) ?_
    refine WL.va rfl rfl rfl (X.extract rfl rfl) ?_
    refine WL.va rfl rfl rfl (X.extract rfl rfl) ?_
    refine WL.va rfl rfl rfl (X.assign rfl) ?_
    refine WL.va rfl rfl rfl (X.assignI rfl) ?_
    refine WL.nil ?_
    refine thn_n ?_
    refine WF.seq ?_
    refine WF.region ?_
    refine WL.va rfl rfl rfl (X.loadOA hO1 (Ext.trans hx25 hx26) rfl rfl Try.isAgg25 Try.sizeOf25) ?_
    have hz2 := World.grownBy.size (show Ext w1 w2 from hx26)
    refine WL.c rfl rfl rfl (X.call Try.call17 (evl_cons rfl evl_nil)) (putR_ob (h.ext (Ext.trans (Ext.trans (Ext.trans (Ext.trans (Ext.trans hx3 hx8) hx16) (Ext.store hx19 hx23 (by omega))) hx25) hx26))) ?_
    rintro v3 w3 ⟨⟨v3, rfl, o3⟩, hx27⟩
    have := World.grownBy.size hx27
    refine WL.va rfl rfl rfl (X.move rfl) ?_
    refine WL.va rfl rfl rfl (X.extract rfl rfl) ?_
    refine WL.va rfl rfl rfl (X.extract rfl rfl) ?_
    refine WL.va rfl rfl rfl (X.assign rfl) ?_
    refine WL.va rfl rfl rfl (X.assignI rfl) ?_
    refine WL.nil ?_
    refine thn_n ?_
    refine WF.seq ?_
    refine WF.seq ?_
    refine WF.region ?_
    refine WL.va rfl rfl rfl (X.moveI rfl) ?_
    refine WL.va rfl rfl rfl (X.moveI rfl) ?_
    refine WL.va rfl rfl rfl (X.neq rfl rfl) ?_
    refine WL.va rfl rfl rfl (X.moveB rfl) ?_
    refine WL.split (j := 3) rfl (fun h29 => ?_) (fun h29 => ?_)
    · have gh29 := (of_decide_eq_true h29)
      exact absurd rfl gh29
    · have gh29 := (Decidable.of_not_not (of_decide_eq_false h29))
      refine WL.vg rfl (congrArg some h29) rfl rfl (X.moveI rfl) ?_
      refine WL.vg rfl (congrArg some h29) rfl rfl (X.moveI rfl) ?_
      refine WL.vg rfl (congrArg some h29) rfl rfl (X.neq rfl rfl) ?_
      refine WL.va rfl rfl rfl (X.pickF rfl h29 rfl) ?_
      refine WL.va rfl rfl rfl (X.moveB rfl) ?_
      refine WL.split (j := 8) rfl (fun h31 => ?_) (fun h31 => ?_)
      · have gh31 := (of_decide_eq_true h31)
        exact absurd rfl gh31
      · have gh31 := (Decidable.of_not_not (of_decide_eq_false h31))
        refine WL.vg rfl (congrArg some h31) rfl rfl (X.move rfl) ?_
        refine WL.vg rfl (congrArg some h31) rfl rfl (X.move rfl) ?_
        refine WL.cg rfl (congrArg some h31) rfl rfl (X.call Try.call18 (evl_cons rfl (evl_cons rfl evl_nil))) (sameBytes_self (Row.ext (Bytes.of_own o1) (Ext.trans hx26 hx27)) (Row.ext (Bytes.of_own o3) (Ext.refl w3)) rfl) ?_
        rintro v33 w32 ⟨rfl, hx34⟩
        have := World.grownBy.size hx34
        refine WL.vg rfl (congrArg some h31) rfl rfl (X.not rfl) ?_
        refine WL.va rfl rfl rfl (X.pickF rfl h31 rfl) ?_
        refine WL.nil ?_
        refine thn_n ?_
        refine WF.cond_f rfl ?_
        refine WF.skip ?_
        refine thn_n ?_
        refine WF.seq ?_
        refine WF.region ?_
        refine WL.va rfl rfl rfl (X.move rfl) ?_
        have gA0 := (show Ext wA w32 from (Ext.trans (Ext.trans (Ext.trans (Ext.trans (Ext.store hx19 hx23 (by omega)) hx25) hx26) hx27) hx34))
        have o1b := own_ext o1 (Ext.trans (Ext.trans hx26 hx27) hx34)
        have o2b := own_ext o2 (Ext.trans hx27 hx34)
        have o3b := own_ext o3 hx34
        refine WL.c rfl rfl rfl (X.call Try.call19 (evl_cons rfl evl_nil)) (spoilBytes_ok _ _ _ _ o1b) ?_
        rintro v37 wS ⟨_, hx38⟩
        have := World.grownBy.size hx38
        replace hO1 := (hO1.ext (Ext.trans (Ext.trans (Ext.trans hx25 hx26) hx27) hx34)).keptR hx38 (fun b hb => by have := (o1.lt b hb).1; omega)
        replace hO3 := (hO3.ext (Ext.trans (Ext.trans (Ext.trans hx25 hx26) hx27) hx34)).keptR hx38 (fun b hb => by have := (o1.lt b hb).1; omega)
        have hA2 := hA.ext (grown_trans gA0 hx38 (fun i hi => by have := (o1.lt i hi).1; omega))
        have o2c := o2b.kept hx38 (show Apart v2 v1 from fun b h1 h2 => by have := (o2.lt b h1).1; have := (o1.lt b h2).2; omega).ne
        have o3c := o3b.kept hx38 (show Apart v3 v1 from fun b h1 h2 => by have := (o3.lt b h1).1; have := (o1.lt b h2).2; omega).ne
        refine WL.nil ?_
        refine thn_n ?_
        refine WF.seq ?_
        refine WF.region ?_
        refine WL.va rfl rfl rfl (X.move rfl) ?_
        refine WL.va rfl rfl rfl (X.move rfl) ?_
        refine WL.c rfl rfl rfl (X.call Try.call18 (evl_cons rfl (evl_cons rfl evl_nil))) (sameBytes_self (Row.ext (Bytes.of_own o2c) (Ext.refl wS)) (Row.ext (Bytes.of_own o3c) (Ext.refl wS)) rfl) ?_
        rintro v40 w39 ⟨rfl, hx41⟩
        have := World.grownBy.size hx41
        refine WL.va rfl rfl rfl (X.moveB rfl) ?_
        refine WL.vg rfl rfl rfl rfl (X.loadOA hO3 hx41 rfl rfl Try.isAgg25 Try.sizeOf25) ?_
        refine WL.vg rfl rfl rfl rfl (X.loadOA hO1 hx41 rfl rfl Try.isAgg25 Try.sizeOf25) ?_
        refine WL.cg rfl rfl rfl rfl (X.call Try.call20 (evl_cons rfl (evl_cons rfl evl_nil))) (sameMsg_eq (hA2.ext hx41) (h.ext (Ext.trans (grown_trans (Ext.trans (Ext.trans (Ext.trans (Ext.trans (Ext.trans (Ext.trans (Ext.trans hx3 hx8) hx16) (Ext.store hx19 hx23 (by omega))) hx25) hx26) hx27) hx34) hx38 (fun i hi => by have := (o1.lt i hi).1; omega)) hx41)) rfl) ?_
        rintro v44 w43 ⟨rfl, hx45⟩
        have := World.grownBy.size hx45
        refine WL.va rfl rfl rfl (X.pickT rfl rfl rfl) ?_
        refine WL.va rfl rfl rfl (X.moveB rfl) ?_
        refine WL.cg rfl rfl rfl rfl (X.call Try.call12 evl_nil) (works_ok _) ?_
        rintro v48 w47 ⟨rfl, hx49⟩
        have := World.grownBy.size hx49
        refine WL.va rfl rfl rfl (X.pickT rfl rfl rfl) ?_
        refine WL.va rfl rfl rfl (X.assignB rfl) ?_
        refine WL.nil ?_
        refine thn_n ?_
        refine WF.ret ?_
        refine fin_r ?_
        exact ⟨rfl, (Ext.trans (Ext.trans (Ext.trans (grown_trans (Ext.trans (Ext.trans (Ext.trans (Ext.trans (Ext.trans (Ext.trans (Ext.trans hx3 hx8) hx16) (Ext.store hx19 hx23 (by omega))) hx25) hx26) hx27) hx34) hx38 (fun i hi => by have := (o1.lt i hi).1; omega)) hx41) hx45) hx49)⟩

set_option maxHeartbeats 2000000 in
theorem messageBack_walk (vE vD : Value) (m : Mg) (w : World) (h : MgAt w vE vD m) : FnOk Try.prog 6 [agg (mc m.n m.ok vE vD)] w (fun r w' => r = .bool true ∧ Ext w w') := by
  refine FnOk.enter (rs := [2]) Try.func6 rfl Try.ntmps6 Try.results6 rfl rfl ?_
  refine WF.seq ?_
  refine WF.region ?_
  refine WL.op rfl (OW.boxA (cs := (mc m.n m.ok vE vD)) rfl ?_ (by decide))
  intro g1 w1 heg1 hlg1 hO1 hx3
  have := World.grownBy.size hx3
  refine WL.va rfl rfl rfl (X.assignB rfl) ?_
  refine WL.nil ?_
  refine thn_n ?_
  refine WF.seq ?_
  refine WF.seq ?_
  refine WF.region ?_
  refine WL.va rfl rfl rfl (X.loadOA hO1 (Ext.refl _) rfl rfl Try.isAgg25 Try.sizeOf25) ?_
  refine WL.c rfl rfl rfl (X.call Try.call11 (evl_cons rfl evl_nil)) (big_ok vE vD m _ (h.ext hx3)) ?_
  rintro v7 w6 ⟨⟨bb, rfl, hbb⟩, hx8⟩
  have := World.grownBy.size hx8
  refine WL.nil ?_
  refine thn_n ?_
  refine WF.cond rfl (fun h0_9 => ?_) (fun h0_9 => ?_)
  · have gh0_9 := h0_9
    refine WF.seq ?_
    refine WF.region ?_
    refine WL.c rfl rfl rfl (X.call Try.call12 evl_nil) (works_ok _) ?_
    rintro v12 w11 ⟨rfl, hx13⟩
    have := World.grownBy.size hx13
    refine WL.va rfl rfl rfl (X.assignB rfl) ?_
    refine WL.nil ?_
    refine thn_n ?_
    refine WF.ret ?_
    refine thn_r ?_
    refine fin_r ?_
    exact ⟨rfl, (Ext.trans (Ext.trans hx3 hx8) hx13)⟩
  · have gh0_9 := h0_9
    have hsm := hbb gh0_9
    refine WF.skip ?_
    refine thn_n ?_
    refine WF.seq ?_
    refine WF.region ?_
    refine WL.va rfl rfl rfl (X.loadOA hO1 hx8 rfl rfl Try.isAgg25 Try.sizeOf25) ?_
    refine WL.c rfl rfl rfl (X.call Try.call16 (evl_cons rfl evl_nil)) (put_ob (h.ext (Ext.trans hx3 hx8))) ?_
    rintro v15 wb ⟨⟨vb, rfl, hb0⟩, hx16⟩
    have := World.grownBy.size hx16
    refine WL.va rfl rfl rfl (X.move rfl) ?_
    refine WL.va rfl rfl rfl (X.extract rfl rfl) ?_
    refine WL.va rfl rfl rfl (X.extract rfl rfl) ?_
    refine WL.va rfl rfl rfl (X.assign rfl) ?_
    refine WL.va rfl rfl rfl (X.assignI rfl) ?_
    refine WL.nil ?_
    refine thn_n ?_
    refine WF.seq ?_
    refine WF.seq ?_
    refine WF.region ?_
    refine WL.va rfl rfl rfl (X.moveI rfl) ?_
    refine WL.va rfl rfl rfl (X.neq rfl rfl) ?_
    refine WL.nil ?_
    refine thn_n ?_
    refine WF.cond rfl (fun h1_17 => ?_) (fun h1_17 => ?_)
    · have gh1_17 := (of_decide_eq_true h1_17)
      have fb : Bytes wb vb [] := by have := Bytes.of_own hb0; rwa [pb_no gh1_17] at this
      refine WF.seq ?_
      refine WF.region ?_
      refine WL.va rfl rfl rfl (X.move rfl) ?_
      refine WL.va rfl rfl rfl (X.len fb rfl Try.underlying23) ?_
      refine WL.va rfl rfl rfl (X.eql rfl rfl) ?_
      refine WL.va rfl rfl rfl (X.moveB rfl) ?_
      refine WL.vg rfl rfl rfl rfl (X.loadOA hO1 (Ext.trans hx8 hx16) rfl rfl Try.isAgg25 Try.sizeOf25) ?_
      refine WL.cg rfl rfl rfl rfl (X.call Try.call13 (evl_cons rfl evl_nil)) (check_ok _ _ m _ (h.ext (Ext.trans (Ext.trans hx3 hx8) hx16))) ?_
      rintro v21 w20 ⟨rfl, hx22⟩
      have := World.grownBy.size hx22
      refine WL.vg rfl rfl rfl rfl (X.moveI rfl) ?_
      refine WL.vg rfl rfl rfl rfl (X.eql rfl rfl) ?_
      refine WL.va rfl rfl rfl (X.pickT rfl rfl rfl) ?_
      refine WL.va rfl rfl rfl (X.moveB rfl) ?_
      refine WL.split (j := 9) rfl (fun h24 => ?_) (fun h24 => ?_)
      · have gh24 := (of_decide_eq_true h24)
        refine WL.cg rfl (congrArg some h24) rfl rfl (X.call Try.call12 evl_nil) (works_ok _) ?_
        rintro v26 w25 ⟨rfl, hx27⟩
        have := World.grownBy.size hx27
        refine WL.va rfl rfl rfl (X.pickT rfl h24 rfl) ?_
        refine WL.va rfl rfl rfl (X.assignB rfl) ?_
        refine WL.nil ?_
        refine thn_n ?_
        refine WF.ret ?_
        refine thn_r ?_
        refine fin_r ?_
        exact ⟨rfl, (Ext.trans (Ext.trans (Ext.trans (Ext.trans hx3 hx8) hx16) hx22) hx27)⟩
      · have gh24 := (of_decide_eq_false h24)
        exact absurd rfl gh24
    · have gh1_17 := (Decidable.of_not_not (of_decide_eq_false h1_17))
      have hc0 : chk m = 0 := gh1_17
      have fb : Bytes wb vb (mput m) := by have := Bytes.of_own hb0; rwa [pb_ok hc0] at this
      have hol := mput_le hc0
      refine WF.skip ?_
      refine thn_n ?_
      refine WF.seq ?_
      refine WF.region ?_
      refine WL.va rfl rfl rfl (X.move rfl) ?_
      refine WL.c rfl rfl rfl (X.call Try.call22 (evl_cons rfl evl_nil)) (get_to (Row.ext fb (Ext.refl wb)) (by omega) (got_back h.len h.inn h.ein hc0)) ?_
      rintro v29 wG ⟨⟨p1, p2, rfl, DG, LG, EG, hG⟩, hx30⟩
      have := World.grownBy.size hx30
      refine WL.va rfl rfl rfl (X.move rfl) ?_
      refine WL.va rfl rfl rfl (X.extract rfl rfl) ?_
      refine WL.va rfl rfl rfl (X.extract rfl rfl) ?_
      refine WL.op rfl (OW.allocO (cs := [i64 0, i64 0, i64 0, i64 0, i64 0, i64 0, i64 0, i64 0, i64 0, i64 0, i64 0, i64 0, i64 0, i64 0, .bool false, .slice none 0 0, .slice none 0 0]) Try.zeroValue25 rfl ?_ (by decide))
      intro g5 w31 heg5 hlg5 hO5 hx33
      have := World.grownBy.size hx33
      refine WL.op rfl (OW.storeOA hO5 rfl rfl rfl hG.at.ones Try.sizeOf25 ?_)
      intro w35 hO5 hx37
      have := World.grownBy.size hx37
      replace hO1 := (hO1.ext (Ext.trans (Ext.trans (Ext.trans hx8 hx16) hx30) hx33)).keptO hx37 (by omega)
      refine WL.va rfl rfl rfl (X.assignI rfl) ?_
      refine WL.nil ?_
      refine thn_n ?_
      refine WF.seq ?_
      refine WF.region ?_
      refine WL.va rfl rfl rfl (X.moveI rfl) ?_
      refine WL.va rfl rfl rfl (X.eql rfl rfl) ?_
      refine WL.va rfl rfl rfl (X.moveB rfl) ?_
      refine WL.vg rfl rfl rfl rfl (X.loadOA hO5 (Ext.refl _) rfl rfl Try.isAgg25 Try.sizeOf25) ?_
      refine WL.vg rfl rfl rfl rfl (X.loadOA hO1 (Ext.refl _) rfl rfl Try.isAgg25 Try.sizeOf25) ?_
      refine WL.cg rfl rfl rfl rfl (X.call Try.call20 (evl_cons rfl (evl_cons rfl evl_nil))) (sameMsg_eq (hG.at.ext (Ext.store hx33 hx37 (by omega))) (h.ext (Ext.trans (Ext.trans (Ext.trans (Ext.trans hx3 hx8) hx16) hx30) (Ext.store hx33 hx37 (by omega)))) rfl) ?_
      rintro v41 w40 ⟨rfl, hx42⟩
      have := World.grownBy.size hx42
      refine WL.va rfl rfl rfl (X.pickT rfl rfl rfl) ?_
      refine WL.va rfl rfl rfl (X.moveB rfl) ?_
      refine WL.vg rfl rfl rfl rfl (X.loadOA hO1 hx42 rfl rfl Try.isAgg25 Try.sizeOf25) ?_
      refine WL.cg rfl rfl rfl rfl (X.call Try.call13 (evl_cons rfl evl_nil)) (check_z (h.ext (Ext.trans (Ext.trans (Ext.trans (Ext.trans (Ext.trans hx3 hx8) hx16) hx30) (Ext.store hx33 hx37 (by omega))) hx42)) hc0) ?_
      rintro v45 w44 ⟨rfl, hx46⟩
      have := World.grownBy.size hx46
      refine WL.vg rfl rfl rfl rfl (X.eql rfl rfl) ?_
      refine WL.va rfl rfl rfl (X.pickT rfl rfl rfl) ?_
      refine WL.va rfl rfl rfl (X.moveB rfl) ?_
      refine WL.cg rfl rfl rfl rfl (X.call Try.call12 evl_nil) (works_ok _) ?_
      rintro v49 w48 ⟨rfl, hx50⟩
      have := World.grownBy.size hx50
      refine WL.va rfl rfl rfl (X.pickT rfl rfl rfl) ?_
      refine WL.va rfl rfl rfl (X.assignB rfl) ?_
      refine WL.nil ?_
      refine thn_n ?_
      refine WF.ret ?_
      refine fin_r ?_
      exact ⟨rfl, (Ext.trans (Ext.trans (Ext.trans (Ext.trans (Ext.trans (Ext.trans (Ext.trans hx3 hx8) hx16) hx30) (Ext.store hx33 hx37 (by omega))) hx42) hx46) hx50)⟩

set_option maxHeartbeats 2000000 in
theorem messageForms_walk (v : Value) (l : List UInt8) (w : World) (hb : Bytes w v l) (_hz : l.length ≤ 140737488351232) : FnOk Try.prog 7 [v] w (fun r w' => r = .bool true ∧ Ext w w') := by
  refine FnOk.enter (rs := [2]) Try.func7 rfl Try.ntmps7 Try.results7 rfl rfl ?_
  refine WF.seq ?_
  refine WF.region ?_
  refine WL.va rfl rfl rfl (X.assignB rfl) ?_
  refine WL.nil ?_
  refine thn_n ?_
  refine WF.seq ?_
  refine WF.seq ?_
  refine WF.region ?_
  refine WL.va rfl rfl rfl (X.move rfl) ?_
  refine WL.va rfl rfl rfl (X.len hb rfl Try.underlying23) ?_
  refine WL.va rfl rfl rfl (X.gtr rfl rfl) ?_
  refine WL.nil ?_
  refine thn_n ?_
  refine WF.cond rfl (fun h0_2 => ?_) (fun h0_2 => ?_)
  · have gh0_2 := (of_decide_eq_true h0_2)
    refine WF.seq ?_
    refine WF.region ?_
    refine WL.c rfl rfl rfl (X.call Try.call12 evl_nil) (works_ok _) ?_
    rintro v5 w4 ⟨rfl, hx6⟩
    refine WL.va rfl rfl rfl (X.assignB rfl) ?_
    refine WL.nil ?_
    refine thn_n ?_
    refine WF.ret ?_
    refine thn_r ?_
    refine fin_r ?_
    exact ⟨rfl, hx6⟩
  · have gh0_2 := (of_decide_eq_false h0_2)
    refine WF.skip ?_
    refine thn_n ?_
    refine WF.seq ?_
    refine WF.region ?_
    refine WL.va rfl rfl rfl (X.move rfl) ?_
    refine WL.c rfl rfl rfl (X.call Try.call22 (evl_cons rfl evl_nil)) (get_ok v l _ (Row.ext hb (Ext.refl w)) (by omega)) ?_
    rintro v8 wG ⟨⟨p1, p2, rfl, DG, LG, EG, hG⟩, hx9⟩
    refine WL.va rfl rfl rfl (X.move rfl) ?_
    refine WL.va rfl rfl rfl (X.extract rfl rfl) ?_
    refine WL.va rfl rfl rfl (X.extract rfl rfl) ?_
    refine WL.op rfl (OW.allocO (cs := [i64 0, i64 0, i64 0, i64 0, i64 0, i64 0, i64 0, i64 0, i64 0, i64 0, i64 0, i64 0, i64 0, i64 0, .bool false, .slice none 0 0, .slice none 0 0]) Try.zeroValue25 rfl ?_ (by decide))
    intro g3 w10 heg3 hlg3 hO3 hx12
    have := World.grownBy.size hx12
    refine WL.op rfl (OW.storeOA hO3 rfl rfl rfl hG.at.ones Try.sizeOf25 ?_)
    intro w14 hO3 hx16
    have := World.grownBy.size hx16
    refine WL.va rfl rfl rfl (X.assignI rfl) ?_
    refine WL.nil ?_
    refine thn_n ?_
    refine WF.seq ?_
    refine WF.seq ?_
    refine WF.region ?_
    refine WL.va rfl rfl rfl (X.moveI rfl) ?_
    refine WL.va rfl rfl rfl (X.neq rfl rfl) ?_
    refine WL.nil ?_
    refine thn_n ?_
    refine WF.cond rfl (fun h1_18 => ?_) (fun h1_18 => ?_)
    · have gh1_18 := (of_decide_eq_true h1_18)
      have hno := got_bad (b := l) gh1_18
      refine WF.seq ?_
      refine WF.region ?_
      refine WL.va rfl rfl rfl (X.loadOA hO3 (Ext.refl _) rfl rfl Try.isAgg25 Try.sizeOf25) ?_
      refine WL.va rfl rfl rfl (X.buildT (P := Try.prog) (t := 25) (cs := (mc noMg.n noMg.ok (.slice none 0 0) (.slice none 0 0))) (zs := [i64 0, i64 0, i64 0, i64 0, i64 0, i64 0, i64 0, i64 0, i64 0, i64 0, i64 0, i64 0, i64 0, i64 0, .bool false, .slice none 0 0, .slice none 0 0]) (places := [(0, 1), (1, 1), (2, 1), (3, 1), (4, 1), (5, 1), (6, 1), (7, 1), (8, 1), (9, 1), (10, 1), (11, 1), (12, 1), (13, 1), (14, 1), (15, 1), (16, 1)]) (n := 17) evp_nil Try.type25 Try.underlying25 rfl rfl trivial rfl rfl rfl) ?_
      refine WL.c rfl rfl rfl (X.call Try.call20 (evl_cons rfl (evl_cons rfl evl_nil))) (sameMsg_eq (hG.at.ext (Ext.store hx12 hx16 (by omega))) (noMg_O _ 0).at hno) ?_
      rintro v21 w20 ⟨rfl, hx22⟩
      have := World.grownBy.size hx22
      refine WL.va rfl rfl rfl (X.moveB rfl) ?_
      refine WL.cg rfl rfl rfl rfl (X.call Try.call12 evl_nil) (works_ok _) ?_
      rintro v25 w24 ⟨rfl, hx26⟩
      have := World.grownBy.size hx26
      refine WL.va rfl rfl rfl (X.pickT rfl rfl rfl) ?_
      refine WL.va rfl rfl rfl (X.assignB rfl) ?_
      refine WL.nil ?_
      refine thn_n ?_
      refine WF.ret ?_
      refine thn_r ?_
      refine fin_r ?_
      exact ⟨rfl, (Ext.trans (Ext.trans (Ext.trans hx9 (Ext.store hx12 hx16 (by omega))) hx22) hx26)⟩
    · have gh1_18 := (Decidable.of_not_not (of_decide_eq_false h1_18))
      have hon := got_only (b := l) gh1_18
      refine WF.skip ?_
      refine thn_n ?_
      refine WF.seq ?_
      refine WF.region ?_
      refine WL.va rfl rfl rfl (X.loadOA hO3 (Ext.refl _) rfl rfl Try.isAgg25 Try.sizeOf25) ?_
      refine WL.c rfl rfl rfl (X.call Try.call16 (evl_cons rfl evl_nil)) (put_z (hG.at.ext (Ext.store hx12 hx16 (by omega))) hon.1) ?_
      rintro v28 wc ⟨⟨vc, rfl, oc1⟩, hx29⟩
      have := World.grownBy.size hx29
      refine WL.va rfl rfl rfl (X.move rfl) ?_
      refine WL.va rfl rfl rfl (X.extract rfl rfl) ?_
      refine WL.va rfl rfl rfl (X.extract rfl rfl) ?_
      refine WL.va rfl rfl rfl (X.assign rfl) ?_
      refine WL.va rfl rfl rfl (X.assignI rfl) ?_
      refine WL.nil ?_
      refine thn_n ?_
      refine WF.seq ?_
      refine WF.region ?_
      refine WL.va rfl rfl rfl (X.moveI rfl) ?_
      refine WL.va rfl rfl rfl (X.eql rfl rfl) ?_
      refine WL.va rfl rfl rfl (X.moveB rfl) ?_
      refine WL.vg rfl rfl rfl rfl (X.move rfl) ?_
      refine WL.vg rfl rfl rfl rfl (X.move rfl) ?_
      refine WL.cg rfl rfl rfl rfl (X.call Try.call18 (evl_cons rfl (evl_cons rfl evl_nil))) (sameBytes_self (Row.ext (Bytes.of_own oc1) (Ext.refl wc)) (Row.ext hb (Ext.trans (Ext.trans hx9 (Ext.store hx12 hx16 (by omega))) hx29)) hon.2) ?_
      rintro v32 w31 ⟨rfl, hx33⟩
      have := World.grownBy.size hx33
      refine WL.va rfl rfl rfl (X.pickT rfl rfl rfl) ?_
      refine WL.va rfl rfl rfl (X.moveB rfl) ?_
      refine WL.cg rfl rfl rfl rfl (X.call Try.call12 evl_nil) (works_ok _) ?_
      rintro v36 w35 ⟨rfl, hx37⟩
      have := World.grownBy.size hx37
      refine WL.va rfl rfl rfl (X.pickT rfl rfl rfl) ?_
      refine WL.va rfl rfl rfl (X.assignB rfl) ?_
      refine WL.nil ?_
      refine thn_n ?_
      refine WF.ret ?_
      refine fin_r ?_
      exact ⟨rfl, (Ext.trans (Ext.trans (Ext.trans (Ext.trans hx9 (Ext.store hx12 hx16 (by omega))) hx29) hx33) hx37)⟩

end Go.Proofs.Ytccbpfbcaogcnaa
