/- The walk of the reference's lists. -/
import Derived.Test.YthaojdpeimlngaaOpZ
namespace Go.Proofs.Ythaojdpeimlngaa
open Go Go.RowKit Kf
set_option maxRecDepth 20000

/-- writes in memory of their own, all of it below T -/
structure WOwnT (w : World) (B T : Nat) (v : Value) (E : List WV) : Prop where
  own : WOwn w B v E
  top : WOwn.below T v E
theorem WOwnT.of {w : World} {B : Nat} {v : Value} {E : List WV} (h : WOwn w B v E) : WOwnT w B w.heap.size v E := ⟨h, h.under⟩
theorem WOwnT.kept {w w' : World} {B T : Nat} {v : Value} {E : List WV} {row : Option Nat} (h : WOwnT w B T v E) (k : w.grownBy w' row) (hne : ∀ g, row = some g → g < B ∨ T ≤ g) : WOwnT w' B T v E := by
  have key : ∀ {u : Value}, (∀ b, u.ownBlock = some b → B ≤ b ∧ b < T) → u.ownBlock = none ∨ u.ownBlock ≠ row := fun {u} hu => by
    cases hb : u.ownBlock with
    | none => exact .inl rfl
    | some b =>
      right
      intro e
      have h1 := hu b hb
      have h2 := hne b e.symm
      omega
  exact ⟨⟨h.own.row.kept k (key fun b hb => ⟨(h.own.row.lt b hb).1, h.top.1 b hb⟩), fun e he => (h.own.data e he).kept k (key fun b hb => ⟨((h.own.data e he).lt b hb).1, h.top.2 e he b hb⟩), h.own.off, h.own.pair⟩, h.top⟩
theorem WOwnT.ext {w w' : World} {B T : Nat} {v : Value} {E : List WV} (h : WOwnT w B T v E) (k : Ext w w') : WOwnT w' B T v E := ⟨h.own.ext k, h.top⟩
theorem WOwnT.keptO {w w' : World} {B T g : Nat} {v : Value} {E : List WV} (h : WOwnT w B T v E) (k : w.grownBy w' (some g)) (hne : g < B ∨ T ≤ g) : WOwnT w' B T v E := h.kept k fun b hb => by injection hb with hb; omega
/-- a write behind the others, its bytes in newer memory -/
theorem WOwnT.app {w w' : World} {B T : Nat} {v v' dv : Value} {E : List WV} {s : Wr} (h : WOwnT w B T v E) (hd : OwnB w T 5 dv s.Data) (hr : w'.ownsRow B 52 2 v' (E.length + 1) (E.flatMap WV.c ++ WV.c (s, dv))) (k : w.grownBy w' v.ownBlock) (hm : Moved w v v') (hB : B ≤ T) : WOwnT w' B w'.heap.size v' (E ++ [(s, dv)]) := by
  have hdv : Apart dv v := fun b h1 h2 => by have := (hd.lt b h1).1; have := h.top.1 b h2; omega
  refine WOwnT.of ⟨by simpa [List.flatMap_append] using hr, fun e he => ?_, fun e he => ?_, ?_⟩
  · rcases List.mem_append.1 he with he | he
    · exact (h.own.data e he).kept k (h.own.off e he).ne
    · rw [List.mem_singleton] at he; subst he; exact own_mono (hd.kept k hdv.ne) hB
  · rcases List.mem_append.1 he with he | he
    · exact Apart.moved (h.own.off e he) (h.own.data e he) hm
    · rw [List.mem_singleton] at he; subst he; exact Apart.moved hdv hd hm
  · rw [List.pairwise_append]
    refine ⟨h.own.pair, List.pairwise_singleton _ _, fun a ha b hb => ?_⟩
    rw [List.mem_singleton] at hb; subst hb
    intro q h1 h2
    have := h.top.2 a ha q h1
    have := (hd.lt q h2).1
    omega
/-- an operation's lists in memory of their own -/
def LsOwn (w : World) (B : Nat) (v1 v2 v3 : Value) (o : Od) : Prop := OwnI w B 3 v1 o.P ∧ OwnI w B 3 v2 o.R ∧ (∃ F, F.map Prod.fst = o.W ∧ WOwn w B v3 F) ∧ o.D = []
theorem oc_ones (n : List Int) {a b c d : Value} (ha : a.oneCell' = true) (hb : b.oneCell' = true) (hc : c.oneCell' = true) (hd : d.oneCell' = true) : ∀ u ∈ oc n a b c d, u.oneCell' = true := by
  intro u hu
  simp only [oc, List.mem_cons, List.not_mem_nil, or_false] at hu
  rcases hu with rfl | rfl | rfl | rfl | rfl | rfl | rfl | rfl | rfl | rfl | rfl | rfl | rfl | rfl | rfl | rfl | rfl
  all_goals first | rfl | assumption
set_option maxHeartbeats 4000000 in
theorem lists_ok (x vb : Value) (L : List UInt8) (a : Nat) (s : Pk.RS) (n : List Int) (w : World) (B : Nat) (h : RR w B x vb L a s) (hn : n.length = 13) (hL : s.left.length ≤ 1000000) : FnOk Try.prog 69 [agg (oc n (.slice none 0 0) (.slice none 0 0) (.slice none 0 0) (.slice none 0 0)), x] w (fun r w' => (∃ v1 v2 v3 a' s', r = agg (oc n v1 v2 v3 (.slice none 0 0)) ∧ (∀ u ∈ oc n v1 v2 v3 (.slice none 0 0), u.oneCell' = true) ∧ RR w' B x vb L a' s' ∧ ((getL n s = none ∧ s'.bad = true) ∨ ∃ o, getL n s = some (o, s') ∧ o.n = n ∧ LsOwn w' w.heap.size v1 v2 v3 o)) ∧ w.grownBy w' (asRow x).ownBlock) := by
  have hrl := h.lt.1
  have hDl := h.lt.2
  have le1 := ints_le s
  have le2 := ints_le s.ints.2
  have le3 := int_le s.ints.2.ints.2
  refine FnOk.enterC (rs := [.cell 4 26]) Try.func69 rfl Try.ntmps69 Try.results69 rfl rfl ?_
  refine WF.seq ?_
  refine WF.region ?_
  refine WL.op rfl (OW.boxA (cs := _) rfl ?_ (by decide))
  intro g2 w1 heg2 hlg2 hO2 hx3
  have := World.grownBy.size hx3
  refine WL.op rfl (OW.allocO (cs := [i64 0, i64 0, i64 0, i64 0, i64 0, i64 0, i64 0, i64 0, i64 0, i64 0, i64 0, i64 0, i64 0, .slice none 0 0, .slice none 0 0, .slice none 0 0, .slice none 0 0]) Try.zeroValue26 rfl ?_ (by decide))
  intro g4 wZ heg4 hlg4 hO4 hx6
  have := World.grownBy.size hx6
  have gI := (show Ext w wZ from (Ext.trans hx3 hx6))
  have hzI := World.grownBy.size gI
  refine WL.nil ?_
  refine thn_n ?_
  refine WF.seq ?_
  refine WF.region ?_
  refine WL.va rfl rfl rfl (X.move rfl) ?_
  refine WL.c rfl rfl rfl (X.call Try.call88 (evl_cons rfl evl_nil)) (qInts_ok x vb L a s _ B (h.ext (show Ext w wZ from (Ext.trans hx3 hx6)))) ?_
  rintro v1 wP ⟨oP0, ⟨a1, h1⟩, hx8⟩
  have := World.grownBy.size hx8
  replace hO2 := (hO2.ext hx6).keptR hx8 (fun b hb => by have := (hrl b hb).2; omega)
  replace hO4 := hO4.keptR hx8 (fun b hb => by have := (hrl b hb).2; omega)
  have oP := OwnT.of oP0
  have qg1 := ext_grown gI hx8
  refine WL.va rfl rfl rfl (X.fieldAddrO (off := 13) rfl Try.underlying26 rfl rfl Try.sizeOf22) ?_
  refine WL.op rfl (OW.storeO hO2 (Nat.le_of_ble_eq_true rfl) rfl rfl (own_one oP.own) Try.sizeOf22 ?_)
  intro wPs hO2 hx10
  have := World.grownBy.size hx10
  replace hO4 := hO4.keptO hx10 (by omega)
  replace oP := oP.keptO hx10 (by omega)
  replace hO2 : Blk _ _ _ (oc n v1 (.slice none 0 0) (.slice none 0 0) (.slice none 0 0)) := hO2
  have h1s := h1.kept hx10 (.inr fun e => by have := (hrl _ e).2; omega) (.inr fun e => by have := (hDl _ e).2; omega)
  have qg1s := grown_nw qg1 hx10 (fun i hi => by injection hi with hi; omega)
  refine WL.nil ?_
  refine thn_n ?_
  refine WF.seq ?_
  refine WF.region ?_
  refine WL.va rfl rfl rfl (X.move rfl) ?_
  refine WL.c rfl rfl rfl (X.call Try.call88 (evl_cons rfl evl_nil)) (qInts_ok x vb L a1 _ _ B h1s) ?_
  rintro v2 wR ⟨oR0, ⟨a2, h2⟩, hx12⟩
  have := World.grownBy.size hx12
  replace hO2 := hO2.keptR hx12 (fun b hb => by have := (hrl b hb).2; omega)
  replace hO4 := hO4.keptR hx12 (fun b hb => by have := (hrl b hb).2; omega)
  replace oP := oP.kept hx12 (fun b hb => by have := (hrl b hb).2; omega)
  have oR := OwnT.of oR0
  have qg2 := grown2 qg1s hx12
  refine WL.va rfl rfl rfl (X.fieldAddrO (off := 14) rfl Try.underlying26 rfl rfl Try.sizeOf22) ?_
  refine WL.op rfl (OW.storeO hO2 (Nat.le_of_ble_eq_true rfl) rfl rfl (own_one oR.own) Try.sizeOf22 ?_)
  intro w13 hO2 hx15
  have := World.grownBy.size hx15
  replace hO4 := hO4.keptO hx15 (by omega)
  replace oP := oP.keptO hx15 (by omega)
  replace oR := oR.keptO hx15 (by omega)
  replace hO2 : Blk _ _ _ (oc n v1 v2 (.slice none 0 0) (.slice none 0 0)) := hO2
  have h2s := h2.kept hx15 (.inr fun e => by have := (hrl _ e).2; omega) (.inr fun e => by have := (hDl _ e).2; omega)
  have qg2s := grown_nw qg2 hx15 (fun i hi => by injection hi with hi; omega)
  refine WL.nil ?_
  refine thn_n ?_
  refine WF.seq ?_
  refine WF.region ?_
  refine WL.va rfl rfl rfl (X.move rfl) ?_
  refine WL.c rfl rfl rfl (X.call Try.call67 (evl_cons rfl evl_nil)) (qInt_ok x vb L a2 _ _ B h2s) ?_
  rintro v17 wI ⟨rfl, ⟨a3, h3⟩, hx18⟩
  have := World.grownBy.size hx18
  replace hO2 := hO2.keptR hx18 (fun b hb => by have := (hrl b hb).2; omega)
  replace hO4 := hO4.keptR hx18 (fun b hb => by have := (hrl b hb).2; omega)
  replace oP := oP.kept hx18 (fun b hb => by have := (hrl b hb).2; omega)
  replace oR := oR.kept hx18 (fun b hb => by have := (hrl b hb).2; omega)
  have qg3 := grown2 qg2s hx18
  refine WL.va rfl rfl rfl (X.assignI rfl) ?_
  refine WL.nil ?_
  refine thn_n ?_
  refine WF.seq ?_
  refine WF.seq ?_
  refine WF.region ?_
  refine WL.va rfl rfl rfl (X.moveI rfl) ?_
  refine WL.va rfl rfl rfl (X.lss rfl rfl) ?_
  refine WL.va rfl rfl rfl (X.moveB rfl) ?_
  refine WL.split (j := 2) rfl (fun h20 => ?_) (fun h20 => ?_)
  · have gh20 := (of_decide_eq_true h20)
    refine WL.p rfl rfl rfl (congrArg some h20) ?_
    refine WL.p rfl rfl rfl (congrArg some h20) ?_
    refine WL.p rfl rfl rfl (congrArg some h20) ?_
    refine WL.p rfl rfl rfl (congrArg some h20) ?_
    refine WL.p rfl rfl rfl (congrArg some h20) ?_
    refine WL.va rfl rfl rfl (X.pickT rfl h20 rfl) ?_
    refine WL.nil ?_
    refine thn_n ?_
    refine WF.cond_t rfl ?_
    refine WF.seq ?_
    refine WF.region ?_
    refine WL.va rfl rfl rfl (X.move rfl) ?_
    refine WL.va rfl rfl rfl (X.nilCheckV h3.var rfl) ?_
    refine WL.va rfl rfl rfl (X.fieldAddr h3.var rfl Try.underlying102 rfl rfl Try.sizeOf4) ?_
    refine WL.op rfl (OW.storeF h3.var (by decide) rfl rfl rfl Try.sizeOf4 ?_)
    intro w22 ho25 hx24
    have := World.grownBy.size hx24
    replace hO2 := hO2.keptR hx24 (fun b hb => by have := (hrl b hb).2; omega)
    replace hO4 := hO4.keptR hx24 (fun b hb => by have := (hrl b hb).2; omega)
    replace oP := oP.kept hx24 (fun b hb => by have := (hrl b hb).2; omega)
    replace oR := oR.kept hx24 (fun b hb => by have := (hrl b hb).2; omega)
    have hdead0 := h3.failed (show Var w22 B 102 3 x [vb, i64 (a3 : Int), .bool true] from ho25) hx24
    have gF := grown2 qg3 hx24
    refine WL.nil ?_
    refine thn_n ?_
    refine WF.seq ?_
    refine WF.region ?_
    refine WL.va rfl rfl rfl (X.loadOA hO2 (Ext.refl _) rfl rfl Try.isAgg26 Try.sizeOf26) ?_
    have hN : getL n s = none := getL_none (by omega)
    have hones := oc_ones n (own_one oP.own) (own_one oR.own) (show Value.oneCell' (.slice none 0 0) = true from rfl) (show Value.oneCell' (.slice none 0 0) = true from rfl)
    refine WL.op rfl (OW.storeOA hO4 rfl rfl rfl hones Try.sizeOf26 ?_)
    intro w26 hO4 hx28
    have := World.grownBy.size hx28
    replace hO2 := hO2.keptO hx28 (by omega)
    replace oP := oP.keptO hx28 (by omega)
    replace oR := oR.keptO hx28 (by omega)
    have hdead := hdead0.kept hx28 (.inr fun e => by have := (hrl _ e).2; omega) (.inr fun e => by have := (hDl _ e).2; omega)
    have gRet := grown_nw gF hx28 (fun i hi => by injection hi with hi; omega)
    refine WL.nil ?_
    refine thn_n ?_
    refine WF.ret ?_
    refine thn_r ?_
    refine finC_r (vs := [_]) ⟨⟨_, rfl, readO hO4 Try.isAgg26 Try.sizeOf26⟩, trivial⟩ ?_
    exact ⟨⟨v1, v2, _, _, _, rfl, hones, hdead, .inl ⟨hN, rfl⟩⟩, gRet⟩
  · have gh20 := (of_decide_eq_false h20)
    refine WL.vg rfl (congrArg some h20) rfl rfl (X.moveI rfl) ?_
    refine WL.vg rfl (congrArg some h20) rfl rfl (X.move rfl) ?_
    refine WL.cg rfl (congrArg some h20) rfl rfl (X.call Try.call87 (evl_cons rfl evl_nil)) (qLeft_ok x vb L a3 _ _ B h3) ?_
    rintro v30 wlf ⟨rfl, hx31⟩
    have := World.grownBy.size hx31
    have h4 := h3.ext hx31
    have qg4 := grown_ext qg3 hx31
    refine WL.vg rfl (congrArg some h20) rfl rfl (X.quo rfl rfl (by omega) (IntWalk.i64_quo _ _ (by omega))) ?_
    refine WL.vg rfl (congrArg some h20) rfl rfl (X.gtr rfl rfl) ?_
    refine WL.va rfl rfl rfl (X.pickF rfl h20 rfl) ?_
    refine WL.nil ?_
    refine thn_n ?_
    refine WF.cond rfl (fun h0_32 => ?_) (fun h0_32 => ?_)
    · have gh0_32 := (of_decide_eq_true h0_32)
      refine WF.seq ?_
      refine WF.region ?_
      refine WL.va rfl rfl rfl (X.move rfl) ?_
      refine WL.va rfl rfl rfl (X.nilCheckV h4.var rfl) ?_
      refine WL.va rfl rfl rfl (X.fieldAddr h4.var rfl Try.underlying102 rfl rfl Try.sizeOf4) ?_
      refine WL.op rfl (OW.storeF h4.var (by decide) rfl rfl rfl Try.sizeOf4 ?_)
      intro w34 ho37 hx36
      have := World.grownBy.size hx36
      replace hO2 := (hO2.ext hx31).keptR hx36 (fun b hb => by have := (hrl b hb).2; omega)
      replace hO4 := (hO4.ext hx31).keptR hx36 (fun b hb => by have := (hrl b hb).2; omega)
      replace oP := (oP.ext hx31).kept hx36 (fun b hb => by have := (hrl b hb).2; omega)
      replace oR := (oR.ext hx31).kept hx36 (fun b hb => by have := (hrl b hb).2; omega)
      have hdead0 := h4.failed (show Var w34 B 102 3 x [vb, i64 (a3 : Int), .bool true] from ho37) hx36
      have gF := grown2 qg4 hx36
      refine WL.nil ?_
      refine thn_n ?_
      refine WF.seq ?_
      refine WF.region ?_
      refine WL.va rfl rfl rfl (X.loadOA hO2 (Ext.refl _) rfl rfl Try.isAgg26 Try.sizeOf26) ?_
      have hN : getL n s = none := getL_none (by omega)
      have hones := oc_ones n (own_one oP.own) (own_one oR.own) (show Value.oneCell' (.slice none 0 0) = true from rfl) (show Value.oneCell' (.slice none 0 0) = true from rfl)
      refine WL.op rfl (OW.storeOA hO4 rfl rfl rfl hones Try.sizeOf26 ?_)
      intro w38 hO4 hx40
      have := World.grownBy.size hx40
      replace hO2 := hO2.keptO hx40 (by omega)
      replace oP := oP.keptO hx40 (by omega)
      replace oR := oR.keptO hx40 (by omega)
      have hdead := hdead0.kept hx40 (.inr fun e => by have := (hrl _ e).2; omega) (.inr fun e => by have := (hDl _ e).2; omega)
      have gRet := grown_nw gF hx40 (fun i hi => by injection hi with hi; omega)
      refine WL.nil ?_
      refine thn_n ?_
      refine WF.ret ?_
      refine thn_r ?_
      refine finC_r (vs := [_]) ⟨⟨_, rfl, readO hO4 Try.isAgg26 Try.sizeOf26⟩, trivial⟩ ?_
      exact ⟨⟨v1, v2, _, _, _, rfl, hones, hdead, .inl ⟨hN, rfl⟩⟩, gRet⟩
    · have gh0_32 := (of_decide_eq_false h0_32)
      refine WF.skip ?_
      refine thn_n ?_
      refine WF.seq ?_
      refine WF.seq ?_
      refine WF.region ?_
      refine WL.va rfl rfl rfl (X.assignI rfl) ?_
      refine WL.nil ?_
      refine thn_n ?_
      refine WF.block ?_
      refine WF.named (fun F42 hF43 => ?_)
      refine WF.loopN (fun mL0 f' w' => ∃ (k : Nat) (v3 : Value) (E : List WV) (al : Nat) (T : Nat), mL0 = s.ints.2.ints.2.int.1.toNat - k ∧ f' 6 = .int .i64 (k : Int) ∧ Agree [0, 1, 2, 4, 5, 8, 9, 10, 11, 12, 13, 14, 15, 16, 17, 18, 19, 20, 21, 22, 23, 24] f' F42 ∧ w.grownBy w' (asRow x).ownBlock ∧ k ≤ s.ints.2.ints.2.int.1.toNat ∧ E.length = k ∧ E.map Prod.fst = (rdW s.ints.2.ints.2.int.2 k).1 ∧ RR w' B x vb L al (rdW s.ints.2.ints.2.int.2 k).2 ∧ WOwnT w' wlf.heap.size T v3 E ∧ Blk w' g2 26 (oc n v1 v2 v3 (.slice none 0 0)) ∧ Blk w' g4 26 (oc noOp.n (.slice none 0 0) (.slice none 0 0) (.slice none 0 0) (.slice none 0 0)) ∧ OwnT w' wZ.heap.size wP.heap.size 3 1 v1 s.ints.1.length (s.ints.1.map i64) ∧ OwnT w' wPs.heap.size wR.heap.size 3 1 v2 s.ints.2.ints.1.length (s.ints.2.ints.1.map i64) ∧ T ≤ w'.heap.size ∧ wlf.heap.size ≤ T) ?_ ?_
      · exact ⟨_, 0, _, [], _, _, rfl, (congrFun hF43 6), (Agree.refl _ _), qg4, ⟨Nat.zero_le _, rfl, rfl, h4, WOwnT.of (WOwn.nil _ _), (hO2.ext hx31), (hO4.ext hx31), (oP.ext hx31), (oR.ext hx31), Nat.le_refl _, Nat.le_refl _⟩⟩
      · rintro mL0 fL0 wL0 ⟨k, v3, E, al, T, hmL0, e6_L0, hAL0, hwL0, ⟨hk, hEl, hEm, hl, oW, hO2, hO4, oP, oR, hTw, hTl⟩⟩
        have hzL := World.grownBy.size hwL0
        refine WF.seq ?_
        refine WF.seq ?_
        refine WF.region ?_
        refine WL.va rfl rfl rfl (X.moveI e6_L0) ?_
        refine WL.va rfl rfl rfl (X.moveI ((hAL0.eq 5).trans (congrFun hF43 5))) ?_
        refine WL.va rfl rfl rfl (X.lss rfl rfl) ?_
        refine WL.va rfl rfl rfl (X.moveB rfl) ?_
        refine WL.split (j := 3) rfl (fun h45 => ?_) (fun h45 => ?_)
        · have gh45 := (of_decide_eq_true h45)
          refine WL.vg rfl (congrArg some h45) rfl rfl (X.move ((hAL0.eq 1).trans (congrFun hF43 1))) ?_
          refine WL.vg rfl (congrArg some h45) rfl rfl (X.nilCheckV hl.var rfl) ?_
          refine WL.vg rfl (congrArg some h45) rfl rfl (X.fieldAddr hl.var rfl Try.underlying102 rfl rfl Try.sizeOf4) ?_
          refine WL.vg rfl (congrArg some h45) rfl rfl (X.loadF hl.var (Ext.refl _) rfl rfl Try.isAgg4) ?_
          refine WL.vg rfl (congrArg some h45) rfl rfl (X.not rfl) ?_
          refine WL.va rfl rfl rfl (X.pickT rfl h45 rfl) ?_
          refine WL.nil ?_
          refine thn_n ?_
          refine WF.cond rfl (fun h1_47 => ?_) (fun h1_47 => ?_)
          · have gh1_47 := (nt h1_47)
            refine WF.skip ?_
            refine thn_n ?_
            refine WF.seq ?_
            refine WF.block ?_
            refine WF.seq ?_
            refine WF.region ?_
            refine WL.va rfl rfl rfl (X.move ((hAL0.eq 1).trans (congrFun hF43 1))) ?_
            refine WL.c rfl rfl rfl (X.call Try.call67 (evl_cons rfl evl_nil)) (qInt_ok x vb L al _ _ B hl) ?_
            rintro v50 w49 ⟨rfl, ⟨a5, h5⟩, hx51⟩
            have := World.grownBy.size hx51
            replace hO2 := hO2.keptR hx51 (fun b hb => by have := (hrl b hb).2; omega)
            replace hO4 := hO4.keptR hx51 (fun b hb => by have := (hrl b hb).2; omega)
            replace oP := oP.kept hx51 (fun b hb => by have := (hrl b hb).2; omega)
            replace oR := oR.kept hx51 (fun b hb => by have := (hrl b hb).2; omega)
            replace oW := oW.kept hx51 (fun b hb => by have := (hrl b hb).2; omega)
            have gk1 := grown2 hwL0 hx51
            refine WL.va rfl rfl rfl (X.buildL (P := Try.prog) (t := 52) (cs := [i64 (rdW s.ints.2.ints.2.int.2 k).2.int.1, .slice none 0 0]) (evp_cons rfl evp_nil) Try.type52 Try.underlying52 rfl rfl ⟨rfl, trivial⟩ rfl) ?_
            refine WL.op rfl (OW.allocO (cs := [i64 0, .slice none 0 0]) Try.zeroValue52 rfl ?_ (by decide))
            intro g7 w52 heg7 hlg7 hO7 hx54
            have := World.grownBy.size hx54
            have gA := hx54
            have gk1a := grown_ext gk1 gA
            refine WL.op rfl (OW.storeOA hO7 rfl rfl rfl (one2 rfl) Try.sizeOf52 ?_)
            intro w56 hO7 hx58
            have := World.grownBy.size hx58
            replace hO2 := (hO2.ext hx54).keptO hx58 (by omega)
            replace hO4 := (hO4.ext hx54).keptO hx58 (by omega)
            replace oP := (oP.ext hx54).keptO hx58 (by omega)
            replace oR := (oR.ext hx54).keptO hx58 (by omega)
            replace oW := (oW.ext hx54).keptO hx58 (by omega)
            have h5s := (h5.ext gA).kept hx58 (.inr fun e => by have := (hrl _ e).2; omega) (.inr fun e => by have := (hDl _ e).2; omega)
            have gk1s := grown_nw gk1a hx58 (fun i hi => by injection hi with hi; omega)
            refine WL.nil ?_
            refine thn_n ?_
            refine WF.seq ?_
            refine WF.region ?_
            refine WL.va rfl rfl rfl (X.move ((hAL0.eq 1).trans (congrFun hF43 1))) ?_
            refine WL.c rfl rfl rfl (X.call Try.call70 (evl_cons rfl evl_nil)) (qBlob_ok x vb L a5 _ _ B h5s) ?_
            rintro vd w60 ⟨od0, ⟨a6, h6⟩, hx61⟩
            have := World.grownBy.size hx61
            replace hO2 := hO2.keptR hx61 (fun b hb => by have := (hrl b hb).2; omega)
            replace hO4 := hO4.keptR hx61 (fun b hb => by have := (hrl b hb).2; omega)
            replace oP := oP.kept hx61 (fun b hb => by have := (hrl b hb).2; omega)
            replace oR := oR.kept hx61 (fun b hb => by have := (hrl b hb).2; omega)
            replace oW := oW.kept hx61 (fun b hb => by have := (hrl b hb).2; omega)
            replace hO7 := hO7.keptR hx61 (fun b hb => by have := (hrl b hb).2; omega)
            have gk2 := grown2 gk1s hx61
            refine WL.va rfl rfl rfl (X.fieldAddrO (off := 1) rfl Try.underlying52 rfl rfl Try.sizeOf24) ?_
            refine WL.op rfl (OW.storeO hO7 (Nat.le_of_ble_eq_true rfl) rfl rfl (own_one od0) Try.sizeOf24 ?_)
            intro w62 hO7 hx65
            have := World.grownBy.size hx65
            replace hO2 := hO2.keptO hx65 (by omega)
            replace hO4 := hO4.keptO hx65 (by omega)
            replace oP := oP.keptO hx65 (by omega)
            replace oR := oR.keptO hx65 (by omega)
            replace oW := oW.keptO hx65 (by omega)
            have od2 : OwnB w62 T 5 vd (rdW s.ints.2.ints.2.int.2 k).2.int.2.blob.1 := own_mono (own_keptO od0 hx65 (.inl (by omega))) (by omega)
            have h6s := h6.kept hx65 (.inr fun e => by have := (hrl _ e).2; omega) (.inr fun e => by have := (hDl _ e).2; omega)
            have gk2s := grown_nw gk2 hx65 (fun i hi => by injection hi with hi; omega)
            refine WL.nil ?_
            refine thn_n ?_
            refine WF.region ?_
            refine WL.va rfl rfl rfl (X.fieldAddrO (off := 15) ((hAL0.eq 2).trans (congrFun hF43 2)) Try.underlying26 rfl rfl Try.sizeOf23) ?_
            refine WL.va rfl rfl rfl (X.loadO hO2 (Ext.refl _) rfl rfl Try.isAgg23) ?_
            refine WL.va rfl rfl rfl (X.loadOA hO7 (Ext.refl _) rfl rfl Try.isAgg52 Try.sizeOf52) ?_
            refine WL.op rfl (OW.lits (vs := [agg (WV.c ((⟨(rdW s.ints.2.ints.2.int.2 k).2.int.1, (rdW s.ints.2.ints.2.int.2 k).2.int.2.blob.1⟩ : Wr), vd))]) (evp_cons rfl evp_nil) Try.underlying23 Try.sizeOf52 Try.zeroValue52 ⟨rfl, trivial⟩ rfl rfl rfl ?_ (by decide))
            intro v68 w67 ho70 hx69
            have := World.grownBy.size hx69
            have o1 : World.ownsRow w67 _ 52 2 v68 1 (WV.c ((⟨(rdW s.ints.2.ints.2.int.2 k).2.int.1, (rdW s.ints.2.ints.2.int.2 k).2.int.2.blob.1⟩ : Wr), vd)) := ho70
            have od3 := own_ext od2 hx69
            have h6t := h6s.ext hx69
            have gk3 := grown_ext gk2s hx69
            have oWb := (oW.ext hx69)
            refine WL.op rfl (OW.append (bytes := 32) ((oW.ext hx69)).own.row (Row.of_own o1) (WV.c_one (e := ((⟨(rdW s.ints.2.ints.2.int.2 k).2.int.1, (rdW s.ints.2.ints.2.int.2 k).2.int.2.blob.1⟩ : Wr), vd)) (Bytes.of_own od3)) rfl rfl Try.underlying23 Try.type52 rfl rfl rfl rfl (by decide) (by unfold maxLen; omega) (by omega) (by omega) ?_ (by decide))
            intro v3n w71 ho73 hx72 hmvhx72
            have := World.grownBy.size hx72
            replace hO2 := (hO2.ext hx69).keptR hx72 (fun b hb => by have h1 := (((oW.ext hx69)).own.row.lt b hb).1; have h2 := ((oW.ext hx69)).top.1 b hb; omega)
            replace hO4 := (hO4.ext hx69).keptR hx72 (fun b hb => by have h1 := (((oW.ext hx69)).own.row.lt b hb).1; have h2 := ((oW.ext hx69)).top.1 b hb; omega)
            replace oP := (oP.ext hx69).kept hx72 (fun b hb => by have h1 := (((oW.ext hx69)).own.row.lt b hb).1; have h2 := ((oW.ext hx69)).top.1 b hb; omega)
            replace oR := (oR.ext hx69).kept hx72 (fun b hb => by have h1 := (((oW.ext hx69)).own.row.lt b hb).1; have h2 := ((oW.ext hx69)).top.1 b hb; omega)
            replace hO7 := (hO7.ext hx69).keptR hx72 (fun b hb => by have h1 := (((oW.ext hx69)).own.row.lt b hb).1; have h2 := ((oW.ext hx69)).top.1 b hb; omega)
            have hr3 := ho73
            have h7 := h6t.kept hx72 (ne_of (fun b hb => (hrl b hb).2) (fun b hb => by have := (oW.own.row.lt b hb).1; omega)) (ne_of (fun b hb => (hDl b hb).2) (fun b hb => by have := (oW.own.row.lt b hb).1; omega))
            have gk4 := grown_nw gk3 hx72 (fun i hi => by have := (oW.own.row.lt i hi).1; omega)
            replace oW := WOwnT.app (s := (((⟨(rdW s.ints.2.ints.2.int.2 k).2.int.1, (rdW s.ints.2.ints.2.int.2 k).2.int.2.blob.1⟩ : Wr), vd)).1) oWb od3 hr3 hx72 hmvhx72 (by omega)
            refine WL.va rfl rfl rfl (X.fieldAddrO (off := 15) ((hAL0.eq 2).trans (congrFun hF43 2)) Try.underlying26 rfl rfl Try.sizeOf23) ?_
            refine WL.op rfl (OW.storeO hO2 (Nat.le_of_ble_eq_true rfl) rfl rfl (own_one hr3) Try.sizeOf23 ?_)
            intro w74 hO2 hx76
            have := World.grownBy.size hx76
            replace hO4 := hO4.keptO hx76 (by omega)
            replace oP := oP.keptO hx76 (by omega)
            replace oR := oR.keptO hx76 (by omega)
            replace oW := oW.keptO hx76 (by omega)
            replace hO7 := hO7.keptO hx76 (by omega)
            replace hO2 : Blk _ _ _ (oc n v1 v2 v3n (.slice none 0 0)) := hO2
            have h8 := h7.kept hx76 (.inr fun e => by have := (hrl _ e).2; omega) (.inr fun e => by have := (hDl _ e).2; omega)
            have gk5 := grown_nw gk4 hx76 (fun i hi => by injection hi with hi; omega)
            refine WL.nil ?_
            refine blk_n ?_
            refine thn_n ?_
            refine WF.region ?_
            refine WL.va rfl rfl rfl (X.moveI e6_L0) ?_
            refine WL.va rfl rfl rfl (X.add rfl rfl (w64 (by omega))) ?_
            refine WL.va rfl rfl rfl (X.assignI rfl) ?_
            refine WL.nil ?_
            exact thn_n ⟨_, (by omega), k + 1, _, _, _, _, rfl, rfl, (by repeat (first | exact hAL0 | refine Agree.put ?_ rfl | refine Agree.named hF43 ?_)), gk5, ⟨by omega, by simp [hEl], by rw [List.map_append, hEm]; rfl, h8, oW, hO2, hO4, oP, oR, by omega, by omega⟩⟩
          · have gh1_47 := (nf h1_47)
            refine WF.exit ?_
            refine thn_x ?_
            refine thn_x ?_
            refine blk_eq ?_
            refine thn_n ?_
            refine WF.seq ?_
            refine WF.region ?_
            refine WL.va rfl rfl rfl (X.loadOA hO2 (Ext.refl _) ((hAL0.eq 2).trans (congrFun hF43 2)) rfl Try.isAgg26 Try.sizeOf26) ?_
            have hones := oc_ones n (own_one oP.own) (own_one oR.own) (own_one oW.own.row) (show Value.oneCell' (.slice none 0 0) = true from rfl)
            refine WL.op rfl (OW.storeOA hO4 ((hAL0.eq 4).trans (congrFun hF43 4)) rfl rfl hones Try.sizeOf26 ?_)
            intro w78 hO4 hx80
            have := World.grownBy.size hx80
            replace hO2 := hO2.keptO hx80 (by omega)
            replace oP := oP.keptO hx80 (by omega)
            replace oR := oR.keptO hx80 (by omega)
            replace oW := oW.keptO hx80 (by omega)
            have hlast := hl.kept hx80 (.inr fun e => by have := (hrl _ e).2; omega) (.inr fun e => by have := (hDl _ e).2; omega)
            have gRet := grown_nw hwL0 hx80 (fun i hi => by injection hi with hi; omega)
            refine WL.nil ?_
            refine thn_n ?_
            refine WF.ret ?_
            refine finC_r (vs := [_]) ⟨⟨_, ((hAL0.eq 4).trans (congrFun hF43 4)), readO hO4 Try.isAgg26 Try.sizeOf26⟩, trivial⟩ ?_
            refine ⟨⟨v1, v2, v3, _, _, rfl, hones, hlast, ?_⟩, gRet⟩
            by_cases hbd : (rdW s.ints.2.ints.2.int.2 k).2.bad = true
            · exact .inl ⟨getL_none (.inr (.inr (rdW_bad hbd _ hk))), hbd⟩
            · have hke : k = s.ints.2.ints.2.int.1.toNat := by first | omega | exact absurd (by assumption) hbd
              rcases getL_some (n := n) (s := s) (by omega) with hq | ⟨_, hq⟩
              · exact .inr ⟨_, (by rw [hke]; exact hq), rfl, own_mono oP.own (by omega), own_mono oR.own (by omega), ⟨E, (by rw [hEm, hke]), oW.own.mono (by omega)⟩, rfl⟩
              · rw [← hke] at hq; exact absurd hq hbd
        · have gh45 := (of_decide_eq_false h45)
          refine WL.p rfl rfl rfl (congrArg some h45) ?_
          refine WL.p rfl rfl rfl (congrArg some h45) ?_
          refine WL.p rfl rfl rfl (congrArg some h45) ?_
          refine WL.p rfl rfl rfl (congrArg some h45) ?_
          refine WL.p rfl rfl rfl (congrArg some h45) ?_
          refine WL.va rfl rfl rfl (X.pickF rfl h45 rfl) ?_
          refine WL.nil ?_
          refine thn_n ?_
          refine WF.cond_f rfl ?_
          refine WF.exit ?_
          refine thn_x ?_
          refine thn_x ?_
          refine blk_eq ?_
          refine thn_n ?_
          refine WF.seq ?_
          refine WF.region ?_
          refine WL.va rfl rfl rfl (X.loadOA hO2 (Ext.refl _) ((hAL0.eq 2).trans (congrFun hF43 2)) rfl Try.isAgg26 Try.sizeOf26) ?_
          have hones := oc_ones n (own_one oP.own) (own_one oR.own) (own_one oW.own.row) (show Value.oneCell' (.slice none 0 0) = true from rfl)
          refine WL.op rfl (OW.storeOA hO4 ((hAL0.eq 4).trans (congrFun hF43 4)) rfl rfl hones Try.sizeOf26 ?_)
          intro w83 hO4 hx85
          have := World.grownBy.size hx85
          replace hO2 := hO2.keptO hx85 (by omega)
          replace oP := oP.keptO hx85 (by omega)
          replace oR := oR.keptO hx85 (by omega)
          replace oW := oW.keptO hx85 (by omega)
          have hlast := hl.kept hx85 (.inr fun e => by have := (hrl _ e).2; omega) (.inr fun e => by have := (hDl _ e).2; omega)
          have gRet := grown_nw hwL0 hx85 (fun i hi => by injection hi with hi; omega)
          refine WL.nil ?_
          refine thn_n ?_
          refine WF.ret ?_
          refine finC_r (vs := [_]) ⟨⟨_, ((hAL0.eq 4).trans (congrFun hF43 4)), readO hO4 Try.isAgg26 Try.sizeOf26⟩, trivial⟩ ?_
          refine ⟨⟨v1, v2, v3, _, _, rfl, hones, hlast, ?_⟩, gRet⟩
          by_cases hbd : (rdW s.ints.2.ints.2.int.2 k).2.bad = true
          · exact .inl ⟨getL_none (.inr (.inr (rdW_bad hbd _ hk))), hbd⟩
          · have hke : k = s.ints.2.ints.2.int.1.toNat := by first | omega | exact absurd (by assumption) hbd
            rcases getL_some (n := n) (s := s) (by omega) with hq | ⟨_, hq⟩
            · exact .inr ⟨_, (by rw [hke]; exact hq), rfl, own_mono oP.own (by omega), own_mono oR.own (by omega), ⟨E, (by rw [hEm, hke]), oW.own.mono (by omega)⟩, rfl⟩
            · rw [← hke] at hq; exact absurd hq hbd

end Go.Proofs.Ythaojdpeimlngaa
