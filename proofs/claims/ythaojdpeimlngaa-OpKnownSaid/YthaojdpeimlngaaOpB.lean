/- The walks of Check and of its parts. -/
import Derived.Test.YthaojdpeimlngaaOpN
namespace Go.Proofs.Ythaojdpeimlngaa
open Go Go.RowKit Kf
set_option maxRecDepth 20000
theorem dec_iff {p q : Prop} {i : Decidable p} {j : Decidable q} (h : p ↔ q) : decide p = decide q := decide_eq_decide.2 h
theorem dec_to {p : Prop} (q : Prop) {i : Decidable p} [Decidable q] (h : p ↔ q) : decide p = decide q := decide_eq_decide.2 h
theorem dec_f {q : Prop} {j : Decidable q} (h : ¬ q) : false = decide q := (decide_eq_false h).symm
theorem dec_t {q : Prop} {j : Decidable q} (h : q) : true = decide q := (decide_eq_true h).symm

theorem in_ok (v a b : Int) (w : World) : FnOk Try.prog 44 [i64 v, i64 a, i64 b] w (fun r w' => r = .bool (decide (a ≤ v ∧ v ≤ b)) ∧ Ext w w') := by
  refine FnOk.enter (rs := [6]) Try.func44 rfl Try.ntmps44 Try.results44 rfl rfl ?_
  refine WF.seq ?_
  refine WF.region ?_
  refine WL.va rfl rfl rfl (X.assignB rfl) ?_
  refine WL.nil ?_
  refine thn_n ?_
  refine WF.seq ?_
  refine WF.region ?_
  refine WL.va rfl rfl rfl (X.moveI rfl) ?_
  refine WL.va rfl rfl rfl (X.moveI rfl) ?_
  refine WL.va rfl rfl rfl (X.geq rfl rfl) ?_
  refine WL.va rfl rfl rfl (X.moveB rfl) ?_
  refine WL.split (j := 3) rfl (fun h3 => ?_) (fun h3 => ?_)
  · have gh3 := (of_decide_eq_true h3)
    refine WL.vg rfl (congrArg some h3) rfl rfl (X.moveI rfl) ?_
    refine WL.vg rfl (congrArg some h3) rfl rfl (X.moveI rfl) ?_
    refine WL.vg rfl (congrArg some h3) rfl rfl (X.leq rfl rfl) ?_
    refine WL.va rfl rfl rfl (X.pickT rfl h3 rfl) ?_
    refine WL.va rfl rfl rfl (X.assignB rfl) ?_
    refine WL.nil ?_
    refine thn_n ?_
    refine WF.ret ?_
    refine fin_r ?_
    exact ⟨congrArg Value.bool (by first | exact decide_eq_decide.2 (by omega) | exact (decide_eq_false (by omega)).symm | exact (decide_eq_true (by omega)).symm), (Ext.refl _)⟩
  · have gh3 := (of_decide_eq_false h3)
    refine WL.p rfl rfl rfl (congrArg some h3) ?_
    refine WL.p rfl rfl rfl (congrArg some h3) ?_
    refine WL.p rfl rfl rfl (congrArg some h3) ?_
    refine WL.va rfl rfl rfl (X.pickF rfl h3 rfl) ?_
    refine WL.va rfl rfl rfl (X.assignB rfl) ?_
    refine WL.nil ?_
    refine thn_n ?_
    refine WF.ret ?_
    refine fin_r ?_
    exact ⟨congrArg Value.bool (by first | exact decide_eq_decide.2 (by omega) | exact (decide_eq_false (by omega)).symm | exact (decide_eq_true (by omega)).symm), (Ext.refl _)⟩

theorem between_ok (v a b : Int) (w : World) : FnOk Try.prog 52 [i64 v, i64 a, i64 b] w (fun r w' => r = .bool (decide (a ≤ v ∧ v ≤ b)) ∧ Ext w w') := by
  refine FnOk.enter (rs := [6]) Try.func52 rfl Try.ntmps52 Try.results52 rfl rfl ?_
  refine WF.seq ?_
  refine WF.region ?_
  refine WL.va rfl rfl rfl (X.assignB rfl) ?_
  refine WL.nil ?_
  refine thn_n ?_
  refine WF.seq ?_
  refine WF.region ?_
  refine WL.va rfl rfl rfl (X.moveI rfl) ?_
  refine WL.va rfl rfl rfl (X.moveI rfl) ?_
  refine WL.va rfl rfl rfl (X.geq rfl rfl) ?_
  refine WL.va rfl rfl rfl (X.moveB rfl) ?_
  refine WL.split (j := 3) rfl (fun h3 => ?_) (fun h3 => ?_)
  · have gh3 := (of_decide_eq_true h3)
    refine WL.vg rfl (congrArg some h3) rfl rfl (X.moveI rfl) ?_
    refine WL.vg rfl (congrArg some h3) rfl rfl (X.moveI rfl) ?_
    refine WL.vg rfl (congrArg some h3) rfl rfl (X.leq rfl rfl) ?_
    refine WL.va rfl rfl rfl (X.pickT rfl h3 rfl) ?_
    refine WL.va rfl rfl rfl (X.assignB rfl) ?_
    refine WL.nil ?_
    refine thn_n ?_
    refine WF.ret ?_
    refine fin_r ?_
    exact ⟨congrArg Value.bool (by first | exact decide_eq_decide.2 (by omega) | exact (decide_eq_false (by omega)).symm | exact (decide_eq_true (by omega)).symm), (Ext.refl _)⟩
  · have gh3 := (of_decide_eq_false h3)
    refine WL.p rfl rfl rfl (congrArg some h3) ?_
    refine WL.p rfl rfl rfl (congrArg some h3) ?_
    refine WL.p rfl rfl rfl (congrArg some h3) ?_
    refine WL.va rfl rfl rfl (X.pickF rfl h3 rfl) ?_
    refine WL.va rfl rfl rfl (X.assignB rfl) ?_
    refine WL.nil ?_
    refine thn_n ?_
    refine WF.ret ?_
    refine fin_r ?_
    exact ⟨congrArg Value.bool (by first | exact decide_eq_decide.2 (by omega) | exact (decide_eq_false (by omega)).symm | exact (decide_eq_true (by omega)).symm), (Ext.refl _)⟩

theorem bareLit_ok (g a : Nat) (cs : List Value) (w : World) (hO : Blk w g 26 cs) (ha : a < cs.length) : FnOk Try.prog 76 [.pointer (some ⟨g, a, none⟩)] w (fun _ w' => Blk w' g 26 (cs.set a (i64 0)) ∧ w.grownBy w' (some g)) := by
  refine FnOk.enter (rs := []) Try.func76 rfl Try.ntmps76 Try.results76 rfl rfl ?_
  refine WF.region ?_
  refine WL.va rfl rfl rfl (X.move rfl) ?_
  refine WL.va rfl rfl rfl (X.nilCheck rfl) ?_
  refine WL.op rfl (OW.storeO hO ha rfl rfl rfl Try.sizeOf3 ?_)
  intro w1 hO hx3
  have := World.grownBy.size hx3
  have hgo := hx3
  refine WL.nil ?_
  refine fin_n ?_
  exact ⟨hO, hgo⟩

theorem not_zero_off (k : Int) : 0 ∉ offL k := by
  unfold offL
  cases h : offs k with
  | none => simp
  | some L =>
    intro hm
    obtain ⟨j, hj, e⟩ := List.getElem_of_mem (show 0 ∈ L from hm)
    have := offs_in h hj
    omega
set_option maxHeartbeats 2000000 in
theorem bare_ok (vP vR vW vD : Value) (o : Od) (w : World) (h : OpAt w vP vR vW vD o) (hm : o.small) : FnOk Try.prog 45 [agg (oc o.n vP vR vW vD)] w (fun r w' => r = .bool (decide o.bareP) ∧ Ext w w') := by
  obtain ⟨hmP, hmR, hmW, hmD, hmWD⟩ := hm
  obtain ⟨E, hE, rE, dE⟩ := h.W
  have hEl : E.length = o.W.length := by rw [← hE]; simp
  refine FnOk.enter (rs := [2]) Try.func45 rfl Try.ntmps45 Try.results45 rfl rfl ?_
  refine WF.seq ?_
  refine WF.region ?_
  refine WL.op rfl (OW.boxA (cs := (oc o.n vP vR vW vD)) rfl ?_ (by decide))
  intro g1 w1 heg1 hlg1 hO1 hx3
  have := World.grownBy.size hx3
  refine WL.va rfl rfl rfl (X.assignB rfl) ?_
  refine WL.nil ?_
  refine thn_n ?_
  refine WF.seq ?_
  refine WF.region ?_
  have hgz : w.heap.size ≤ g1 := by omega
  have hIst : ∀ (j : Nat) (w1 w2 : World), (Blk w1 g1 26 (oc (zeroed o.n ((offL (o.g 0)).take j)) vP vR vW vD) ∧ Ext w w1) → Ext w1 w2 → (Blk w2 g1 26 (oc (zeroed o.n ((offL (o.g 0)).take j)) vP vR vW vD) ∧ Ext w w2) := fun j w1 w2 hh hx => ⟨hh.1.ext hx, Ext.trans hh.2 hx⟩
  have hI0 : Blk w1 g1 26 (oc (zeroed o.n ((offL (o.g 0)).take 0)) vP vR vW vD) ∧ Ext w w1 := ⟨hO1, hx3⟩
  have hst : ∀ L, offs (o.g 0) = some L → ∀ j wq, (hj : j < L.length) → (Blk wq g1 26 (oc (zeroed o.n ((offL (o.g 0)).take j)) vP vR vW vD) ∧ Ext w wq) → Chg 0 w1.heap.size w1 wq → CloOk Try.prog (.func (.func 76) #[] ([] : List Value).toArray) [.pointer (some ⟨g1, L[j], none⟩)] wq (fun _ w2 => (Blk w2 g1 26 (oc (zeroed o.n ((offL (o.g 0)).take (j + 1))) vP vR vW vD) ∧ Ext w w2) ∧ Chg 0 w1.heap.size wq w2) := fun L hL j wq hj hh _ => by
    have hin := offs_in hL hj
    refine ⟨_, _, rfl, Try.call76, (bareLit_ok g1 L[j] _ wq hh.1 (show L[j] < 17 by omega)).mono fun _ w2 h2 => ⟨⟨h2.1.cast ?_, Ext.store hh.2 h2.2 hgz⟩, Chg.of h2.2 (fun q hq => by injection hq with hq; subst hq; exact ⟨Nat.zero_le _, by omega⟩)⟩⟩
    rw [offL_eq hL, zeroed_snoc hj, oc_set 0 (by rw [zeroed_len]; exact h.len) (by omega)]
  refine WL.c rfl rfl rfl (X.call Try.call34 (evl_cons rfl (evl_cons rfl evl_nil))) (numbers_ok g1 _ (o.g 0) _ _ (fun j w1 => Blk w1 g1 26 (oc (zeroed o.n ((offL (o.g 0)).take j)) vP vR vW vD) ∧ Ext w w1) hO1 rfl hI0 hIst hst) ?_
  rintro _ w6 ⟨_, hq1, hq2, hcg⟩
  obtain ⟨hO1, hxz⟩ := offs_end (I := fun j w1 => Blk w1 g1 26 (oc (zeroed o.n ((offL (o.g 0)).take j)) vP vR vW vD) ∧ Ext w w1) hq1 hq2 hI0 hIst
  have := World.grownBy.size hxz
  refine WL.nil ?_
  refine thn_n ?_
  refine WF.seq ?_
  refine WF.region ?_
  refine WL.va rfl rfl rfl (X.fieldAddrO (off := 13) rfl Try.underlying26 rfl rfl Try.sizeOf22) ?_
  refine WL.va rfl rfl rfl (X.loadO hO1 (Ext.refl _) rfl rfl Try.isAgg22) ?_
  refine WL.va rfl rfl rfl (X.len h.P rfl Try.underlying22) ?_
  refine WL.va rfl rfl rfl (X.fieldAddrO (off := 14) rfl Try.underlying26 rfl rfl Try.sizeOf22) ?_
  refine WL.va rfl rfl rfl (X.loadO hO1 (Ext.refl _) rfl rfl Try.isAgg22) ?_
  refine WL.va rfl rfl rfl (X.len h.R rfl Try.underlying22) ?_
  refine WL.va rfl rfl rfl (X.add rfl rfl (w64 (by omega))) ?_
  refine WL.va rfl rfl rfl (X.fieldAddrO (off := 15) rfl Try.underlying26 rfl rfl Try.sizeOf23) ?_
  refine WL.va rfl rfl rfl (X.loadO hO1 (Ext.refl _) rfl rfl Try.isAgg23) ?_
  refine WL.va rfl rfl rfl (X.len rE rfl Try.underlying23) ?_
  refine WL.va rfl rfl rfl (X.add rfl rfl (w64 (by omega))) ?_
  refine WL.va rfl rfl rfl (X.eql rfl rfl) ?_
  refine WL.va rfl rfl rfl (X.moveB rfl) ?_
  refine WL.split (j := 12) rfl (fun h11 => ?_) (fun h11 => ?_)
  · have gh11 := (of_decide_eq_true h11)
    refine WL.p rfl rfl rfl (congrArg some h11) ?_
    refine WL.p rfl rfl rfl (congrArg some h11) ?_
    refine WL.p rfl rfl rfl (congrArg some h11) ?_
    refine WL.va rfl rfl rfl (X.pickT rfl h11 rfl) ?_
    refine WL.va rfl rfl rfl (X.assignB rfl) ?_
    refine WL.nil ?_
    refine thn_n ?_
    refine WF.seq ?_
    refine WF.region ?_
    refine WL.va rfl rfl rfl (X.fieldAddrO (off := 3) rfl Try.underlying26 rfl rfl Try.sizeOf3) ?_
    refine WL.va rfl rfl rfl (X.loadO hO1 (Ext.refl _) rfl rfl Try.isAgg3) ?_
    refine WL.va rfl rfl rfl (X.fieldAddrO (off := 4) rfl Try.underlying26 rfl rfl Try.sizeOf3) ?_
    refine WL.va rfl rfl rfl (X.loadO hO1 (Ext.refl _) rfl rfl Try.isAgg3) ?_
    refine WL.va rfl rfl rfl (X.or rfl rfl (show _ = orI _ _ from rfl)) ?_
    refine WL.va rfl rfl rfl (X.fieldAddrO (off := 5) rfl Try.underlying26 rfl rfl Try.sizeOf3) ?_
    refine WL.va rfl rfl rfl (X.loadO hO1 (Ext.refl _) rfl rfl Try.isAgg3) ?_
    refine WL.va rfl rfl rfl (X.or rfl rfl (show _ = orI _ _ from rfl)) ?_
    refine WL.va rfl rfl rfl (X.fieldAddrO (off := 9) rfl Try.underlying26 rfl rfl Try.sizeOf3) ?_
    refine WL.va rfl rfl rfl (X.loadO hO1 (Ext.refl _) rfl rfl Try.isAgg3) ?_
    refine WL.va rfl rfl rfl (X.or rfl rfl (show _ = orI _ _ from rfl)) ?_
    refine WL.va rfl rfl rfl (X.fieldAddrO (off := 6) rfl Try.underlying26 rfl rfl Try.sizeOf3) ?_
    refine WL.va rfl rfl rfl (X.loadO hO1 (Ext.refl _) rfl rfl Try.isAgg3) ?_
    refine WL.va rfl rfl rfl (X.or rfl rfl (show _ = orI _ _ from rfl)) ?_
    refine WL.va rfl rfl rfl (X.fieldAddrO (off := 7) rfl Try.underlying26 rfl rfl Try.sizeOf3) ?_
    refine WL.va rfl rfl rfl (X.loadO hO1 (Ext.refl _) rfl rfl Try.isAgg3) ?_
    refine WL.va rfl rfl rfl (X.or rfl rfl (show _ = orI _ _ from rfl)) ?_
    refine WL.va rfl rfl rfl (X.fieldAddrO (off := 8) rfl Try.underlying26 rfl rfl Try.sizeOf3) ?_
    refine WL.va rfl rfl rfl (X.loadO hO1 (Ext.refl _) rfl rfl Try.isAgg3) ?_
    refine WL.va rfl rfl rfl (X.or rfl rfl (show _ = orI _ _ from rfl)) ?_
    refine WL.va rfl rfl rfl (X.fieldAddrO (off := 10) rfl Try.underlying26 rfl rfl Try.sizeOf3) ?_
    refine WL.va rfl rfl rfl (X.loadO hO1 (Ext.refl _) rfl rfl Try.isAgg3) ?_
    refine WL.va rfl rfl rfl (X.or rfl rfl (show _ = orI _ _ from rfl)) ?_
    refine WL.va rfl rfl rfl (X.fieldAddrO (off := 11) rfl Try.underlying26 rfl rfl Try.sizeOf3) ?_
    refine WL.va rfl rfl rfl (X.loadO hO1 (Ext.refl _) rfl rfl Try.isAgg3) ?_
    refine WL.va rfl rfl rfl (X.or rfl rfl (show _ = orI _ _ from rfl)) ?_
    refine WL.va rfl rfl rfl (X.fieldAddrO (off := 12) rfl Try.underlying26 rfl rfl Try.sizeOf3) ?_
    refine WL.va rfl rfl rfl (X.loadO hO1 (Ext.refl _) rfl rfl Try.isAgg3) ?_
    refine WL.va rfl rfl rfl (X.or rfl rfl (show _ = orI _ _ from rfl)) ?_
    refine WL.va rfl rfl rfl (X.eql rfl rfl) ?_
    refine WL.va rfl rfl rfl (X.moveB rfl) ?_
    refine WL.split (j := 30) rfl (fun h14 => ?_) (fun h14 => ?_)
    · have gh14 := (of_decide_eq_true h14)
      refine WL.vg rfl (congrArg some h14) rfl rfl (X.moveB rfl) ?_
      refine WL.va rfl rfl rfl (X.pickT rfl h14 rfl) ?_
      refine WL.va rfl rfl rfl (X.moveB rfl) ?_
      refine WL.vg rfl rfl rfl rfl (X.fieldAddrO (off := 16) rfl Try.underlying26 rfl rfl Try.sizeOf24) ?_
      refine WL.vg rfl rfl rfl rfl (X.loadO hO1 (Ext.refl _) rfl rfl Try.isAgg24) ?_
      refine WL.vg rfl rfl rfl rfl (X.len h.D rfl Try.underlying24) ?_
      refine WL.vg rfl rfl rfl rfl (X.eql rfl rfl) ?_
      refine WL.vg rfl rfl rfl rfl (X.moveB rfl) ?_
      refine WL.split (j := 38) rfl (fun h16 => ?_) (fun h16 => ?_)
      · have gh16 := (of_decide_eq_true h16)
        refine WL.p rfl rfl rfl (congrArg some h16) ?_
        refine WL.p rfl rfl rfl (congrArg some h16) ?_
        refine WL.p rfl rfl rfl (congrArg some h16) ?_
        refine WL.vg rfl rfl rfl rfl (X.pickT rfl h16 rfl) ?_
        refine WL.va rfl rfl rfl (X.pickT rfl rfl rfl) ?_
        refine WL.va rfl rfl rfl (X.assignB rfl) ?_
        refine WL.nil ?_
        refine thn_n ?_
        refine WF.ret ?_
        refine fin_r ?_
        refine ⟨congrArg Value.bool ?_, (hxz)⟩
        have hor := bare_or (k := o.g 0) h.inn _ rfl
        have hk0 : (zeroed o.n ((offL (o.g 0)).take (offL (o.g 0)).length)).getD 0 0 = o.g 0 := by
          rw [zeroed_end, if_neg (not_zero_off _)]
        have hb : o.bareP ↔ ((orI (orI (orI (orI (orI (orI (orI (orI (orI ((zeroed o.n ((offL (o.g 0)).take (offL (o.g 0)).length)).getD 3 0) ((zeroed o.n ((offL (o.g 0)).take (offL (o.g 0)).length)).getD 4 0)) ((zeroed o.n ((offL (o.g 0)).take (offL (o.g 0)).length)).getD 5 0)) ((zeroed o.n ((offL (o.g 0)).take (offL (o.g 0)).length)).getD 9 0)) ((zeroed o.n ((offL (o.g 0)).take (offL (o.g 0)).length)).getD 6 0)) ((zeroed o.n ((offL (o.g 0)).take (offL (o.g 0)).length)).getD 7 0)) ((zeroed o.n ((offL (o.g 0)).take (offL (o.g 0)).length)).getD 8 0)) ((zeroed o.n ((offL (o.g 0)).take (offL (o.g 0)).length)).getD 10 0)) ((zeroed o.n ((offL (o.g 0)).take (offL (o.g 0)).length)).getD 11 0)) ((zeroed o.n ((offL (o.g 0)).take (offL (o.g 0)).length)).getD 12 0)) = 0 ∧ (((o.P.length : Int) + (o.R.length : Int) + (o.W.length : Int) = 0) ∨ o.g 0 = 2) ∧ ((o.D.length : Int) = 0 ∨ o.g 0 = 6)) := by
          unfold Od.bareP
          rw [← hor]
          constructor
          · rintro ⟨a, b, c⟩; exact ⟨a, by omega, by omega⟩
          · rintro ⟨a, b, c⟩; exact ⟨a, by omega, by omega⟩
        first | (refine dec_iff ?_; rw [hb]; omega) | (refine dec_f ?_; rw [hb]; omega) | (refine dec_t ?_; rw [hb]; omega)
      · have gh16 := (of_decide_eq_false h16)
        refine WL.vg rfl (congrArg some h16) rfl rfl (X.fieldAddrO (off := 0) rfl Try.underlying26 rfl rfl Try.sizeOf3) ?_
        refine WL.vg rfl (congrArg some h16) rfl rfl (X.loadO hO1 (Ext.refl _) rfl rfl Try.isAgg3) ?_
        refine WL.vg rfl (congrArg some h16) rfl rfl (X.eql rfl rfl) ?_
        refine WL.vg rfl rfl rfl rfl (X.pickF rfl h16 rfl) ?_
        refine WL.va rfl rfl rfl (X.pickT rfl rfl rfl) ?_
        refine WL.va rfl rfl rfl (X.assignB rfl) ?_
        refine WL.nil ?_
        refine thn_n ?_
        refine WF.ret ?_
        refine fin_r ?_
        refine ⟨congrArg Value.bool ?_, (hxz)⟩
        have hor := bare_or (k := o.g 0) h.inn _ rfl
        have hk0 : (zeroed o.n ((offL (o.g 0)).take (offL (o.g 0)).length)).getD 0 0 = o.g 0 := by
          rw [zeroed_end, if_neg (not_zero_off _)]
        have hb : o.bareP ↔ ((orI (orI (orI (orI (orI (orI (orI (orI (orI ((zeroed o.n ((offL (o.g 0)).take (offL (o.g 0)).length)).getD 3 0) ((zeroed o.n ((offL (o.g 0)).take (offL (o.g 0)).length)).getD 4 0)) ((zeroed o.n ((offL (o.g 0)).take (offL (o.g 0)).length)).getD 5 0)) ((zeroed o.n ((offL (o.g 0)).take (offL (o.g 0)).length)).getD 9 0)) ((zeroed o.n ((offL (o.g 0)).take (offL (o.g 0)).length)).getD 6 0)) ((zeroed o.n ((offL (o.g 0)).take (offL (o.g 0)).length)).getD 7 0)) ((zeroed o.n ((offL (o.g 0)).take (offL (o.g 0)).length)).getD 8 0)) ((zeroed o.n ((offL (o.g 0)).take (offL (o.g 0)).length)).getD 10 0)) ((zeroed o.n ((offL (o.g 0)).take (offL (o.g 0)).length)).getD 11 0)) ((zeroed o.n ((offL (o.g 0)).take (offL (o.g 0)).length)).getD 12 0)) = 0 ∧ (((o.P.length : Int) + (o.R.length : Int) + (o.W.length : Int) = 0) ∨ o.g 0 = 2) ∧ ((o.D.length : Int) = 0 ∨ o.g 0 = 6)) := by
          unfold Od.bareP
          rw [← hor]
          constructor
          · rintro ⟨a, b, c⟩; exact ⟨a, by omega, by omega⟩
          · rintro ⟨a, b, c⟩; exact ⟨a, by omega, by omega⟩
        first | (refine dec_iff ?_; rw [hb]; omega) | (refine dec_f ?_; rw [hb]; omega) | (refine dec_t ?_; rw [hb]; omega)
    · have gh14 := (of_decide_eq_false h14)
      refine WL.p rfl rfl rfl (congrArg some h14) ?_
      refine WL.va rfl rfl rfl (X.pickF rfl h14 rfl) ?_
      refine WL.va rfl rfl rfl (X.moveB rfl) ?_
      refine WL.p rfl rfl rfl rfl ?_
      refine WL.p rfl rfl rfl rfl ?_
      refine WL.p rfl rfl rfl rfl ?_
      refine WL.p rfl rfl rfl rfl ?_
      refine WL.p rfl rfl rfl rfl ?_
      refine WL.pn rfl rfl rfl rfl ?_
      refine WL.pn rfl rfl rfl rfl ?_
      refine WL.pn rfl rfl rfl rfl ?_
      refine WL.p rfl rfl rfl rfl ?_
      refine WL.va rfl rfl rfl (X.pickF rfl rfl rfl) ?_
      refine WL.va rfl rfl rfl (X.assignB rfl) ?_
      refine WL.nil ?_
      refine thn_n ?_
      refine WF.ret ?_
      refine fin_r ?_
      refine ⟨congrArg Value.bool ?_, (hxz)⟩
      have hor := bare_or (k := o.g 0) h.inn _ rfl
      have hk0 : (zeroed o.n ((offL (o.g 0)).take (offL (o.g 0)).length)).getD 0 0 = o.g 0 := by
        rw [zeroed_end, if_neg (not_zero_off _)]
      have hb : o.bareP ↔ ((orI (orI (orI (orI (orI (orI (orI (orI (orI ((zeroed o.n ((offL (o.g 0)).take (offL (o.g 0)).length)).getD 3 0) ((zeroed o.n ((offL (o.g 0)).take (offL (o.g 0)).length)).getD 4 0)) ((zeroed o.n ((offL (o.g 0)).take (offL (o.g 0)).length)).getD 5 0)) ((zeroed o.n ((offL (o.g 0)).take (offL (o.g 0)).length)).getD 9 0)) ((zeroed o.n ((offL (o.g 0)).take (offL (o.g 0)).length)).getD 6 0)) ((zeroed o.n ((offL (o.g 0)).take (offL (o.g 0)).length)).getD 7 0)) ((zeroed o.n ((offL (o.g 0)).take (offL (o.g 0)).length)).getD 8 0)) ((zeroed o.n ((offL (o.g 0)).take (offL (o.g 0)).length)).getD 10 0)) ((zeroed o.n ((offL (o.g 0)).take (offL (o.g 0)).length)).getD 11 0)) ((zeroed o.n ((offL (o.g 0)).take (offL (o.g 0)).length)).getD 12 0)) = 0 ∧ (((o.P.length : Int) + (o.R.length : Int) + (o.W.length : Int) = 0) ∨ o.g 0 = 2) ∧ ((o.D.length : Int) = 0 ∨ o.g 0 = 6)) := by
        unfold Od.bareP
        rw [← hor]
        constructor
        · rintro ⟨a, b, c⟩; exact ⟨a, by omega, by omega⟩
        · rintro ⟨a, b, c⟩; exact ⟨a, by omega, by omega⟩
      first | (refine dec_iff ?_; rw [hb]; omega) | (refine dec_f ?_; rw [hb]; omega) | (refine dec_t ?_; rw [hb]; omega)
  · have gh11 := (of_decide_eq_false h11)
    refine WL.vg rfl (congrArg some h11) rfl rfl (X.fieldAddrO (off := 0) rfl Try.underlying26 rfl rfl Try.sizeOf3) ?_
    refine WL.vg rfl (congrArg some h11) rfl rfl (X.loadO hO1 (Ext.refl _) rfl rfl Try.isAgg3) ?_
    refine WL.vg rfl (congrArg some h11) rfl rfl (X.eql rfl rfl) ?_
    refine WL.va rfl rfl rfl (X.pickF rfl h11 rfl) ?_
    refine WL.va rfl rfl rfl (X.assignB rfl) ?_
    refine WL.nil ?_
    refine thn_n ?_
    refine WF.seq ?_
    refine WF.region ?_
    refine WL.va rfl rfl rfl (X.fieldAddrO (off := 3) rfl Try.underlying26 rfl rfl Try.sizeOf3) ?_
    refine WL.va rfl rfl rfl (X.loadO hO1 (Ext.refl _) rfl rfl Try.isAgg3) ?_
    refine WL.va rfl rfl rfl (X.fieldAddrO (off := 4) rfl Try.underlying26 rfl rfl Try.sizeOf3) ?_
    refine WL.va rfl rfl rfl (X.loadO hO1 (Ext.refl _) rfl rfl Try.isAgg3) ?_
    refine WL.va rfl rfl rfl (X.or rfl rfl (show _ = orI _ _ from rfl)) ?_
    refine WL.va rfl rfl rfl (X.fieldAddrO (off := 5) rfl Try.underlying26 rfl rfl Try.sizeOf3) ?_
    refine WL.va rfl rfl rfl (X.loadO hO1 (Ext.refl _) rfl rfl Try.isAgg3) ?_
    refine WL.va rfl rfl rfl (X.or rfl rfl (show _ = orI _ _ from rfl)) ?_
    refine WL.va rfl rfl rfl (X.fieldAddrO (off := 9) rfl Try.underlying26 rfl rfl Try.sizeOf3) ?_
    refine WL.va rfl rfl rfl (X.loadO hO1 (Ext.refl _) rfl rfl Try.isAgg3) ?_
    refine WL.va rfl rfl rfl (X.or rfl rfl (show _ = orI _ _ from rfl)) ?_
    refine WL.va rfl rfl rfl (X.fieldAddrO (off := 6) rfl Try.underlying26 rfl rfl Try.sizeOf3) ?_
    refine WL.va rfl rfl rfl (X.loadO hO1 (Ext.refl _) rfl rfl Try.isAgg3) ?_
    refine WL.va rfl rfl rfl (X.or rfl rfl (show _ = orI _ _ from rfl)) ?_
    refine WL.va rfl rfl rfl (X.fieldAddrO (off := 7) rfl Try.underlying26 rfl rfl Try.sizeOf3) ?_
    refine WL.va rfl rfl rfl (X.loadO hO1 (Ext.refl _) rfl rfl Try.isAgg3) ?_
    refine WL.va rfl rfl rfl (X.or rfl rfl (show _ = orI _ _ from rfl)) ?_
    refine WL.va rfl rfl rfl (X.fieldAddrO (off := 8) rfl Try.underlying26 rfl rfl Try.sizeOf3) ?_
    refine WL.va rfl rfl rfl (X.loadO hO1 (Ext.refl _) rfl rfl Try.isAgg3) ?_
    refine WL.va rfl rfl rfl (X.or rfl rfl (show _ = orI _ _ from rfl)) ?_
    refine WL.va rfl rfl rfl (X.fieldAddrO (off := 10) rfl Try.underlying26 rfl rfl Try.sizeOf3) ?_
    refine WL.va rfl rfl rfl (X.loadO hO1 (Ext.refl _) rfl rfl Try.isAgg3) ?_
    refine WL.va rfl rfl rfl (X.or rfl rfl (show _ = orI _ _ from rfl)) ?_
    refine WL.va rfl rfl rfl (X.fieldAddrO (off := 11) rfl Try.underlying26 rfl rfl Try.sizeOf3) ?_
    refine WL.va rfl rfl rfl (X.loadO hO1 (Ext.refl _) rfl rfl Try.isAgg3) ?_
    refine WL.va rfl rfl rfl (X.or rfl rfl (show _ = orI _ _ from rfl)) ?_
    refine WL.va rfl rfl rfl (X.fieldAddrO (off := 12) rfl Try.underlying26 rfl rfl Try.sizeOf3) ?_
    refine WL.va rfl rfl rfl (X.loadO hO1 (Ext.refl _) rfl rfl Try.isAgg3) ?_
    refine WL.va rfl rfl rfl (X.or rfl rfl (show _ = orI _ _ from rfl)) ?_
    refine WL.va rfl rfl rfl (X.eql rfl rfl) ?_
    refine WL.va rfl rfl rfl (X.moveB rfl) ?_
    refine WL.split (j := 30) rfl (fun h23 => ?_) (fun h23 => ?_)
    · have gh23 := (of_decide_eq_true h23)
      refine WL.vg rfl (congrArg some h23) rfl rfl (X.moveB rfl) ?_
      refine WL.va rfl rfl rfl (X.pickT rfl h23 rfl) ?_
      refine WL.va rfl rfl rfl (X.moveB rfl) ?_
      refine WL.split (j := 33) rfl (fun h24 => ?_) (fun h24 => ?_)
      · have gh24 := (of_decide_eq_true h24)
        refine WL.vg rfl (congrArg some h24) rfl rfl (X.fieldAddrO (off := 16) rfl Try.underlying26 rfl rfl Try.sizeOf24) ?_
        refine WL.vg rfl (congrArg some h24) rfl rfl (X.loadO hO1 (Ext.refl _) rfl rfl Try.isAgg24) ?_
        refine WL.vg rfl (congrArg some h24) rfl rfl (X.len h.D rfl Try.underlying24) ?_
        refine WL.vg rfl (congrArg some h24) rfl rfl (X.eql rfl rfl) ?_
        refine WL.vg rfl (congrArg some h24) rfl rfl (X.moveB rfl) ?_
        refine WL.split (j := 38) rfl (fun h26 => ?_) (fun h26 => ?_)
        · have gh26 := (of_decide_eq_true h26)
          refine WL.p rfl rfl rfl (congrArg some h26) ?_
          refine WL.p rfl rfl rfl (congrArg some h26) ?_
          refine WL.p rfl rfl rfl (congrArg some h26) ?_
          refine WL.vg rfl (congrArg some h24) rfl rfl (X.pickT rfl h26 rfl) ?_
          refine WL.va rfl rfl rfl (X.pickT rfl h24 rfl) ?_
          refine WL.va rfl rfl rfl (X.assignB rfl) ?_
          refine WL.nil ?_
          refine thn_n ?_
          refine WF.ret ?_
          refine fin_r ?_
          refine ⟨congrArg Value.bool ?_, (hxz)⟩
          have hor := bare_or (k := o.g 0) h.inn _ rfl
          have hk0 : (zeroed o.n ((offL (o.g 0)).take (offL (o.g 0)).length)).getD 0 0 = o.g 0 := by
            rw [zeroed_end, if_neg (not_zero_off _)]
          have hb : o.bareP ↔ ((orI (orI (orI (orI (orI (orI (orI (orI (orI ((zeroed o.n ((offL (o.g 0)).take (offL (o.g 0)).length)).getD 3 0) ((zeroed o.n ((offL (o.g 0)).take (offL (o.g 0)).length)).getD 4 0)) ((zeroed o.n ((offL (o.g 0)).take (offL (o.g 0)).length)).getD 5 0)) ((zeroed o.n ((offL (o.g 0)).take (offL (o.g 0)).length)).getD 9 0)) ((zeroed o.n ((offL (o.g 0)).take (offL (o.g 0)).length)).getD 6 0)) ((zeroed o.n ((offL (o.g 0)).take (offL (o.g 0)).length)).getD 7 0)) ((zeroed o.n ((offL (o.g 0)).take (offL (o.g 0)).length)).getD 8 0)) ((zeroed o.n ((offL (o.g 0)).take (offL (o.g 0)).length)).getD 10 0)) ((zeroed o.n ((offL (o.g 0)).take (offL (o.g 0)).length)).getD 11 0)) ((zeroed o.n ((offL (o.g 0)).take (offL (o.g 0)).length)).getD 12 0)) = 0 ∧ (((o.P.length : Int) + (o.R.length : Int) + (o.W.length : Int) = 0) ∨ o.g 0 = 2) ∧ ((o.D.length : Int) = 0 ∨ o.g 0 = 6)) := by
            unfold Od.bareP
            rw [← hor]
            constructor
            · rintro ⟨a, b, c⟩; exact ⟨a, by omega, by omega⟩
            · rintro ⟨a, b, c⟩; exact ⟨a, by omega, by omega⟩
          first | (refine dec_iff ?_; rw [hb]; omega) | (refine dec_f ?_; rw [hb]; omega) | (refine dec_t ?_; rw [hb]; omega)
        · have gh26 := (of_decide_eq_false h26)
          refine WL.vg rfl (congrArg some h26) rfl rfl (X.fieldAddrO (off := 0) rfl Try.underlying26 rfl rfl Try.sizeOf3) ?_
          refine WL.vg rfl (congrArg some h26) rfl rfl (X.loadO hO1 (Ext.refl _) rfl rfl Try.isAgg3) ?_
          refine WL.vg rfl (congrArg some h26) rfl rfl (X.eql rfl rfl) ?_
          refine WL.vg rfl (congrArg some h24) rfl rfl (X.pickF rfl h26 rfl) ?_
          refine WL.va rfl rfl rfl (X.pickT rfl h24 rfl) ?_
          refine WL.va rfl rfl rfl (X.assignB rfl) ?_
          refine WL.nil ?_
          refine thn_n ?_
          refine WF.ret ?_
          refine fin_r ?_
          refine ⟨congrArg Value.bool ?_, (hxz)⟩
          have hor := bare_or (k := o.g 0) h.inn _ rfl
          have hk0 : (zeroed o.n ((offL (o.g 0)).take (offL (o.g 0)).length)).getD 0 0 = o.g 0 := by
            rw [zeroed_end, if_neg (not_zero_off _)]
          have hb : o.bareP ↔ ((orI (orI (orI (orI (orI (orI (orI (orI (orI ((zeroed o.n ((offL (o.g 0)).take (offL (o.g 0)).length)).getD 3 0) ((zeroed o.n ((offL (o.g 0)).take (offL (o.g 0)).length)).getD 4 0)) ((zeroed o.n ((offL (o.g 0)).take (offL (o.g 0)).length)).getD 5 0)) ((zeroed o.n ((offL (o.g 0)).take (offL (o.g 0)).length)).getD 9 0)) ((zeroed o.n ((offL (o.g 0)).take (offL (o.g 0)).length)).getD 6 0)) ((zeroed o.n ((offL (o.g 0)).take (offL (o.g 0)).length)).getD 7 0)) ((zeroed o.n ((offL (o.g 0)).take (offL (o.g 0)).length)).getD 8 0)) ((zeroed o.n ((offL (o.g 0)).take (offL (o.g 0)).length)).getD 10 0)) ((zeroed o.n ((offL (o.g 0)).take (offL (o.g 0)).length)).getD 11 0)) ((zeroed o.n ((offL (o.g 0)).take (offL (o.g 0)).length)).getD 12 0)) = 0 ∧ (((o.P.length : Int) + (o.R.length : Int) + (o.W.length : Int) = 0) ∨ o.g 0 = 2) ∧ ((o.D.length : Int) = 0 ∨ o.g 0 = 6)) := by
            unfold Od.bareP
            rw [← hor]
            constructor
            · rintro ⟨a, b, c⟩; exact ⟨a, by omega, by omega⟩
            · rintro ⟨a, b, c⟩; exact ⟨a, by omega, by omega⟩
          first | (refine dec_iff ?_; rw [hb]; omega) | (refine dec_f ?_; rw [hb]; omega) | (refine dec_t ?_; rw [hb]; omega)
      · have gh24 := (of_decide_eq_false h24)
        refine WL.p rfl rfl rfl (congrArg some h24) ?_
        refine WL.p rfl rfl rfl (congrArg some h24) ?_
        refine WL.p rfl rfl rfl (congrArg some h24) ?_
        refine WL.p rfl rfl rfl (congrArg some h24) ?_
        refine WL.p rfl rfl rfl (congrArg some h24) ?_
        refine WL.pn rfl rfl rfl rfl ?_
        refine WL.pn rfl rfl rfl rfl ?_
        refine WL.pn rfl rfl rfl rfl ?_
        refine WL.p rfl rfl rfl (congrArg some h24) ?_
        refine WL.va rfl rfl rfl (X.pickF rfl h24 rfl) ?_
        refine WL.va rfl rfl rfl (X.assignB rfl) ?_
        refine WL.nil ?_
        refine thn_n ?_
        refine WF.ret ?_
        refine fin_r ?_
        refine ⟨congrArg Value.bool ?_, (hxz)⟩
        have hor := bare_or (k := o.g 0) h.inn _ rfl
        have hk0 : (zeroed o.n ((offL (o.g 0)).take (offL (o.g 0)).length)).getD 0 0 = o.g 0 := by
          rw [zeroed_end, if_neg (not_zero_off _)]
        have hb : o.bareP ↔ ((orI (orI (orI (orI (orI (orI (orI (orI (orI ((zeroed o.n ((offL (o.g 0)).take (offL (o.g 0)).length)).getD 3 0) ((zeroed o.n ((offL (o.g 0)).take (offL (o.g 0)).length)).getD 4 0)) ((zeroed o.n ((offL (o.g 0)).take (offL (o.g 0)).length)).getD 5 0)) ((zeroed o.n ((offL (o.g 0)).take (offL (o.g 0)).length)).getD 9 0)) ((zeroed o.n ((offL (o.g 0)).take (offL (o.g 0)).length)).getD 6 0)) ((zeroed o.n ((offL (o.g 0)).take (offL (o.g 0)).length)).getD 7 0)) ((zeroed o.n ((offL (o.g 0)).take (offL (o.g 0)).length)).getD 8 0)) ((zeroed o.n ((offL (o.g 0)).take (offL (o.g 0)).length)).getD 10 0)) ((zeroed o.n ((offL (o.g 0)).take (offL (o.g 0)).length)).getD 11 0)) ((zeroed o.n ((offL (o.g 0)).take (offL (o.g 0)).length)).getD 12 0)) = 0 ∧ (((o.P.length : Int) + (o.R.length : Int) + (o.W.length : Int) = 0) ∨ o.g 0 = 2) ∧ ((o.D.length : Int) = 0 ∨ o.g 0 = 6)) := by
          unfold Od.bareP
          rw [← hor]
          constructor
          · rintro ⟨a, b, c⟩; exact ⟨a, by omega, by omega⟩
          · rintro ⟨a, b, c⟩; exact ⟨a, by omega, by omega⟩
        first | (refine dec_iff ?_; rw [hb]; omega) | (refine dec_f ?_; rw [hb]; omega) | (refine dec_t ?_; rw [hb]; omega)
    · have gh23 := (of_decide_eq_false h23)
      refine WL.p rfl rfl rfl (congrArg some h23) ?_
      refine WL.va rfl rfl rfl (X.pickF rfl h23 rfl) ?_
      refine WL.va rfl rfl rfl (X.moveB rfl) ?_
      refine WL.p rfl rfl rfl rfl ?_
      refine WL.p rfl rfl rfl rfl ?_
      refine WL.p rfl rfl rfl rfl ?_
      refine WL.p rfl rfl rfl rfl ?_
      refine WL.p rfl rfl rfl rfl ?_
      refine WL.pn rfl rfl rfl rfl ?_
      refine WL.pn rfl rfl rfl rfl ?_
      refine WL.pn rfl rfl rfl rfl ?_
      refine WL.p rfl rfl rfl rfl ?_
      refine WL.va rfl rfl rfl (X.pickF rfl rfl rfl) ?_
      refine WL.va rfl rfl rfl (X.assignB rfl) ?_
      refine WL.nil ?_
      refine thn_n ?_
      refine WF.ret ?_
      refine fin_r ?_
      refine ⟨congrArg Value.bool ?_, (hxz)⟩
      have hor := bare_or (k := o.g 0) h.inn _ rfl
      have hk0 : (zeroed o.n ((offL (o.g 0)).take (offL (o.g 0)).length)).getD 0 0 = o.g 0 := by
        rw [zeroed_end, if_neg (not_zero_off _)]
      have hb : o.bareP ↔ ((orI (orI (orI (orI (orI (orI (orI (orI (orI ((zeroed o.n ((offL (o.g 0)).take (offL (o.g 0)).length)).getD 3 0) ((zeroed o.n ((offL (o.g 0)).take (offL (o.g 0)).length)).getD 4 0)) ((zeroed o.n ((offL (o.g 0)).take (offL (o.g 0)).length)).getD 5 0)) ((zeroed o.n ((offL (o.g 0)).take (offL (o.g 0)).length)).getD 9 0)) ((zeroed o.n ((offL (o.g 0)).take (offL (o.g 0)).length)).getD 6 0)) ((zeroed o.n ((offL (o.g 0)).take (offL (o.g 0)).length)).getD 7 0)) ((zeroed o.n ((offL (o.g 0)).take (offL (o.g 0)).length)).getD 8 0)) ((zeroed o.n ((offL (o.g 0)).take (offL (o.g 0)).length)).getD 10 0)) ((zeroed o.n ((offL (o.g 0)).take (offL (o.g 0)).length)).getD 11 0)) ((zeroed o.n ((offL (o.g 0)).take (offL (o.g 0)).length)).getD 12 0)) = 0 ∧ (((o.P.length : Int) + (o.R.length : Int) + (o.W.length : Int) = 0) ∨ o.g 0 = 2) ∧ ((o.D.length : Int) = 0 ∨ o.g 0 = 6)) := by
        unfold Od.bareP
        rw [← hor]
        constructor
        · rintro ⟨a, b, c⟩; exact ⟨a, by omega, by omega⟩
        · rintro ⟨a, b, c⟩; exact ⟨a, by omega, by omega⟩
      first | (refine dec_iff ?_; rw [hb]; omega) | (refine dec_f ?_; rw [hb]; omega) | (refine dec_t ?_; rw [hb]; omega)

theorem span_ok (vP vR vW vD : Value) (o : Od) (w : World) (h : OpAt w vP vR vW vD o) (hm : o.small) : FnOk Try.prog 77 [agg (oc o.n vP vR vW vD)] w (fun r w' => r = .bool (decide o.spanP) ∧ Ext w w') := by
  refine FnOk.enter (rs := [2]) Try.func77 rfl Try.ntmps77 Try.results77 rfl rfl ?_
  refine WF.seq ?_
  refine WF.region ?_
  refine WL.op rfl (OW.boxA (cs := (oc o.n vP vR vW vD)) rfl ?_ (by decide))
  intro g1 w1 heg1 hlg1 hO1 hx3
  have := World.grownBy.size hx3
  refine WL.va rfl rfl rfl (X.assignB rfl) ?_
  refine WL.nil ?_
  refine thn_n ?_
  refine WF.seq ?_
  refine WF.block ?_
  refine WF.seq ?_
  refine WF.region ?_
  refine WL.va rfl rfl rfl (X.fieldAddrO (off := 0) rfl Try.underlying26 rfl rfl Try.sizeOf3) ?_
  refine WL.va rfl rfl rfl (X.loadO hO1 (Ext.refl _) rfl rfl Try.isAgg3) ?_
  refine WL.va rfl rfl rfl (X.eql rfl rfl) ?_
  refine WL.va rfl rfl rfl (X.moveB rfl) ?_
  refine WL.split (j := 3) rfl (fun h7 => ?_) (fun h7 => ?_)
  · have gh7 := (of_decide_eq_true h7)
    refine WL.vg rfl (congrArg some h7) rfl rfl (X.fieldAddrO (off := 9) rfl Try.underlying26 rfl rfl Try.sizeOf3) ?_
    refine WL.vg rfl (congrArg some h7) rfl rfl (X.loadO hO1 (Ext.refl _) rfl rfl Try.isAgg3) ?_
    refine WL.vg rfl (congrArg some h7) rfl rfl (X.eql rfl rfl) ?_
    refine WL.va rfl rfl rfl (X.pickT rfl h7 rfl) ?_
    refine WL.va rfl rfl rfl (X.assignB rfl) ?_
    refine WL.nil ?_
    refine thn_n ?_
    refine WF.cond rfl (fun h0_8 => ?_) (fun h0_8 => ?_)
    · have gh0_8 := (of_decide_eq_true h0_8)
      refine WF.seq ?_
      refine WF.region ?_
      refine WL.va rfl rfl rfl (X.fieldAddrO (off := 6) rfl Try.underlying26 rfl rfl Try.sizeOf3) ?_
      refine WL.va rfl rfl rfl (X.loadO hO1 (Ext.refl _) rfl rfl Try.isAgg3) ?_
      refine WL.va rfl rfl rfl (X.eql rfl rfl) ?_
      refine WL.va rfl rfl rfl (X.moveB rfl) ?_
      refine WL.split (j := 3) rfl (fun h11 => ?_) (fun h11 => ?_)
      · have gh11 := (of_decide_eq_true h11)
        refine WL.vg rfl (congrArg some h11) rfl rfl (X.fieldAddrO (off := 7) rfl Try.underlying26 rfl rfl Try.sizeOf3) ?_
        refine WL.vg rfl (congrArg some h11) rfl rfl (X.loadO hO1 (Ext.refl _) rfl rfl Try.isAgg3) ?_
        refine WL.vg rfl (congrArg some h11) rfl rfl (X.eql rfl rfl) ?_
        refine WL.va rfl rfl rfl (X.pickT rfl h11 rfl) ?_
        refine WL.va rfl rfl rfl (X.assignB rfl) ?_
        refine WL.nil ?_
        refine thn_n ?_
        refine WF.ret ?_
        refine blk_r ?_
        refine thn_r ?_
        refine fin_r ?_
        refine ⟨congrArg Value.bool ?_, hx3⟩
        simp only [Od.spanP, Od.g]
        first | (refine dec_iff ?_; omega) | (refine dec_f ?_; omega) | (refine dec_t ?_; omega)
      · have gh11 := (of_decide_eq_false h11)
        refine WL.p rfl rfl rfl (congrArg some h11) ?_
        refine WL.p rfl rfl rfl (congrArg some h11) ?_
        refine WL.p rfl rfl rfl (congrArg some h11) ?_
        refine WL.va rfl rfl rfl (X.pickF rfl h11 rfl) ?_
        refine WL.va rfl rfl rfl (X.assignB rfl) ?_
        refine WL.nil ?_
        refine thn_n ?_
        refine WF.ret ?_
        refine blk_r ?_
        refine thn_r ?_
        refine fin_r ?_
        refine ⟨congrArg Value.bool ?_, hx3⟩
        simp only [Od.spanP, Od.g]
        first | (refine dec_iff ?_; omega) | (refine dec_f ?_; omega) | (refine dec_t ?_; omega)
    · have gh0_8 := (of_decide_eq_false h0_8)
      refine WF.seq ?_
      refine WF.seq ?_
      refine WF.region ?_
      refine WL.va rfl rfl rfl (X.fieldAddrO (off := 0) rfl Try.underlying26 rfl rfl Try.sizeOf3) ?_
      refine WL.va rfl rfl rfl (X.loadO hO1 (Ext.refl _) rfl rfl Try.isAgg3) ?_
      refine WL.va rfl rfl rfl (X.eql rfl rfl) ?_
      refine WL.va rfl rfl rfl (X.assignB rfl) ?_
      refine WL.nil ?_
      refine thn_n ?_
      refine WF.cond rfl (fun h1_14 => ?_) (fun h1_14 => ?_)
      · have gh1_14 := (of_decide_eq_true h1_14)
        refine WF.skip ?_
        refine thn_n ?_
        refine WF.cond_t ((rfl : _ = Value.bool _).trans (congrArg Value.bool h1_14)) ?_
        refine WF.seq ?_
        refine WF.region ?_
        refine WL.va rfl rfl rfl (X.fieldAddrO (off := 6) rfl Try.underlying26 rfl rfl Try.sizeOf3) ?_
        refine WL.va rfl rfl rfl (X.loadO hO1 (Ext.refl _) rfl rfl Try.isAgg3) ?_
        refine WL.va rfl rfl rfl (X.geq rfl rfl) ?_
        refine WL.va rfl rfl rfl (X.moveB rfl) ?_
        refine WL.split (j := 3) rfl (fun h17 => ?_) (fun h17 => ?_)
        · have gh17 := (of_decide_eq_true h17)
          refine WL.vg rfl (congrArg some h17) rfl rfl (X.fieldAddrO (off := 6) rfl Try.underlying26 rfl rfl Try.sizeOf3) ?_
          refine WL.vg rfl (congrArg some h17) rfl rfl (X.loadO hO1 (Ext.refl _) rfl rfl Try.isAgg3) ?_
          refine WL.vg rfl (congrArg some h17) rfl rfl (X.fieldAddrO (off := 7) rfl Try.underlying26 rfl rfl Try.sizeOf3) ?_
          refine WL.vg rfl (congrArg some h17) rfl rfl (X.loadO hO1 (Ext.refl _) rfl rfl Try.isAgg3) ?_
          refine WL.vg rfl (congrArg some h17) rfl rfl (X.lss rfl rfl) ?_
          refine WL.va rfl rfl rfl (X.pickT rfl h17 rfl) ?_
          refine WL.va rfl rfl rfl (X.moveB rfl) ?_
          refine WL.split (j := 10) rfl (fun h19 => ?_) (fun h19 => ?_)
          · have gh19 := (of_decide_eq_true h19)
            refine WL.vg rfl (congrArg some h19) rfl rfl (X.fieldAddrO (off := 7) rfl Try.underlying26 rfl rfl Try.sizeOf3) ?_
            refine WL.vg rfl (congrArg some h19) rfl rfl (X.loadO hO1 (Ext.refl _) rfl rfl Try.isAgg3) ?_
            refine WL.vg rfl (congrArg some h19) rfl rfl (X.leq rfl rfl) ?_
            refine WL.va rfl rfl rfl (X.pickT rfl h19 rfl) ?_
            refine WL.va rfl rfl rfl (X.assignB rfl) ?_
            refine WL.nil ?_
            refine thn_n ?_
            refine WF.ret ?_
            refine blk_r ?_
            refine thn_r ?_
            refine fin_r ?_
            refine ⟨congrArg Value.bool ?_, hx3⟩
            simp only [Od.spanP, Od.g]
            first | (refine dec_iff ?_; omega) | (refine dec_f ?_; omega) | (refine dec_t ?_; omega)
          · have gh19 := (of_decide_eq_false h19)
            refine WL.p rfl rfl rfl (congrArg some h19) ?_
            refine WL.p rfl rfl rfl (congrArg some h19) ?_
            refine WL.p rfl rfl rfl (congrArg some h19) ?_
            refine WL.va rfl rfl rfl (X.pickF rfl h19 rfl) ?_
            refine WL.va rfl rfl rfl (X.assignB rfl) ?_
            refine WL.nil ?_
            refine thn_n ?_
            refine WF.ret ?_
            refine blk_r ?_
            refine thn_r ?_
            refine fin_r ?_
            refine ⟨congrArg Value.bool ?_, hx3⟩
            simp only [Od.spanP, Od.g]
            first | (refine dec_iff ?_; omega) | (refine dec_f ?_; omega) | (refine dec_t ?_; omega)
        · have gh17 := (of_decide_eq_false h17)
          refine WL.p rfl rfl rfl (congrArg some h17) ?_
          refine WL.p rfl rfl rfl (congrArg some h17) ?_
          refine WL.p rfl rfl rfl (congrArg some h17) ?_
          refine WL.p rfl rfl rfl (congrArg some h17) ?_
          refine WL.p rfl rfl rfl (congrArg some h17) ?_
          refine WL.va rfl rfl rfl (X.pickF rfl h17 rfl) ?_
          refine WL.va rfl rfl rfl (X.moveB rfl) ?_
          refine WL.p rfl rfl rfl rfl ?_
          refine WL.p rfl rfl rfl rfl ?_
          refine WL.p rfl rfl rfl rfl ?_
          refine WL.va rfl rfl rfl (X.pickF rfl rfl rfl) ?_
          refine WL.va rfl rfl rfl (X.assignB rfl) ?_
          refine WL.nil ?_
          refine thn_n ?_
          refine WF.ret ?_
          refine blk_r ?_
          refine thn_r ?_
          refine fin_r ?_
          refine ⟨congrArg Value.bool ?_, hx3⟩
          simp only [Od.spanP, Od.g]
          first | (refine dec_iff ?_; omega) | (refine dec_f ?_; omega) | (refine dec_t ?_; omega)
      · have gh1_14 := (of_decide_eq_false h1_14)
        refine WF.seq ?_
        refine WF.region ?_
        refine WL.va rfl rfl rfl (X.fieldAddrO (off := 0) rfl Try.underlying26 rfl rfl Try.sizeOf3) ?_
        refine WL.va rfl rfl rfl (X.loadO hO1 (Ext.refl _) rfl rfl Try.isAgg3) ?_
        refine WL.va rfl rfl rfl (X.eql rfl rfl) ?_
        refine WL.va rfl rfl rfl (X.assignB rfl) ?_
        refine WL.nil ?_
        refine thn_n ?_
        refine WF.cond rfl (fun h2_24 => ?_) (fun h2_24 => ?_)
        · have gh2_24 := (of_decide_eq_true h2_24)
          refine WF.skip ?_
          refine thn_n ?_
          refine WF.cond_t ((rfl : _ = Value.bool _).trans (congrArg Value.bool h2_24)) ?_
          refine WF.seq ?_
          refine WF.region ?_
          refine WL.va rfl rfl rfl (X.fieldAddrO (off := 6) rfl Try.underlying26 rfl rfl Try.sizeOf3) ?_
          refine WL.va rfl rfl rfl (X.loadO hO1 (Ext.refl _) rfl rfl Try.isAgg3) ?_
          refine WL.va rfl rfl rfl (X.geq rfl rfl) ?_
          refine WL.va rfl rfl rfl (X.moveB rfl) ?_
          refine WL.split (j := 3) rfl (fun h27 => ?_) (fun h27 => ?_)
          · have gh27 := (of_decide_eq_true h27)
            refine WL.vg rfl (congrArg some h27) rfl rfl (X.fieldAddrO (off := 6) rfl Try.underlying26 rfl rfl Try.sizeOf3) ?_
            refine WL.vg rfl (congrArg some h27) rfl rfl (X.loadO hO1 (Ext.refl _) rfl rfl Try.isAgg3) ?_
            refine WL.vg rfl (congrArg some h27) rfl rfl (X.fieldAddrO (off := 7) rfl Try.underlying26 rfl rfl Try.sizeOf3) ?_
            refine WL.vg rfl (congrArg some h27) rfl rfl (X.loadO hO1 (Ext.refl _) rfl rfl Try.isAgg3) ?_
            refine WL.vg rfl (congrArg some h27) rfl rfl (X.lss rfl rfl) ?_
            refine WL.va rfl rfl rfl (X.pickT rfl h27 rfl) ?_
            refine WL.va rfl rfl rfl (X.moveB rfl) ?_
            refine WL.split (j := 10) rfl (fun h29 => ?_) (fun h29 => ?_)
            · have gh29 := (of_decide_eq_true h29)
              refine WL.vg rfl (congrArg some h29) rfl rfl (X.fieldAddrO (off := 7) rfl Try.underlying26 rfl rfl Try.sizeOf3) ?_
              refine WL.vg rfl (congrArg some h29) rfl rfl (X.loadO hO1 (Ext.refl _) rfl rfl Try.isAgg3) ?_
              refine WL.vg rfl (congrArg some h29) rfl rfl (X.leq rfl rfl) ?_
              refine WL.va rfl rfl rfl (X.pickT rfl h29 rfl) ?_
              refine WL.va rfl rfl rfl (X.assignB rfl) ?_
              refine WL.nil ?_
              refine thn_n ?_
              refine WF.ret ?_
              refine blk_r ?_
              refine thn_r ?_
              refine fin_r ?_
              refine ⟨congrArg Value.bool ?_, hx3⟩
              simp only [Od.spanP, Od.g]
              first | (refine dec_iff ?_; omega) | (refine dec_f ?_; omega) | (refine dec_t ?_; omega)
            · have gh29 := (of_decide_eq_false h29)
              refine WL.p rfl rfl rfl (congrArg some h29) ?_
              refine WL.p rfl rfl rfl (congrArg some h29) ?_
              refine WL.p rfl rfl rfl (congrArg some h29) ?_
              refine WL.va rfl rfl rfl (X.pickF rfl h29 rfl) ?_
              refine WL.va rfl rfl rfl (X.assignB rfl) ?_
              refine WL.nil ?_
              refine thn_n ?_
              refine WF.ret ?_
              refine blk_r ?_
              refine thn_r ?_
              refine fin_r ?_
              refine ⟨congrArg Value.bool ?_, hx3⟩
              simp only [Od.spanP, Od.g]
              first | (refine dec_iff ?_; omega) | (refine dec_f ?_; omega) | (refine dec_t ?_; omega)
          · have gh27 := (of_decide_eq_false h27)
            refine WL.p rfl rfl rfl (congrArg some h27) ?_
            refine WL.p rfl rfl rfl (congrArg some h27) ?_
            refine WL.p rfl rfl rfl (congrArg some h27) ?_
            refine WL.p rfl rfl rfl (congrArg some h27) ?_
            refine WL.p rfl rfl rfl (congrArg some h27) ?_
            refine WL.va rfl rfl rfl (X.pickF rfl h27 rfl) ?_
            refine WL.va rfl rfl rfl (X.moveB rfl) ?_
            refine WL.p rfl rfl rfl rfl ?_
            refine WL.p rfl rfl rfl rfl ?_
            refine WL.p rfl rfl rfl rfl ?_
            refine WL.va rfl rfl rfl (X.pickF rfl rfl rfl) ?_
            refine WL.va rfl rfl rfl (X.assignB rfl) ?_
            refine WL.nil ?_
            refine thn_n ?_
            refine WF.ret ?_
            refine blk_r ?_
            refine thn_r ?_
            refine fin_r ?_
            refine ⟨congrArg Value.bool ?_, hx3⟩
            simp only [Od.spanP, Od.g]
            first | (refine dec_iff ?_; omega) | (refine dec_f ?_; omega) | (refine dec_t ?_; omega)
        · have gh2_24 := (of_decide_eq_false h2_24)
          refine WF.seq ?_
          refine WF.region ?_
          refine WL.va rfl rfl rfl (X.fieldAddrO (off := 0) rfl Try.underlying26 rfl rfl Try.sizeOf3) ?_
          refine WL.va rfl rfl rfl (X.loadO hO1 (Ext.refl _) rfl rfl Try.isAgg3) ?_
          refine WL.va rfl rfl rfl (X.eql rfl rfl) ?_
          refine WL.va rfl rfl rfl (X.assignB rfl) ?_
          refine WL.nil ?_
          refine thn_n ?_
          refine WF.cond rfl (fun h3_34 => ?_) (fun h3_34 => ?_)
          · have gh3_34 := (of_decide_eq_true h3_34)
            refine WF.skip ?_
            refine thn_n ?_
            refine WF.cond_t ((rfl : _ = Value.bool _).trans (congrArg Value.bool h3_34)) ?_
            refine WF.seq ?_
            refine WF.region ?_
            refine WL.va rfl rfl rfl (X.fieldAddrO (off := 6) rfl Try.underlying26 rfl rfl Try.sizeOf3) ?_
            refine WL.va rfl rfl rfl (X.loadO hO1 (Ext.refl _) rfl rfl Try.isAgg3) ?_
            refine WL.va rfl rfl rfl (X.geq rfl rfl) ?_
            refine WL.va rfl rfl rfl (X.moveB rfl) ?_
            refine WL.split (j := 3) rfl (fun h37 => ?_) (fun h37 => ?_)
            · have gh37 := (of_decide_eq_true h37)
              refine WL.vg rfl (congrArg some h37) rfl rfl (X.fieldAddrO (off := 6) rfl Try.underlying26 rfl rfl Try.sizeOf3) ?_
              refine WL.vg rfl (congrArg some h37) rfl rfl (X.loadO hO1 (Ext.refl _) rfl rfl Try.isAgg3) ?_
              refine WL.vg rfl (congrArg some h37) rfl rfl (X.fieldAddrO (off := 7) rfl Try.underlying26 rfl rfl Try.sizeOf3) ?_
              refine WL.vg rfl (congrArg some h37) rfl rfl (X.loadO hO1 (Ext.refl _) rfl rfl Try.isAgg3) ?_
              refine WL.vg rfl (congrArg some h37) rfl rfl (X.lss rfl rfl) ?_
              refine WL.va rfl rfl rfl (X.pickT rfl h37 rfl) ?_
              refine WL.va rfl rfl rfl (X.moveB rfl) ?_
              refine WL.split (j := 10) rfl (fun h39 => ?_) (fun h39 => ?_)
              · have gh39 := (of_decide_eq_true h39)
                refine WL.vg rfl (congrArg some h39) rfl rfl (X.fieldAddrO (off := 7) rfl Try.underlying26 rfl rfl Try.sizeOf3) ?_
                refine WL.vg rfl (congrArg some h39) rfl rfl (X.loadO hO1 (Ext.refl _) rfl rfl Try.isAgg3) ?_
                refine WL.vg rfl (congrArg some h39) rfl rfl (X.leq rfl rfl) ?_
                refine WL.va rfl rfl rfl (X.pickT rfl h39 rfl) ?_
                refine WL.va rfl rfl rfl (X.assignB rfl) ?_
                refine WL.nil ?_
                refine thn_n ?_
                refine WF.ret ?_
                refine blk_r ?_
                refine thn_r ?_
                refine fin_r ?_
                refine ⟨congrArg Value.bool ?_, hx3⟩
                simp only [Od.spanP, Od.g]
                first | (refine dec_iff ?_; omega) | (refine dec_f ?_; omega) | (refine dec_t ?_; omega)
              · have gh39 := (of_decide_eq_false h39)
                refine WL.p rfl rfl rfl (congrArg some h39) ?_
                refine WL.p rfl rfl rfl (congrArg some h39) ?_
                refine WL.p rfl rfl rfl (congrArg some h39) ?_
                refine WL.va rfl rfl rfl (X.pickF rfl h39 rfl) ?_
                refine WL.va rfl rfl rfl (X.assignB rfl) ?_
                refine WL.nil ?_
                refine thn_n ?_
                refine WF.ret ?_
                refine blk_r ?_
                refine thn_r ?_
                refine fin_r ?_
                refine ⟨congrArg Value.bool ?_, hx3⟩
                simp only [Od.spanP, Od.g]
                first | (refine dec_iff ?_; omega) | (refine dec_f ?_; omega) | (refine dec_t ?_; omega)
            · have gh37 := (of_decide_eq_false h37)
              refine WL.p rfl rfl rfl (congrArg some h37) ?_
              refine WL.p rfl rfl rfl (congrArg some h37) ?_
              refine WL.p rfl rfl rfl (congrArg some h37) ?_
              refine WL.p rfl rfl rfl (congrArg some h37) ?_
              refine WL.p rfl rfl rfl (congrArg some h37) ?_
              refine WL.va rfl rfl rfl (X.pickF rfl h37 rfl) ?_
              refine WL.va rfl rfl rfl (X.moveB rfl) ?_
              refine WL.p rfl rfl rfl rfl ?_
              refine WL.p rfl rfl rfl rfl ?_
              refine WL.p rfl rfl rfl rfl ?_
              refine WL.va rfl rfl rfl (X.pickF rfl rfl rfl) ?_
              refine WL.va rfl rfl rfl (X.assignB rfl) ?_
              refine WL.nil ?_
              refine thn_n ?_
              refine WF.ret ?_
              refine blk_r ?_
              refine thn_r ?_
              refine fin_r ?_
              refine ⟨congrArg Value.bool ?_, hx3⟩
              simp only [Od.spanP, Od.g]
              first | (refine dec_iff ?_; omega) | (refine dec_f ?_; omega) | (refine dec_t ?_; omega)
          · have gh3_34 := (of_decide_eq_false h3_34)
            refine WF.region ?_
            refine WL.va rfl rfl rfl (X.fieldAddrO (off := 0) rfl Try.underlying26 rfl rfl Try.sizeOf3) ?_
            refine WL.va rfl rfl rfl (X.loadO hO1 (Ext.refl _) rfl rfl Try.isAgg3) ?_
            refine WL.va rfl rfl rfl (X.eql rfl rfl) ?_
            refine WL.va rfl rfl rfl (X.assignB rfl) ?_
            refine WL.nil ?_
            refine thn_n ?_
            refine WF.cond rfl (fun h4_44 => ?_) (fun h4_44 => ?_)
            · have gh4_44 := (of_decide_eq_true h4_44)
              refine WF.seq ?_
              refine WF.region ?_
              refine WL.va rfl rfl rfl (X.fieldAddrO (off := 6) rfl Try.underlying26 rfl rfl Try.sizeOf3) ?_
              refine WL.va rfl rfl rfl (X.loadO hO1 (Ext.refl _) rfl rfl Try.isAgg3) ?_
              refine WL.va rfl rfl rfl (X.geq rfl rfl) ?_
              refine WL.va rfl rfl rfl (X.moveB rfl) ?_
              refine WL.split (j := 3) rfl (fun h47 => ?_) (fun h47 => ?_)
              · have gh47 := (of_decide_eq_true h47)
                refine WL.vg rfl (congrArg some h47) rfl rfl (X.fieldAddrO (off := 6) rfl Try.underlying26 rfl rfl Try.sizeOf3) ?_
                refine WL.vg rfl (congrArg some h47) rfl rfl (X.loadO hO1 (Ext.refl _) rfl rfl Try.isAgg3) ?_
                refine WL.vg rfl (congrArg some h47) rfl rfl (X.fieldAddrO (off := 7) rfl Try.underlying26 rfl rfl Try.sizeOf3) ?_
                refine WL.vg rfl (congrArg some h47) rfl rfl (X.loadO hO1 (Ext.refl _) rfl rfl Try.isAgg3) ?_
                refine WL.vg rfl (congrArg some h47) rfl rfl (X.lss rfl rfl) ?_
                refine WL.va rfl rfl rfl (X.pickT rfl h47 rfl) ?_
                refine WL.va rfl rfl rfl (X.moveB rfl) ?_
                refine WL.split (j := 10) rfl (fun h49 => ?_) (fun h49 => ?_)
                · have gh49 := (of_decide_eq_true h49)
                  refine WL.vg rfl (congrArg some h49) rfl rfl (X.fieldAddrO (off := 7) rfl Try.underlying26 rfl rfl Try.sizeOf3) ?_
                  refine WL.vg rfl (congrArg some h49) rfl rfl (X.loadO hO1 (Ext.refl _) rfl rfl Try.isAgg3) ?_
                  refine WL.vg rfl (congrArg some h49) rfl rfl (X.leq rfl rfl) ?_
                  refine WL.va rfl rfl rfl (X.pickT rfl h49 rfl) ?_
                  refine WL.va rfl rfl rfl (X.assignB rfl) ?_
                  refine WL.nil ?_
                  refine thn_n ?_
                  refine WF.ret ?_
                  refine blk_r ?_
                  refine thn_r ?_
                  refine fin_r ?_
                  refine ⟨congrArg Value.bool ?_, hx3⟩
                  simp only [Od.spanP, Od.g]
                  first | (refine dec_iff ?_; omega) | (refine dec_f ?_; omega) | (refine dec_t ?_; omega)
                · have gh49 := (of_decide_eq_false h49)
                  refine WL.p rfl rfl rfl (congrArg some h49) ?_
                  refine WL.p rfl rfl rfl (congrArg some h49) ?_
                  refine WL.p rfl rfl rfl (congrArg some h49) ?_
                  refine WL.va rfl rfl rfl (X.pickF rfl h49 rfl) ?_
                  refine WL.va rfl rfl rfl (X.assignB rfl) ?_
                  refine WL.nil ?_
                  refine thn_n ?_
                  refine WF.ret ?_
                  refine blk_r ?_
                  refine thn_r ?_
                  refine fin_r ?_
                  refine ⟨congrArg Value.bool ?_, hx3⟩
                  simp only [Od.spanP, Od.g]
                  first | (refine dec_iff ?_; omega) | (refine dec_f ?_; omega) | (refine dec_t ?_; omega)
              · have gh47 := (of_decide_eq_false h47)
                refine WL.p rfl rfl rfl (congrArg some h47) ?_
                refine WL.p rfl rfl rfl (congrArg some h47) ?_
                refine WL.p rfl rfl rfl (congrArg some h47) ?_
                refine WL.p rfl rfl rfl (congrArg some h47) ?_
                refine WL.p rfl rfl rfl (congrArg some h47) ?_
                refine WL.va rfl rfl rfl (X.pickF rfl h47 rfl) ?_
                refine WL.va rfl rfl rfl (X.moveB rfl) ?_
                refine WL.p rfl rfl rfl rfl ?_
                refine WL.p rfl rfl rfl rfl ?_
                refine WL.p rfl rfl rfl rfl ?_
                refine WL.va rfl rfl rfl (X.pickF rfl rfl rfl) ?_
                refine WL.va rfl rfl rfl (X.assignB rfl) ?_
                refine WL.nil ?_
                refine thn_n ?_
                refine WF.ret ?_
                refine blk_r ?_
                refine thn_r ?_
                refine fin_r ?_
                refine ⟨congrArg Value.bool ?_, hx3⟩
                simp only [Od.spanP, Od.g]
                first | (refine dec_iff ?_; omega) | (refine dec_f ?_; omega) | (refine dec_t ?_; omega)
            · have gh4_44 := (of_decide_eq_false h4_44)
              refine WF.skip ?_
              refine blk_n ?_
              refine thn_n ?_
              refine WF.seq ?_
              refine WF.region ?_
              refine WL.va rfl rfl rfl (X.assignB rfl) ?_
              refine WL.nil ?_
              refine thn_n ?_
              refine WF.ret ?_
              refine fin_r ?_
              refine ⟨congrArg Value.bool ?_, hx3⟩
              simp only [Od.spanP, Od.g]
              first | (refine dec_iff ?_; omega) | (refine dec_f ?_; omega) | (refine dec_t ?_; omega)
  · have gh7 := (of_decide_eq_false h7)
    refine WL.p rfl rfl rfl (congrArg some h7) ?_
    refine WL.p rfl rfl rfl (congrArg some h7) ?_
    refine WL.p rfl rfl rfl (congrArg some h7) ?_
    refine WL.va rfl rfl rfl (X.pickF rfl h7 rfl) ?_
    refine WL.va rfl rfl rfl (X.assignB rfl) ?_
    refine WL.nil ?_
    refine thn_n ?_
    refine WF.cond_f rfl ?_
    refine WF.seq ?_
    refine WF.seq ?_
    refine WF.region ?_
    refine WL.va rfl rfl rfl (X.fieldAddrO (off := 0) rfl Try.underlying26 rfl rfl Try.sizeOf3) ?_
    refine WL.va rfl rfl rfl (X.loadO hO1 (Ext.refl _) rfl rfl Try.isAgg3) ?_
    refine WL.va rfl rfl rfl (X.eql rfl rfl) ?_
    refine WL.va rfl rfl rfl (X.assignB rfl) ?_
    refine WL.nil ?_
    refine thn_n ?_
    refine WF.cond rfl (fun h1_56 => ?_) (fun h1_56 => ?_)
    · have gh1_56 := (of_decide_eq_true h1_56)
      refine WF.skip ?_
      refine thn_n ?_
      refine WF.cond_t ((rfl : _ = Value.bool _).trans (congrArg Value.bool h1_56)) ?_
      refine WF.seq ?_
      refine WF.region ?_
      refine WL.va rfl rfl rfl (X.fieldAddrO (off := 6) rfl Try.underlying26 rfl rfl Try.sizeOf3) ?_
      refine WL.va rfl rfl rfl (X.loadO hO1 (Ext.refl _) rfl rfl Try.isAgg3) ?_
      refine WL.va rfl rfl rfl (X.geq rfl rfl) ?_
      refine WL.va rfl rfl rfl (X.moveB rfl) ?_
      refine WL.split (j := 3) rfl (fun h59 => ?_) (fun h59 => ?_)
      · have gh59 := (of_decide_eq_true h59)
        refine WL.vg rfl (congrArg some h59) rfl rfl (X.fieldAddrO (off := 6) rfl Try.underlying26 rfl rfl Try.sizeOf3) ?_
        refine WL.vg rfl (congrArg some h59) rfl rfl (X.loadO hO1 (Ext.refl _) rfl rfl Try.isAgg3) ?_
        refine WL.vg rfl (congrArg some h59) rfl rfl (X.fieldAddrO (off := 7) rfl Try.underlying26 rfl rfl Try.sizeOf3) ?_
        refine WL.vg rfl (congrArg some h59) rfl rfl (X.loadO hO1 (Ext.refl _) rfl rfl Try.isAgg3) ?_
        refine WL.vg rfl (congrArg some h59) rfl rfl (X.lss rfl rfl) ?_
        refine WL.va rfl rfl rfl (X.pickT rfl h59 rfl) ?_
        refine WL.va rfl rfl rfl (X.moveB rfl) ?_
        refine WL.split (j := 10) rfl (fun h61 => ?_) (fun h61 => ?_)
        · have gh61 := (of_decide_eq_true h61)
          refine WL.vg rfl (congrArg some h61) rfl rfl (X.fieldAddrO (off := 7) rfl Try.underlying26 rfl rfl Try.sizeOf3) ?_
          refine WL.vg rfl (congrArg some h61) rfl rfl (X.loadO hO1 (Ext.refl _) rfl rfl Try.isAgg3) ?_
          refine WL.vg rfl (congrArg some h61) rfl rfl (X.leq rfl rfl) ?_
          refine WL.va rfl rfl rfl (X.pickT rfl h61 rfl) ?_
          refine WL.va rfl rfl rfl (X.assignB rfl) ?_
          refine WL.nil ?_
          refine thn_n ?_
          refine WF.ret ?_
          refine blk_r ?_
          refine thn_r ?_
          refine fin_r ?_
          refine ⟨congrArg Value.bool ?_, hx3⟩
          simp only [Od.spanP, Od.g]
          first | (refine dec_iff ?_; omega) | (refine dec_f ?_; omega) | (refine dec_t ?_; omega)
        · have gh61 := (of_decide_eq_false h61)
          refine WL.p rfl rfl rfl (congrArg some h61) ?_
          refine WL.p rfl rfl rfl (congrArg some h61) ?_
          refine WL.p rfl rfl rfl (congrArg some h61) ?_
          refine WL.va rfl rfl rfl (X.pickF rfl h61 rfl) ?_
          refine WL.va rfl rfl rfl (X.assignB rfl) ?_
          refine WL.nil ?_
          refine thn_n ?_
          refine WF.ret ?_
          refine blk_r ?_
          refine thn_r ?_
          refine fin_r ?_
          refine ⟨congrArg Value.bool ?_, hx3⟩
          simp only [Od.spanP, Od.g]
          first | (refine dec_iff ?_; omega) | (refine dec_f ?_; omega) | (refine dec_t ?_; omega)
      · have gh59 := (of_decide_eq_false h59)
        refine WL.p rfl rfl rfl (congrArg some h59) ?_
        refine WL.p rfl rfl rfl (congrArg some h59) ?_
        refine WL.p rfl rfl rfl (congrArg some h59) ?_
        refine WL.p rfl rfl rfl (congrArg some h59) ?_
        refine WL.p rfl rfl rfl (congrArg some h59) ?_
        refine WL.va rfl rfl rfl (X.pickF rfl h59 rfl) ?_
        refine WL.va rfl rfl rfl (X.moveB rfl) ?_
        refine WL.p rfl rfl rfl rfl ?_
        refine WL.p rfl rfl rfl rfl ?_
        refine WL.p rfl rfl rfl rfl ?_
        refine WL.va rfl rfl rfl (X.pickF rfl rfl rfl) ?_
        refine WL.va rfl rfl rfl (X.assignB rfl) ?_
        refine WL.nil ?_
        refine thn_n ?_
        refine WF.ret ?_
        refine blk_r ?_
        refine thn_r ?_
        refine fin_r ?_
        refine ⟨congrArg Value.bool ?_, hx3⟩
        simp only [Od.spanP, Od.g]
        first | (refine dec_iff ?_; omega) | (refine dec_f ?_; omega) | (refine dec_t ?_; omega)
    · have gh1_56 := (of_decide_eq_false h1_56)
      refine WF.seq ?_
      refine WF.region ?_
      refine WL.va rfl rfl rfl (X.fieldAddrO (off := 0) rfl Try.underlying26 rfl rfl Try.sizeOf3) ?_
      refine WL.va rfl rfl rfl (X.loadO hO1 (Ext.refl _) rfl rfl Try.isAgg3) ?_
      refine WL.va rfl rfl rfl (X.eql rfl rfl) ?_
      refine WL.va rfl rfl rfl (X.assignB rfl) ?_
      refine WL.nil ?_
      refine thn_n ?_
      refine WF.cond rfl (fun h2_67 => ?_) (fun h2_67 => ?_)
      · have gh2_67 := (of_decide_eq_true h2_67)
        refine WF.skip ?_
        refine thn_n ?_
        refine WF.cond_t ((rfl : _ = Value.bool _).trans (congrArg Value.bool h2_67)) ?_
        refine WF.seq ?_
        refine WF.region ?_
        refine WL.va rfl rfl rfl (X.fieldAddrO (off := 6) rfl Try.underlying26 rfl rfl Try.sizeOf3) ?_
        refine WL.va rfl rfl rfl (X.loadO hO1 (Ext.refl _) rfl rfl Try.isAgg3) ?_
        refine WL.va rfl rfl rfl (X.geq rfl rfl) ?_
        refine WL.va rfl rfl rfl (X.moveB rfl) ?_
        refine WL.split (j := 3) rfl (fun h70 => ?_) (fun h70 => ?_)
        · have gh70 := (of_decide_eq_true h70)
          refine WL.vg rfl (congrArg some h70) rfl rfl (X.fieldAddrO (off := 6) rfl Try.underlying26 rfl rfl Try.sizeOf3) ?_
          refine WL.vg rfl (congrArg some h70) rfl rfl (X.loadO hO1 (Ext.refl _) rfl rfl Try.isAgg3) ?_
          refine WL.vg rfl (congrArg some h70) rfl rfl (X.fieldAddrO (off := 7) rfl Try.underlying26 rfl rfl Try.sizeOf3) ?_
          refine WL.vg rfl (congrArg some h70) rfl rfl (X.loadO hO1 (Ext.refl _) rfl rfl Try.isAgg3) ?_
          refine WL.vg rfl (congrArg some h70) rfl rfl (X.lss rfl rfl) ?_
          refine WL.va rfl rfl rfl (X.pickT rfl h70 rfl) ?_
          refine WL.va rfl rfl rfl (X.moveB rfl) ?_
          refine WL.split (j := 10) rfl (fun h72 => ?_) (fun h72 => ?_)
          · have gh72 := (of_decide_eq_true h72)
            refine WL.vg rfl (congrArg some h72) rfl rfl (X.fieldAddrO (off := 7) rfl Try.underlying26 rfl rfl Try.sizeOf3) ?_
            refine WL.vg rfl (congrArg some h72) rfl rfl (X.loadO hO1 (Ext.refl _) rfl rfl Try.isAgg3) ?_
            refine WL.vg rfl (congrArg some h72) rfl rfl (X.leq rfl rfl) ?_
            refine WL.va rfl rfl rfl (X.pickT rfl h72 rfl) ?_
            refine WL.va rfl rfl rfl (X.assignB rfl) ?_
            refine WL.nil ?_
            refine thn_n ?_
            refine WF.ret ?_
            refine blk_r ?_
            refine thn_r ?_
            refine fin_r ?_
            refine ⟨congrArg Value.bool ?_, hx3⟩
            simp only [Od.spanP, Od.g]
            first | (refine dec_iff ?_; omega) | (refine dec_f ?_; omega) | (refine dec_t ?_; omega)
          · have gh72 := (of_decide_eq_false h72)
            refine WL.p rfl rfl rfl (congrArg some h72) ?_
            refine WL.p rfl rfl rfl (congrArg some h72) ?_
            refine WL.p rfl rfl rfl (congrArg some h72) ?_
            refine WL.va rfl rfl rfl (X.pickF rfl h72 rfl) ?_
            refine WL.va rfl rfl rfl (X.assignB rfl) ?_
            refine WL.nil ?_
            refine thn_n ?_
            refine WF.ret ?_
            refine blk_r ?_
            refine thn_r ?_
            refine fin_r ?_
            refine ⟨congrArg Value.bool ?_, hx3⟩
            simp only [Od.spanP, Od.g]
            first | (refine dec_iff ?_; omega) | (refine dec_f ?_; omega) | (refine dec_t ?_; omega)
        · have gh70 := (of_decide_eq_false h70)
          refine WL.p rfl rfl rfl (congrArg some h70) ?_
          refine WL.p rfl rfl rfl (congrArg some h70) ?_
          refine WL.p rfl rfl rfl (congrArg some h70) ?_
          refine WL.p rfl rfl rfl (congrArg some h70) ?_
          refine WL.p rfl rfl rfl (congrArg some h70) ?_
          refine WL.va rfl rfl rfl (X.pickF rfl h70 rfl) ?_
          refine WL.va rfl rfl rfl (X.moveB rfl) ?_
          refine WL.p rfl rfl rfl rfl ?_
          refine WL.p rfl rfl rfl rfl ?_
          refine WL.p rfl rfl rfl rfl ?_
          refine WL.va rfl rfl rfl (X.pickF rfl rfl rfl) ?_
          refine WL.va rfl rfl rfl (X.assignB rfl) ?_
          refine WL.nil ?_
          refine thn_n ?_
          refine WF.ret ?_
          refine blk_r ?_
          refine thn_r ?_
          refine fin_r ?_
          refine ⟨congrArg Value.bool ?_, hx3⟩
          simp only [Od.spanP, Od.g]
          first | (refine dec_iff ?_; omega) | (refine dec_f ?_; omega) | (refine dec_t ?_; omega)
      · have gh2_67 := (of_decide_eq_false h2_67)
        refine WF.seq ?_
        refine WF.region ?_
        refine WL.va rfl rfl rfl (X.fieldAddrO (off := 0) rfl Try.underlying26 rfl rfl Try.sizeOf3) ?_
        refine WL.va rfl rfl rfl (X.loadO hO1 (Ext.refl _) rfl rfl Try.isAgg3) ?_
        refine WL.va rfl rfl rfl (X.eql rfl rfl) ?_
        refine WL.va rfl rfl rfl (X.assignB rfl) ?_
        refine WL.nil ?_
        refine thn_n ?_
        refine WF.cond rfl (fun h3_77 => ?_) (fun h3_77 => ?_)
        · have gh3_77 := (of_decide_eq_true h3_77)
          refine WF.skip ?_
          refine thn_n ?_
          refine WF.cond_t ((rfl : _ = Value.bool _).trans (congrArg Value.bool h3_77)) ?_
          refine WF.seq ?_
          refine WF.region ?_
          refine WL.va rfl rfl rfl (X.fieldAddrO (off := 6) rfl Try.underlying26 rfl rfl Try.sizeOf3) ?_
          refine WL.va rfl rfl rfl (X.loadO hO1 (Ext.refl _) rfl rfl Try.isAgg3) ?_
          refine WL.va rfl rfl rfl (X.geq rfl rfl) ?_
          refine WL.va rfl rfl rfl (X.moveB rfl) ?_
          refine WL.split (j := 3) rfl (fun h80 => ?_) (fun h80 => ?_)
          · have gh80 := (of_decide_eq_true h80)
            refine WL.vg rfl (congrArg some h80) rfl rfl (X.fieldAddrO (off := 6) rfl Try.underlying26 rfl rfl Try.sizeOf3) ?_
            refine WL.vg rfl (congrArg some h80) rfl rfl (X.loadO hO1 (Ext.refl _) rfl rfl Try.isAgg3) ?_
            refine WL.vg rfl (congrArg some h80) rfl rfl (X.fieldAddrO (off := 7) rfl Try.underlying26 rfl rfl Try.sizeOf3) ?_
            refine WL.vg rfl (congrArg some h80) rfl rfl (X.loadO hO1 (Ext.refl _) rfl rfl Try.isAgg3) ?_
            refine WL.vg rfl (congrArg some h80) rfl rfl (X.lss rfl rfl) ?_
            refine WL.va rfl rfl rfl (X.pickT rfl h80 rfl) ?_
            refine WL.va rfl rfl rfl (X.moveB rfl) ?_
            refine WL.split (j := 10) rfl (fun h82 => ?_) (fun h82 => ?_)
            · have gh82 := (of_decide_eq_true h82)
              refine WL.vg rfl (congrArg some h82) rfl rfl (X.fieldAddrO (off := 7) rfl Try.underlying26 rfl rfl Try.sizeOf3) ?_
              refine WL.vg rfl (congrArg some h82) rfl rfl (X.loadO hO1 (Ext.refl _) rfl rfl Try.isAgg3) ?_
              refine WL.vg rfl (congrArg some h82) rfl rfl (X.leq rfl rfl) ?_
              refine WL.va rfl rfl rfl (X.pickT rfl h82 rfl) ?_
              refine WL.va rfl rfl rfl (X.assignB rfl) ?_
              refine WL.nil ?_
              refine thn_n ?_
              refine WF.ret ?_
              refine blk_r ?_
              refine thn_r ?_
              refine fin_r ?_
              refine ⟨congrArg Value.bool ?_, hx3⟩
              simp only [Od.spanP, Od.g]
              first | (refine dec_iff ?_; omega) | (refine dec_f ?_; omega) | (refine dec_t ?_; omega)
            · have gh82 := (of_decide_eq_false h82)
              refine WL.p rfl rfl rfl (congrArg some h82) ?_
              refine WL.p rfl rfl rfl (congrArg some h82) ?_
              refine WL.p rfl rfl rfl (congrArg some h82) ?_
              refine WL.va rfl rfl rfl (X.pickF rfl h82 rfl) ?_
              refine WL.va rfl rfl rfl (X.assignB rfl) ?_
              refine WL.nil ?_
              refine thn_n ?_
              refine WF.ret ?_
              refine blk_r ?_
              refine thn_r ?_
              refine fin_r ?_
              refine ⟨congrArg Value.bool ?_, hx3⟩
              simp only [Od.spanP, Od.g]
              first | (refine dec_iff ?_; omega) | (refine dec_f ?_; omega) | (refine dec_t ?_; omega)
          · have gh80 := (of_decide_eq_false h80)
            refine WL.p rfl rfl rfl (congrArg some h80) ?_
            refine WL.p rfl rfl rfl (congrArg some h80) ?_
            refine WL.p rfl rfl rfl (congrArg some h80) ?_
            refine WL.p rfl rfl rfl (congrArg some h80) ?_
            refine WL.p rfl rfl rfl (congrArg some h80) ?_
            refine WL.va rfl rfl rfl (X.pickF rfl h80 rfl) ?_
            refine WL.va rfl rfl rfl (X.moveB rfl) ?_
            refine WL.p rfl rfl rfl rfl ?_
            refine WL.p rfl rfl rfl rfl ?_
            refine WL.p rfl rfl rfl rfl ?_
            refine WL.va rfl rfl rfl (X.pickF rfl rfl rfl) ?_
            refine WL.va rfl rfl rfl (X.assignB rfl) ?_
            refine WL.nil ?_
            refine thn_n ?_
            refine WF.ret ?_
            refine blk_r ?_
            refine thn_r ?_
            refine fin_r ?_
            refine ⟨congrArg Value.bool ?_, hx3⟩
            simp only [Od.spanP, Od.g]
            first | (refine dec_iff ?_; omega) | (refine dec_f ?_; omega) | (refine dec_t ?_; omega)
        · have gh3_77 := (of_decide_eq_false h3_77)
          refine WF.region ?_
          refine WL.va rfl rfl rfl (X.fieldAddrO (off := 0) rfl Try.underlying26 rfl rfl Try.sizeOf3) ?_
          refine WL.va rfl rfl rfl (X.loadO hO1 (Ext.refl _) rfl rfl Try.isAgg3) ?_
          refine WL.va rfl rfl rfl (X.eql rfl rfl) ?_
          refine WL.va rfl rfl rfl (X.assignB rfl) ?_
          refine WL.nil ?_
          refine thn_n ?_
          refine WF.cond rfl (fun h4_87 => ?_) (fun h4_87 => ?_)
          · have gh4_87 := (of_decide_eq_true h4_87)
            refine WF.seq ?_
            refine WF.region ?_
            refine WL.va rfl rfl rfl (X.fieldAddrO (off := 6) rfl Try.underlying26 rfl rfl Try.sizeOf3) ?_
            refine WL.va rfl rfl rfl (X.loadO hO1 (Ext.refl _) rfl rfl Try.isAgg3) ?_
            refine WL.va rfl rfl rfl (X.geq rfl rfl) ?_
            refine WL.va rfl rfl rfl (X.moveB rfl) ?_
            refine WL.split (j := 3) rfl (fun h90 => ?_) (fun h90 => ?_)
            · have gh90 := (of_decide_eq_true h90)
              refine WL.vg rfl (congrArg some h90) rfl rfl (X.fieldAddrO (off := 6) rfl Try.underlying26 rfl rfl Try.sizeOf3) ?_
              refine WL.vg rfl (congrArg some h90) rfl rfl (X.loadO hO1 (Ext.refl _) rfl rfl Try.isAgg3) ?_
              refine WL.vg rfl (congrArg some h90) rfl rfl (X.fieldAddrO (off := 7) rfl Try.underlying26 rfl rfl Try.sizeOf3) ?_
              refine WL.vg rfl (congrArg some h90) rfl rfl (X.loadO hO1 (Ext.refl _) rfl rfl Try.isAgg3) ?_
              refine WL.vg rfl (congrArg some h90) rfl rfl (X.lss rfl rfl) ?_
              refine WL.va rfl rfl rfl (X.pickT rfl h90 rfl) ?_
              refine WL.va rfl rfl rfl (X.moveB rfl) ?_
              refine WL.split (j := 10) rfl (fun h92 => ?_) (fun h92 => ?_)
              · have gh92 := (of_decide_eq_true h92)
                refine WL.vg rfl (congrArg some h92) rfl rfl (X.fieldAddrO (off := 7) rfl Try.underlying26 rfl rfl Try.sizeOf3) ?_
                refine WL.vg rfl (congrArg some h92) rfl rfl (X.loadO hO1 (Ext.refl _) rfl rfl Try.isAgg3) ?_
                refine WL.vg rfl (congrArg some h92) rfl rfl (X.leq rfl rfl) ?_
                refine WL.va rfl rfl rfl (X.pickT rfl h92 rfl) ?_
                refine WL.va rfl rfl rfl (X.assignB rfl) ?_
                refine WL.nil ?_
                refine thn_n ?_
                refine WF.ret ?_
                refine blk_r ?_
                refine thn_r ?_
                refine fin_r ?_
                refine ⟨congrArg Value.bool ?_, hx3⟩
                simp only [Od.spanP, Od.g]
                first | (refine dec_iff ?_; omega) | (refine dec_f ?_; omega) | (refine dec_t ?_; omega)
              · have gh92 := (of_decide_eq_false h92)
                refine WL.p rfl rfl rfl (congrArg some h92) ?_
                refine WL.p rfl rfl rfl (congrArg some h92) ?_
                refine WL.p rfl rfl rfl (congrArg some h92) ?_
                refine WL.va rfl rfl rfl (X.pickF rfl h92 rfl) ?_
                refine WL.va rfl rfl rfl (X.assignB rfl) ?_
                refine WL.nil ?_
                refine thn_n ?_
                refine WF.ret ?_
                refine blk_r ?_
                refine thn_r ?_
                refine fin_r ?_
                refine ⟨congrArg Value.bool ?_, hx3⟩
                simp only [Od.spanP, Od.g]
                first | (refine dec_iff ?_; omega) | (refine dec_f ?_; omega) | (refine dec_t ?_; omega)
            · have gh90 := (of_decide_eq_false h90)
              refine WL.p rfl rfl rfl (congrArg some h90) ?_
              refine WL.p rfl rfl rfl (congrArg some h90) ?_
              refine WL.p rfl rfl rfl (congrArg some h90) ?_
              refine WL.p rfl rfl rfl (congrArg some h90) ?_
              refine WL.p rfl rfl rfl (congrArg some h90) ?_
              refine WL.va rfl rfl rfl (X.pickF rfl h90 rfl) ?_
              refine WL.va rfl rfl rfl (X.moveB rfl) ?_
              refine WL.p rfl rfl rfl rfl ?_
              refine WL.p rfl rfl rfl rfl ?_
              refine WL.p rfl rfl rfl rfl ?_
              refine WL.va rfl rfl rfl (X.pickF rfl rfl rfl) ?_
              refine WL.va rfl rfl rfl (X.assignB rfl) ?_
              refine WL.nil ?_
              refine thn_n ?_
              refine WF.ret ?_
              refine blk_r ?_
              refine thn_r ?_
              refine fin_r ?_
              refine ⟨congrArg Value.bool ?_, hx3⟩
              simp only [Od.spanP, Od.g]
              first | (refine dec_iff ?_; omega) | (refine dec_f ?_; omega) | (refine dec_t ?_; omega)
          · have gh4_87 := (of_decide_eq_false h4_87)
            refine WF.skip ?_
            refine blk_n ?_
            refine thn_n ?_
            refine WF.seq ?_
            refine WF.region ?_
            refine WL.va rfl rfl rfl (X.assignB rfl) ?_
            refine WL.nil ?_
            refine thn_n ?_
            refine WF.ret ?_
            refine fin_r ?_
            refine ⟨congrArg Value.bool ?_, hx3⟩
            simp only [Od.spanP, Od.g]
            first | (refine dec_iff ?_; omega) | (refine dec_f ?_; omega) | (refine dec_t ?_; omega)

set_option maxHeartbeats 4000000 in
theorem placed_ok (vP vR vW vD : Value) (o : Od) (w : World) (h : OpAt w vP vR vW vD o) (hm : o.small) : FnOk Try.prog 46 [agg (oc o.n vP vR vW vD)] w (fun r w' => r = .bool (decide o.placedP) ∧ Ext w w') := by
  obtain ⟨hmP, hmR, hmW, hmD, hmWD⟩ := hm
  obtain ⟨E, hE, rE, dE⟩ := h.W
  have hEl : E.length = o.W.length := by rw [← hE]; simp
  refine FnOk.enter (rs := [2]) Try.func46 rfl Try.ntmps46 Try.results46 rfl rfl ?_
  refine WF.seq ?_
  refine WF.region ?_
  refine WL.op rfl (OW.boxA (cs := (oc o.n vP vR vW vD)) rfl ?_ (by decide))
  intro g1 w1 heg1 hlg1 hO1 hx3
  have := World.grownBy.size hx3
  refine WL.va rfl rfl rfl (X.assignB rfl) ?_
  refine WL.nil ?_
  refine thn_n ?_
  refine WF.seq ?_
  refine WF.region ?_
  refine WL.va rfl rfl rfl (X.fieldAddrO (off := 1) rfl Try.underlying26 rfl rfl Try.sizeOf3) ?_
  refine WL.va rfl rfl rfl (X.loadO hO1 (Ext.refl _) rfl rfl Try.isAgg3) ?_
  refine WL.c rfl rfl rfl (X.call Try.call44 (evl_cons rfl (evl_cons rfl (evl_cons rfl evl_nil)))) (in_ok _ _ _ _) ?_
  rintro v7 w6 ⟨rfl, hx8⟩
  have := World.grownBy.size hx8
  refine WL.va rfl rfl rfl (X.assignB rfl) ?_
  refine WL.nil ?_
  refine thn_n ?_
  refine WF.seq ?_
  refine WF.seq ?_
  refine WF.region ?_
  refine WL.va rfl rfl rfl (X.fieldAddrO (off := 2) rfl Try.underlying26 rfl rfl Try.sizeOf3) ?_
  refine WL.va rfl rfl rfl (X.loadO hO1 hx8 rfl rfl Try.isAgg3) ?_
  refine WL.va rfl rfl rfl (X.fieldAddrO (off := 3) rfl Try.underlying26 rfl rfl Try.sizeOf3) ?_
  refine WL.va rfl rfl rfl (X.loadO hO1 hx8 rfl rfl Try.isAgg3) ?_
  refine WL.va rfl rfl rfl (X.fieldAddrO (off := 4) rfl Try.underlying26 rfl rfl Try.sizeOf3) ?_
  refine WL.va rfl rfl rfl (X.loadO hO1 hx8 rfl rfl Try.isAgg3) ?_
  refine WL.va rfl rfl rfl (X.fieldAddrO (off := 5) rfl Try.underlying26 rfl rfl Try.sizeOf3) ?_
  refine WL.va rfl rfl rfl (X.loadO hO1 hx8 rfl rfl Try.isAgg3) ?_
  refine WL.va rfl rfl rfl (X.fieldAddrO (off := 9) rfl Try.underlying26 rfl rfl Try.sizeOf3) ?_
  refine WL.va rfl rfl rfl (X.loadO hO1 hx8 rfl rfl Try.isAgg3) ?_
  refine WL.op rfl (OW.lits (vs := [i64 (o.n.getD 2 0), i64 (o.n.getD 3 0), i64 (o.n.getD 4 0), i64 (o.n.getD 5 0), i64 (o.n.getD 9 0)]) (evp_cons rfl (evp_cons rfl (evp_cons rfl (evp_cons rfl (evp_cons rfl evp_nil))))) Try.underlying22 Try.sizeOf3 Try.zeroValue3 ⟨rfl, rfl, rfl, rfl, rfl, trivial⟩ rfl rfl rfl ?_ (by decide))
  intro v10 wl ho12 hx11
  have := World.grownBy.size hx11
  refine WL.va rfl rfl rfl (X.len (show Ints _ _ [o.n.getD 2 0, o.n.getD 3 0, o.n.getD 4 0, o.n.getD 5 0, o.n.getD 9 0] from Row.of_own ho12) rfl Try.underlying22) ?_
  refine WL.va rfl rfl rfl (X.moveI rfl) ?_
  refine WL.nil ?_
  refine thn_n ?_
  refine WF.block ?_
  refine WF.named (fun F13 hF14 => ?_)
  refine WF.loopN (fun mL0 f' w' => ∃ (j : Nat), mL0 = 5 - j ∧ f' 21 = .int .i64 (j : Int) ∧ f' 3 = .bool (decide ((0 ≤ o.n.getD 1 0 ∧ o.n.getD 1 0 ≤ 4) ∧ ∀ i, i < j → inM ([o.n.getD 2 0, o.n.getD 3 0, o.n.getD 4 0, o.n.getD 5 0, o.n.getD 9 0].getD i 0))) ∧ Agree [0, 1, 2, 6, 7, 8, 9, 10, 11, 12, 13, 14, 15, 16, 17, 18, 19, 20] f' F13 ∧ Ext wl w' ∧ j ≤ 5) ?_ ?_
  · exact ⟨_, 0, rfl, (congrFun hF14 21), (Eq.trans (congrFun hF14 3) (congrArg Value.bool (dec_iff ⟨fun h => ⟨h, fun i hi => absurd hi (Nat.not_lt_zero i)⟩, fun h => h.1⟩))), (Agree.refl _ _), (Ext.refl _), (by omega)⟩
  · rintro mL0 fL0 wL0 ⟨j, hmL0, e21_L0, e3_L0, hAL0, hwL0, hiL0⟩
    have := World.grownBy.size hwL0
    refine WF.seq ?_
    refine WF.region ?_
    refine WL.va rfl rfl rfl (X.lss e21_L0 ((hAL0.eq 20).trans (congrFun hF14 20))) ?_
    refine WL.nil ?_
    refine thn_n ?_
    refine WF.seq ?_
    refine WF.cond rfl (fun h0_16 => ?_) (fun h0_16 => ?_)
    · have gh0_16 := (of_decide_eq_true h0_16)
      have hj5 : j < 5 := by have hq := gh0_16; simp only [List.length_cons, List.length_nil] at hq; omega
      refine WF.skip ?_
      refine thn_n ?_
      refine WF.seq ?_
      refine WF.block ?_
      refine WF.seq ?_
      refine WF.region ?_
      refine WL.va rfl rfl rfl (X.idx (show Ints _ _ [o.n.getD 2 0, o.n.getD 3 0, o.n.getD 4 0, o.n.getD 5 0, o.n.getD 9 0] from Row.of_own ho12) ((hAL0.eq 19).trans (congrFun hF14 19)) e21_L0 (by omega) Try.underlying22 Try.sizeOf3) ?_
      refine WL.va rfl rfl rfl (X.loadI (show Ints _ _ [o.n.getD 2 0, o.n.getD 3 0, o.n.getD 4 0, o.n.getD 5 0, o.n.getD 9 0] from Row.of_own ho12) hwL0 rfl (by omega) Try.isAgg3) ?_
      refine WL.va rfl rfl rfl (X.assignI rfl) ?_
      refine WL.nil ?_
      refine thn_n ?_
      refine WF.region ?_
      refine WL.va rfl rfl rfl (X.moveB e3_L0) ?_
      refine WL.va rfl rfl rfl (X.moveB rfl) ?_
      refine WL.split (j := 1) rfl (fun h18 => ?_) (fun h18 => ?_)
      · have gh18 := (of_decide_eq_true h18)
        refine WL.vg rfl (congrArg some h18) rfl rfl (X.moveI rfl) ?_
        refine WL.cg rfl (congrArg some h18) rfl rfl (X.call Try.call44 (evl_cons rfl (evl_cons rfl (evl_cons rfl evl_nil)))) (in_ok _ _ _ _) ?_
        rintro v20 w19 ⟨rfl, hx21⟩
        have := World.grownBy.size hx21
        refine WL.va rfl rfl rfl (X.pickT rfl h18 rfl) ?_
        refine WL.va rfl rfl rfl (X.assignB rfl) ?_
        refine WL.nil ?_
        refine blk_n ?_
        refine thn_n ?_
        refine WF.region ?_
        refine WL.va rfl rfl rfl (X.add e21_L0 rfl (w64 (by omega))) ?_
        refine WL.va rfl rfl rfl (X.moveI rfl) ?_
        refine WL.nil ?_
        exact thn_n ⟨_, (by omega), j + 1, rfl, rfl, (Eq.trans rfl (by first | exact congrArg Value.bool (ok_t (by assumption)) | exact congrArg Value.bool (ok_f (by assumption)))), (by repeat (first | exact hAL0 | refine Agree.put ?_ rfl | refine Agree.named hF14 ?_)), (Ext.trans hwL0 hx21), (by omega)⟩
      · have gh18 := (of_decide_eq_false h18)
        refine WL.p rfl rfl rfl (congrArg some h18) ?_
        refine WL.p rfl rfl rfl (congrArg some h18) ?_
        refine WL.va rfl rfl rfl (X.pickF rfl h18 rfl) ?_
        refine WL.va rfl rfl rfl (X.assignB rfl) ?_
        refine WL.nil ?_
        refine blk_n ?_
        refine thn_n ?_
        refine WF.region ?_
        refine WL.va rfl rfl rfl (X.add e21_L0 rfl (w64 (by omega))) ?_
        refine WL.va rfl rfl rfl (X.moveI rfl) ?_
        refine WL.nil ?_
        exact thn_n ⟨_, (by omega), j + 1, rfl, rfl, (Eq.trans rfl (by first | exact congrArg Value.bool (ok_t (by assumption)) | exact congrArg Value.bool (ok_f (by assumption)))), (by repeat (first | exact hAL0 | refine Agree.put ?_ rfl | refine Agree.named hF14 ?_)), hwL0, (by omega)⟩
    · have gh0_16 := (of_decide_eq_false h0_16)
      obtain rfl : j = 5 := by have hq := gh0_16; simp only [List.length_cons, List.length_nil] at hq; omega
      have e3_L0 := e3_L0.trans (congrArg Value.bool (dec_to ((0 ≤ o.n.getD 1 0 ∧ o.n.getD 1 0 ≤ 4) ∧ (inM (o.n.getD 2 0) ∧ inM (o.n.getD 3 0) ∧ inM (o.n.getD 4 0) ∧ inM (o.n.getD 5 0) ∧ inM (o.n.getD 9 0))) ⟨fun h => ⟨h.1, h.2 0 (by omega), h.2 1 (by omega), h.2 2 (by omega), h.2 3 (by omega), h.2 4 (by omega)⟩, fun h => ⟨h.1, fun i hi => match i, hi with | 0, _ => h.2.1 | 1, _ => h.2.2.1 | 2, _ => h.2.2.2.1 | 3, _ => h.2.2.2.2.1 | 4, _ => h.2.2.2.2.2⟩⟩))
      refine WF.exit ?_
      refine thn_x ?_
      refine thn_x ?_
      refine blk_eq ?_
      refine thn_n ?_
      refine WF.named (fun F24 hF25 => ?_)
      refine WF.cut (fun f' w' => f' 3 = .bool (decide (((0 ≤ o.n.getD 1 0 ∧ o.n.getD 1 0 ≤ 4) ∧ (inM (o.n.getD 2 0) ∧ inM (o.n.getD 3 0) ∧ inM (o.n.getD 4 0) ∧ inM (o.n.getD 5 0) ∧ inM (o.n.getD 9 0))) ∧ (o.n.getD 0 0 = 1 ∨ o.n.getD 0 0 = 2 ∨ o.n.getD 0 0 = 3 → 1 ≤ o.n.getD 3 0) ∧ (o.n.getD 0 0 = 4 → 1 ≤ o.n.getD 9 0) ∧ (o.n.getD 0 0 = 9 → (1 ≤ o.n.getD 11 0 ∧ o.n.getD 11 0 ≤ 4) ∧ (1 ≤ o.n.getD 12 0 ∧ o.n.getD 12 0 ≤ 4)) ∧ (o.n.getD 0 0 = 11 → 1 ≤ o.n.getD 12 0 ∧ o.n.getD 12 0 ≤ 7))) ∧ Agree [0, 1, 2, 6, 7, 8, 9, 10, 11, 12, 13, 14, 15, 16, 17, 18, 19, 20, 21, 22] f' F24 ∧ Ext wL0 w') ?_ ?_
      · refine WF.seq ?_
        refine WF.region ?_
        refine WL.va rfl rfl rfl (X.fieldAddrO (off := 0) ((congrFun hF25 1).trans ((hAL0.eq 1).trans (congrFun hF14 1))) Try.underlying26 rfl rfl Try.sizeOf3) ?_
        refine WL.va rfl rfl rfl (X.loadO hO1 (Ext.trans (Ext.trans hx8 hx11) hwL0) rfl rfl Try.isAgg3) ?_
        refine WL.nil ?_
        refine thn_n ?_
        refine WF.block ?_
        refine WF.seq ?_
        refine WF.seq ?_
        refine WF.region ?_
        refine WL.va rfl rfl rfl (X.eql rfl rfl) ?_
        refine WL.va rfl rfl rfl (X.assignB rfl) ?_
        refine WL.nil ?_
        refine thn_n ?_
        refine WF.cond rfl (fun h1_26 => ?_) (fun h1_26 => ?_)
        · have gh1_26 := (of_decide_eq_true h1_26)
          refine WF.skip ?_
          refine thn_n ?_
          refine WF.cond_t ((rfl : _ = Value.bool _).trans (congrArg Value.bool h1_26)) ?_
          refine WF.region ?_
          refine WL.va rfl rfl rfl (X.moveB ((congrFun hF25 3).trans e3_L0)) ?_
          refine WL.va rfl rfl rfl (X.moveB rfl) ?_
          refine WL.split (j := 1) rfl (fun h28 => ?_) (fun h28 => ?_)
          · have gh28 := (of_decide_eq_true h28)
            refine WL.vg rfl (congrArg some h28) rfl rfl (X.fieldAddrO (off := 3) ((congrFun hF25 1).trans ((hAL0.eq 1).trans (congrFun hF14 1))) Try.underlying26 rfl rfl Try.sizeOf3) ?_
            refine WL.vg rfl (congrArg some h28) rfl rfl (X.loadO hO1 (Ext.trans (Ext.trans hx8 hx11) hwL0) rfl rfl Try.isAgg3) ?_
            refine WL.vg rfl (congrArg some h28) rfl rfl (X.geq rfl rfl) ?_
            refine WL.va rfl rfl rfl (X.pickT rfl h28 rfl) ?_
            refine WL.va rfl rfl rfl (X.assignB rfl) ?_
            refine WL.nil ?_
            refine blk_n ?_
            refine thn_n ?_
            exact ⟨(Eq.trans rfl (by first | (refine congrArg Value.bool (dec_iff ?_); omega) | (refine congrArg Value.bool (dec_f ?_); omega) | (refine congrArg Value.bool (dec_t ?_); omega))), (by repeat (first | exact (Agree.refl _ F24) | refine Agree.put ?_ rfl | refine Agree.sub hAL0 rfl ?_ | refine Agree.named hF25 ?_ | refine Agree.named hF14 ?_)), (Ext.refl _)⟩
          · have gh28 := (of_decide_eq_false h28)
            refine WL.p rfl rfl rfl (congrArg some h28) ?_
            refine WL.p rfl rfl rfl (congrArg some h28) ?_
            refine WL.p rfl rfl rfl (congrArg some h28) ?_
            refine WL.va rfl rfl rfl (X.pickF rfl h28 rfl) ?_
            refine WL.va rfl rfl rfl (X.assignB rfl) ?_
            refine WL.nil ?_
            refine blk_n ?_
            refine thn_n ?_
            exact ⟨(Eq.trans rfl (by first | (refine congrArg Value.bool (dec_iff ?_); omega) | (refine congrArg Value.bool (dec_f ?_); omega) | (refine congrArg Value.bool (dec_t ?_); omega))), (by repeat (first | exact (Agree.refl _ F24) | refine Agree.put ?_ rfl | refine Agree.sub hAL0 rfl ?_ | refine Agree.named hF25 ?_ | refine Agree.named hF14 ?_)), (Ext.refl _)⟩
        · have gh1_26 := (of_decide_eq_false h1_26)
          refine WF.seq ?_
          refine WF.region ?_
          refine WL.va rfl rfl rfl (X.eql rfl rfl) ?_
          refine WL.va rfl rfl rfl (X.assignB rfl) ?_
          refine WL.nil ?_
          refine thn_n ?_
          refine WF.cond rfl (fun h2_31 => ?_) (fun h2_31 => ?_)
          · have gh2_31 := (of_decide_eq_true h2_31)
            refine WF.skip ?_
            refine thn_n ?_
            refine WF.cond_t ((rfl : _ = Value.bool _).trans (congrArg Value.bool h2_31)) ?_
            refine WF.region ?_
            refine WL.va rfl rfl rfl (X.moveB ((congrFun hF25 3).trans e3_L0)) ?_
            refine WL.va rfl rfl rfl (X.moveB rfl) ?_
            refine WL.split (j := 1) rfl (fun h33 => ?_) (fun h33 => ?_)
            · have gh33 := (of_decide_eq_true h33)
              refine WL.vg rfl (congrArg some h33) rfl rfl (X.fieldAddrO (off := 3) ((congrFun hF25 1).trans ((hAL0.eq 1).trans (congrFun hF14 1))) Try.underlying26 rfl rfl Try.sizeOf3) ?_
              refine WL.vg rfl (congrArg some h33) rfl rfl (X.loadO hO1 (Ext.trans (Ext.trans hx8 hx11) hwL0) rfl rfl Try.isAgg3) ?_
              refine WL.vg rfl (congrArg some h33) rfl rfl (X.geq rfl rfl) ?_
              refine WL.va rfl rfl rfl (X.pickT rfl h33 rfl) ?_
              refine WL.va rfl rfl rfl (X.assignB rfl) ?_
              refine WL.nil ?_
              refine blk_n ?_
              refine thn_n ?_
              exact ⟨(Eq.trans rfl (by first | (refine congrArg Value.bool (dec_iff ?_); omega) | (refine congrArg Value.bool (dec_f ?_); omega) | (refine congrArg Value.bool (dec_t ?_); omega))), (by repeat (first | exact (Agree.refl _ F24) | refine Agree.put ?_ rfl | refine Agree.sub hAL0 rfl ?_ | refine Agree.named hF25 ?_ | refine Agree.named hF14 ?_)), (Ext.refl _)⟩
            · have gh33 := (of_decide_eq_false h33)
              refine WL.p rfl rfl rfl (congrArg some h33) ?_
              refine WL.p rfl rfl rfl (congrArg some h33) ?_
              refine WL.p rfl rfl rfl (congrArg some h33) ?_
              refine WL.va rfl rfl rfl (X.pickF rfl h33 rfl) ?_
              refine WL.va rfl rfl rfl (X.assignB rfl) ?_
              refine WL.nil ?_
              refine blk_n ?_
              refine thn_n ?_
              exact ⟨(Eq.trans rfl (by first | (refine congrArg Value.bool (dec_iff ?_); omega) | (refine congrArg Value.bool (dec_f ?_); omega) | (refine congrArg Value.bool (dec_t ?_); omega))), (by repeat (first | exact (Agree.refl _ F24) | refine Agree.put ?_ rfl | refine Agree.sub hAL0 rfl ?_ | refine Agree.named hF25 ?_ | refine Agree.named hF14 ?_)), (Ext.refl _)⟩
          · have gh2_31 := (of_decide_eq_false h2_31)
            refine WF.region ?_
            refine WL.va rfl rfl rfl (X.eql rfl rfl) ?_
            refine WL.va rfl rfl rfl (X.assignB rfl) ?_
            refine WL.nil ?_
            refine thn_n ?_
            refine WF.cond rfl (fun h3_36 => ?_) (fun h3_36 => ?_)
            · have gh3_36 := (of_decide_eq_true h3_36)
              refine WF.region ?_
              refine WL.va rfl rfl rfl (X.moveB ((congrFun hF25 3).trans e3_L0)) ?_
              refine WL.va rfl rfl rfl (X.moveB rfl) ?_
              refine WL.split (j := 1) rfl (fun h38 => ?_) (fun h38 => ?_)
              · have gh38 := (of_decide_eq_true h38)
                refine WL.vg rfl (congrArg some h38) rfl rfl (X.fieldAddrO (off := 3) ((congrFun hF25 1).trans ((hAL0.eq 1).trans (congrFun hF14 1))) Try.underlying26 rfl rfl Try.sizeOf3) ?_
                refine WL.vg rfl (congrArg some h38) rfl rfl (X.loadO hO1 (Ext.trans (Ext.trans hx8 hx11) hwL0) rfl rfl Try.isAgg3) ?_
                refine WL.vg rfl (congrArg some h38) rfl rfl (X.geq rfl rfl) ?_
                refine WL.va rfl rfl rfl (X.pickT rfl h38 rfl) ?_
                refine WL.va rfl rfl rfl (X.assignB rfl) ?_
                refine WL.nil ?_
                refine blk_n ?_
                refine thn_n ?_
                exact ⟨(Eq.trans rfl (by first | (refine congrArg Value.bool (dec_iff ?_); omega) | (refine congrArg Value.bool (dec_f ?_); omega) | (refine congrArg Value.bool (dec_t ?_); omega))), (by repeat (first | exact (Agree.refl _ F24) | refine Agree.put ?_ rfl | refine Agree.sub hAL0 rfl ?_ | refine Agree.named hF25 ?_ | refine Agree.named hF14 ?_)), (Ext.refl _)⟩
              · have gh38 := (of_decide_eq_false h38)
                refine WL.p rfl rfl rfl (congrArg some h38) ?_
                refine WL.p rfl rfl rfl (congrArg some h38) ?_
                refine WL.p rfl rfl rfl (congrArg some h38) ?_
                refine WL.va rfl rfl rfl (X.pickF rfl h38 rfl) ?_
                refine WL.va rfl rfl rfl (X.assignB rfl) ?_
                refine WL.nil ?_
                refine blk_n ?_
                refine thn_n ?_
                exact ⟨(Eq.trans rfl (by first | (refine congrArg Value.bool (dec_iff ?_); omega) | (refine congrArg Value.bool (dec_f ?_); omega) | (refine congrArg Value.bool (dec_t ?_); omega))), (by repeat (first | exact (Agree.refl _ F24) | refine Agree.put ?_ rfl | refine Agree.sub hAL0 rfl ?_ | refine Agree.named hF25 ?_ | refine Agree.named hF14 ?_)), (Ext.refl _)⟩
            · have gh3_36 := (of_decide_eq_false h3_36)
              refine WF.seq ?_
              refine WF.region ?_
              refine WL.va rfl rfl rfl (X.eql rfl rfl) ?_
              refine WL.va rfl rfl rfl (X.assignB rfl) ?_
              refine WL.nil ?_
              refine thn_n ?_
              refine WF.cond rfl (fun h4_41 => ?_) (fun h4_41 => ?_)
              · have gh4_41 := (of_decide_eq_true h4_41)
                refine WF.region ?_
                refine WL.va rfl rfl rfl (X.moveB ((congrFun hF25 3).trans e3_L0)) ?_
                refine WL.va rfl rfl rfl (X.moveB rfl) ?_
                refine WL.split (j := 1) rfl (fun h43 => ?_) (fun h43 => ?_)
                · have gh43 := (of_decide_eq_true h43)
                  refine WL.vg rfl (congrArg some h43) rfl rfl (X.fieldAddrO (off := 9) ((congrFun hF25 1).trans ((hAL0.eq 1).trans (congrFun hF14 1))) Try.underlying26 rfl rfl Try.sizeOf3) ?_
                  refine WL.vg rfl (congrArg some h43) rfl rfl (X.loadO hO1 (Ext.trans (Ext.trans hx8 hx11) hwL0) rfl rfl Try.isAgg3) ?_
                  refine WL.vg rfl (congrArg some h43) rfl rfl (X.geq rfl rfl) ?_
                  refine WL.va rfl rfl rfl (X.pickT rfl h43 rfl) ?_
                  refine WL.va rfl rfl rfl (X.assignB rfl) ?_
                  refine WL.nil ?_
                  refine blk_n ?_
                  refine thn_n ?_
                  exact ⟨(Eq.trans rfl (by first | (refine congrArg Value.bool (dec_iff ?_); omega) | (refine congrArg Value.bool (dec_f ?_); omega) | (refine congrArg Value.bool (dec_t ?_); omega))), (by repeat (first | exact (Agree.refl _ F24) | refine Agree.put ?_ rfl | refine Agree.sub hAL0 rfl ?_ | refine Agree.named hF25 ?_ | refine Agree.named hF14 ?_)), (Ext.refl _)⟩
                · have gh43 := (of_decide_eq_false h43)
                  refine WL.p rfl rfl rfl (congrArg some h43) ?_
                  refine WL.p rfl rfl rfl (congrArg some h43) ?_
                  refine WL.p rfl rfl rfl (congrArg some h43) ?_
                  refine WL.va rfl rfl rfl (X.pickF rfl h43 rfl) ?_
                  refine WL.va rfl rfl rfl (X.assignB rfl) ?_
                  refine WL.nil ?_
                  refine blk_n ?_
                  refine thn_n ?_
                  exact ⟨(Eq.trans rfl (by first | (refine congrArg Value.bool (dec_iff ?_); omega) | (refine congrArg Value.bool (dec_f ?_); omega) | (refine congrArg Value.bool (dec_t ?_); omega))), (by repeat (first | exact (Agree.refl _ F24) | refine Agree.put ?_ rfl | refine Agree.sub hAL0 rfl ?_ | refine Agree.named hF25 ?_ | refine Agree.named hF14 ?_)), (Ext.refl _)⟩
              · have gh4_41 := (of_decide_eq_false h4_41)
                refine WF.seq ?_
                refine WF.region ?_
                refine WL.va rfl rfl rfl (X.eql rfl rfl) ?_
                refine WL.va rfl rfl rfl (X.assignB rfl) ?_
                refine WL.nil ?_
                refine thn_n ?_
                refine WF.cond rfl (fun h5_46 => ?_) (fun h5_46 => ?_)
                · have gh5_46 := (of_decide_eq_true h5_46)
                  refine WF.region ?_
                  refine WL.va rfl rfl rfl (X.moveB ((congrFun hF25 3).trans e3_L0)) ?_
                  refine WL.va rfl rfl rfl (X.moveB rfl) ?_
                  refine WL.split (j := 1) rfl (fun h48 => ?_) (fun h48 => ?_)
                  · have gh48 := (of_decide_eq_true h48)
                    refine WL.vg rfl (congrArg some h48) rfl rfl (X.fieldAddrO (off := 11) ((congrFun hF25 1).trans ((hAL0.eq 1).trans (congrFun hF14 1))) Try.underlying26 rfl rfl Try.sizeOf3) ?_
                    refine WL.vg rfl (congrArg some h48) rfl rfl (X.loadO hO1 (Ext.trans (Ext.trans hx8 hx11) hwL0) rfl rfl Try.isAgg3) ?_
                    refine WL.cg rfl (congrArg some h48) rfl rfl (X.call Try.call44 (evl_cons rfl (evl_cons rfl (evl_cons rfl evl_nil)))) (in_ok _ _ _ _) ?_
                    rintro v50 w49 ⟨rfl, hx51⟩
                    have := World.grownBy.size hx51
                    refine WL.va rfl rfl rfl (X.pickT rfl h48 rfl) ?_
                    refine WL.va rfl rfl rfl (X.moveB rfl) ?_
                    refine WL.split (j := 6) rfl (fun h53 => ?_) (fun h53 => ?_)
                    · have gh53 := (of_decide_eq_true h53)
                      refine WL.vg rfl (congrArg some h53) rfl rfl (X.fieldAddrO (off := 12) ((congrFun hF25 1).trans ((hAL0.eq 1).trans (congrFun hF14 1))) Try.underlying26 rfl rfl Try.sizeOf3) ?_
                      refine WL.vg rfl (congrArg some h53) rfl rfl (X.loadO hO1 (Ext.trans (Ext.trans (Ext.trans hx8 hx11) hwL0) hx51) rfl rfl Try.isAgg3) ?_
                      refine WL.cg rfl (congrArg some h53) rfl rfl (X.call Try.call44 (evl_cons rfl (evl_cons rfl (evl_cons rfl evl_nil)))) (in_ok _ _ _ _) ?_
                      rintro v55 w54 ⟨rfl, hx56⟩
                      have := World.grownBy.size hx56
                      refine WL.va rfl rfl rfl (X.pickT rfl h53 rfl) ?_
                      refine WL.va rfl rfl rfl (X.assignB rfl) ?_
                      refine WL.nil ?_
                      refine blk_n ?_
                      refine thn_n ?_
                      exact ⟨(Eq.trans rfl (by first | (refine congrArg Value.bool (dec_iff ?_); omega) | (refine congrArg Value.bool (dec_f ?_); omega) | (refine congrArg Value.bool (dec_t ?_); omega))), (by repeat (first | exact (Agree.refl _ F24) | refine Agree.put ?_ rfl | refine Agree.sub hAL0 rfl ?_ | refine Agree.named hF25 ?_ | refine Agree.named hF14 ?_)), (Ext.trans hx51 hx56)⟩
                    · have gh53 := (of_decide_eq_false h53)
                      refine WL.p rfl rfl rfl (congrArg some h53) ?_
                      refine WL.p rfl rfl rfl (congrArg some h53) ?_
                      refine WL.p rfl rfl rfl (congrArg some h53) ?_
                      refine WL.va rfl rfl rfl (X.pickF rfl h53 rfl) ?_
                      refine WL.va rfl rfl rfl (X.assignB rfl) ?_
                      refine WL.nil ?_
                      refine blk_n ?_
                      refine thn_n ?_
                      exact ⟨(Eq.trans rfl (by first | (refine congrArg Value.bool (dec_iff ?_); omega) | (refine congrArg Value.bool (dec_f ?_); omega) | (refine congrArg Value.bool (dec_t ?_); omega))), (by repeat (first | exact (Agree.refl _ F24) | refine Agree.put ?_ rfl | refine Agree.sub hAL0 rfl ?_ | refine Agree.named hF25 ?_ | refine Agree.named hF14 ?_)), hx51⟩
                  · have gh48 := (of_decide_eq_false h48)
                    refine WL.p rfl rfl rfl (congrArg some h48) ?_
                    refine WL.p rfl rfl rfl (congrArg some h48) ?_
                    refine WL.p rfl rfl rfl (congrArg some h48) ?_
                    refine WL.va rfl rfl rfl (X.pickF rfl h48 rfl) ?_
                    refine WL.va rfl rfl rfl (X.moveB rfl) ?_
                    refine WL.p rfl rfl rfl rfl ?_
                    refine WL.p rfl rfl rfl rfl ?_
                    refine WL.p rfl rfl rfl rfl ?_
                    refine WL.va rfl rfl rfl (X.pickF rfl rfl rfl) ?_
                    refine WL.va rfl rfl rfl (X.assignB rfl) ?_
                    refine WL.nil ?_
                    refine blk_n ?_
                    refine thn_n ?_
                    exact ⟨(Eq.trans rfl (by first | (refine congrArg Value.bool (dec_iff ?_); omega) | (refine congrArg Value.bool (dec_f ?_); omega) | (refine congrArg Value.bool (dec_t ?_); omega))), (by repeat (first | exact (Agree.refl _ F24) | refine Agree.put ?_ rfl | refine Agree.sub hAL0 rfl ?_ | refine Agree.named hF25 ?_ | refine Agree.named hF14 ?_)), (Ext.refl _)⟩
                · have gh5_46 := (of_decide_eq_false h5_46)
                  refine WF.seq ?_
                  refine WF.region ?_
                  refine WL.va rfl rfl rfl (X.eql rfl rfl) ?_
                  refine WL.va rfl rfl rfl (X.assignB rfl) ?_
                  refine WL.nil ?_
                  refine thn_n ?_
                  refine WF.cond rfl (fun h6_61 => ?_) (fun h6_61 => ?_)
                  · have gh6_61 := (of_decide_eq_true h6_61)
                    refine WF.region ?_
                    refine WL.va rfl rfl rfl (X.moveB ((congrFun hF25 3).trans e3_L0)) ?_
                    refine WL.va rfl rfl rfl (X.moveB rfl) ?_
                    refine WL.split (j := 1) rfl (fun h63 => ?_) (fun h63 => ?_)
                    · have gh63 := (of_decide_eq_true h63)
                      refine WL.vg rfl (congrArg some h63) rfl rfl (X.fieldAddrO (off := 12) ((congrFun hF25 1).trans ((hAL0.eq 1).trans (congrFun hF14 1))) Try.underlying26 rfl rfl Try.sizeOf3) ?_
                      refine WL.vg rfl (congrArg some h63) rfl rfl (X.loadO hO1 (Ext.trans (Ext.trans hx8 hx11) hwL0) rfl rfl Try.isAgg3) ?_
                      refine WL.cg rfl (congrArg some h63) rfl rfl (X.call Try.call44 (evl_cons rfl (evl_cons rfl (evl_cons rfl evl_nil)))) (in_ok _ _ _ _) ?_
                      rintro v66 w65 ⟨rfl, hx67⟩
                      have := World.grownBy.size hx67
                      refine WL.va rfl rfl rfl (X.pickT rfl h63 rfl) ?_
                      refine WL.va rfl rfl rfl (X.assignB rfl) ?_
                      refine WL.nil ?_
                      refine blk_n ?_
                      refine thn_n ?_
                      exact ⟨(Eq.trans rfl (by first | (refine congrArg Value.bool (dec_iff ?_); omega) | (refine congrArg Value.bool (dec_f ?_); omega) | (refine congrArg Value.bool (dec_t ?_); omega))), (by repeat (first | exact (Agree.refl _ F24) | refine Agree.put ?_ rfl | refine Agree.sub hAL0 rfl ?_ | refine Agree.named hF25 ?_ | refine Agree.named hF14 ?_)), hx67⟩
                    · have gh63 := (of_decide_eq_false h63)
                      refine WL.p rfl rfl rfl (congrArg some h63) ?_
                      refine WL.p rfl rfl rfl (congrArg some h63) ?_
                      refine WL.p rfl rfl rfl (congrArg some h63) ?_
                      refine WL.va rfl rfl rfl (X.pickF rfl h63 rfl) ?_
                      refine WL.va rfl rfl rfl (X.assignB rfl) ?_
                      refine WL.nil ?_
                      refine blk_n ?_
                      refine thn_n ?_
                      exact ⟨(Eq.trans rfl (by first | (refine congrArg Value.bool (dec_iff ?_); omega) | (refine congrArg Value.bool (dec_f ?_); omega) | (refine congrArg Value.bool (dec_t ?_); omega))), (by repeat (first | exact (Agree.refl _ F24) | refine Agree.put ?_ rfl | refine Agree.sub hAL0 rfl ?_ | refine Agree.named hF25 ?_ | refine Agree.named hF14 ?_)), (Ext.refl _)⟩
                  · have gh6_61 := (of_decide_eq_false h6_61)
                    refine WF.skip ?_
                    refine blk_n ?_
                    refine thn_n ?_
                    exact ⟨(Eq.trans ((congrFun hF25 3).trans e3_L0) (by first | (refine congrArg Value.bool (dec_iff ?_); omega) | (refine congrArg Value.bool (dec_f ?_); omega) | (refine congrArg Value.bool (dec_t ?_); omega))), (by repeat (first | exact (Agree.refl _ F24) | refine Agree.put ?_ rfl | refine Agree.sub hAL0 rfl ?_ | refine Agree.named hF25 ?_ | refine Agree.named hF14 ?_)), (Ext.refl _)⟩
      · rintro fCs7 wCs7 ⟨e3_Cs7, hACs7, hwCs7⟩
        have := World.grownBy.size hwCs7
        refine WF.seq ?_
        refine WF.seq ?_
        refine WF.region ?_
        refine WL.va rfl rfl rfl (X.fieldAddrO (off := 0) ((hACs7.eq 1).trans ((congrFun hF25 1).trans ((hAL0.eq 1).trans (congrFun hF14 1)))) Try.underlying26 rfl rfl Try.sizeOf3) ?_
        refine WL.va rfl rfl rfl (X.loadO hO1 (Ext.trans (Ext.trans (Ext.trans hx8 hx11) hwL0) hwCs7) rfl rfl Try.isAgg3) ?_
        refine WL.va rfl rfl rfl (X.eql rfl rfl) ?_
        refine WL.va rfl rfl rfl (X.moveB rfl) ?_
        refine WL.split (j := 3) rfl (fun h72 => ?_) (fun h72 => ?_)
        · have gh72 := (of_decide_eq_true h72)
          refine WL.p rfl rfl rfl (congrArg some h72) ?_
          refine WL.p rfl rfl rfl (congrArg some h72) ?_
          refine WL.p rfl rfl rfl (congrArg some h72) ?_
          refine WL.va rfl rfl rfl (X.pickT rfl h72 rfl) ?_
          refine WL.nil ?_
          refine thn_n ?_
          refine WF.cond_t rfl ?_
          refine WF.region ?_
          refine WL.va rfl rfl rfl (X.moveB e3_Cs7) ?_
          refine WL.va rfl rfl rfl (X.moveB rfl) ?_
          refine WL.split (j := 1) rfl (fun h74 => ?_) (fun h74 => ?_)
          · have gh74 := (of_decide_eq_true h74)
            refine WL.vg rfl (congrArg some h74) rfl rfl (X.fieldAddrO (off := 10) ((hACs7.eq 1).trans ((congrFun hF25 1).trans ((hAL0.eq 1).trans (congrFun hF14 1)))) Try.underlying26 rfl rfl Try.sizeOf3) ?_
            refine WL.vg rfl (congrArg some h74) rfl rfl (X.loadO hO1 (Ext.trans (Ext.trans (Ext.trans hx8 hx11) hwL0) hwCs7) rfl rfl Try.isAgg3) ?_
            refine WL.cg rfl (congrArg some h74) rfl rfl (X.call Try.call44 (evl_cons rfl (evl_cons rfl (evl_cons rfl evl_nil)))) (in_ok _ _ _ _) ?_
            rintro v76 w75 ⟨rfl, hx77⟩
            have := World.grownBy.size hx77
            refine WL.va rfl rfl rfl (X.pickT rfl h74 rfl) ?_
            refine WL.va rfl rfl rfl (X.assignB rfl) ?_
            refine WL.nil ?_
            refine thn_n ?_
            refine WF.seq ?_
            refine WF.region ?_
            refine WL.va rfl rfl rfl (X.moveB rfl) ?_
            refine WL.va rfl rfl rfl (X.moveB rfl) ?_
            refine WL.split (j := 1) rfl (fun h79 => ?_) (fun h79 => ?_)
            · have gh79 := (of_decide_eq_true h79)
              refine WL.vg rfl (congrArg some h79) rfl rfl (X.fieldAddrO (off := 8) ((hACs7.eq 1).trans ((congrFun hF25 1).trans ((hAL0.eq 1).trans (congrFun hF14 1)))) Try.underlying26 rfl rfl Try.sizeOf3) ?_
              refine WL.vg rfl (congrArg some h79) rfl rfl (X.loadO hO1 (Ext.trans (Ext.trans (Ext.trans (Ext.trans hx8 hx11) hwL0) hwCs7) hx77) rfl rfl Try.isAgg3) ?_
              refine WL.cg rfl (congrArg some h79) rfl rfl (X.call Try.call44 (evl_cons rfl (evl_cons rfl (evl_cons rfl evl_nil)))) (in_ok _ _ _ _) ?_
              rintro v81 w80 ⟨rfl, hx82⟩
              have := World.grownBy.size hx82
              refine WL.va rfl rfl rfl (X.pickT rfl h79 rfl) ?_
              refine WL.va rfl rfl rfl (X.moveB rfl) ?_
              refine WL.split (j := 6) rfl (fun h84 => ?_) (fun h84 => ?_)
              · have gh84 := (of_decide_eq_true h84)
                refine WL.vg rfl (congrArg some h84) rfl rfl (X.loadOA hO1 (Ext.trans (Ext.trans (Ext.trans (Ext.trans (Ext.trans hx8 hx11) hwL0) hwCs7) hx77) hx82) ((hACs7.eq 1).trans ((congrFun hF25 1).trans ((hAL0.eq 1).trans (congrFun hF14 1)))) rfl Try.isAgg26 Try.sizeOf26) ?_
                refine WL.cg rfl (congrArg some h84) rfl rfl (X.call Try.call77 (evl_cons rfl evl_nil)) (span_ok vP vR vW vD o _ (h.ext (Ext.trans (Ext.trans (Ext.trans (Ext.trans (Ext.trans (Ext.trans hx3 hx8) hx11) hwL0) hwCs7) hx77) hx82)) ⟨hmP, hmR, hmW, hmD, hmWD⟩) ?_
                rintro v86 w85 ⟨rfl, hx87⟩
                have := World.grownBy.size hx87
                refine WL.va rfl rfl rfl (X.pickT rfl h84 rfl) ?_
                refine WL.va rfl rfl rfl (X.moveB rfl) ?_
                refine WL.split (j := 10) rfl (fun h89 => ?_) (fun h89 => ?_)
                · have gh89 := (of_decide_eq_true h89)
                  refine WL.vg rfl (congrArg some h89) rfl rfl (X.fieldAddrO (off := 0) ((hACs7.eq 1).trans ((congrFun hF25 1).trans ((hAL0.eq 1).trans (congrFun hF14 1)))) Try.underlying26 rfl rfl Try.sizeOf3) ?_
                  refine WL.vg rfl (congrArg some h89) rfl rfl (X.loadO hO1 (Ext.trans (Ext.trans (Ext.trans (Ext.trans (Ext.trans (Ext.trans hx8 hx11) hwL0) hwCs7) hx77) hx82) hx87) rfl rfl Try.isAgg3) ?_
                  refine WL.vg rfl (congrArg some h89) rfl rfl (X.neq rfl rfl) ?_
                  refine WL.vg rfl (congrArg some h89) rfl rfl (X.moveB rfl) ?_
                  refine WL.split (j := 14) rfl (fun h91 => ?_) (fun h91 => ?_)
                  · have gh91 := (of_decide_eq_true h91)
                    refine WL.p rfl rfl rfl (congrArg some h91) ?_
                    refine WL.p rfl rfl rfl (congrArg some h91) ?_
                    refine WL.p rfl rfl rfl (congrArg some h91) ?_
                    refine WL.p rfl rfl rfl (congrArg some h91) ?_
                    refine WL.vg rfl (congrArg some h89) rfl rfl (X.pickT rfl h91 rfl) ?_
                    refine WL.va rfl rfl rfl (X.pickT rfl h89 rfl) ?_
                    refine WL.va rfl rfl rfl (X.assignB rfl) ?_
                    refine WL.nil ?_
                    refine thn_n ?_
                    refine WF.ret ?_
                    refine fin_r ?_
                    refine ⟨congrArg Value.bool ?_, (Ext.trans (Ext.trans (Ext.trans (Ext.trans (Ext.trans (Ext.trans (Ext.trans hx3 hx8) hx11) hwL0) hwCs7) hx77) hx82) hx87)⟩
                    simp only [Od.placedP, Od.spanP, Od.g, inM] at *
                    first | (refine dec_iff ?_; omega) | (refine dec_f ?_; omega) | (refine dec_t ?_; omega)
                  · have gh91 := (Decidable.of_not_not (of_decide_eq_false h91))
                    refine WL.vg rfl (congrArg some h91) rfl rfl (X.fieldAddrO (off := 13) ((hACs7.eq 1).trans ((congrFun hF25 1).trans ((hAL0.eq 1).trans (congrFun hF14 1)))) Try.underlying26 rfl rfl Try.sizeOf22) ?_
                    refine WL.vg rfl (congrArg some h91) rfl rfl (X.loadO hO1 (Ext.trans (Ext.trans (Ext.trans (Ext.trans (Ext.trans (Ext.trans hx8 hx11) hwL0) hwCs7) hx77) hx82) hx87) rfl rfl Try.isAgg22) ?_
                    refine WL.vg rfl (congrArg some h91) rfl rfl (X.len h.P rfl Try.underlying22) ?_
                    refine WL.vg rfl (congrArg some h91) rfl rfl (X.gtr rfl rfl) ?_
                    refine WL.vg rfl (congrArg some h89) rfl rfl (X.pickF rfl h91 rfl) ?_
                    refine WL.va rfl rfl rfl (X.pickT rfl h89 rfl) ?_
                    refine WL.va rfl rfl rfl (X.assignB rfl) ?_
                    refine WL.nil ?_
                    refine thn_n ?_
                    refine WF.ret ?_
                    refine fin_r ?_
                    refine ⟨congrArg Value.bool ?_, (Ext.trans (Ext.trans (Ext.trans (Ext.trans (Ext.trans (Ext.trans (Ext.trans hx3 hx8) hx11) hwL0) hwCs7) hx77) hx82) hx87)⟩
                    simp only [Od.placedP, Od.spanP, Od.g, inM] at *
                    first | (refine dec_iff ?_; omega) | (refine dec_f ?_; omega) | (refine dec_t ?_; omega)
                · have gh89 := (of_decide_eq_false h89)
                  refine WL.p rfl rfl rfl (congrArg some h89) ?_
                  refine WL.p rfl rfl rfl (congrArg some h89) ?_
                  refine WL.p rfl rfl rfl (congrArg some h89) ?_
                  refine WL.p rfl rfl rfl (congrArg some h89) ?_
                  refine WL.pn rfl rfl rfl rfl ?_
                  refine WL.pn rfl rfl rfl rfl ?_
                  refine WL.pn rfl rfl rfl rfl ?_
                  refine WL.pn rfl rfl rfl rfl ?_
                  refine WL.p rfl rfl rfl (congrArg some h89) ?_
                  refine WL.va rfl rfl rfl (X.pickF rfl h89 rfl) ?_
                  refine WL.va rfl rfl rfl (X.assignB rfl) ?_
                  refine WL.nil ?_
                  refine thn_n ?_
                  refine WF.ret ?_
                  refine fin_r ?_
                  refine ⟨congrArg Value.bool ?_, (Ext.trans (Ext.trans (Ext.trans (Ext.trans (Ext.trans (Ext.trans (Ext.trans hx3 hx8) hx11) hwL0) hwCs7) hx77) hx82) hx87)⟩
                  simp only [Od.placedP, Od.spanP, Od.g, inM] at *
                  first | (refine dec_iff ?_; omega) | (refine dec_f ?_; omega) | (refine dec_t ?_; omega)
              · have gh84 := (of_decide_eq_false h84)
                refine WL.p rfl rfl rfl (congrArg some h84) ?_
                refine WL.p rfl rfl rfl (congrArg some h84) ?_
                refine WL.va rfl rfl rfl (X.pickF rfl h84 rfl) ?_
                refine WL.va rfl rfl rfl (X.moveB rfl) ?_
                refine WL.p rfl rfl rfl rfl ?_
                refine WL.p rfl rfl rfl rfl ?_
                refine WL.p rfl rfl rfl rfl ?_
                refine WL.p rfl rfl rfl rfl ?_
                refine WL.pn rfl rfl rfl rfl ?_
                refine WL.pn rfl rfl rfl rfl ?_
                refine WL.pn rfl rfl rfl rfl ?_
                refine WL.pn rfl rfl rfl rfl ?_
                refine WL.p rfl rfl rfl rfl ?_
                refine WL.va rfl rfl rfl (X.pickF rfl rfl rfl) ?_
                refine WL.va rfl rfl rfl (X.assignB rfl) ?_
                refine WL.nil ?_
                refine thn_n ?_
                refine WF.ret ?_
                refine fin_r ?_
                refine ⟨congrArg Value.bool ?_, (Ext.trans (Ext.trans (Ext.trans (Ext.trans (Ext.trans (Ext.trans hx3 hx8) hx11) hwL0) hwCs7) hx77) hx82)⟩
                simp only [Od.placedP, Od.spanP, Od.g, inM] at *
                first | (refine dec_iff ?_; omega) | (refine dec_f ?_; omega) | (refine dec_t ?_; omega)
            · have gh79 := (of_decide_eq_false h79)
              refine WL.p rfl rfl rfl (congrArg some h79) ?_
              refine WL.p rfl rfl rfl (congrArg some h79) ?_
              refine WL.p rfl rfl rfl (congrArg some h79) ?_
              refine WL.va rfl rfl rfl (X.pickF rfl h79 rfl) ?_
              refine WL.va rfl rfl rfl (X.moveB rfl) ?_
              refine WL.p rfl rfl rfl rfl ?_
              refine WL.p rfl rfl rfl rfl ?_
              refine WL.va rfl rfl rfl (X.pickF rfl rfl rfl) ?_
              refine WL.va rfl rfl rfl (X.moveB rfl) ?_
              refine WL.p rfl rfl rfl rfl ?_
              refine WL.p rfl rfl rfl rfl ?_
              refine WL.p rfl rfl rfl rfl ?_
              refine WL.p rfl rfl rfl rfl ?_
              refine WL.pn rfl rfl rfl rfl ?_
              refine WL.pn rfl rfl rfl rfl ?_
              refine WL.pn rfl rfl rfl rfl ?_
              refine WL.pn rfl rfl rfl rfl ?_
              refine WL.p rfl rfl rfl rfl ?_
              refine WL.va rfl rfl rfl (X.pickF rfl rfl rfl) ?_
              refine WL.va rfl rfl rfl (X.assignB rfl) ?_
              refine WL.nil ?_
              refine thn_n ?_
              refine WF.ret ?_
              refine fin_r ?_
              refine ⟨congrArg Value.bool ?_, (Ext.trans (Ext.trans (Ext.trans (Ext.trans (Ext.trans hx3 hx8) hx11) hwL0) hwCs7) hx77)⟩
              simp only [Od.placedP, Od.spanP, Od.g, inM] at *
              first | (refine dec_iff ?_; omega) | (refine dec_f ?_; omega) | (refine dec_t ?_; omega)
          · have gh74 := (of_decide_eq_false h74)
            refine WL.p rfl rfl rfl (congrArg some h74) ?_
            refine WL.p rfl rfl rfl (congrArg some h74) ?_
            refine WL.p rfl rfl rfl (congrArg some h74) ?_
            refine WL.va rfl rfl rfl (X.pickF rfl h74 rfl) ?_
            refine WL.va rfl rfl rfl (X.assignB rfl) ?_
            refine WL.nil ?_
            refine thn_n ?_
            refine WF.seq ?_
            refine WF.region ?_
            refine WL.va rfl rfl rfl (X.moveB rfl) ?_
            refine WL.va rfl rfl rfl (X.moveB rfl) ?_
            refine WL.p rfl rfl rfl rfl ?_
            refine WL.p rfl rfl rfl rfl ?_
            refine WL.p rfl rfl rfl rfl ?_
            refine WL.va rfl rfl rfl (X.pickF rfl rfl rfl) ?_
            refine WL.va rfl rfl rfl (X.moveB rfl) ?_
            refine WL.p rfl rfl rfl rfl ?_
            refine WL.p rfl rfl rfl rfl ?_
            refine WL.va rfl rfl rfl (X.pickF rfl rfl rfl) ?_
            refine WL.va rfl rfl rfl (X.moveB rfl) ?_
            refine WL.p rfl rfl rfl rfl ?_
            refine WL.p rfl rfl rfl rfl ?_
            refine WL.p rfl rfl rfl rfl ?_
            refine WL.p rfl rfl rfl rfl ?_
            refine WL.pn rfl rfl rfl rfl ?_
            refine WL.pn rfl rfl rfl rfl ?_
            refine WL.pn rfl rfl rfl rfl ?_
            refine WL.pn rfl rfl rfl rfl ?_
            refine WL.p rfl rfl rfl rfl ?_
            refine WL.va rfl rfl rfl (X.pickF rfl rfl rfl) ?_
            refine WL.va rfl rfl rfl (X.assignB rfl) ?_
            refine WL.nil ?_
            refine thn_n ?_
            refine WF.ret ?_
            refine fin_r ?_
            refine ⟨congrArg Value.bool ?_, (Ext.trans (Ext.trans (Ext.trans (Ext.trans hx3 hx8) hx11) hwL0) hwCs7)⟩
            simp only [Od.placedP, Od.spanP, Od.g, inM] at *
            first | (refine dec_iff ?_; omega) | (refine dec_f ?_; omega) | (refine dec_t ?_; omega)
        · have gh72 := (of_decide_eq_false h72)
          refine WL.vg rfl (congrArg some h72) rfl rfl (X.fieldAddrO (off := 0) ((hACs7.eq 1).trans ((congrFun hF25 1).trans ((hAL0.eq 1).trans (congrFun hF14 1)))) Try.underlying26 rfl rfl Try.sizeOf3) ?_
          refine WL.vg rfl (congrArg some h72) rfl rfl (X.loadO hO1 (Ext.trans (Ext.trans (Ext.trans hx8 hx11) hwL0) hwCs7) rfl rfl Try.isAgg3) ?_
          refine WL.vg rfl (congrArg some h72) rfl rfl (X.eql rfl rfl) ?_
          refine WL.va rfl rfl rfl (X.pickF rfl h72 rfl) ?_
          refine WL.nil ?_
          refine thn_n ?_
          refine WF.cond rfl (fun h7_104 => ?_) (fun h7_104 => ?_)
          · have gh7_104 := (of_decide_eq_true h7_104)
            refine WF.region ?_
            refine WL.va rfl rfl rfl (X.moveB e3_Cs7) ?_
            refine WL.va rfl rfl rfl (X.moveB rfl) ?_
            refine WL.split (j := 1) rfl (fun h106 => ?_) (fun h106 => ?_)
            · have gh106 := (of_decide_eq_true h106)
              refine WL.vg rfl (congrArg some h106) rfl rfl (X.fieldAddrO (off := 10) ((hACs7.eq 1).trans ((congrFun hF25 1).trans ((hAL0.eq 1).trans (congrFun hF14 1)))) Try.underlying26 rfl rfl Try.sizeOf3) ?_
              refine WL.vg rfl (congrArg some h106) rfl rfl (X.loadO hO1 (Ext.trans (Ext.trans (Ext.trans hx8 hx11) hwL0) hwCs7) rfl rfl Try.isAgg3) ?_
              refine WL.cg rfl (congrArg some h106) rfl rfl (X.call Try.call44 (evl_cons rfl (evl_cons rfl (evl_cons rfl evl_nil)))) (in_ok _ _ _ _) ?_
              rintro v108 w107 ⟨rfl, hx109⟩
              have := World.grownBy.size hx109
              refine WL.va rfl rfl rfl (X.pickT rfl h106 rfl) ?_
              refine WL.va rfl rfl rfl (X.assignB rfl) ?_
              refine WL.nil ?_
              refine thn_n ?_
              refine WF.seq ?_
              refine WF.region ?_
              refine WL.va rfl rfl rfl (X.moveB rfl) ?_
              refine WL.va rfl rfl rfl (X.moveB rfl) ?_
              refine WL.split (j := 1) rfl (fun h111 => ?_) (fun h111 => ?_)
              · have gh111 := (of_decide_eq_true h111)
                refine WL.vg rfl (congrArg some h111) rfl rfl (X.fieldAddrO (off := 8) ((hACs7.eq 1).trans ((congrFun hF25 1).trans ((hAL0.eq 1).trans (congrFun hF14 1)))) Try.underlying26 rfl rfl Try.sizeOf3) ?_
                refine WL.vg rfl (congrArg some h111) rfl rfl (X.loadO hO1 (Ext.trans (Ext.trans (Ext.trans (Ext.trans hx8 hx11) hwL0) hwCs7) hx109) rfl rfl Try.isAgg3) ?_
                refine WL.cg rfl (congrArg some h111) rfl rfl (X.call Try.call44 (evl_cons rfl (evl_cons rfl (evl_cons rfl evl_nil)))) (in_ok _ _ _ _) ?_
                rintro v113 w112 ⟨rfl, hx114⟩
                have := World.grownBy.size hx114
                refine WL.va rfl rfl rfl (X.pickT rfl h111 rfl) ?_
                refine WL.va rfl rfl rfl (X.moveB rfl) ?_
                refine WL.split (j := 6) rfl (fun h116 => ?_) (fun h116 => ?_)
                · have gh116 := (of_decide_eq_true h116)
                  refine WL.vg rfl (congrArg some h116) rfl rfl (X.loadOA hO1 (Ext.trans (Ext.trans (Ext.trans (Ext.trans (Ext.trans hx8 hx11) hwL0) hwCs7) hx109) hx114) ((hACs7.eq 1).trans ((congrFun hF25 1).trans ((hAL0.eq 1).trans (congrFun hF14 1)))) rfl Try.isAgg26 Try.sizeOf26) ?_
                  refine WL.cg rfl (congrArg some h116) rfl rfl (X.call Try.call77 (evl_cons rfl evl_nil)) (span_ok vP vR vW vD o _ (h.ext (Ext.trans (Ext.trans (Ext.trans (Ext.trans (Ext.trans (Ext.trans hx3 hx8) hx11) hwL0) hwCs7) hx109) hx114)) ⟨hmP, hmR, hmW, hmD, hmWD⟩) ?_
                  rintro v118 w117 ⟨rfl, hx119⟩
                  have := World.grownBy.size hx119
                  refine WL.va rfl rfl rfl (X.pickT rfl h116 rfl) ?_
                  refine WL.va rfl rfl rfl (X.moveB rfl) ?_
                  refine WL.split (j := 10) rfl (fun h121 => ?_) (fun h121 => ?_)
                  · have gh121 := (of_decide_eq_true h121)
                    refine WL.vg rfl (congrArg some h121) rfl rfl (X.fieldAddrO (off := 0) ((hACs7.eq 1).trans ((congrFun hF25 1).trans ((hAL0.eq 1).trans (congrFun hF14 1)))) Try.underlying26 rfl rfl Try.sizeOf3) ?_
                    refine WL.vg rfl (congrArg some h121) rfl rfl (X.loadO hO1 (Ext.trans (Ext.trans (Ext.trans (Ext.trans (Ext.trans (Ext.trans hx8 hx11) hwL0) hwCs7) hx109) hx114) hx119) rfl rfl Try.isAgg3) ?_
                    refine WL.vg rfl (congrArg some h121) rfl rfl (X.neq rfl rfl) ?_
                    refine WL.vg rfl (congrArg some h121) rfl rfl (X.moveB rfl) ?_
                    refine WL.split (j := 14) rfl (fun h123 => ?_) (fun h123 => ?_)
                    · have gh123 := (of_decide_eq_true h123)
                      refine WL.p rfl rfl rfl (congrArg some h123) ?_
                      refine WL.p rfl rfl rfl (congrArg some h123) ?_
                      refine WL.p rfl rfl rfl (congrArg some h123) ?_
                      refine WL.p rfl rfl rfl (congrArg some h123) ?_
                      refine WL.vg rfl (congrArg some h121) rfl rfl (X.pickT rfl h123 rfl) ?_
                      refine WL.va rfl rfl rfl (X.pickT rfl h121 rfl) ?_
                      refine WL.va rfl rfl rfl (X.assignB rfl) ?_
                      refine WL.nil ?_
                      refine thn_n ?_
                      refine WF.ret ?_
                      refine fin_r ?_
                      refine ⟨congrArg Value.bool ?_, (Ext.trans (Ext.trans (Ext.trans (Ext.trans (Ext.trans (Ext.trans (Ext.trans hx3 hx8) hx11) hwL0) hwCs7) hx109) hx114) hx119)⟩
                      simp only [Od.placedP, Od.spanP, Od.g, inM] at *
                      first | (refine dec_iff ?_; omega) | (refine dec_f ?_; omega) | (refine dec_t ?_; omega)
                    · have gh123 := (Decidable.of_not_not (of_decide_eq_false h123))
                      refine WL.vg rfl (congrArg some h123) rfl rfl (X.fieldAddrO (off := 13) ((hACs7.eq 1).trans ((congrFun hF25 1).trans ((hAL0.eq 1).trans (congrFun hF14 1)))) Try.underlying26 rfl rfl Try.sizeOf22) ?_
                      refine WL.vg rfl (congrArg some h123) rfl rfl (X.loadO hO1 (Ext.trans (Ext.trans (Ext.trans (Ext.trans (Ext.trans (Ext.trans hx8 hx11) hwL0) hwCs7) hx109) hx114) hx119) rfl rfl Try.isAgg22) ?_
                      refine WL.vg rfl (congrArg some h123) rfl rfl (X.len h.P rfl Try.underlying22) ?_
                      refine WL.vg rfl (congrArg some h123) rfl rfl (X.gtr rfl rfl) ?_
                      refine WL.vg rfl (congrArg some h121) rfl rfl (X.pickF rfl h123 rfl) ?_
                      refine WL.va rfl rfl rfl (X.pickT rfl h121 rfl) ?_
                      refine WL.va rfl rfl rfl (X.assignB rfl) ?_
                      refine WL.nil ?_
                      refine thn_n ?_
                      refine WF.ret ?_
                      refine fin_r ?_
                      refine ⟨congrArg Value.bool ?_, (Ext.trans (Ext.trans (Ext.trans (Ext.trans (Ext.trans (Ext.trans (Ext.trans hx3 hx8) hx11) hwL0) hwCs7) hx109) hx114) hx119)⟩
                      simp only [Od.placedP, Od.spanP, Od.g, inM] at *
                      first | (refine dec_iff ?_; omega) | (refine dec_f ?_; omega) | (refine dec_t ?_; omega)
                  · have gh121 := (of_decide_eq_false h121)
                    refine WL.p rfl rfl rfl (congrArg some h121) ?_
                    refine WL.p rfl rfl rfl (congrArg some h121) ?_
                    refine WL.p rfl rfl rfl (congrArg some h121) ?_
                    refine WL.p rfl rfl rfl (congrArg some h121) ?_
                    refine WL.pn rfl rfl rfl rfl ?_
                    refine WL.pn rfl rfl rfl rfl ?_
                    refine WL.pn rfl rfl rfl rfl ?_
                    refine WL.pn rfl rfl rfl rfl ?_
                    refine WL.p rfl rfl rfl (congrArg some h121) ?_
                    refine WL.va rfl rfl rfl (X.pickF rfl h121 rfl) ?_
                    refine WL.va rfl rfl rfl (X.assignB rfl) ?_
                    refine WL.nil ?_
                    refine thn_n ?_
                    refine WF.ret ?_
                    refine fin_r ?_
                    refine ⟨congrArg Value.bool ?_, (Ext.trans (Ext.trans (Ext.trans (Ext.trans (Ext.trans (Ext.trans (Ext.trans hx3 hx8) hx11) hwL0) hwCs7) hx109) hx114) hx119)⟩
                    simp only [Od.placedP, Od.spanP, Od.g, inM] at *
                    first | (refine dec_iff ?_; omega) | (refine dec_f ?_; omega) | (refine dec_t ?_; omega)
                · have gh116 := (of_decide_eq_false h116)
                  refine WL.p rfl rfl rfl (congrArg some h116) ?_
                  refine WL.p rfl rfl rfl (congrArg some h116) ?_
                  refine WL.va rfl rfl rfl (X.pickF rfl h116 rfl) ?_
                  refine WL.va rfl rfl rfl (X.moveB rfl) ?_
                  refine WL.p rfl rfl rfl rfl ?_
                  refine WL.p rfl rfl rfl rfl ?_
                  refine WL.p rfl rfl rfl rfl ?_
                  refine WL.p rfl rfl rfl rfl ?_
                  refine WL.pn rfl rfl rfl rfl ?_
                  refine WL.pn rfl rfl rfl rfl ?_
                  refine WL.pn rfl rfl rfl rfl ?_
                  refine WL.pn rfl rfl rfl rfl ?_
                  refine WL.p rfl rfl rfl rfl ?_
                  refine WL.va rfl rfl rfl (X.pickF rfl rfl rfl) ?_
                  refine WL.va rfl rfl rfl (X.assignB rfl) ?_
                  refine WL.nil ?_
                  refine thn_n ?_
                  refine WF.ret ?_
                  refine fin_r ?_
                  refine ⟨congrArg Value.bool ?_, (Ext.trans (Ext.trans (Ext.trans (Ext.trans (Ext.trans (Ext.trans hx3 hx8) hx11) hwL0) hwCs7) hx109) hx114)⟩
                  simp only [Od.placedP, Od.spanP, Od.g, inM] at *
                  first | (refine dec_iff ?_; omega) | (refine dec_f ?_; omega) | (refine dec_t ?_; omega)
              · have gh111 := (of_decide_eq_false h111)
                refine WL.p rfl rfl rfl (congrArg some h111) ?_
                refine WL.p rfl rfl rfl (congrArg some h111) ?_
                refine WL.p rfl rfl rfl (congrArg some h111) ?_
                refine WL.va rfl rfl rfl (X.pickF rfl h111 rfl) ?_
                refine WL.va rfl rfl rfl (X.moveB rfl) ?_
                refine WL.p rfl rfl rfl rfl ?_
                refine WL.p rfl rfl rfl rfl ?_
                refine WL.va rfl rfl rfl (X.pickF rfl rfl rfl) ?_
                refine WL.va rfl rfl rfl (X.moveB rfl) ?_
                refine WL.p rfl rfl rfl rfl ?_
                refine WL.p rfl rfl rfl rfl ?_
                refine WL.p rfl rfl rfl rfl ?_
                refine WL.p rfl rfl rfl rfl ?_
                refine WL.pn rfl rfl rfl rfl ?_
                refine WL.pn rfl rfl rfl rfl ?_
                refine WL.pn rfl rfl rfl rfl ?_
                refine WL.pn rfl rfl rfl rfl ?_
                refine WL.p rfl rfl rfl rfl ?_
                refine WL.va rfl rfl rfl (X.pickF rfl rfl rfl) ?_
                refine WL.va rfl rfl rfl (X.assignB rfl) ?_
                refine WL.nil ?_
                refine thn_n ?_
                refine WF.ret ?_
                refine fin_r ?_
                refine ⟨congrArg Value.bool ?_, (Ext.trans (Ext.trans (Ext.trans (Ext.trans (Ext.trans hx3 hx8) hx11) hwL0) hwCs7) hx109)⟩
                simp only [Od.placedP, Od.spanP, Od.g, inM] at *
                first | (refine dec_iff ?_; omega) | (refine dec_f ?_; omega) | (refine dec_t ?_; omega)
            · have gh106 := (of_decide_eq_false h106)
              refine WL.p rfl rfl rfl (congrArg some h106) ?_
              refine WL.p rfl rfl rfl (congrArg some h106) ?_
              refine WL.p rfl rfl rfl (congrArg some h106) ?_
              refine WL.va rfl rfl rfl (X.pickF rfl h106 rfl) ?_
              refine WL.va rfl rfl rfl (X.assignB rfl) ?_
              refine WL.nil ?_
              refine thn_n ?_
              refine WF.seq ?_
              refine WF.region ?_
              refine WL.va rfl rfl rfl (X.moveB rfl) ?_
              refine WL.va rfl rfl rfl (X.moveB rfl) ?_
              refine WL.p rfl rfl rfl rfl ?_
              refine WL.p rfl rfl rfl rfl ?_
              refine WL.p rfl rfl rfl rfl ?_
              refine WL.va rfl rfl rfl (X.pickF rfl rfl rfl) ?_
              refine WL.va rfl rfl rfl (X.moveB rfl) ?_
              refine WL.p rfl rfl rfl rfl ?_
              refine WL.p rfl rfl rfl rfl ?_
              refine WL.va rfl rfl rfl (X.pickF rfl rfl rfl) ?_
              refine WL.va rfl rfl rfl (X.moveB rfl) ?_
              refine WL.p rfl rfl rfl rfl ?_
              refine WL.p rfl rfl rfl rfl ?_
              refine WL.p rfl rfl rfl rfl ?_
              refine WL.p rfl rfl rfl rfl ?_
              refine WL.pn rfl rfl rfl rfl ?_
              refine WL.pn rfl rfl rfl rfl ?_
              refine WL.pn rfl rfl rfl rfl ?_
              refine WL.pn rfl rfl rfl rfl ?_
              refine WL.p rfl rfl rfl rfl ?_
              refine WL.va rfl rfl rfl (X.pickF rfl rfl rfl) ?_
              refine WL.va rfl rfl rfl (X.assignB rfl) ?_
              refine WL.nil ?_
              refine thn_n ?_
              refine WF.ret ?_
              refine fin_r ?_
              refine ⟨congrArg Value.bool ?_, (Ext.trans (Ext.trans (Ext.trans (Ext.trans hx3 hx8) hx11) hwL0) hwCs7)⟩
              simp only [Od.placedP, Od.spanP, Od.g, inM] at *
              first | (refine dec_iff ?_; omega) | (refine dec_f ?_; omega) | (refine dec_t ?_; omega)
          · have gh7_104 := (of_decide_eq_false h7_104)
            refine WF.skip ?_
            refine thn_n ?_
            refine WF.seq ?_
            refine WF.region ?_
            refine WL.va rfl rfl rfl (X.moveB e3_Cs7) ?_
            refine WL.va rfl rfl rfl (X.moveB rfl) ?_
            refine WL.split (j := 1) rfl (fun h136 => ?_) (fun h136 => ?_)
            · have gh136 := (of_decide_eq_true h136)
              refine WL.vg rfl (congrArg some h136) rfl rfl (X.fieldAddrO (off := 8) ((hACs7.eq 1).trans ((congrFun hF25 1).trans ((hAL0.eq 1).trans (congrFun hF14 1)))) Try.underlying26 rfl rfl Try.sizeOf3) ?_
              refine WL.vg rfl (congrArg some h136) rfl rfl (X.loadO hO1 (Ext.trans (Ext.trans (Ext.trans hx8 hx11) hwL0) hwCs7) rfl rfl Try.isAgg3) ?_
              refine WL.cg rfl (congrArg some h136) rfl rfl (X.call Try.call44 (evl_cons rfl (evl_cons rfl (evl_cons rfl evl_nil)))) (in_ok _ _ _ _) ?_
              rintro v138 w137 ⟨rfl, hx139⟩
              have := World.grownBy.size hx139
              refine WL.va rfl rfl rfl (X.pickT rfl h136 rfl) ?_
              refine WL.va rfl rfl rfl (X.moveB rfl) ?_
              refine WL.split (j := 6) rfl (fun h141 => ?_) (fun h141 => ?_)
              · have gh141 := (of_decide_eq_true h141)
                refine WL.vg rfl (congrArg some h141) rfl rfl (X.loadOA hO1 (Ext.trans (Ext.trans (Ext.trans (Ext.trans hx8 hx11) hwL0) hwCs7) hx139) ((hACs7.eq 1).trans ((congrFun hF25 1).trans ((hAL0.eq 1).trans (congrFun hF14 1)))) rfl Try.isAgg26 Try.sizeOf26) ?_
                refine WL.cg rfl (congrArg some h141) rfl rfl (X.call Try.call77 (evl_cons rfl evl_nil)) (span_ok vP vR vW vD o _ (h.ext (Ext.trans (Ext.trans (Ext.trans (Ext.trans (Ext.trans hx3 hx8) hx11) hwL0) hwCs7) hx139)) ⟨hmP, hmR, hmW, hmD, hmWD⟩) ?_
                rintro v143 w142 ⟨rfl, hx144⟩
                have := World.grownBy.size hx144
                refine WL.va rfl rfl rfl (X.pickT rfl h141 rfl) ?_
                refine WL.va rfl rfl rfl (X.moveB rfl) ?_
                refine WL.split (j := 10) rfl (fun h146 => ?_) (fun h146 => ?_)
                · have gh146 := (of_decide_eq_true h146)
                  refine WL.vg rfl (congrArg some h146) rfl rfl (X.fieldAddrO (off := 0) ((hACs7.eq 1).trans ((congrFun hF25 1).trans ((hAL0.eq 1).trans (congrFun hF14 1)))) Try.underlying26 rfl rfl Try.sizeOf3) ?_
                  refine WL.vg rfl (congrArg some h146) rfl rfl (X.loadO hO1 (Ext.trans (Ext.trans (Ext.trans (Ext.trans (Ext.trans hx8 hx11) hwL0) hwCs7) hx139) hx144) rfl rfl Try.isAgg3) ?_
                  refine WL.vg rfl (congrArg some h146) rfl rfl (X.neq rfl rfl) ?_
                  refine WL.vg rfl (congrArg some h146) rfl rfl (X.moveB rfl) ?_
                  refine WL.split (j := 14) rfl (fun h148 => ?_) (fun h148 => ?_)
                  · have gh148 := (of_decide_eq_true h148)
                    refine WL.p rfl rfl rfl (congrArg some h148) ?_
                    refine WL.p rfl rfl rfl (congrArg some h148) ?_
                    refine WL.p rfl rfl rfl (congrArg some h148) ?_
                    refine WL.p rfl rfl rfl (congrArg some h148) ?_
                    refine WL.vg rfl (congrArg some h146) rfl rfl (X.pickT rfl h148 rfl) ?_
                    refine WL.va rfl rfl rfl (X.pickT rfl h146 rfl) ?_
                    refine WL.va rfl rfl rfl (X.assignB rfl) ?_
                    refine WL.nil ?_
                    refine thn_n ?_
                    refine WF.ret ?_
                    refine fin_r ?_
                    refine ⟨congrArg Value.bool ?_, (Ext.trans (Ext.trans (Ext.trans (Ext.trans (Ext.trans (Ext.trans hx3 hx8) hx11) hwL0) hwCs7) hx139) hx144)⟩
                    simp only [Od.placedP, Od.spanP, Od.g, inM] at *
                    first | (refine dec_iff ?_; omega) | (refine dec_f ?_; omega) | (refine dec_t ?_; omega)
                  · have gh148 := (Decidable.of_not_not (of_decide_eq_false h148))
                    refine WL.vg rfl (congrArg some h148) rfl rfl (X.fieldAddrO (off := 13) ((hACs7.eq 1).trans ((congrFun hF25 1).trans ((hAL0.eq 1).trans (congrFun hF14 1)))) Try.underlying26 rfl rfl Try.sizeOf22) ?_
                    refine WL.vg rfl (congrArg some h148) rfl rfl (X.loadO hO1 (Ext.trans (Ext.trans (Ext.trans (Ext.trans (Ext.trans hx8 hx11) hwL0) hwCs7) hx139) hx144) rfl rfl Try.isAgg22) ?_
                    refine WL.vg rfl (congrArg some h148) rfl rfl (X.len h.P rfl Try.underlying22) ?_
                    refine WL.vg rfl (congrArg some h148) rfl rfl (X.gtr rfl rfl) ?_
                    refine WL.vg rfl (congrArg some h146) rfl rfl (X.pickF rfl h148 rfl) ?_
                    refine WL.va rfl rfl rfl (X.pickT rfl h146 rfl) ?_
                    refine WL.va rfl rfl rfl (X.assignB rfl) ?_
                    refine WL.nil ?_
                    refine thn_n ?_
                    refine WF.ret ?_
                    refine fin_r ?_
                    refine ⟨congrArg Value.bool ?_, (Ext.trans (Ext.trans (Ext.trans (Ext.trans (Ext.trans (Ext.trans hx3 hx8) hx11) hwL0) hwCs7) hx139) hx144)⟩
                    simp only [Od.placedP, Od.spanP, Od.g, inM] at *
                    first | (refine dec_iff ?_; omega) | (refine dec_f ?_; omega) | (refine dec_t ?_; omega)
                · have gh146 := (of_decide_eq_false h146)
                  refine WL.p rfl rfl rfl (congrArg some h146) ?_
                  refine WL.p rfl rfl rfl (congrArg some h146) ?_
                  refine WL.p rfl rfl rfl (congrArg some h146) ?_
                  refine WL.p rfl rfl rfl (congrArg some h146) ?_
                  refine WL.pn rfl rfl rfl rfl ?_
                  refine WL.pn rfl rfl rfl rfl ?_
                  refine WL.pn rfl rfl rfl rfl ?_
                  refine WL.pn rfl rfl rfl rfl ?_
                  refine WL.p rfl rfl rfl (congrArg some h146) ?_
                  refine WL.va rfl rfl rfl (X.pickF rfl h146 rfl) ?_
                  refine WL.va rfl rfl rfl (X.assignB rfl) ?_
                  refine WL.nil ?_
                  refine thn_n ?_
                  refine WF.ret ?_
                  refine fin_r ?_
                  refine ⟨congrArg Value.bool ?_, (Ext.trans (Ext.trans (Ext.trans (Ext.trans (Ext.trans (Ext.trans hx3 hx8) hx11) hwL0) hwCs7) hx139) hx144)⟩
                  simp only [Od.placedP, Od.spanP, Od.g, inM] at *
                  first | (refine dec_iff ?_; omega) | (refine dec_f ?_; omega) | (refine dec_t ?_; omega)
              · have gh141 := (of_decide_eq_false h141)
                refine WL.p rfl rfl rfl (congrArg some h141) ?_
                refine WL.p rfl rfl rfl (congrArg some h141) ?_
                refine WL.va rfl rfl rfl (X.pickF rfl h141 rfl) ?_
                refine WL.va rfl rfl rfl (X.moveB rfl) ?_
                refine WL.p rfl rfl rfl rfl ?_
                refine WL.p rfl rfl rfl rfl ?_
                refine WL.p rfl rfl rfl rfl ?_
                refine WL.p rfl rfl rfl rfl ?_
                refine WL.pn rfl rfl rfl rfl ?_
                refine WL.pn rfl rfl rfl rfl ?_
                refine WL.pn rfl rfl rfl rfl ?_
                refine WL.pn rfl rfl rfl rfl ?_
                refine WL.p rfl rfl rfl rfl ?_
                refine WL.va rfl rfl rfl (X.pickF rfl rfl rfl) ?_
                refine WL.va rfl rfl rfl (X.assignB rfl) ?_
                refine WL.nil ?_
                refine thn_n ?_
                refine WF.ret ?_
                refine fin_r ?_
                refine ⟨congrArg Value.bool ?_, (Ext.trans (Ext.trans (Ext.trans (Ext.trans (Ext.trans hx3 hx8) hx11) hwL0) hwCs7) hx139)⟩
                simp only [Od.placedP, Od.spanP, Od.g, inM] at *
                first | (refine dec_iff ?_; omega) | (refine dec_f ?_; omega) | (refine dec_t ?_; omega)
            · have gh136 := (of_decide_eq_false h136)
              refine WL.p rfl rfl rfl (congrArg some h136) ?_
              refine WL.p rfl rfl rfl (congrArg some h136) ?_
              refine WL.p rfl rfl rfl (congrArg some h136) ?_
              refine WL.va rfl rfl rfl (X.pickF rfl h136 rfl) ?_
              refine WL.va rfl rfl rfl (X.moveB rfl) ?_
              refine WL.p rfl rfl rfl rfl ?_
              refine WL.p rfl rfl rfl rfl ?_
              refine WL.va rfl rfl rfl (X.pickF rfl rfl rfl) ?_
              refine WL.va rfl rfl rfl (X.moveB rfl) ?_
              refine WL.p rfl rfl rfl rfl ?_
              refine WL.p rfl rfl rfl rfl ?_
              refine WL.p rfl rfl rfl rfl ?_
              refine WL.p rfl rfl rfl rfl ?_
              refine WL.pn rfl rfl rfl rfl ?_
              refine WL.pn rfl rfl rfl rfl ?_
              refine WL.pn rfl rfl rfl rfl ?_
              refine WL.pn rfl rfl rfl rfl ?_
              refine WL.p rfl rfl rfl rfl ?_
              refine WL.va rfl rfl rfl (X.pickF rfl rfl rfl) ?_
              refine WL.va rfl rfl rfl (X.assignB rfl) ?_
              refine WL.nil ?_
              refine thn_n ?_
              refine WF.ret ?_
              refine fin_r ?_
              refine ⟨congrArg Value.bool ?_, (Ext.trans (Ext.trans (Ext.trans (Ext.trans hx3 hx8) hx11) hwL0) hwCs7)⟩
              simp only [Od.placedP, Od.spanP, Od.g, inM] at *
              first | (refine dec_iff ?_; omega) | (refine dec_f ?_; omega) | (refine dec_t ?_; omega)

end Go.Proofs.Ythaojdpeimlngaa
