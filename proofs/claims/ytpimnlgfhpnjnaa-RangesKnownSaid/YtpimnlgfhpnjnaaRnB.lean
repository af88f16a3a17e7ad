/- The walk of the sort, of few ranges. -/
import Derived.Test.YtpimnlgfhpnjnaaRnK
import Derived.Laws.Strings
namespace Go.Proofs.Ytpimnlgfhpnjnaa
open Go Go.RowKit Kf
set_option maxRecDepth 20000

section
variable {P : Program} {N : Nat} {Q : Post} {f : Fr} {w : World} {k : Fr → World → Prop} {d : Nat} {ty t : TypeId} {pos : String} {aft : Array Edge} {gd : Option (Nat × Bool)} {x y : Operand} {s : ByteArray} {kd : IntKind}
theorem OW.idxStr {i : Nat} (hx : ev f x = .string s) (hy : ev f y = .int kd (i : Int)) (hi : i < s.size) (ht : P.underlying t = some .string) (h : ∀ b : UInt8, k (put f d (.int .u8 (b.toNat : Int))) w) (hd : d < N) :
    OW P N ⟨some d, .index t x y, ty, pos, aft, gd⟩ Q k f w := by
  refine OW.val rfl hd (v := .int .u8 (s[i].toNat : Int)) (w' := w) ?_ (h s[i])
  have := run_index_string (P := P) (w := w) t s kd (i : Int) ht
  simp only [execOp, hx, hy]
  rw [Sem.run_bind, this]
  simp [hi, Result.andThen]
end
theorem u8_le (b : UInt8) : (b.toNat : Int) ≤ 255 := by have := b.toNat_lt; omega
theorem len64_ok (n : Nat) (w : World) (hn : n < 256) : FnOk Try.prog 125 [.int .u64 (n : Int)] w (fun r w' => (∃ z, r = i64 z) ∧ w = w') := by
  refine FnOk.enter (rs := [2]) Try.func125 rfl Try.ntmps125 Try.results125 rfl rfl ?_
  refine WF.seq ?_
  refine WF.region ?_
  refine WL.va rfl rfl rfl (X.assignI rfl) ?_
  refine WL.nil ?_
  refine thn_n ?_
  refine WF.seq ?_
  refine WF.seq ?_
  refine WF.region ?_
  refine WL.va rfl rfl rfl (X.moveI rfl) ?_
  refine WL.va rfl rfl rfl (X.geq rfl rfl) ?_
  refine WL.nil ?_
  refine thn_n ?_
  refine WF.cond rfl (fun h0_1 => ?_) (fun h0_1 => ?_)
  · have gh0_1 := (of_decide_eq_true h0_1)
    exact absurd gh0_1 (by omega)
  · have gh0_1 := (of_decide_eq_false h0_1)
    refine WF.skip ?_
    refine thn_n ?_
    refine WF.seq ?_
    refine WF.seq ?_
    refine WF.region ?_
    refine WL.va rfl rfl rfl (X.moveI rfl) ?_
    refine WL.va rfl rfl rfl (X.geq rfl rfl) ?_
    refine WL.nil ?_
    refine thn_n ?_
    refine WF.cond rfl (fun h1_3 => ?_) (fun h1_3 => ?_)
    · have gh1_3 := (of_decide_eq_true h1_3)
      exact absurd gh1_3 (by omega)
    · have gh1_3 := (of_decide_eq_false h1_3)
      refine WF.skip ?_
      refine thn_n ?_
      refine WF.seq ?_
      refine WF.seq ?_
      refine WF.region ?_
      refine WL.va rfl rfl rfl (X.moveI rfl) ?_
      refine WL.va rfl rfl rfl (X.geq rfl rfl) ?_
      refine WL.nil ?_
      refine thn_n ?_
      refine WF.cond rfl (fun h2_5 => ?_) (fun h2_5 => ?_)
      · have gh2_5 := (of_decide_eq_true h2_5)
        exact absurd gh2_5 (by omega)
      · have gh2_5 := (of_decide_eq_false h2_5)
        refine WF.skip ?_
        refine thn_n ?_
        refine WF.seq ?_
        refine WF.region ?_
        refine WL.va rfl rfl rfl (X.moveI rfl) ?_
        refine WL.va rfl rfl rfl (X.moveI rfl) ?_
        refine WL.va rfl rfl rfl (X.conv rfl (congrArg Option.isSome Try.underlying126) Try.underlying5 (wu8 (by omega))) ?_
        refine WL.op rfl (OW.idxStr (i := n) rfl rfl (Nat.lt_of_lt_of_eq hn (show 256 = ByteArray.size _ from by kernel_rfl)) Try.underlying9 ?_ (by decide))
        intro bb
        have hbb := u8_le bb
        refine WL.va rfl rfl rfl (X.conv rfl (congrArg Option.isSome Try.underlying5) Try.underlying3 (w64 (by omega))) ?_
        refine WL.va rfl rfl rfl (X.add rfl rfl (w64 (by omega))) ?_
        refine WL.va rfl rfl rfl (X.assignI rfl) ?_
        refine WL.nil ?_
        refine thn_n ?_
        refine WF.ret ?_
        refine fin_r ?_
        exact ⟨⟨_, rfl⟩, rfl⟩

theorem lenB_ok (n : Nat) (w : World) (hn : n < 256) : FnOk Try.prog 97 [.int .u64 (n : Int)] w (fun r w' => (∃ z, r = i64 z) ∧ w = w') := by
  refine FnOk.enter (rs := [2]) Try.func97 rfl Try.ntmps97 Try.results97 rfl rfl ?_
  refine WF.seq ?_
  refine WF.region ?_
  refine WL.va rfl rfl rfl (X.assignI rfl) ?_
  refine WL.nil ?_
  refine thn_n ?_
  refine WF.seq ?_
  refine WF.cond_f rfl ?_
  refine WF.skip ?_
  refine thn_n ?_
  refine WF.seq ?_
  refine WF.region ?_
  refine WL.va rfl rfl rfl (X.moveI rfl) ?_
  refine WL.c rfl rfl rfl (X.call Try.call125 (evl_cons rfl evl_nil)) (len64_ok n _ hn) ?_
  rintro v2 w1 ⟨⟨z, rfl⟩, rfl⟩
  refine WL.va rfl rfl rfl (X.assignI rfl) ?_
  refine WL.nil ?_
  refine thn_n ?_
  refine WF.ret ?_
  refine fin_r ?_
  exact ⟨⟨_, rfl⟩, rfl⟩

abbrev gL (L : List Rg) (k : Nat) : Int := (L.getD k Rg.zero).Lo
theorem gL_at {L : List Rg} {k : Nat} (h : k < L.length) : gL L k = L[k].Lo := by simp [gL, h]
theorem cmp_lt {x y : Int} (h : cmpI x y < 0) : x < y := by
  unfold cmpI at h
  split at h
  · assumption
  · split at h <;> omega
theorem cmp_ge {x y : Int} (h : ¬ cmpI x y < 0) : y ≤ x := by
  unfold cmpI at h
  split at h
  · omega
  · omega
/-- the first i + 1 are in order, but for the one at j, that is not above those behind it -/
def Sub (L : List Rg) (i j : Nat) : Prop := (∀ p q, p < q → q ≤ i → p ≠ j → q ≠ j → gL L p ≤ gL L q) ∧ ∀ q, j < q → q ≤ i → gL L j ≤ gL L q
def Srt (L : List Rg) (i : Nat) : Prop := ∀ p q, p < q → q ≤ i → gL L p ≤ gL L q
theorem Sub.end {L : List Rg} {i j : Nat} (h : Sub L i j) (hj : j = 0 ∨ 0 < j ∧ gL L (j - 1) ≤ gL L j) : Srt L i := fun p q hpq hq => by
  by_cases h1 : p = j
  · subst h1; exact h.2 q hpq hq
  · by_cases h2 : q = j
    · subst h2
      rcases hj with rfl | ⟨h3, h4⟩
      · omega
      · by_cases h5 : p = q - 1
        · subst h5; exact h4
        · exact Int.le_trans (h.1 p (q - 1) (by omega) (by omega) h1 (by omega)) h4
    · exact h.1 p q hpq hq h1 h2
theorem gL_swap {L : List Rg} {j k : Nat} (hj : j < L.length) (hj1 : j - 1 < L.length) (h0 : 0 < j) : gL ((L.set j L[j - 1]).set (j - 1) L[j]) k = if k = j - 1 then gL L j else if k = j then gL L (j - 1) else gL L k := by
  unfold gL
  by_cases h1 : k = j - 1
  · subst h1; simp [hj, hj1]
  · by_cases h2 : k = j
    · subst h2
      rw [if_neg h1, if_pos rfl]
      simp [List.getElem?_set, hj, hj1, show ¬ k - 1 = k by omega]
    · rw [if_neg h1, if_neg h2]
      simp only [List.getD_eq_getElem?_getD]
      rw [List.getElem?_set_ne (fun e => h1 e.symm), List.getElem?_set_ne (fun e => h2 e.symm)]
theorem Sub.swap {L : List Rg} {i j : Nat} (h : Sub L i j) (hj : j < L.length) (hj1 : j - 1 < L.length) (h0 : 0 < j) (hji : j ≤ i) (hlt : gL L j < gL L (j - 1)) : Sub ((L.set j L[j - 1]).set (j - 1) L[j]) i (j - 1) := by
  constructor
  · intro p q hpq hq hp1 hq1
    rw [gL_swap hj hj1 h0, gL_swap hj hj1 h0, if_neg hp1, if_neg hq1]
    by_cases e1 : p = j
    · subst e1
      rw [if_pos rfl, if_neg (by omega)]
      exact h.1 _ _ (by omega) hq (by omega) (by omega)
    · by_cases e2 : q = j
      · subst e2
        rw [if_neg e1, if_pos rfl]
        exact h.1 _ _ (by omega) (by omega) e1 (by omega)
      · rw [if_neg e1, if_neg e2]; exact h.1 p q hpq hq e1 e2
  · intro q hq1 hq
    rw [gL_swap hj hj1 h0, gL_swap hj hj1 h0, if_pos rfl, if_neg (by omega)]
    by_cases e : q = j
    · rw [if_pos e]; omega
    · rw [if_neg e]; exact h.2 q (by omega) hq
theorem Srt.sub {L : List Rg} {i : Nat} (h : Srt L i) : Sub L (i + 1) (i + 1) := ⟨fun p q hpq hq _ hq1 => h p q hpq (by omega), fun q h1 h2 => by omega⟩
theorem Srt.pw {L : List Rg} {i : Nat} (h : Srt L i) (hi : L.length ≤ i + 1) : L.Pairwise fun a b => a.Lo ≤ b.Lo := by
  rw [List.pairwise_iff_getElem]
  intro p q hp hq hpq
  have := h p q hpq (by omega)
  rwa [gL_at hp, gL_at hq] at this
set_option maxHeartbeats 4000000 in
theorem insSort_ok (v vf : Value) (l : List Rg) (w : World) (B : Nat) (ho0 : OwnR w B 41 v l) (hn : l.length ≤ 1000) (hf : ∀ (a b : Rg) (w1 : World), CloOk Try.prog vf [agg a.c, agg b.c] w1 (fun r w2 => r = i64 (cmpI a.Lo b.Lo) ∧ Ext w1 w2)) : FnOk Try.prog 116 [v, i64 0, i64 (l.length : Int), vf] w (fun _ w' => (∃ L, OwnR w' B 41 v L ∧ L.Perm l ∧ L.Pairwise fun a b => a.Lo ≤ b.Lo) ∧ w.grownBy w' v.ownBlock) := by
  refine FnOk.enter (rs := []) Try.func116 rfl Try.ntmps116 Try.results116 rfl rfl ?_
  refine WF.seq ?_
  refine WF.region ?_
  refine WL.va rfl rfl rfl (X.moveI rfl) ?_
  refine WL.va rfl rfl rfl (X.add rfl rfl (w64 (by omega))) ?_
  refine WL.va rfl rfl rfl (X.assignI rfl) ?_
  refine WL.nil ?_
  refine thn_n ?_
  refine WF.block ?_
  refine WF.named (fun F1 hF2 => ?_)
  refine WF.loopN (fun mL0 f' w' => ∃ (i : Nat) (L : List Rg), mL0 = l.length - i ∧ f' 8 = i64 ((i : Int) + 1) ∧ Agree [0, 1, 2, 3, 10, 11] f' F1 ∧ w.grownBy w' v.ownBlock ∧ OwnR w' B 41 v L ∧ L.Perm l ∧ Srt L i) ?_ ?_
  · exact ⟨_, 0, l, rfl, (congrFun hF2 8), (Agree.refl _ _), (World.grownBy.refl _ _), ⟨ho0, List.Perm.refl _, fun p q h1 h2 => by omega⟩⟩
  · rintro mL0 fL0 wL0 ⟨i, L, hmL0, e8_L0, hAL0, hwL0, ⟨ho, hp, hs⟩⟩
    have hlen : L.length = l.length := hp.length_eq
    refine WF.seq ?_
    refine WF.seq ?_
    refine WF.region ?_
    refine WL.va rfl rfl rfl (X.moveI e8_L0) ?_
    refine WL.va rfl rfl rfl (X.moveI ((hAL0.eq 2).trans (congrFun hF2 2))) ?_
    refine WL.va rfl rfl rfl (X.lss rfl rfl) ?_
    refine WL.nil ?_
    refine thn_n ?_
    refine WF.cond rfl (fun h0_3 => ?_) (fun h0_3 => ?_)
    · have gh0_3 := (of_decide_eq_true h0_3)
      have hi : i + 1 < L.length := by omega
      refine WF.skip ?_
      refine thn_n ?_
      refine WF.seq ?_
      refine WF.block ?_
      refine WF.seq ?_
      refine WF.region ?_
      refine WL.va rfl rfl rfl (X.moveI e8_L0) ?_
      refine WL.va rfl rfl rfl (X.assignI rfl) ?_
      refine WL.nil ?_
      refine thn_n ?_
      refine WF.block ?_
      refine WF.named (fun F5 hF6 => ?_)
      refine WF.loopN (fun mL1 f' w' => ∃ (j : Nat) (L : List Rg), mL1 = j ∧ f' 9 = .int .i64 (j : Int) ∧ Agree [0, 1, 2, 3, 8, 10, 11, 12, 13, 14, 17] f' F5 ∧ w.grownBy w' v.ownBlock ∧ OwnR w' B 41 v L ∧ L.Perm l ∧ Sub L (i + 1) j ∧ j ≤ i + 1) ?_ ?_
      · exact ⟨_, i + 1, L, rfl, (congrFun hF6 9), (Agree.refl _ _), hwL0, ⟨ho, hp, hs.sub, Nat.le_refl _⟩⟩
      · rintro mL1 fL1 wL1 ⟨j, L, hmL1, e9_L1, hAL1, hwL1, ⟨ho, hp, hsub, hji⟩⟩
        have hlen : L.length = l.length := hp.length_eq
        have hj : j < L.length := by omega
        refine WF.seq ?_
        refine WF.seq ?_
        refine WF.drawn (.q 0 (.q 1 (.q 2 (.q 3 (.q 4 (.q 5 (.q 6 (.q 7 (.q 8 (.q 9 (.q 10 (.q 11 (.q 12 (.q 13 (.l 14 (.q 15 (.q 16 .nil))))))))))))))))) (fun w' => Ext wL1 w') 17 (by kernel_rfl) (by kernel_rfl) (Ext.drew _) ?_
        refine WO.q rfl rfl rfl rfl (fun w' hE7 => (X.moveI e9_L1)) ?_
        refine WO.q rfl rfl rfl rfl (fun w' hE7 => (X.moveI ((hAL1.eq 1).trans ((congrFun hF6 1).trans ((hAL0.eq 1).trans (congrFun hF2 1)))))) ?_
        refine WO.q rfl rfl rfl rfl (fun w' hE7 => (X.gtr rfl rfl)) ?_
        refine WO.q rfl rfl rfl rfl (fun w' hE7 => (X.moveB rfl)) ?_
        refine WO.split (j := 3) rfl (fun h9 => ?_) (fun h9 => ?_)
        · have gh9 := (of_decide_eq_true h9)
          have h0 : 0 < j := by have := gh9; omega
          have hj1 : j - 1 < L.length := by omega
          refine WO.qg rfl rfl (congrArg some h9) rfl rfl (fun w' hE7 => (X.move ((hAL1.eq 3).trans ((congrFun hF6 3).trans ((hAL0.eq 3).trans (congrFun hF2 3)))))) ?_
          refine WO.qg rfl rfl (congrArg some h9) rfl rfl (fun w' hE7 => (X.move ((hAL1.eq 0).trans ((congrFun hF6 0).trans ((hAL0.eq 0).trans (congrFun hF2 0)))))) ?_
          refine WO.qg rfl rfl (congrArg some h9) rfl rfl (fun w' hE7 => (X.moveI e9_L1)) ?_
          refine WO.qg rfl rfl (congrArg some h9) rfl rfl (fun w' hE7 => (X.idx (Row.of_own ho) rfl rfl (by omega) Try.underlying22 Try.sizeOf41)) ?_
          refine WO.qg rfl rfl (congrArg some h9) rfl rfl (fun w' hE7 => (X.loadEl (Row.of_own ho) hE7 rfl (by omega) (Rgs.el (l := L) (k := j) hj) Try.isAgg41 Try.sizeOf41)) ?_
          refine WO.qg rfl rfl (congrArg some h9) rfl rfl (fun w' hE7 => (X.move ((hAL1.eq 0).trans ((congrFun hF6 0).trans ((hAL0.eq 0).trans (congrFun hF2 0)))))) ?_
          refine WO.qg rfl rfl (congrArg some h9) rfl rfl (fun w' hE7 => (X.moveI e9_L1)) ?_
          refine WO.qg rfl rfl (congrArg some h9) rfl rfl (fun w' hE7 => (X.sub rfl rfl (show _ = ((j - 1 : Nat) : Int) from (w64 (by omega)).trans (by omega)))) ?_
          refine WO.qg rfl rfl (congrArg some h9) rfl rfl (fun w' hE7 => (X.idx (Row.of_own ho) rfl rfl (by omega) Try.underlying22 Try.sizeOf41)) ?_
          refine WO.qg rfl rfl (congrArg some h9) rfl rfl (fun w' hE7 => (X.loadEl (Row.of_own ho) hE7 rfl (by omega) (Rgs.el (l := L) (k := j - 1) hj1) Try.isAgg41 Try.sizeOf41)) ?_
          refine WO.l ?_
          refine LO.gog rfl rfl (congrArg some h9) (OW.callV rfl (evl_cons rfl (evl_cons rfl evl_nil)) (hf (L[j]'hj) (L[j - 1]'hj1) _) ?_ (by decide))
          rintro v11 w10 ⟨rfl, hx12⟩
          refine ⟨(Ext.trans (Ext.drew _) hx12), ?_⟩
          refine WO.qg rfl rfl (congrArg some h9) rfl rfl (fun w' hE7 => (X.lss rfl rfl)) ?_
          refine WO.q rfl rfl rfl rfl (fun w' hE7 => (X.pickT rfl h9 rfl)) ?_
          refine WO.nil ?_
          refine WL.nil ?_
          refine thn_n ?_
          refine WF.cond rfl (fun h1_13 => ?_) (fun h1_13 => ?_)
          · have gh1_13 := (of_decide_eq_true h1_13)
            have hlt : gL L j < gL L (j - 1) := by rw [gL_at hj, gL_at hj1]; exact cmp_lt gh1_13
            refine WF.skip ?_
            refine thn_n ?_
            refine WF.seq ?_
            refine WF.block ?_
            refine WF.drawn (.q 0 (.q 1 (.q 2 (.q 3 (.q 4 (.q 5 (.q 6 (.q 7 (.q 8 (.q 10 (.q 11 (.q 12 (.b 9 13 (.l 13 (.q 14 (.l 15 (.q 16 (.l 17 .nil))))) (.l 9 (.q 14 (.l 15 (.q 16 (.l 17 .nil)))))))))))))))))) (fun w' => World.grownBy w10 w' v.ownBlock) 18 (by kernel_rfl) (by kernel_rfl) (grown_of_ext (Ext.drew _)) ?_
            refine WO.q rfl rfl rfl rfl (fun w' hE15 => (X.move ((hAL1.eq 0).trans ((congrFun hF6 0).trans ((hAL0.eq 0).trans (congrFun hF2 0)))))) ?_
            refine WO.q rfl rfl rfl rfl (fun w' hE15 => (X.moveI e9_L1)) ?_
            refine WO.q rfl rfl rfl rfl (fun w' hE15 => (X.move ((hAL1.eq 0).trans ((congrFun hF6 0).trans ((hAL0.eq 0).trans (congrFun hF2 0)))))) ?_
            refine WO.q rfl rfl rfl rfl (fun w' hE15 => (X.moveI e9_L1)) ?_
            refine WO.q rfl rfl rfl rfl (fun w' hE15 => (X.sub rfl rfl (show _ = ((j - 1 : Nat) : Int) from (w64 (by omega)).trans (by omega)))) ?_
            refine WO.q rfl rfl rfl rfl (fun w' hE15 => (X.move ((hAL1.eq 0).trans ((congrFun hF6 0).trans ((hAL0.eq 0).trans (congrFun hF2 0)))))) ?_
            refine WO.q rfl rfl rfl rfl (fun w' hE15 => (X.moveI e9_L1)) ?_
            refine WO.q rfl rfl rfl rfl (fun w' hE15 => (X.sub rfl rfl (show _ = ((j - 1 : Nat) : Int) from (w64 (by omega)).trans (by omega)))) ?_
            refine WO.q rfl rfl rfl rfl (fun w' hE15 => (X.idx (Row.of_own ho) rfl rfl (by omega) Try.underlying22 Try.sizeOf41)) ?_
            refine WO.q rfl rfl rfl rfl (fun w' hE15 => (X.move ((hAL1.eq 0).trans ((congrFun hF6 0).trans ((hAL0.eq 0).trans (congrFun hF2 0)))))) ?_
            refine WO.q rfl rfl rfl rfl (fun w' hE15 => (X.moveI e9_L1)) ?_
            refine WO.q rfl rfl rfl rfl (fun w' hE15 => (X.idx (Row.of_own ho) rfl rfl (by omega) Try.underlying22 Try.sizeOf41)) ?_
            refine WO.b2 ?_ ?_
            · refine LO.go rfl rfl (OW.val rfl (by decide) (X.loadEl (Row.of_own ho) (Ext.trans (Ext.trans (Ext.drew _) hx12) (Ext.drew _)) rfl (by omega) (Rgs.el (l := L) (k := j - 1) hj1) Try.isAgg41 Try.sizeOf41) ?_)
              refine ⟨(grown_of_ext (Ext.drew _)), ?_⟩
              refine WO.l ?_
              refine LO.go rfl rfl (OW.val rfl (by decide) (X.loadEl (Row.of_own ho) (Ext.trans (Ext.trans (Ext.drew _) hx12) (Ext.drew _)) rfl (by omega) (Rgs.el (l := L) (k := j) hj) Try.isAgg41 Try.sizeOf41) ?_)
              refine ⟨(grown_of_ext (Ext.drew _)), ?_⟩
              refine WO.q rfl rfl rfl rfl (fun w' hE15 => (X.idx (Row.of_own ho) rfl rfl (by omega) Try.underlying22 Try.sizeOf41)) ?_
              refine WO.l ?_
              have hgP := grown_ext hwL1 (Ext.trans (Ext.trans (Ext.drew _) hx12) (Ext.drew _))
              refine LO.go rfl rfl (OW.storeEl (ds := Rg.c (L[j - 1]'hj1)) (own_ext ho (Ext.trans (Ext.trans (Ext.drew _) hx12) (Ext.drew _))) (by omega) rfl rfl rfl (Rg.c_one _) Try.sizeOf41 ?_)
              intro w16 ho19 hx18
              have ho1 : OwnR _ _ _ _ _ := OwnR.set (l := L) (k := j) (a := (L[j - 1]'hj1)) hj ho19
              have hg1 := grown2 hgP hx18
              refine ⟨(grown2 (grown_of_ext (Ext.drew _)) hx18), ?_⟩
              refine WO.q rfl rfl rfl rfl (fun w' hE15 => (X.idx (Row.of_own ho) rfl rfl (by omega) Try.underlying22 Try.sizeOf41)) ?_
              refine WO.l ?_
              refine LO.go rfl rfl (OW.storeEl (ds := Rg.c (L[j]'hj)) ho1 (by simp; omega) rfl rfl rfl (Rg.c_one _) Try.sizeOf41 ?_)
              intro w20 ho23 hx22
              have ho2 : OwnR _ _ _ _ _ := OwnR.set (l := L.set j (L[j - 1]'hj1)) (k := j - 1) (a := (L[j]'hj)) (by simp; omega) ho23
              have hg2 := grown2 hg1 hx22
              refine ⟨(grown2 (grown2 (grown_of_ext (Ext.drew _)) hx18) hx22), ?_⟩
              refine WO.nil ?_
              refine WL.nil ?_
              refine blk_n ?_
              refine thn_n ?_
              refine WF.region ?_
              refine WL.va rfl rfl rfl (X.moveI e9_L1) ?_
              refine WL.va rfl rfl rfl (X.sub rfl rfl (show _ = ((j - 1 : Nat) : Int) from (w64 (by omega)).trans (by omega))) ?_
              refine WL.va rfl rfl rfl (X.assignI rfl) ?_
              refine WL.nil ?_
              exact thn_n ⟨_, (by omega), j - 1, (L.set j (L[j - 1]'hj1)).set (j - 1) (L[j]'hj), rfl, rfl, (by repeat (first | exact hAL1 | refine Agree.put ?_ rfl | refine Agree.sub hAL0 rfl ?_ | refine Agree.named hF6 ?_ | refine Agree.named hF2 ?_)), hg2, ⟨ho2, (List.set_set_perm (by omega) (by omega)).trans hp, hsub.swap hj hj1 h0 hji hlt, by omega⟩⟩
            · refine LO.go rfl rfl (OW.val rfl (by decide) (X.loadEl (Row.of_own ho) (Ext.trans (Ext.trans (Ext.drew _) hx12) (Ext.drew _)) rfl (by omega) (Rgs.el (l := L) (k := j) hj) Try.isAgg41 Try.sizeOf41) ?_)
              refine ⟨(grown_of_ext (Ext.drew _)), ?_⟩
              refine WO.l ?_
              refine LO.go rfl rfl (OW.val rfl (by decide) (X.loadEl (Row.of_own ho) (Ext.trans (Ext.trans (Ext.drew _) hx12) (Ext.drew _)) rfl (by omega) (Rgs.el (l := L) (k := j - 1) hj1) Try.isAgg41 Try.sizeOf41) ?_)
              refine ⟨(grown_of_ext (Ext.drew _)), ?_⟩
              refine WO.q rfl rfl rfl rfl (fun w' hE15 => (X.idx (Row.of_own ho) rfl rfl (by omega) Try.underlying22 Try.sizeOf41)) ?_
              refine WO.l ?_
              have hgP := grown_ext hwL1 (Ext.trans (Ext.trans (Ext.drew _) hx12) (Ext.drew _))
              refine LO.go rfl rfl (OW.storeEl (ds := Rg.c (L[j - 1]'hj1)) (own_ext ho (Ext.trans (Ext.trans (Ext.drew _) hx12) (Ext.drew _))) (by omega) rfl rfl rfl (Rg.c_one _) Try.sizeOf41 ?_)
              intro w24 ho27 hx26
              have ho1 : OwnR _ _ _ _ _ := OwnR.set (l := L) (k := j) (a := (L[j - 1]'hj1)) hj ho27
              have hg1 := grown2 hgP hx26
              refine ⟨(grown2 (grown_of_ext (Ext.drew _)) hx26), ?_⟩
              refine WO.q rfl rfl rfl rfl (fun w' hE15 => (X.idx (Row.of_own ho) rfl rfl (by omega) Try.underlying22 Try.sizeOf41)) ?_
              refine WO.l ?_
              refine LO.go rfl rfl (OW.storeEl (ds := Rg.c (L[j]'hj)) ho1 (by simp; omega) rfl rfl rfl (Rg.c_one _) Try.sizeOf41 ?_)
              intro w28 ho31 hx30
              have ho2 : OwnR _ _ _ _ _ := OwnR.set (l := L.set j (L[j - 1]'hj1)) (k := j - 1) (a := (L[j]'hj)) (by simp; omega) ho31
              have hg2 := grown2 hg1 hx30
              refine ⟨(grown2 (grown2 (grown_of_ext (Ext.drew _)) hx26) hx30), ?_⟩
              refine WO.nil ?_
              refine WL.nil ?_
              refine blk_n ?_
              refine thn_n ?_
              refine WF.region ?_
              refine WL.va rfl rfl rfl (X.moveI e9_L1) ?_
              refine WL.va rfl rfl rfl (X.sub rfl rfl (show _ = ((j - 1 : Nat) : Int) from (w64 (by omega)).trans (by omega))) ?_
              refine WL.va rfl rfl rfl (X.assignI rfl) ?_
              refine WL.nil ?_
              exact thn_n ⟨_, (by omega), j - 1, (L.set j (L[j - 1]'hj1)).set (j - 1) (L[j]'hj), rfl, rfl, (by repeat (first | exact hAL1 | refine Agree.put ?_ rfl | refine Agree.sub hAL0 rfl ?_ | refine Agree.named hF6 ?_ | refine Agree.named hF2 ?_)), hg2, ⟨ho2, (List.set_set_perm (by omega) (by omega)).trans hp, hsub.swap hj hj1 h0 hji hlt, by omega⟩⟩
          · have gh1_13 := (of_decide_eq_false h1_13)
            have hend : j = 0 ∨ 0 < j ∧ gL L (j - 1) ≤ gL L j := by first | exact .inl h00 | (refine .inr ⟨h0, ?_⟩; rw [gL_at hj, gL_at hj1]; exact cmp_ge gh1_13)
            refine WF.exit ?_
            refine thn_x ?_
            refine thn_x ?_
            refine blk_eq ?_
            refine blk_n ?_
            refine thn_n ?_
            refine WF.region ?_
            refine WL.va rfl rfl rfl (X.moveI ((hAL1.eq 8).trans ((congrFun hF6 8).trans e8_L0))) ?_
            refine WL.va rfl rfl rfl (X.add rfl rfl (w64 (by omega))) ?_
            refine WL.va rfl rfl rfl (X.assignI rfl) ?_
            refine WL.nil ?_
            exact thn_n ⟨_, (by omega), i + 1, L, rfl, rfl, (by repeat (first | exact hAL0 | refine Agree.put ?_ rfl | refine Agree.sub hAL1 rfl ?_ | refine Agree.named hF6 ?_ | refine Agree.named hF2 ?_)), (grown_ext hwL1 (Ext.trans (Ext.drew _) hx12)), ⟨own_ext ho (Ext.trans (Ext.drew _) hx12), hp, hsub.end (by first | exact hend | exact .inl h00)⟩⟩
        · have gh9 := (of_decide_eq_false h9)
          have h00 : j = 0 := by have := gh9; omega
          refine WO.qp rfl rfl rfl rfl (congrArg some h9) ?_
          refine WO.qp rfl rfl rfl rfl (congrArg some h9) ?_
          refine WO.qp rfl rfl rfl rfl (congrArg some h9) ?_
          refine WO.qp rfl rfl rfl rfl (congrArg some h9) ?_
          refine WO.qp rfl rfl rfl rfl (congrArg some h9) ?_
          refine WO.qp rfl rfl rfl rfl (congrArg some h9) ?_
          refine WO.qp rfl rfl rfl rfl (congrArg some h9) ?_
          refine WO.qp rfl rfl rfl rfl (congrArg some h9) ?_
          refine WO.qp rfl rfl rfl rfl (congrArg some h9) ?_
          refine WO.qp rfl rfl rfl rfl (congrArg some h9) ?_
          refine WO.l ?_
          refine LO.pass rfl (Ext.drew _) rfl rfl rfl (congrArg some h9) ?_
          refine WO.qp rfl rfl rfl rfl (congrArg some h9) ?_
          refine WO.q rfl rfl rfl rfl (fun w' hE7 => (X.pickF rfl h9 rfl)) ?_
          refine WO.nil ?_
          refine WL.nil ?_
          refine thn_n ?_
          refine WF.cond_f rfl ?_
          refine WF.exit ?_
          refine thn_x ?_
          refine thn_x ?_
          refine blk_eq ?_
          refine blk_n ?_
          refine thn_n ?_
          refine WF.region ?_
          refine WL.va rfl rfl rfl (X.moveI ((hAL1.eq 8).trans ((congrFun hF6 8).trans e8_L0))) ?_
          refine WL.va rfl rfl rfl (X.add rfl rfl (w64 (by omega))) ?_
          refine WL.va rfl rfl rfl (X.assignI rfl) ?_
          refine WL.nil ?_
          exact thn_n ⟨_, (by omega), i + 1, L, rfl, rfl, (by repeat (first | exact hAL0 | refine Agree.put ?_ rfl | refine Agree.sub hAL1 rfl ?_ | refine Agree.named hF6 ?_ | refine Agree.named hF2 ?_)), (grown_ext hwL1 (Ext.drew _)), ⟨own_ext ho (Ext.drew _), hp, hsub.end (by first | exact hend | exact .inl h00)⟩⟩
    · have gh0_3 := (of_decide_eq_false h0_3)
      refine WF.exit ?_
      refine thn_x ?_
      refine thn_x ?_
      refine blk_eq ?_
      refine fin_n ?_
      exact ⟨⟨L, ho, hp, hs.pw (by omega)⟩, hwL0⟩

set_option maxHeartbeats 2000000 in
theorem pdq_ok (v vf : Value) (l : List Rg) (z : Int) (w : World) (B : Nat) (ho0 : OwnR w B 41 v l) (hn : l.length ≤ 12) (hf : ∀ (a b : Rg) (w1 : World), CloOk Try.prog vf [agg a.c, agg b.c] w1 (fun r w2 => r = i64 (cmpI a.Lo b.Lo) ∧ Ext w1 w2)) : FnOk Try.prog 96 [v, i64 0, i64 (l.length : Int), i64 z, vf] w (fun _ w' => (∃ L, OwnR w' B 41 v L ∧ L.Perm l ∧ L.Pairwise fun a b => a.Lo ≤ b.Lo) ∧ w.grownBy w' v.ownBlock) := by
  refine FnOk.enter (rs := []) Try.func96 rfl Try.ntmps96 Try.results96 rfl rfl ?_
  refine WF.seq ?_
  refine WF.region ?_
  refine WL.va rfl rfl rfl (X.assignB rfl) ?_
  refine WL.nil ?_
  refine thn_n ?_
  refine WF.seq ?_
  refine WF.region ?_
  refine WL.va rfl rfl rfl (X.assignB rfl) ?_
  refine WL.nil ?_
  refine thn_n ?_
  refine WF.block ?_
  refine WF.named (fun F3 hF4 => ?_)
  refine WF.loopN (fun mL0 f' w' => mL0 = 0 ∧ f' 1 = .int .i64 0 ∧ f' 2 = i64 (l.length : Int) ∧ f' 3 = i64 z ∧ f' 10 = .bool true ∧ f' 11 = .bool true ∧ Agree [0, 4] f' F3 ∧ w = w') ?_ ?_
  · exact ⟨_, rfl, (congrFun hF4 1), (congrFun hF4 2), (congrFun hF4 3), (congrFun hF4 10), (congrFun hF4 11), (Agree.refl _ _), rfl⟩
  · rintro mL0 fL0 wL0 ⟨hmL0, e1_L0, e2_L0, e3_L0, e10_L0, e11_L0, hAL0, rfl⟩
    refine WF.block ?_
    refine WF.seq ?_
    refine WF.region ?_
    refine WL.va rfl rfl rfl (X.moveI e2_L0) ?_
    refine WL.va rfl rfl rfl (X.moveI e1_L0) ?_
    refine WL.va rfl rfl rfl (X.sub rfl rfl (w64 (by omega))) ?_
    refine WL.va rfl rfl rfl (X.assignI rfl) ?_
    refine WL.nil ?_
    refine thn_n ?_
    refine WF.seq ?_
    refine WF.seq ?_
    refine WF.region ?_
    refine WL.va rfl rfl rfl (X.moveI rfl) ?_
    refine WL.va rfl rfl rfl (X.leq rfl rfl) ?_
    refine WL.nil ?_
    refine thn_n ?_
    refine WF.cond rfl (fun h0_7 => ?_) (fun h0_7 => ?_)
    · have gh0_7 := (of_decide_eq_true h0_7)
      refine WF.seq ?_
      refine WF.region ?_
      refine WL.va rfl rfl rfl (X.move ((hAL0.eq 0).trans (congrFun hF4 0))) ?_
      refine WL.va rfl rfl rfl (X.moveI e1_L0) ?_
      refine WL.va rfl rfl rfl (X.moveI e2_L0) ?_
      refine WL.va rfl rfl rfl (X.move ((hAL0.eq 4).trans (congrFun hF4 4))) ?_
      refine WL.c rfl rfl rfl (X.call Try.call116 (evl_cons rfl (evl_cons rfl (evl_cons rfl (evl_cons rfl evl_nil))))) (insSort_ok v vf l _ B ho0 (by omega) hf) ?_
      rintro v10 w9 ⟨⟨L, ho, hp, hs⟩, hxs⟩
      refine WL.nil ?_
      refine thn_n ?_
      refine WF.ret ?_
      refine thn_r ?_
      refine blk_r ?_
      refine thn_r ?_
      refine blk_r ?_
      refine fin_r ?_
      exact ⟨⟨L, ho, hp, hs⟩, hxs⟩
    · have gh0_7 := (of_decide_eq_false h0_7)
      exact absurd gh0_7 (by omega)

set_option maxHeartbeats 2000000 in
theorem sortF_ok (v vf : Value) (l : List Rg) (w : World) (B : Nat) (ho0 : OwnR w B 41 v l) (hn : l.length ≤ 12) (hf : ∀ (a b : Rg) (w1 : World), CloOk Try.prog vf [agg a.c, agg b.c] w1 (fun r w2 => r = i64 (cmpI a.Lo b.Lo) ∧ Ext w1 w2)) : FnOk Try.prog 57 [v, vf] w (fun _ w' => (∃ L, OwnR w' B 41 v L ∧ L.Perm l ∧ L.Pairwise fun a b => a.Lo ≤ b.Lo) ∧ w.grownBy w' v.ownBlock) := by
  refine FnOk.enter (rs := []) Try.func57 rfl Try.ntmps57 Try.results57 rfl rfl ?_
  refine WF.seq ?_
  refine WF.region ?_
  refine WL.va rfl rfl rfl (X.move rfl) ?_
  refine WL.va rfl rfl rfl (X.len (Row.of_own ho0) rfl Try.underlying22) ?_
  refine WL.va rfl rfl rfl (X.assignI rfl) ?_
  refine WL.nil ?_
  refine thn_n ?_
  refine WF.region ?_
  refine WL.va rfl rfl rfl (X.move rfl) ?_
  refine WL.va rfl rfl rfl (X.moveI rfl) ?_
  refine WL.va rfl rfl rfl (X.moveI rfl) ?_
  refine WL.va rfl rfl rfl (X.conv rfl (congrArg Option.isSome Try.underlying3) Try.underlying124 (wu64 (by omega))) ?_
  refine WL.c rfl rfl rfl (X.call Try.call97 (evl_cons rfl evl_nil)) (lenB_ok l.length _ (by omega)) ?_
  rintro v2 w1 ⟨⟨z, rfl⟩, rfl⟩
  refine WL.va rfl rfl rfl (X.move rfl) ?_
  refine WL.c rfl rfl rfl (X.call Try.call96 (evl_cons rfl (evl_cons rfl (evl_cons rfl (evl_cons rfl (evl_cons rfl evl_nil)))))) (pdq_ok v vf l z _ B ho0 hn hf) ?_
  rintro v5 w4 ⟨⟨L, ho, hp, hs⟩, hxs⟩
  refine WL.nil ?_
  refine fin_n ?_
  exact ⟨⟨L, ho, hp, hs⟩, hxs⟩

theorem doneLit_ok (a b : Rg) (w : World) : FnOk Try.prog 58 [agg a.c, agg b.c] w (fun r w' => r = i64 (cmpI a.Lo b.Lo) ∧ Ext w w') := by
  refine FnOk.enter (rs := [4]) Try.func58 rfl Try.ntmps58 Try.results58 rfl rfl ?_
  refine WF.seq ?_
  refine WF.region ?_
  refine WL.op rfl (OW.boxA (cs := _) rfl ?_ (by decide))
  intro g2 w1 heg2 hlg2 hO2 hx3
  have := World.grownBy.size hx3
  refine WL.op rfl (OW.boxA (cs := _) rfl ?_ (by decide))
  intro g3 w5 heg3 hlg3 hO3 hx7
  have := World.grownBy.size hx7
  refine WL.va rfl rfl rfl (X.assignI rfl) ?_
  refine WL.nil ?_
  refine thn_n ?_
  refine WF.seq ?_
  refine WF.region ?_
  refine WL.va rfl rfl rfl (X.fieldAddrO (off := 0) rfl Try.underlying41 rfl rfl Try.sizeOf3) ?_
  refine WL.va rfl rfl rfl (X.loadO hO2 hx7 rfl rfl Try.isAgg3) ?_
  refine WL.va rfl rfl rfl (X.fieldAddrO (off := 0) rfl Try.underlying41 rfl rfl Try.sizeOf3) ?_
  refine WL.va rfl rfl rfl (X.loadO hO3 (Ext.refl _) rfl rfl Try.isAgg3) ?_
  refine WL.c rfl rfl rfl (X.call Try.call59 (evl_cons rfl (evl_cons rfl evl_nil))) (compare_ok _ _ _) ?_
  rintro v10 w9 ⟨rfl, rfl⟩
  refine WL.va rfl rfl rfl (X.assignI rfl) ?_
  refine WL.nil ?_
  refine thn_n ?_
  refine WF.ret ?_
  refine fin_r ?_
  exact ⟨rfl, (Ext.trans hx3 hx7)⟩

end Go.Proofs.Ytpimnlgfhpnjnaa
