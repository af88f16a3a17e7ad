/- The walk of place. -/
import Derived.Test.YtobjmehppmhkdaaWitI
namespace Go.Proofs.Ytobjmehppmhkdaa
open Go Go.RowKit Kf
set_option maxRecDepth 20000

theorem placeOf_at : ∀ {l : List Int} {t : Int} {k : Nat}, k < l.length → l.getD k 0 = t → (∀ j, j < k → l.getD j 0 ≠ t) → placeOf l t = some k
  | [], _, _, h, _, _ => by simp at h
  | x :: l, t, 0, _, h, _ => by
    have h : x = t := h
    unfold placeOf; rw [if_pos h]
  | x :: l, t, k + 1, hk, h, hno => by
    have h0 : x ≠ t := hno 0 (by omega)
    unfold placeOf
    rw [if_neg h0, placeOf_at (l := l) (k := k) (by simpa using hk) h (fun j hj => hno (j + 1) (by omega))]; rfl
theorem placeOf_no : ∀ {l : List Int} {t : Int}, (∀ j, j < l.length → l.getD j 0 ≠ t) → placeOf l t = none
  | [], _, _ => rfl
  | x :: l, t, h => by
    have h0 : x ≠ t := h 0 (by simp)
    unfold placeOf
    rw [if_neg h0, placeOf_no (l := l) (fun j hj => h (j + 1) (by simpa using hj))]; rfl
def placeZ (l : List Int) (t : Int) : Int := match placeOf l t with
  | some a => (a : Int)
  | none => -1
theorem placeZ_at {l : List Int} {t : Int} {k : Nat} (hk : k < l.length) (h : l.getD k 0 = t) (hno : ∀ j, j < k → l.getD j 0 ≠ t) : (k : Int) = placeZ l t := by
  unfold placeZ; rw [placeOf_at hk h hno]
theorem placeZ_no {l : List Int} {t : Int} {k : Nat} (hk : l.length ≤ k) (hno : ∀ j, j < k → l.getD j 0 ≠ t) : -1 = placeZ l t := by
  unfold placeZ; rw [placeOf_no (fun j hj => hno j (by omega))]
set_option maxHeartbeats 1000000 in
theorem place_ok (v : Value) (l : List Int) (t : Int) (w : World) (hb : Ints w v l) (hl : l.length ≤ 1000000) : FnOk Try.prog 14 [v, i64 t] w (fun r w' => r = i64 (placeZ l t) ∧ Ext w w') := by
  refine FnOk.enter (rs := [4]) Try.func14 rfl Try.ntmps14 Try.results14 rfl rfl ?_
  refine WF.seq ?_
  refine WF.region ?_
  refine WL.va rfl rfl rfl (X.assignI rfl) ?_
  refine WL.nil ?_
  refine thn_n ?_
  refine WF.seq ?_
  refine WF.seq ?_
  refine WF.region ?_
  refine WL.va rfl rfl rfl (X.assignI rfl) ?_
  refine WL.nil ?_
  refine thn_n ?_
  refine WF.block ?_
  refine WF.named (fun F1 hF2 => ?_)
  refine WF.loopN (fun mL0 f' w' => ∃ (k : Nat), mL0 = l.length - k ∧ f' 5 = .int .i64 (k : Int) ∧ Agree [0, 1] f' F1 ∧ Ext w w' ∧ k ≤ l.length ∧ ∀ j, j < k → l.getD j 0 ≠ t) ?_ ?_
  · exact ⟨_, 0, rfl, (congrFun hF2 5), (Agree.refl _ _), (Ext.refl _), ⟨Nat.zero_le _, fun j h => absurd h (by omega)⟩⟩
  · rintro mL0 fL0 wL0 ⟨k, hmL0, e5_L0, hAL0, hwL0, ⟨hk0, hno⟩⟩
    refine WF.seq ?_
    refine WF.seq ?_
    refine WF.region ?_
    refine WL.va rfl rfl rfl (X.moveI e5_L0) ?_
    refine WL.va rfl rfl rfl (X.move ((hAL0.eq 0).trans (congrFun hF2 0))) ?_
    refine WL.va rfl rfl rfl (X.len hb rfl Try.underlying34) ?_
    refine WL.va rfl rfl rfl (X.lss rfl rfl) ?_
    refine WL.nil ?_
    refine thn_n ?_
    refine WF.cond rfl (fun h0_3 => ?_) (fun h0_3 => ?_)
    · have gh0_3 := (of_decide_eq_true h0_3)
      have hk : k < l.length := by have := gh0_3; omega
      refine WF.skip ?_
      refine thn_n ?_
      refine WF.seq ?_
      refine WF.block ?_
      refine WF.seq ?_
      refine WF.region ?_
      refine WL.va rfl rfl rfl (X.move ((hAL0.eq 0).trans (congrFun hF2 0))) ?_
      refine WL.va rfl rfl rfl (X.moveI e5_L0) ?_
      refine WL.va rfl rfl rfl (X.idx hb rfl rfl hk Try.underlying34 Try.sizeOf3) ?_
      refine WL.va rfl rfl rfl (X.loadI hb hwL0 rfl hk Try.isAgg3) ?_
      refine WL.va rfl rfl rfl (X.moveI ((hAL0.eq 1).trans (congrFun hF2 1))) ?_
      refine WL.va rfl rfl rfl (X.eql rfl rfl) ?_
      refine WL.nil ?_
      refine thn_n ?_
      refine WF.cond rfl (fun h1_5 => ?_) (fun h1_5 => ?_)
      · have gh1_5 := (of_decide_eq_true h1_5)
        have hy : l.getD k 0 = t := gh1_5
        refine WF.seq ?_
        refine WF.region ?_
        refine WL.va rfl rfl rfl (X.moveI e5_L0) ?_
        refine WL.va rfl rfl rfl (X.assignI rfl) ?_
        refine WL.nil ?_
        refine thn_n ?_
        refine WF.ret ?_
        refine blk_r ?_
        refine thn_r ?_
        refine thn_r ?_
        refine blk_r ?_
        refine thn_r ?_
        refine fin_r ?_
        exact ⟨congrArg i64 (placeZ_at hk hy hno), hwL0⟩
      · have gh1_5 := (of_decide_eq_false h1_5)
        have hy : ¬ l.getD k 0 = t := gh1_5
        refine WF.skip ?_
        refine blk_n ?_
        refine thn_n ?_
        refine WF.region ?_
        refine WL.va rfl rfl rfl (X.moveI e5_L0) ?_
        refine WL.va rfl rfl rfl (X.add rfl rfl (w64 (by omega))) ?_
        refine WL.va rfl rfl rfl (X.assignI rfl) ?_
        refine WL.nil ?_
        exact thn_n ⟨_, (by omega), k + 1, rfl, rfl, (by repeat (first | exact hAL0 | refine Agree.put ?_ rfl | refine Agree.named hF2 ?_)), hwL0, ⟨by omega, fun j h => by by_cases q : j = k; (subst q; exact hy); exact hno j (by omega)⟩⟩
    · have gh0_3 := (of_decide_eq_false h0_3)
      have hk : l.length ≤ k := by have := gh0_3; omega
      refine WF.exit ?_
      refine thn_x ?_
      refine thn_x ?_
      refine blk_eq ?_
      refine thn_n ?_
      refine WF.seq ?_
      refine WF.region ?_
      refine WL.va rfl rfl rfl (X.assignI rfl) ?_
      refine WL.nil ?_
      refine thn_n ?_
      refine WF.ret ?_
      refine fin_r ?_
      exact ⟨congrArg i64 (placeZ_no hk hno), hwL0⟩

end Go.Proofs.Ytobjmehppmhkdaa
