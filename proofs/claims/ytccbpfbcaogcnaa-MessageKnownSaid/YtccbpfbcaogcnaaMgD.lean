/- The walks of the reference's Check. -/
import Derived.Test.YtccbpfbcaogcnaaMgC
namespace Go.Proofs.Ytccbpfbcaogcnaa
open Go Go.RowKit Kf
set_option maxRecDepth 20000
abbrev fints (L : List Nat) : List Int := L.map fun f => ((f : Nat) : Int)
theorem fints_get {L : List Nat} {i : Nat} (h : i < L.length) : (fints L).getD i 0 = ((L[i] : Nat) : Int) := by simp [fints, List.getD_eq_getElem?_getD, h]
theorem fints_mem {L : List Nat} {p : Nat} : ((p : Nat) : Int) ∈ fints L ↔ p ∈ L := by
  simp only [fints, List.mem_map]
  constructor
  · rintro ⟨a, h, e⟩
    have : a = p := by omega
    exact this ▸ h
  · intro h; exact ⟨p, h, rfl⟩
theorem getD_mem {l : List Int} {k : Nat} (h : k < l.length) : l.getD k 0 ∈ l := by
  rw [List.getD_eq_getElem?_getD, List.getElem?_eq_getElem h]; exact List.getElem_mem h
theorem mem_getD {l : List Int} {x : Int} (h : x ∈ l) : ∃ j, j < l.length ∧ l.getD j 0 = x := by
  obtain ⟨j, hj, e⟩ := List.getElem_of_mem h
  exact ⟨j, hj, by rw [List.getD_eq_getElem?_getD, List.getElem?_eq_getElem hj]; exact e⟩
/-- the numbers, by their places -/
abbrev numL (n : List Int) : List Int := [n.getD 3 0, n.getD 4 0, n.getD 5 0, n.getD 6 0, n.getD 7 0, n.getD 8 0, n.getD 13 0, n.getD 9 0, n.getD 10 0, n.getD 11 0, n.getD 12 0]
theorem numL_get (n : List Int) {p : Nat} (h : p < 11) : (numL n).getD p 0 = n.getD (cl p) 0 := by
  match p, h with
  | 0, _ | 1, _ | 2, _ | 3, _ | 4, _ | 5, _ | 6, _ | 7, _ | 8, _ | 9, _ | 10, _ => rfl
/-- what its kind does not have besides numbers is not there -/
def FP (m : Mg) : Prop := (m.ok = true → 11 ∈ places (m.g 0)) ∧ (0 < m.E.length → 12 ∈ places (m.g 0)) ∧ (0 < m.D.length → 13 ∈ places (m.g 0))
instance (m : Mg) : Decidable (FP m) := by unfold FP; exact inferInstance
theorem bare_FP {m : Mg} : m.bareP ↔ (∀ p, p < 11 → p ∉ places (m.g 0) → m.g (cl p) = 0) ∧ FP m := by
  unfold Mg.bareP FP
  have h1 : (11 ∉ places (m.g 0) → m.ok = false) ↔ (m.ok = true → 11 ∈ places (m.g 0)) := by
    constructor
    · intro h hok; apply Decidable.byContradiction; intro q; rw [h q] at hok; cases hok
    · intro h q; cases ho : m.ok with
      | false => rfl
      | true => exact absurd (h ho) q
  have h2 : ∀ (a q : Nat), (q ∉ places (m.g 0) → a = 0) ↔ (0 < a → q ∈ places (m.g 0)) := fun a q => by
    constructor
    · intro h ha; apply Decidable.byContradiction; intro hq; have := h hq; omega
    · intro h hq; apply Decidable.byContradiction; intro ha; exact hq (h (by omega))
  rw [h1, h2, h2]

set_option maxHeartbeats 1600000 in
theorem has_ok (k : Int) (w : World) : FnOk Try.prog 37 [i64 k] w (fun r w' => OwnI w' w.heap.size 3 r (fints (places k)) ∧ Ext w w') := by
  refine FnOk.enter (rs := [2]) Try.func37 rfl Try.ntmps37 Try.results37 rfl rfl ?_
  refine WF.seq ?_
  refine WF.region ?_
  refine WL.va rfl rfl rfl (X.assign rfl) ?_
  refine WL.nil ?_
  refine thn_n ?_
  refine WF.seq ?_
  refine WF.seq ?_
  refine WF.region ?_
  refine WL.va rfl rfl rfl (X.moveI rfl) ?_
  refine WL.nil ?_
  refine thn_n ?_
  refine WF.block ?_
  refine WF.seq ?_
  refine WF.region ?_
  refine WL.va rfl rfl rfl (X.eql rfl rfl) ?_
  refine WL.va rfl rfl rfl (X.assignB rfl) ?_
  refine WL.nil ?_
  refine thn_n ?_
  refine WF.cond rfl (fun h0_1 => ?_) (fun h0_1 => ?_)
  · have gh0_1 := (of_decide_eq_true h0_1)
    refine WF.seq ?_
    refine WF.region ?_
    refine WL.op rfl (OW.lits (vs := [_, _, _, _]) (evp_cons rfl (evp_cons rfl (evp_cons rfl (evp_cons rfl evp_nil)))) Try.underlying45 Try.sizeOf3 Try.zeroValue3 ⟨rfl, rfl, rfl, rfl, trivial⟩ rfl rfl rfl ?_ (by decide))
    intro v4 w3 ho6 hx5
    have oq : OwnI w3 w.heap.size 3 v4 (fints [0, 1, 2, 3]) := ho6
    refine WL.va rfl rfl rfl (X.assign rfl) ?_
    refine WL.nil ?_
    refine thn_n ?_
    refine WF.ret ?_
    refine blk_r ?_
    refine thn_r ?_
    refine fin_r ?_
    have e : k = 1 := by omega
    subst e
    exact ⟨oq, hx5⟩
  · have gh0_1 := (of_decide_eq_false h0_1)
    refine WF.seq ?_
    refine WF.region ?_
    refine WL.va rfl rfl rfl (X.eql rfl rfl) ?_
    refine WL.va rfl rfl rfl (X.assignB rfl) ?_
    refine WL.nil ?_
    refine thn_n ?_
    refine WF.cond rfl (fun h1_7 => ?_) (fun h1_7 => ?_)
    · have gh1_7 := (of_decide_eq_true h1_7)
      refine WF.seq ?_
      refine WF.region ?_
      refine WL.op rfl (OW.lits (vs := [_, _, _]) (evp_cons rfl (evp_cons rfl (evp_cons rfl evp_nil))) Try.underlying45 Try.sizeOf3 Try.zeroValue3 ⟨rfl, rfl, rfl, trivial⟩ rfl rfl rfl ?_ (by decide))
      intro v10 w9 ho12 hx11
      have oq : OwnI w9 w.heap.size 3 v10 (fints [0, 1, 11]) := ho12
      refine WL.va rfl rfl rfl (X.assign rfl) ?_
      refine WL.nil ?_
      refine thn_n ?_
      refine WF.ret ?_
      refine blk_r ?_
      refine thn_r ?_
      refine fin_r ?_
      have e : k = 2 := by omega
      subst e
      exact ⟨oq, hx11⟩
    · have gh1_7 := (of_decide_eq_false h1_7)
      refine WF.seq ?_
      refine WF.region ?_
      refine WL.va rfl rfl rfl (X.eql rfl rfl) ?_
      refine WL.va rfl rfl rfl (X.assignB rfl) ?_
      refine WL.nil ?_
      refine thn_n ?_
      refine WF.cond rfl (fun h2_13 => ?_) (fun h2_13 => ?_)
      · have gh2_13 := (of_decide_eq_true h2_13)
        refine WF.seq ?_
        refine WF.region ?_
        refine WL.op rfl (OW.lits (vs := [_, _, _, _, _, _, _]) (evp_cons rfl (evp_cons rfl (evp_cons rfl (evp_cons rfl (evp_cons rfl (evp_cons rfl (evp_cons rfl evp_nil))))))) Try.underlying45 Try.sizeOf3 Try.zeroValue3 ⟨rfl, rfl, rfl, rfl, rfl, rfl, rfl, trivial⟩ rfl rfl rfl ?_ (by decide))
        intro v16 w15 ho18 hx17
        have oq : OwnI w15 w.heap.size 3 v16 (fints [0, 1, 2, 3, 4, 5, 12]) := ho18
        refine WL.va rfl rfl rfl (X.assign rfl) ?_
        refine WL.nil ?_
        refine thn_n ?_
        refine WF.ret ?_
        refine blk_r ?_
        refine thn_r ?_
        refine fin_r ?_
        have e : k = 3 := by omega
        subst e
        exact ⟨oq, hx17⟩
      · have gh2_13 := (of_decide_eq_false h2_13)
        refine WF.seq ?_
        refine WF.region ?_
        refine WL.va rfl rfl rfl (X.eql rfl rfl) ?_
        refine WL.va rfl rfl rfl (X.assignB rfl) ?_
        refine WL.nil ?_
        refine thn_n ?_
        refine WF.cond rfl (fun h3_19 => ?_) (fun h3_19 => ?_)
        · have gh3_19 := (of_decide_eq_true h3_19)
          refine WF.seq ?_
          refine WF.region ?_
          refine WL.op rfl (OW.lits (vs := [_, _, _, _, _]) (evp_cons rfl (evp_cons rfl (evp_cons rfl (evp_cons rfl (evp_cons rfl evp_nil))))) Try.underlying45 Try.sizeOf3 Try.zeroValue3 ⟨rfl, rfl, rfl, rfl, rfl, trivial⟩ rfl rfl rfl ?_ (by decide))
          intro v22 w21 ho24 hx23
          have oq : OwnI w21 w.heap.size 3 v22 (fints [0, 1, 11, 2, 5]) := ho24
          refine WL.va rfl rfl rfl (X.assign rfl) ?_
          refine WL.nil ?_
          refine thn_n ?_
          refine WF.ret ?_
          refine blk_r ?_
          refine thn_r ?_
          refine fin_r ?_
          have e : k = 4 := by omega
          subst e
          exact ⟨oq, hx23⟩
        · have gh3_19 := (of_decide_eq_false h3_19)
          refine WF.seq ?_
          refine WF.region ?_
          refine WL.va rfl rfl rfl (X.eql rfl rfl) ?_
          refine WL.va rfl rfl rfl (X.assignB rfl) ?_
          refine WL.nil ?_
          refine thn_n ?_
          refine WF.cond rfl (fun h4_25 => ?_) (fun h4_25 => ?_)
          · have gh4_25 := (of_decide_eq_true h4_25)
            refine WF.seq ?_
            refine WF.region ?_
            refine WL.op rfl (OW.lits (vs := [_, _, _, _, _, _]) (evp_cons rfl (evp_cons rfl (evp_cons rfl (evp_cons rfl (evp_cons rfl (evp_cons rfl evp_nil)))))) Try.underlying45 Try.sizeOf3 Try.zeroValue3 ⟨rfl, rfl, rfl, rfl, rfl, rfl, trivial⟩ rfl rfl rfl ?_ (by decide))
            intro v28 w27 ho30 hx29
            have oq : OwnI w27 w.heap.size 3 v28 (fints [0, 1, 2, 3, 5, 13]) := ho30
            refine WL.va rfl rfl rfl (X.assign rfl) ?_
            refine WL.nil ?_
            refine thn_n ?_
            refine WF.ret ?_
            refine blk_r ?_
            refine thn_r ?_
            refine fin_r ?_
            have e : k = 5 := by omega
            subst e
            exact ⟨oq, hx29⟩
          · have gh4_25 := (of_decide_eq_false h4_25)
            refine WF.seq ?_
            refine WF.region ?_
            refine WL.va rfl rfl rfl (X.eql rfl rfl) ?_
            refine WL.va rfl rfl rfl (X.assignB rfl) ?_
            refine WL.nil ?_
            refine thn_n ?_
            refine WF.cond rfl (fun h5_31 => ?_) (fun h5_31 => ?_)
            · have gh5_31 := (of_decide_eq_true h5_31)
              refine WF.seq ?_
              refine WF.region ?_
              refine WL.op rfl (OW.lits (vs := [_, _, _]) (evp_cons rfl (evp_cons rfl (evp_cons rfl evp_nil))) Try.underlying45 Try.sizeOf3 Try.zeroValue3 ⟨rfl, rfl, rfl, trivial⟩ rfl rfl rfl ?_ (by decide))
              intro v34 w33 ho36 hx35
              have oq : OwnI w33 w.heap.size 3 v34 (fints [0, 6, 13]) := ho36
              refine WL.va rfl rfl rfl (X.assign rfl) ?_
              refine WL.nil ?_
              refine thn_n ?_
              refine WF.ret ?_
              refine blk_r ?_
              refine thn_r ?_
              refine fin_r ?_
              have e : k = 6 := by omega
              subst e
              exact ⟨oq, hx35⟩
            · have gh5_31 := (of_decide_eq_false h5_31)
              refine WF.seq ?_
              refine WF.region ?_
              refine WL.va rfl rfl rfl (X.eql rfl rfl) ?_
              refine WL.va rfl rfl rfl (X.assignB rfl) ?_
              refine WL.nil ?_
              refine thn_n ?_
              refine WF.cond rfl (fun h6_37 => ?_) (fun h6_37 => ?_)
              · have gh6_37 := (of_decide_eq_true h6_37)
                refine WF.seq ?_
                refine WF.region ?_
                refine WL.op rfl (OW.lits (vs := [_, _, _, _, _]) (evp_cons rfl (evp_cons rfl (evp_cons rfl (evp_cons rfl (evp_cons rfl evp_nil))))) Try.underlying45 Try.sizeOf3 Try.zeroValue3 ⟨rfl, rfl, rfl, rfl, rfl, trivial⟩ rfl rfl rfl ?_ (by decide))
                intro v40 w39 ho42 hx41
                have oq : OwnI w39 w.heap.size 3 v40 (fints [0, 6, 11, 2, 13]) := ho42
                refine WL.va rfl rfl rfl (X.assign rfl) ?_
                refine WL.nil ?_
                refine thn_n ?_
                refine WF.ret ?_
                refine blk_r ?_
                refine thn_r ?_
                refine fin_r ?_
                have e : k = 7 := by omega
                subst e
                exact ⟨oq, hx41⟩
              · have gh6_37 := (of_decide_eq_false h6_37)
                refine WF.seq ?_
                refine WF.region ?_
                refine WL.va rfl rfl rfl (X.eql rfl rfl) ?_
                refine WL.va rfl rfl rfl (X.assignB rfl) ?_
                refine WL.nil ?_
                refine thn_n ?_
                refine WF.cond rfl (fun h7_43 => ?_) (fun h7_43 => ?_)
                · have gh7_43 := (of_decide_eq_true h7_43)
                  refine WF.seq ?_
                  refine WF.region ?_
                  refine WL.op rfl (OW.lits (vs := [_, _, _]) (evp_cons rfl (evp_cons rfl (evp_cons rfl evp_nil))) Try.underlying45 Try.sizeOf3 Try.zeroValue3 ⟨rfl, rfl, rfl, trivial⟩ rfl rfl rfl ?_ (by decide))
                  intro v46 w45 ho48 hx47
                  have oq : OwnI w45 w.heap.size 3 v46 (fints [7, 8, 9]) := ho48
                  refine WL.va rfl rfl rfl (X.assign rfl) ?_
                  refine WL.nil ?_
                  refine thn_n ?_
                  refine WF.ret ?_
                  refine blk_r ?_
                  refine thn_r ?_
                  refine fin_r ?_
                  have e : k = 8 := by omega
                  subst e
                  exact ⟨oq, hx47⟩
                · have gh7_43 := (of_decide_eq_false h7_43)
                  refine WF.seq ?_
                  refine WF.seq ?_
                  refine WF.region ?_
                  refine WL.va rfl rfl rfl (X.eql rfl rfl) ?_
                  refine WL.va rfl rfl rfl (X.assignB rfl) ?_
                  refine WL.nil ?_
                  refine thn_n ?_
                  refine WF.cond rfl (fun h8_49 => ?_) (fun h8_49 => ?_)
                  · have gh8_49 := (of_decide_eq_true h8_49)
                    refine WF.skip ?_
                    refine thn_n ?_
                    refine WF.cond_t ((rfl : _ = Value.bool _).trans (congrArg Value.bool h8_49)) ?_
                    refine WF.seq ?_
                    refine WF.region ?_
                    refine WL.op rfl (OW.lits (vs := [_, _, _, _, _, _]) (evp_cons rfl (evp_cons rfl (evp_cons rfl (evp_cons rfl (evp_cons rfl (evp_cons rfl evp_nil)))))) Try.underlying45 Try.sizeOf3 Try.zeroValue3 ⟨rfl, rfl, rfl, rfl, rfl, rfl, trivial⟩ rfl rfl rfl ?_ (by decide))
                    intro v52 w51 ho54 hx53
                    have oq : OwnI w51 w.heap.size 3 v52 (fints [7, 8, 9, 11, 2, 10]) := ho54
                    refine WL.va rfl rfl rfl (X.assign rfl) ?_
                    refine WL.nil ?_
                    refine thn_n ?_
                    refine WF.ret ?_
                    refine blk_r ?_
                    refine thn_r ?_
                    refine fin_r ?_
                    have e : k = 9 ∨ k = 11 := by omega
                    rcases e with rfl | rfl
                    · exact ⟨oq, hx53⟩
                    · exact ⟨oq, hx53⟩
                  · have gh8_49 := (of_decide_eq_false h8_49)
                    refine WF.region ?_
                    refine WL.va rfl rfl rfl (X.eql rfl rfl) ?_
                    refine WL.va rfl rfl rfl (X.assignB rfl) ?_
                    refine WL.nil ?_
                    refine thn_n ?_
                    refine WF.cond rfl (fun h9_55 => ?_) (fun h9_55 => ?_)
                    · have gh9_55 := (of_decide_eq_true h9_55)
                      refine WF.seq ?_
                      refine WF.region ?_
                      refine WL.op rfl (OW.lits (vs := [_, _, _, _, _, _]) (evp_cons rfl (evp_cons rfl (evp_cons rfl (evp_cons rfl (evp_cons rfl (evp_cons rfl evp_nil)))))) Try.underlying45 Try.sizeOf3 Try.zeroValue3 ⟨rfl, rfl, rfl, rfl, rfl, rfl, trivial⟩ rfl rfl rfl ?_ (by decide))
                      intro v58 w57 ho60 hx59
                      have oq : OwnI w57 w.heap.size 3 v58 (fints [7, 8, 9, 11, 2, 10]) := ho60
                      refine WL.va rfl rfl rfl (X.assign rfl) ?_
                      refine WL.nil ?_
                      refine thn_n ?_
                      refine WF.ret ?_
                      refine blk_r ?_
                      refine thn_r ?_
                      refine fin_r ?_
                      have e : k = 9 ∨ k = 11 := by omega
                      rcases e with rfl | rfl
                      · exact ⟨oq, hx59⟩
                      · exact ⟨oq, hx59⟩
                    · have gh9_55 := (of_decide_eq_false h9_55)
                      refine WF.seq ?_
                      refine WF.region ?_
                      refine WL.va rfl rfl rfl (X.eql rfl rfl) ?_
                      refine WL.va rfl rfl rfl (X.assignB rfl) ?_
                      refine WL.nil ?_
                      refine thn_n ?_
                      refine WF.cond rfl (fun h10_61 => ?_) (fun h10_61 => ?_)
                      · have gh10_61 := (of_decide_eq_true h10_61)
                        refine WF.seq ?_
                        refine WF.region ?_
                        refine WL.op rfl (OW.lits (vs := [_, _, _, _]) (evp_cons rfl (evp_cons rfl (evp_cons rfl (evp_cons rfl evp_nil)))) Try.underlying45 Try.sizeOf3 Try.zeroValue3 ⟨rfl, rfl, rfl, rfl, trivial⟩ rfl rfl rfl ?_ (by decide))
                        intro v65 w63 ho67 hx66
                        have oq : OwnI w63 w.heap.size 3 v65 (fints [7, 8, 9, 10]) := ho67
                        refine WL.va rfl rfl rfl (X.assign rfl) ?_
                        refine WL.nil ?_
                        refine thn_n ?_
                        refine WF.ret ?_
                        refine blk_r ?_
                        refine thn_r ?_
                        refine fin_r ?_
                        have e : k = 10 := by omega
                        subst e
                        exact ⟨oq, hx66⟩
                      · have gh10_61 := (of_decide_eq_false h10_61)
                        refine WF.skip ?_
                        refine blk_n ?_
                        refine thn_n ?_
                        refine WF.seq ?_
                        refine WF.region ?_
                        refine WL.va rfl rfl rfl (X.assign rfl) ?_
                        refine WL.nil ?_
                        refine thn_n ?_
                        refine WF.ret ?_
                        refine fin_r ?_
                        have e : places k = [] := (places_empty k).2 (by omega)
                        rw [e]
                        exact ⟨World.ownsRow_nil _ _ _ _, (Ext.refl _)⟩

theorem numbers_ok (vE vD : Value) (m : Mg) (w : World) (h : MgAt w vE vD m) : FnOk Try.prog 38 [agg (mc m.n m.ok vE vD)] w (fun r w' => OwnI w' w.heap.size 3 r (numL m.n) ∧ Ext w w') := by
  refine FnOk.enter (rs := [2]) Try.func38 rfl Try.ntmps38 Try.results38 rfl rfl ?_
  refine WF.seq ?_
  refine WF.region ?_
  refine WL.op rfl (OW.boxA (cs := (mc m.n m.ok vE vD)) rfl ?_ (by decide))
  intro g1 w1 heg1 hlg1 hO1 hx3
  have := World.grownBy.size hx3
  have := World.grownBy.size hx3
  refine WL.va rfl rfl rfl (X.assign rfl) ?_
  refine WL.nil ?_
  refine thn_n ?_
  refine WF.seq ?_
  refine WF.region ?_
  refine WL.va rfl rfl rfl (X.fieldAddrO (off := 3) rfl Try.underlying25 rfl rfl Try.sizeOf3) ?_
  refine WL.va rfl rfl rfl (X.loadO hO1 (Ext.refl _) rfl rfl Try.isAgg3) ?_
  refine WL.va rfl rfl rfl (X.fieldAddrO (off := 4) rfl Try.underlying25 rfl rfl Try.sizeOf3) ?_
  refine WL.va rfl rfl rfl (X.loadO hO1 (Ext.refl _) rfl rfl Try.isAgg3) ?_
  refine WL.va rfl rfl rfl (X.fieldAddrO (off := 5) rfl Try.underlying25 rfl rfl Try.sizeOf3) ?_
  refine WL.va rfl rfl rfl (X.loadO hO1 (Ext.refl _) rfl rfl Try.isAgg3) ?_
  refine WL.va rfl rfl rfl (X.fieldAddrO (off := 6) rfl Try.underlying25 rfl rfl Try.sizeOf3) ?_
  refine WL.va rfl rfl rfl (X.loadO hO1 (Ext.refl _) rfl rfl Try.isAgg3) ?_
  refine WL.va rfl rfl rfl (X.fieldAddrO (off := 7) rfl Try.underlying25 rfl rfl Try.sizeOf3) ?_
  refine WL.va rfl rfl rfl (X.loadO hO1 (Ext.refl _) rfl rfl Try.isAgg3) ?_
  refine WL.va rfl rfl rfl (X.fieldAddrO (off := 8) rfl Try.underlying25 rfl rfl Try.sizeOf3) ?_
  refine WL.va rfl rfl rfl (X.loadO hO1 (Ext.refl _) rfl rfl Try.isAgg3) ?_
  refine WL.va rfl rfl rfl (X.fieldAddrO (off := 13) rfl Try.underlying25 rfl rfl Try.sizeOf3) ?_
  refine WL.va rfl rfl rfl (X.loadO hO1 (Ext.refl _) rfl rfl Try.isAgg3) ?_
  refine WL.va rfl rfl rfl (X.fieldAddrO (off := 9) rfl Try.underlying25 rfl rfl Try.sizeOf3) ?_
  refine WL.va rfl rfl rfl (X.loadO hO1 (Ext.refl _) rfl rfl Try.isAgg3) ?_
  refine WL.va rfl rfl rfl (X.fieldAddrO (off := 10) rfl Try.underlying25 rfl rfl Try.sizeOf3) ?_
  refine WL.va rfl rfl rfl (X.loadO hO1 (Ext.refl _) rfl rfl Try.isAgg3) ?_
  refine WL.va rfl rfl rfl (X.fieldAddrO (off := 11) rfl Try.underlying25 rfl rfl Try.sizeOf3) ?_
  refine WL.va rfl rfl rfl (X.loadO hO1 (Ext.refl _) rfl rfl Try.isAgg3) ?_
  refine WL.va rfl rfl rfl (X.fieldAddrO (off := 12) rfl Try.underlying25 rfl rfl Try.sizeOf3) ?_
  refine WL.va rfl rfl rfl (X.loadO hO1 (Ext.refl _) rfl rfl Try.isAgg3) ?_
  refine WL.op rfl (OW.lits (vs := [i64 (m.n.getD 3 0), i64 (m.n.getD 4 0), i64 (m.n.getD 5 0), i64 (m.n.getD 6 0), i64 (m.n.getD 7 0), i64 (m.n.getD 8 0), i64 (m.n.getD 13 0), i64 (m.n.getD 9 0), i64 (m.n.getD 10 0), i64 (m.n.getD 11 0), i64 (m.n.getD 12 0)]) (evp_cons rfl (evp_cons rfl (evp_cons rfl (evp_cons rfl (evp_cons rfl (evp_cons rfl (evp_cons rfl (evp_cons rfl (evp_cons rfl (evp_cons rfl (evp_cons rfl evp_nil))))))))))) Try.underlying45 Try.sizeOf3 Try.zeroValue3 ⟨rfl, rfl, rfl, rfl, rfl, rfl, rfl, rfl, rfl, rfl, rfl, trivial⟩ rfl rfl rfl ?_ (by decide))
  intro v6 w5 ho8 hx7
  have := World.grownBy.size hx7
  have oq : OwnI w5 _ 3 v6 (numL m.n) := ho8
  refine WL.va rfl rfl rfl (X.assign rfl) ?_
  refine WL.nil ?_
  refine thn_n ?_
  refine WF.ret ?_
  refine fin_r ?_
  exact ⟨own_mono oq (by omega), (Ext.trans hx3 hx7)⟩

theorem inL_ok (v : Value) (L : List Nat) (p : Nat) (w : World) (hb : Ints w v (fints L)) (hm : L.length ≤ 1000000) : FnOk Try.prog 39 [v, i64 (p : Int)] w (fun r w' => r = .bool (decide (p ∈ L)) ∧ Ext w w') := by
  have hfl : (fints L).length = L.length := List.length_map ..
  refine FnOk.enter (rs := [4]) Try.func39 rfl Try.ntmps39 Try.results39 rfl rfl ?_
  refine WF.seq ?_
  refine WF.region ?_
  refine WL.va rfl rfl rfl (X.assignB rfl) ?_
  refine WL.nil ?_
  refine thn_n ?_
  refine WF.seq ?_
  refine WF.seq ?_
  refine WF.region ?_
  refine WL.va rfl rfl rfl (X.assignI rfl) ?_
  refine WL.nil ?_
  refine thn_n ?_
  refine WF.block ?_
  refine WF.named (fun F2 hF3 => ?_)
  refine WF.loopN (fun mL0 f' w' => ∃ (k : Nat), mL0 = L.length - k ∧ f' 5 = .int .i64 (k : Int) ∧ Agree [0, 1] f' F2 ∧ Ext w w' ∧ k ≤ L.length ∧ ∀ j, j < k → (fints L).getD j 0 ≠ ((p : Nat) : Int)) ?_ ?_
  · exact ⟨_, 0, rfl, (congrFun hF3 5), (Agree.refl _ _), (Ext.refl _), ⟨Nat.zero_le _, fun j hj => by omega⟩⟩
  · rintro mL0 fL0 wL0 ⟨k, hmL0, e5_L0, hAL0, hwL0, ⟨hk, hno⟩⟩
    refine WF.seq ?_
    refine WF.seq ?_
    refine WF.region ?_
    refine WL.va rfl rfl rfl (X.moveI e5_L0) ?_
    refine WL.va rfl rfl rfl (X.move ((hAL0.eq 0).trans (congrFun hF3 0))) ?_
    refine WL.va rfl rfl rfl (X.len hb rfl Try.underlying45) ?_
    refine WL.va rfl rfl rfl (X.lss rfl rfl) ?_
    refine WL.nil ?_
    refine thn_n ?_
    refine WF.cond rfl (fun h0_4 => ?_) (fun h0_4 => ?_)
    · have gh0_4 := (of_decide_eq_true h0_4)
      refine WF.skip ?_
      refine thn_n ?_
      refine WF.seq ?_
      refine WF.block ?_
      refine WF.seq ?_
      refine WF.region ?_
      refine WL.va rfl rfl rfl (X.move ((hAL0.eq 0).trans (congrFun hF3 0))) ?_
      refine WL.va rfl rfl rfl (X.moveI e5_L0) ?_
      refine WL.va rfl rfl rfl (X.idx hb rfl rfl (by omega) Try.underlying45 Try.sizeOf3) ?_
      refine WL.va rfl rfl rfl (X.loadI hb hwL0 rfl (by omega) Try.isAgg3) ?_
      refine WL.va rfl rfl rfl (X.moveI ((hAL0.eq 1).trans (congrFun hF3 1))) ?_
      refine WL.va rfl rfl rfl (X.eql rfl rfl) ?_
      refine WL.nil ?_
      refine thn_n ?_
      refine WF.cond rfl (fun h1_6 => ?_) (fun h1_6 => ?_)
      · have gh1_6 := (of_decide_eq_true h1_6)
        have hq : (fints L).getD k 0 = ((p : Nat) : Int) := gh1_6
        refine WF.seq ?_
        refine WF.region ?_
        refine WL.va rfl rfl rfl (X.assignB rfl) ?_
        refine WL.nil ?_
        refine thn_n ?_
        refine WF.ret ?_
        refine blk_r ?_
        refine thn_r ?_
        refine thn_r ?_
        refine blk_r ?_
        refine thn_r ?_
        refine fin_r ?_
        exact ⟨congrArg Value.bool (dec_t (fints_mem.1 (hq ▸ getD_mem (by omega)))), hwL0⟩
      · have gh1_6 := (of_decide_eq_false h1_6)
        refine WF.skip ?_
        refine blk_n ?_
        refine thn_n ?_
        refine WF.region ?_
        refine WL.va rfl rfl rfl (X.moveI e5_L0) ?_
        refine WL.va rfl rfl rfl (X.add rfl rfl (w64 (by omega))) ?_
        refine WL.va rfl rfl rfl (X.assignI rfl) ?_
        refine WL.nil ?_
        exact thn_n ⟨_, (by omega), k + 1, rfl, rfl, (by repeat (first | exact hAL0 | refine Agree.put ?_ rfl | refine Agree.named hF3 ?_)), hwL0, ⟨by omega, fun j hj => by rcases Nat.lt_succ_iff_lt_or_eq.1 hj with h | rfl; exact hno j h; assumption⟩⟩
    · have gh0_4 := (of_decide_eq_false h0_4)
      refine WF.exit ?_
      refine thn_x ?_
      refine thn_x ?_
      refine blk_eq ?_
      refine thn_n ?_
      refine WF.seq ?_
      refine WF.region ?_
      refine WL.va rfl rfl rfl (X.assignB rfl) ?_
      refine WL.nil ?_
      refine thn_n ?_
      refine WF.ret ?_
      refine fin_r ?_
      exact ⟨congrArg Value.bool (dec_f fun q => by obtain ⟨j, hj, e⟩ := mem_getD (fints_mem.2 q); exact hno j (by omega) e), hwL0⟩

set_option maxHeartbeats 800000 in
theorem rangedR_ok (p : Nat) (x : Int) (w : World) : FnOk Try.prog 65 [i64 (p : Int), i64 x] w (fun r w' => r = .bool (decide (lowP p ≤ x ∧ x ≤ highP p)) ∧ Ext w w') := by
  refine FnOk.enter (rs := [4]) Try.func65 rfl Try.ntmps65 Try.results65 rfl rfl ?_
  refine WF.seq ?_
  refine WF.region ?_
  refine WL.va rfl rfl rfl (X.assignB rfl) ?_
  refine WL.nil ?_
  refine thn_n ?_
  refine WF.seq ?_
  refine WF.seq ?_
  refine WF.region ?_
  refine WL.va rfl rfl rfl (X.moveI rfl) ?_
  refine WL.va rfl rfl rfl (X.eql rfl rfl) ?_
  refine WL.nil ?_
  refine thn_n ?_
  refine WF.cond rfl (fun h0_2 => ?_) (fun h0_2 => ?_)
  · have gh0_2 := (of_decide_eq_true h0_2)
    have hl := lh0 (q := p) (by have := gh0_2; omega)
    refine WF.seq ?_
    refine WF.region ?_
    refine WL.va rfl rfl rfl (X.moveI rfl) ?_
    refine WL.va rfl rfl rfl (X.geq rfl rfl) ?_
    refine WL.va rfl rfl rfl (X.moveB rfl) ?_
    refine WL.split (j := 2) rfl (fun h5 => ?_) (fun h5 => ?_)
    · have gh5 := (of_decide_eq_true h5)
      refine WL.vg rfl (congrArg some h5) rfl rfl (X.moveI rfl) ?_
      refine WL.vg rfl (congrArg some h5) rfl rfl (X.leq rfl rfl) ?_
      refine WL.va rfl rfl rfl (X.pickT rfl h5 rfl) ?_
      refine WL.va rfl rfl rfl (X.assignB rfl) ?_
      refine WL.nil ?_
      refine thn_n ?_
      refine WF.ret ?_
      refine thn_r ?_
      refine fin_r ?_
      refine ⟨congrArg Value.bool ?_, (Ext.refl _)⟩
      rw [hl.1, hl.2]
      first | exact decide_eq_decide.2 (by omega) | exact (decide_eq_false (by omega)).symm | exact (decide_eq_true (by omega)).symm
    · have gh5 := (of_decide_eq_false h5)
      refine WL.p rfl rfl rfl (congrArg some h5) ?_
      refine WL.p rfl rfl rfl (congrArg some h5) ?_
      refine WL.va rfl rfl rfl (X.pickF rfl h5 rfl) ?_
      refine WL.va rfl rfl rfl (X.assignB rfl) ?_
      refine WL.nil ?_
      refine thn_n ?_
      refine WF.ret ?_
      refine thn_r ?_
      refine fin_r ?_
      refine ⟨congrArg Value.bool ?_, (Ext.refl _)⟩
      rw [hl.1, hl.2]
      first | exact decide_eq_decide.2 (by omega) | exact (decide_eq_false (by omega)).symm | exact (decide_eq_true (by omega)).symm
  · have gh0_2 := (of_decide_eq_false h0_2)
    refine WF.skip ?_
    refine thn_n ?_
    refine WF.seq ?_
    refine WF.seq ?_
    refine WF.region ?_
    refine WL.va rfl rfl rfl (X.moveI rfl) ?_
    refine WL.va rfl rfl rfl (X.eql rfl rfl) ?_
    refine WL.nil ?_
    refine thn_n ?_
    refine WF.cond rfl (fun h1_8 => ?_) (fun h1_8 => ?_)
    · have gh1_8 := (of_decide_eq_true h1_8)
      have hl := lh7 (q := p) (by have := gh1_8; omega)
      refine WF.seq ?_
      refine WF.region ?_
      refine WL.va rfl rfl rfl (X.moveI rfl) ?_
      refine WL.va rfl rfl rfl (X.geq rfl rfl) ?_
      refine WL.va rfl rfl rfl (X.moveB rfl) ?_
      refine WL.split (j := 2) rfl (fun h11 => ?_) (fun h11 => ?_)
      · have gh11 := (of_decide_eq_true h11)
        refine WL.vg rfl (congrArg some h11) rfl rfl (X.moveI rfl) ?_
        refine WL.vg rfl (congrArg some h11) rfl rfl (X.leq rfl rfl) ?_
        refine WL.va rfl rfl rfl (X.pickT rfl h11 rfl) ?_
        refine WL.va rfl rfl rfl (X.assignB rfl) ?_
        refine WL.nil ?_
        refine thn_n ?_
        refine WF.ret ?_
        refine thn_r ?_
        refine fin_r ?_
        refine ⟨congrArg Value.bool ?_, (Ext.refl _)⟩
        rw [hl.1, hl.2]
        first | exact decide_eq_decide.2 (by omega) | exact (decide_eq_false (by omega)).symm | exact (decide_eq_true (by omega)).symm
      · have gh11 := (of_decide_eq_false h11)
        refine WL.p rfl rfl rfl (congrArg some h11) ?_
        refine WL.p rfl rfl rfl (congrArg some h11) ?_
        refine WL.va rfl rfl rfl (X.pickF rfl h11 rfl) ?_
        refine WL.va rfl rfl rfl (X.assignB rfl) ?_
        refine WL.nil ?_
        refine thn_n ?_
        refine WF.ret ?_
        refine thn_r ?_
        refine fin_r ?_
        refine ⟨congrArg Value.bool ?_, (Ext.refl _)⟩
        rw [hl.1, hl.2]
        first | exact decide_eq_decide.2 (by omega) | exact (decide_eq_false (by omega)).symm | exact (decide_eq_true (by omega)).symm
    · have gh1_8 := (of_decide_eq_false h1_8)
      refine WF.skip ?_
      refine thn_n ?_
      refine WF.seq ?_
      refine WF.seq ?_
      refine WF.region ?_
      refine WL.va rfl rfl rfl (X.moveI rfl) ?_
      refine WL.va rfl rfl rfl (X.eql rfl rfl) ?_
      refine WL.nil ?_
      refine thn_n ?_
      refine WF.cond rfl (fun h2_14 => ?_) (fun h2_14 => ?_)
      · have gh2_14 := (of_decide_eq_true h2_14)
        have hl := lh8 (q := p) (by have := gh2_14; omega)
        refine WF.seq ?_
        refine WF.region ?_
        refine WL.va rfl rfl rfl (X.moveI rfl) ?_
        refine WL.va rfl rfl rfl (X.geq rfl rfl) ?_
        refine WL.va rfl rfl rfl (X.moveB rfl) ?_
        refine WL.split (j := 2) rfl (fun h17 => ?_) (fun h17 => ?_)
        · have gh17 := (of_decide_eq_true h17)
          refine WL.vg rfl (congrArg some h17) rfl rfl (X.moveI rfl) ?_
          refine WL.vg rfl (congrArg some h17) rfl rfl (X.leq rfl rfl) ?_
          refine WL.va rfl rfl rfl (X.pickT rfl h17 rfl) ?_
          refine WL.va rfl rfl rfl (X.assignB rfl) ?_
          refine WL.nil ?_
          refine thn_n ?_
          refine WF.ret ?_
          refine thn_r ?_
          refine fin_r ?_
          refine ⟨congrArg Value.bool ?_, (Ext.refl _)⟩
          rw [hl.1, hl.2]
          first | exact decide_eq_decide.2 (by omega) | exact (decide_eq_false (by omega)).symm | exact (decide_eq_true (by omega)).symm
        · have gh17 := (of_decide_eq_false h17)
          refine WL.p rfl rfl rfl (congrArg some h17) ?_
          refine WL.p rfl rfl rfl (congrArg some h17) ?_
          refine WL.va rfl rfl rfl (X.pickF rfl h17 rfl) ?_
          refine WL.va rfl rfl rfl (X.assignB rfl) ?_
          refine WL.nil ?_
          refine thn_n ?_
          refine WF.ret ?_
          refine thn_r ?_
          refine fin_r ?_
          refine ⟨congrArg Value.bool ?_, (Ext.refl _)⟩
          rw [hl.1, hl.2]
          first | exact decide_eq_decide.2 (by omega) | exact (decide_eq_false (by omega)).symm | exact (decide_eq_true (by omega)).symm
      · have gh2_14 := (of_decide_eq_false h2_14)
        refine WF.skip ?_
        refine thn_n ?_
        refine WF.seq ?_
        refine WF.seq ?_
        refine WF.region ?_
        refine WL.va rfl rfl rfl (X.moveI rfl) ?_
        refine WL.va rfl rfl rfl (X.eql rfl rfl) ?_
        refine WL.nil ?_
        refine thn_n ?_
        refine WF.cond rfl (fun h3_20 => ?_) (fun h3_20 => ?_)
        · have gh3_20 := (of_decide_eq_true h3_20)
          have hl := lh10 (q := p) (by have := gh3_20; omega)
          refine WF.seq ?_
          refine WF.region ?_
          refine WL.va rfl rfl rfl (X.moveI rfl) ?_
          refine WL.va rfl rfl rfl (X.geq rfl rfl) ?_
          refine WL.va rfl rfl rfl (X.moveB rfl) ?_
          refine WL.split (j := 2) rfl (fun h23 => ?_) (fun h23 => ?_)
          · have gh23 := (of_decide_eq_true h23)
            refine WL.vg rfl (congrArg some h23) rfl rfl (X.moveI rfl) ?_
            refine WL.vg rfl (congrArg some h23) rfl rfl (X.leq rfl rfl) ?_
            refine WL.va rfl rfl rfl (X.pickT rfl h23 rfl) ?_
            refine WL.va rfl rfl rfl (X.assignB rfl) ?_
            refine WL.nil ?_
            refine thn_n ?_
            refine WF.ret ?_
            refine thn_r ?_
            refine fin_r ?_
            refine ⟨congrArg Value.bool ?_, (Ext.refl _)⟩
            rw [hl.1, hl.2]
            first | exact decide_eq_decide.2 (by omega) | exact (decide_eq_false (by omega)).symm | exact (decide_eq_true (by omega)).symm
          · have gh23 := (of_decide_eq_false h23)
            refine WL.p rfl rfl rfl (congrArg some h23) ?_
            refine WL.p rfl rfl rfl (congrArg some h23) ?_
            refine WL.va rfl rfl rfl (X.pickF rfl h23 rfl) ?_
            refine WL.va rfl rfl rfl (X.assignB rfl) ?_
            refine WL.nil ?_
            refine thn_n ?_
            refine WF.ret ?_
            refine thn_r ?_
            refine fin_r ?_
            refine ⟨congrArg Value.bool ?_, (Ext.refl _)⟩
            rw [hl.1, hl.2]
            first | exact decide_eq_decide.2 (by omega) | exact (decide_eq_false (by omega)).symm | exact (decide_eq_true (by omega)).symm
        · have gh3_20 := (of_decide_eq_false h3_20)
          have hl := lhd (q := p) (by omega) (by have := gh3_20; omega) (by omega) (by omega)
          refine WF.skip ?_
          refine thn_n ?_
          refine WF.seq ?_
          refine WF.region ?_
          refine WL.va rfl rfl rfl (X.moveI rfl) ?_
          refine WL.va rfl rfl rfl (X.geq rfl rfl) ?_
          refine WL.va rfl rfl rfl (X.moveB rfl) ?_
          refine WL.split (j := 2) rfl (fun h27 => ?_) (fun h27 => ?_)
          · have gh27 := (of_decide_eq_true h27)
            refine WL.vg rfl (congrArg some h27) rfl rfl (X.moveI rfl) ?_
            refine WL.vg rfl (congrArg some h27) rfl rfl (X.leq rfl rfl) ?_
            refine WL.va rfl rfl rfl (X.pickT rfl h27 rfl) ?_
            refine WL.va rfl rfl rfl (X.assignB rfl) ?_
            refine WL.nil ?_
            refine thn_n ?_
            refine WF.ret ?_
            refine fin_r ?_
            refine ⟨congrArg Value.bool ?_, (Ext.refl _)⟩
            rw [hl.1, hl.2]
            first | exact decide_eq_decide.2 (by omega) | exact (decide_eq_false (by omega)).symm | exact (decide_eq_true (by omega)).symm
          · have gh27 := (of_decide_eq_false h27)
            refine WL.p rfl rfl rfl (congrArg some h27) ?_
            refine WL.p rfl rfl rfl (congrArg some h27) ?_
            refine WL.va rfl rfl rfl (X.pickF rfl h27 rfl) ?_
            refine WL.va rfl rfl rfl (X.assignB rfl) ?_
            refine WL.nil ?_
            refine thn_n ?_
            refine WF.ret ?_
            refine fin_r ?_
            refine ⟨congrArg Value.bool ?_, (Ext.refl _)⟩
            rw [hl.1, hl.2]
            first | exact decide_eq_decide.2 (by omega) | exact (decide_eq_false (by omega)).symm | exact (decide_eq_true (by omega)).symm

set_option maxHeartbeats 4000000 in
theorem may_ok (vE vD : Value) (m : Mg) (w : World) (h : MgAt w vE vD m) : FnOk Try.prog 40 [agg (mc m.n m.ok vE vD)] w (fun r w' => r = .bool (decide m.rangeP) ∧ Ext w w') := by
  obtain ⟨E, hE, rE, dE⟩ := h.E
  have hEl : E.length = m.E.length := by rw [← hE]; simp
  have lE := h.E.le
  have lD := Bytes.le64 h.D
  have hpl := places_len (m.g 0)
  refine FnOk.enter (rs := [2]) Try.func40 rfl Try.ntmps40 Try.results40 rfl rfl ?_
  refine WF.seq ?_
  refine WF.region ?_
  refine WL.op rfl (OW.boxA (cs := (mc m.n m.ok vE vD)) rfl ?_ (by decide))
  intro g1 w1 heg1 hlg1 hO1 hx2
  have := World.grownBy.size hx2
  refine WL.va rfl rfl rfl (X.assignB rfl) ?_
  refine WL.nil ?_
  refine thn_n ?_
  refine WF.seq ?_
  refine WF.seq ?_
  refine WF.region ?_
  refine WL.va rfl rfl rfl (X.fieldAddrO (off := 1) rfl Try.underlying25 rfl rfl Try.sizeOf3) ?_
  refine WL.va rfl rfl rfl (X.loadO hO1 (Ext.refl _) rfl rfl Try.isAgg3) ?_
  refine WL.va rfl rfl rfl (X.lss rfl rfl) ?_
  refine WL.va rfl rfl rfl (X.moveB rfl) ?_
  refine WL.split (j := 3) rfl (fun h6 => ?_) (fun h6 => ?_)
  · have gh6 := (of_decide_eq_true h6)
    refine WL.p rfl rfl rfl (congrArg some h6) ?_
    refine WL.p rfl rfl rfl (congrArg some h6) ?_
    refine WL.p rfl rfl rfl (congrArg some h6) ?_
    refine WL.va rfl rfl rfl (X.pickT rfl h6 rfl) ?_
    refine WL.va rfl rfl rfl (X.moveB rfl) ?_
    refine WL.p rfl rfl rfl rfl ?_
    refine WL.p rfl rfl rfl rfl ?_
    refine WL.p rfl rfl rfl rfl ?_
    refine WL.va rfl rfl rfl (X.pickT rfl rfl rfl) ?_
    refine WL.va rfl rfl rfl (X.moveB rfl) ?_
    refine WL.p rfl rfl rfl rfl ?_
    refine WL.p rfl rfl rfl rfl ?_
    refine WL.p rfl rfl rfl rfl ?_
    refine WL.va rfl rfl rfl (X.pickT rfl rfl rfl) ?_
    refine WL.nil ?_
    refine thn_n ?_
    refine WF.cond_t rfl ?_
    refine WF.seq ?_
    refine WF.region ?_
    refine WL.va rfl rfl rfl (X.assignB rfl) ?_
    refine WL.nil ?_
    refine thn_n ?_
    refine WF.ret ?_
    refine thn_r ?_
    refine fin_r ?_
    exact ⟨congrArg Value.bool (dec_f fun hr => by have h1 : 1 ≤ m.n.getD 1 0 ∧ m.n.getD 1 0 ≤ 199 := hr.1; have h2 : 1 ≤ m.n.getD 2 0 ∧ m.n.getD 2 0 ≤ 199 := hr.2.1; omega), hx2⟩
  · have gh6 := (of_decide_eq_false h6)
    refine WL.vg rfl (congrArg some h6) rfl rfl (X.fieldAddrO (off := 1) rfl Try.underlying25 rfl rfl Try.sizeOf3) ?_
    refine WL.vg rfl (congrArg some h6) rfl rfl (X.loadO hO1 (Ext.refl _) rfl rfl Try.isAgg3) ?_
    refine WL.vg rfl (congrArg some h6) rfl rfl (X.gtr rfl rfl) ?_
    refine WL.va rfl rfl rfl (X.pickF rfl h6 rfl) ?_
    refine WL.va rfl rfl rfl (X.moveB rfl) ?_
    refine WL.split (j := 8) rfl (fun h12 => ?_) (fun h12 => ?_)
    · have gh12 := (of_decide_eq_true h12)
      refine WL.p rfl rfl rfl (congrArg some h12) ?_
      refine WL.p rfl rfl rfl (congrArg some h12) ?_
      refine WL.p rfl rfl rfl (congrArg some h12) ?_
      refine WL.va rfl rfl rfl (X.pickT rfl h12 rfl) ?_
      refine WL.va rfl rfl rfl (X.moveB rfl) ?_
      refine WL.p rfl rfl rfl rfl ?_
      refine WL.p rfl rfl rfl rfl ?_
      refine WL.p rfl rfl rfl rfl ?_
      refine WL.va rfl rfl rfl (X.pickT rfl rfl rfl) ?_
      refine WL.nil ?_
      refine thn_n ?_
      refine WF.cond_t rfl ?_
      refine WF.seq ?_
      refine WF.region ?_
      refine WL.va rfl rfl rfl (X.assignB rfl) ?_
      refine WL.nil ?_
      refine thn_n ?_
      refine WF.ret ?_
      refine thn_r ?_
      refine fin_r ?_
      exact ⟨congrArg Value.bool (dec_f fun hr => by have h1 : 1 ≤ m.n.getD 1 0 ∧ m.n.getD 1 0 ≤ 199 := hr.1; have h2 : 1 ≤ m.n.getD 2 0 ∧ m.n.getD 2 0 ≤ 199 := hr.2.1; omega), hx2⟩
    · have gh12 := (of_decide_eq_false h12)
      refine WL.vg rfl (congrArg some h12) rfl rfl (X.fieldAddrO (off := 2) rfl Try.underlying25 rfl rfl Try.sizeOf3) ?_
      refine WL.vg rfl (congrArg some h12) rfl rfl (X.loadO hO1 (Ext.refl _) rfl rfl Try.isAgg3) ?_
      refine WL.vg rfl (congrArg some h12) rfl rfl (X.lss rfl rfl) ?_
      refine WL.va rfl rfl rfl (X.pickF rfl h12 rfl) ?_
      refine WL.va rfl rfl rfl (X.moveB rfl) ?_
      refine WL.split (j := 13) rfl (fun h17 => ?_) (fun h17 => ?_)
      · have gh17 := (of_decide_eq_true h17)
        refine WL.p rfl rfl rfl (congrArg some h17) ?_
        refine WL.p rfl rfl rfl (congrArg some h17) ?_
        refine WL.p rfl rfl rfl (congrArg some h17) ?_
        refine WL.va rfl rfl rfl (X.pickT rfl h17 rfl) ?_
        refine WL.nil ?_
        refine thn_n ?_
        refine WF.cond_t rfl ?_
        refine WF.seq ?_
        refine WF.region ?_
        refine WL.va rfl rfl rfl (X.assignB rfl) ?_
        refine WL.nil ?_
        refine thn_n ?_
        refine WF.ret ?_
        refine thn_r ?_
        refine fin_r ?_
        exact ⟨congrArg Value.bool (dec_f fun hr => by have h1 : 1 ≤ m.n.getD 1 0 ∧ m.n.getD 1 0 ≤ 199 := hr.1; have h2 : 1 ≤ m.n.getD 2 0 ∧ m.n.getD 2 0 ≤ 199 := hr.2.1; omega), hx2⟩
      · have gh17 := (of_decide_eq_false h17)
        refine WL.vg rfl (congrArg some h17) rfl rfl (X.fieldAddrO (off := 2) rfl Try.underlying25 rfl rfl Try.sizeOf3) ?_
        refine WL.vg rfl (congrArg some h17) rfl rfl (X.loadO hO1 (Ext.refl _) rfl rfl Try.isAgg3) ?_
        refine WL.vg rfl (congrArg some h17) rfl rfl (X.gtr rfl rfl) ?_
        refine WL.va rfl rfl rfl (X.pickF rfl h17 rfl) ?_
        refine WL.nil ?_
        refine thn_n ?_
        refine WF.cond rfl (fun h0_20 => ?_) (fun h0_20 => ?_)
        · have gh0_20 := (of_decide_eq_true h0_20)
          refine WF.seq ?_
          refine WF.region ?_
          refine WL.va rfl rfl rfl (X.assignB rfl) ?_
          refine WL.nil ?_
          refine thn_n ?_
          refine WF.ret ?_
          refine thn_r ?_
          refine fin_r ?_
          exact ⟨congrArg Value.bool (dec_f fun hr => by have h1 : 1 ≤ m.n.getD 1 0 ∧ m.n.getD 1 0 ≤ 199 := hr.1; have h2 : 1 ≤ m.n.getD 2 0 ∧ m.n.getD 2 0 ≤ 199 := hr.2.1; omega), hx2⟩
        · have gh0_20 := (of_decide_eq_false h0_20)
          refine WF.skip ?_
          refine thn_n ?_
          refine WF.seq ?_
          refine WF.region ?_
          refine WL.va rfl rfl rfl (X.loadOA hO1 (Ext.refl _) rfl rfl Try.isAgg25 Try.sizeOf25) ?_
          refine WL.c rfl rfl rfl (X.call Try.call38 (evl_cons rfl evl_nil)) (numbers_ok _ _ m _ (h.ext hx2)) ?_
          rintro vn wn ⟨on, hx23⟩
          have := World.grownBy.size hx23
          refine WL.va rfl rfl rfl (X.assign rfl) ?_
          refine WL.nil ?_
          refine thn_n ?_
          refine WF.seq ?_
          refine WF.region ?_
          refine WL.va rfl rfl rfl (X.fieldAddrO (off := 0) rfl Try.underlying25 rfl rfl Try.sizeOf3) ?_
          refine WL.va rfl rfl rfl (X.loadO hO1 hx23 rfl rfl Try.isAgg3) ?_
          refine WL.c rfl rfl rfl (X.call Try.call37 (evl_cons rfl evl_nil)) (has_ok (m.g 0) _) ?_
          rintro vh wh ⟨oh, hx24⟩
          have := World.grownBy.size hx24
          refine WL.va rfl rfl rfl (X.assign rfl) ?_
          refine WL.nil ?_
          refine thn_n ?_
          refine WF.seq ?_
          refine WF.seq ?_
          refine WF.region ?_
          refine WL.va rfl rfl rfl (X.assignI rfl) ?_
          refine WL.nil ?_
          refine thn_n ?_
          refine WF.block ?_
          refine WF.named (fun F25 hF26 => ?_)
          refine WF.loopN (fun mL0 f' w' => ∃ (p : Nat), mL0 = 11 - p ∧ f' 5 = .int .i64 (p : Int) ∧ Agree [0, 1, 3, 4, 8, 9, 10, 11, 12, 13, 14, 15, 16, 17, 18, 19, 20, 21, 22, 23, 24, 25, 26, 27, 28, 29, 30] f' F25 ∧ Ext wh w' ∧ p ≤ 11 ∧ ∀ q, q < p → q ∈ (places (m.g 0)) → lowP q ≤ m.g (cl q) ∧ m.g (cl q) ≤ highP q) ?_ ?_
          · exact ⟨_, 0, rfl, (congrFun hF26 5), (Agree.refl _ _), (Ext.refl _), ⟨Nat.zero_le _, fun q hq => by omega⟩⟩
          · rintro mL0 fL0 wL0 ⟨p, hmL0, e5_L0, hAL0, hwL0, ⟨hp, hall⟩⟩
            have := World.grownBy.size hwL0
            refine WF.seq ?_
            refine WF.seq ?_
            refine WF.region ?_
            refine WL.va rfl rfl rfl (X.moveI e5_L0) ?_
            refine WL.va rfl rfl rfl (X.move ((hAL0.eq 3).trans (congrFun hF26 3))) ?_
            refine WL.va rfl rfl rfl (X.len (Row.of_own on) rfl Try.underlying45) ?_
            refine WL.va rfl rfl rfl (X.lss rfl rfl) ?_
            refine WL.nil ?_
            refine thn_n ?_
            refine WF.cond rfl (fun h1_27 => ?_) (fun h1_27 => ?_)
            · have gh1_27 := (of_decide_eq_true h1_27)
              have hp11 : p < 11 := by have := gh1_27; simp at this; omega
              refine WF.skip ?_
              refine thn_n ?_
              refine WF.seq ?_
              refine WF.block ?_
              refine WF.seq ?_
              refine WF.region ?_
              refine WL.va rfl rfl rfl (X.move ((hAL0.eq 4).trans (congrFun hF26 4))) ?_
              refine WL.va rfl rfl rfl (X.moveI e5_L0) ?_
              refine WL.c rfl rfl rfl (X.call Try.call39 (evl_cons rfl (evl_cons rfl evl_nil))) (inL_ok _ _ p _ (Row.ext (Row.of_own oh) hwL0) (by omega)) ?_
              rintro v30 w29 ⟨rfl, hx31⟩
              have := World.grownBy.size hx31
              refine WL.va rfl rfl rfl (X.moveB rfl) ?_
              refine WL.split (j := 3) rfl (fun h33 => ?_) (fun h33 => ?_)
              · have gh33 := (of_decide_eq_true h33)
                have hin : p ∈ (places (m.g 0)) := gh33
                refine WL.vg rfl (congrArg some h33) rfl rfl (X.moveI e5_L0) ?_
                refine WL.vg rfl (congrArg some h33) rfl rfl (X.move ((hAL0.eq 3).trans (congrFun hF26 3))) ?_
                refine WL.vg rfl (congrArg some h33) rfl rfl (X.moveI e5_L0) ?_
                refine WL.vg rfl (congrArg some h33) rfl rfl (X.idx (Row.of_own on) rfl rfl (show p < 11 from hp11) Try.underlying45 Try.sizeOf3) ?_
                refine WL.vg rfl (congrArg some h33) rfl rfl (X.loadI (Row.of_own on) (Ext.trans (Ext.trans hx24 hwL0) hx31) rfl (show p < 11 from hp11) Try.isAgg3) ?_
                refine WL.cg rfl (congrArg some h33) rfl rfl (X.call Try.call65 (evl_cons rfl (evl_cons rfl evl_nil))) (rangedR_ok p _ _) ?_
                rintro v35 w34 ⟨rfl, hx36⟩
                have := World.grownBy.size hx36
                refine WL.vg rfl (congrArg some h33) rfl rfl (X.not rfl) ?_
                refine WL.va rfl rfl rfl (X.pickT rfl h33 rfl) ?_
                refine WL.nil ?_
                refine thn_n ?_
                refine WF.cond rfl (fun h2_38 => ?_) (fun h2_38 => ?_)
                · have gh2_38 := (of_decide_eq_false (nt h2_38))
                  have hbad : ¬ (lowP p ≤ m.g (cl p) ∧ m.g (cl p) ≤ highP p) := by have := gh2_38; rw [numL_get _ hp11] at this; exact this
                  refine WF.seq ?_
                  refine WF.region ?_
                  refine WL.va rfl rfl rfl (X.assignB rfl) ?_
                  refine WL.nil ?_
                  refine thn_n ?_
                  refine WF.ret ?_
                  refine blk_r ?_
                  refine thn_r ?_
                  refine thn_r ?_
                  refine blk_r ?_
                  refine thn_r ?_
                  refine fin_r ?_
                  exact ⟨congrArg Value.bool (dec_f fun hr => hbad (hr.2.2.1 p hin hp11)), (Ext.trans (Ext.trans (Ext.trans (Ext.trans (Ext.trans hx2 hx23) hx24) hwL0) hx31) hx36)⟩
                · have gh2_38 := (of_decide_eq_true (nf h2_38))
                  have hst : p ∈ (places (m.g 0)) → lowP p ≤ m.g (cl p) ∧ m.g (cl p) ≤ highP p := fun _ => by have := gh2_38; rw [numL_get _ hp11] at this; exact this
                  refine WF.skip ?_
                  refine blk_n ?_
                  refine thn_n ?_
                  refine WF.region ?_
                  refine WL.va rfl rfl rfl (X.moveI e5_L0) ?_
                  refine WL.va rfl rfl rfl (X.add rfl rfl (w64 (by omega))) ?_
                  refine WL.va rfl rfl rfl (X.assignI rfl) ?_
                  refine WL.nil ?_
                  exact thn_n ⟨_, (by omega), p + 1, rfl, rfl, (by repeat (first | exact hAL0 | refine Agree.put ?_ rfl | refine Agree.named hF26 ?_)), (Ext.trans (Ext.trans hwL0 hx31) hx36), ⟨by omega, fun q hq => by rcases Nat.lt_succ_iff_lt_or_eq.1 hq with hq | rfl; exact hall q hq; exact hst⟩⟩
              · have gh33 := (of_decide_eq_false h33)
                have hst : p ∈ (places (m.g 0)) → lowP p ≤ m.g (cl p) ∧ m.g (cl p) ≤ highP p := fun q => absurd q gh33
                refine WL.p rfl rfl rfl (congrArg some h33) ?_
                refine WL.p rfl rfl rfl (congrArg some h33) ?_
                refine WL.p rfl rfl rfl (congrArg some h33) ?_
                refine WL.p rfl rfl rfl (congrArg some h33) ?_
                refine WL.p rfl rfl rfl (congrArg some h33) ?_
                refine WL.p rfl rfl rfl (congrArg some h33) ?_
                refine WL.p rfl rfl rfl (congrArg some h33) ?_
                refine WL.va rfl rfl rfl (X.pickF rfl h33 rfl) ?_
                refine WL.nil ?_
                refine thn_n ?_
                refine WF.cond_f rfl ?_
                refine WF.skip ?_
                refine blk_n ?_
                refine thn_n ?_
                refine WF.region ?_
                refine WL.va rfl rfl rfl (X.moveI e5_L0) ?_
                refine WL.va rfl rfl rfl (X.add rfl rfl (w64 (by omega))) ?_
                refine WL.va rfl rfl rfl (X.assignI rfl) ?_
                refine WL.nil ?_
                exact thn_n ⟨_, (by omega), p + 1, rfl, rfl, (by repeat (first | exact hAL0 | refine Agree.put ?_ rfl | refine Agree.named hF26 ?_)), (Ext.trans hwL0 hx31), ⟨by omega, fun q hq => by rcases Nat.lt_succ_iff_lt_or_eq.1 hq with hq | rfl; exact hall q hq; exact hst⟩⟩
            · have gh1_27 := (of_decide_eq_false h1_27)
              have hpe : p = 11 := by have := gh1_27; simp at this; omega
              refine WF.exit ?_
              refine thn_x ?_
              refine thn_x ?_
              refine blk_eq ?_
              refine thn_n ?_
              refine WF.seq ?_
              refine WF.seq ?_
              refine WF.region ?_
              refine WL.va rfl rfl rfl (X.assignI rfl) ?_
              refine WL.nil ?_
              refine thn_n ?_
              refine WF.block ?_
              refine WF.named (fun F42 hF43 => ?_)
              refine WF.loopN (fun mL1 f' w' => ∃ (k : Nat), mL1 = E.length - k ∧ f' 6 = .int .i64 (k : Int) ∧ Agree [0, 1, 3, 4, 5, 8, 9, 10, 11, 12, 13, 14, 15, 16, 17, 18, 19, 20, 21, 22, 23, 24, 25, 26, 27, 28, 29, 30, 31, 32, 33, 34] f' F42 ∧ Ext w1 w' ∧ Blk w' g1 25 (mc m.n m.ok vE vD) ∧ k ≤ E.length ∧ ∀ j (hj : j < E.length), j < k → enP E[j].1) ?_ ?_
              · exact ⟨_, 0, rfl, (congrFun hF43 6), (Agree.refl _ _), (Ext.trans (Ext.trans hx23 hx24) hwL0), ⟨(hO1.ext (Ext.trans (Ext.trans hx23 hx24) hwL0)), Nat.zero_le _, fun j _ hj => by omega⟩⟩
              · rintro mL1 fL1 wL1 ⟨k, hmL1, e6_L1, hAL1, hwL1, ⟨hO1, hk0, hen⟩⟩
                have := World.grownBy.size hwL1
                refine WF.seq ?_
                refine WF.seq ?_
                refine WF.region ?_
                refine WL.va rfl rfl rfl (X.moveI e6_L1) ?_
                refine WL.va rfl rfl rfl (X.fieldAddrO (off := 15) ((hAL1.eq 1).trans ((congrFun hF43 1).trans ((hAL0.eq 1).trans (congrFun hF26 1)))) Try.underlying25 rfl rfl Try.sizeOf22) ?_
                refine WL.va rfl rfl rfl (X.loadO hO1 (Ext.refl _) rfl rfl Try.isAgg22) ?_
                refine WL.va rfl rfl rfl (X.len rE rfl Try.underlying22) ?_
                refine WL.va rfl rfl rfl (X.lss rfl rfl) ?_
                refine WL.nil ?_
                refine thn_n ?_
                refine WF.cond rfl (fun h3_44 => ?_) (fun h3_44 => ?_)
                · have gh3_44 := (of_decide_eq_true h3_44)
                  have hk : k < E.length := by omega
                  refine WF.skip ?_
                  refine thn_n ?_
                  refine WF.seq ?_
                  refine WF.block ?_
                  refine WF.seq ?_
                  refine WF.region ?_
                  refine WL.va rfl rfl rfl (X.fieldAddrO (off := 15) ((hAL1.eq 1).trans ((congrFun hF43 1).trans ((hAL0.eq 1).trans (congrFun hF26 1)))) Try.underlying25 rfl rfl Try.sizeOf22) ?_
                  refine WL.va rfl rfl rfl (X.loadO hO1 (Ext.refl _) rfl rfl Try.isAgg22) ?_
                  refine WL.va rfl rfl rfl (X.moveI e6_L1) ?_
                  refine WL.va rfl rfl rfl (X.idx rE rfl rfl hk Try.underlying22 Try.sizeOf57) ?_
                  refine WL.va rfl rfl rfl (X.loadEl rE (Ext.trans hx2 hwL1) rfl hk (ERow.el (E := E) (k := k) hk) Try.isAgg57 Try.sizeOf57) ?_
                  refine WL.op rfl (OW.allocO (cs := [i64 0, i64 0, .slice none 0 0]) Try.zeroValue57 rfl ?_ (by decide))
                  intro g7 w46 heg7 hlg7 hO7 hx48
                  have := World.grownBy.size hx48
                  refine WL.op rfl (OW.storeOA hO7 rfl rfl rfl (dE.one1 hk) Try.sizeOf57 ?_)
                  intro w50 hO7 hx52
                  have := World.grownBy.size hx52
                  replace hO1 := (hO1.ext hx48).keptO hx52 (by omega)
                  refine WL.nil ?_
                  refine thn_n ?_
                  refine WF.seq ?_
                  refine WF.region ?_
                  refine WL.va rfl rfl rfl (X.fieldAddrO (off := 0) rfl Try.underlying57 rfl rfl Try.sizeOf3) ?_
                  refine WL.va rfl rfl rfl (X.loadO hO7 (Ext.refl _) rfl rfl Try.isAgg3) ?_
                  refine WL.va rfl rfl rfl (X.lss rfl rfl) ?_
                  refine WL.va rfl rfl rfl (X.moveB rfl) ?_
                  refine WL.split (j := 3) rfl (fun h55 => ?_) (fun h55 => ?_)
                  · have gh55 := (of_decide_eq_true h55)
                    refine WL.p rfl rfl rfl (congrArg some h55) ?_
                    refine WL.p rfl rfl rfl (congrArg some h55) ?_
                    refine WL.p rfl rfl rfl (congrArg some h55) ?_
                    refine WL.va rfl rfl rfl (X.pickT rfl h55 rfl) ?_
                    refine WL.va rfl rfl rfl (X.moveB rfl) ?_
                    refine WL.p rfl rfl rfl rfl ?_
                    refine WL.p rfl rfl rfl rfl ?_
                    refine WL.p rfl rfl rfl rfl ?_
                    refine WL.va rfl rfl rfl (X.pickT rfl rfl rfl) ?_
                    refine WL.va rfl rfl rfl (X.moveB rfl) ?_
                    refine WL.p rfl rfl rfl rfl ?_
                    refine WL.p rfl rfl rfl rfl ?_
                    refine WL.p rfl rfl rfl rfl ?_
                    refine WL.va rfl rfl rfl (X.pickT rfl rfl rfl) ?_
                    refine WL.nil ?_
                    refine thn_n ?_
                    refine WF.cond_t rfl ?_
                    refine WF.seq ?_
                    refine WF.region ?_
                    refine WL.va rfl rfl rfl (X.assignB rfl) ?_
                    refine WL.nil ?_
                    refine thn_n ?_
                    refine WF.ret ?_
                    refine blk_r ?_
                    refine thn_r ?_
                    refine thn_r ?_
                    refine blk_r ?_
                    refine thn_r ?_
                    refine fin_r ?_
                    have hmem : E[k].1 ∈ m.E := hE ▸ List.mem_map.2 ⟨_, List.getElem_mem hk, rfl⟩
                    exact ⟨congrArg Value.bool (dec_f fun hr => by have h1 := (hr.2.2.2 _ hmem).1; have h2 := (hr.2.2.2 _ hmem).2; omega), (Ext.trans (Ext.trans hx2 hwL1) (Ext.store hx48 hx52 (by omega)))⟩
                  · have gh55 := (of_decide_eq_false h55)
                    refine WL.vg rfl (congrArg some h55) rfl rfl (X.fieldAddrO (off := 0) rfl Try.underlying57 rfl rfl Try.sizeOf3) ?_
                    refine WL.vg rfl (congrArg some h55) rfl rfl (X.loadO hO7 (Ext.refl _) rfl rfl Try.isAgg3) ?_
                    refine WL.vg rfl (congrArg some h55) rfl rfl (X.gtr rfl rfl) ?_
                    refine WL.va rfl rfl rfl (X.pickF rfl h55 rfl) ?_
                    refine WL.va rfl rfl rfl (X.moveB rfl) ?_
                    refine WL.split (j := 8) rfl (fun h61 => ?_) (fun h61 => ?_)
                    · have gh61 := (of_decide_eq_true h61)
                      refine WL.p rfl rfl rfl (congrArg some h61) ?_
                      refine WL.p rfl rfl rfl (congrArg some h61) ?_
                      refine WL.p rfl rfl rfl (congrArg some h61) ?_
                      refine WL.va rfl rfl rfl (X.pickT rfl h61 rfl) ?_
                      refine WL.va rfl rfl rfl (X.moveB rfl) ?_
                      refine WL.p rfl rfl rfl rfl ?_
                      refine WL.p rfl rfl rfl rfl ?_
                      refine WL.p rfl rfl rfl rfl ?_
                      refine WL.va rfl rfl rfl (X.pickT rfl rfl rfl) ?_
                      refine WL.nil ?_
                      refine thn_n ?_
                      refine WF.cond_t rfl ?_
                      refine WF.seq ?_
                      refine WF.region ?_
                      refine WL.va rfl rfl rfl (X.assignB rfl) ?_
                      refine WL.nil ?_
                      refine thn_n ?_
                      refine WF.ret ?_
                      refine blk_r ?_
                      refine thn_r ?_
                      refine thn_r ?_
                      refine blk_r ?_
                      refine thn_r ?_
                      refine fin_r ?_
                      have hmem : E[k].1 ∈ m.E := hE ▸ List.mem_map.2 ⟨_, List.getElem_mem hk, rfl⟩
                      exact ⟨congrArg Value.bool (dec_f fun hr => by have h1 := (hr.2.2.2 _ hmem).1; have h2 := (hr.2.2.2 _ hmem).2; omega), (Ext.trans (Ext.trans hx2 hwL1) (Ext.store hx48 hx52 (by omega)))⟩
                    · have gh61 := (of_decide_eq_false h61)
                      refine WL.vg rfl (congrArg some h61) rfl rfl (X.fieldAddrO (off := 1) rfl Try.underlying57 rfl rfl Try.sizeOf3) ?_
                      refine WL.vg rfl (congrArg some h61) rfl rfl (X.loadO hO7 (Ext.refl _) rfl rfl Try.isAgg3) ?_
                      refine WL.vg rfl (congrArg some h61) rfl rfl (X.lss rfl rfl) ?_
                      refine WL.va rfl rfl rfl (X.pickF rfl h61 rfl) ?_
                      refine WL.va rfl rfl rfl (X.moveB rfl) ?_
                      refine WL.split (j := 13) rfl (fun h67 => ?_) (fun h67 => ?_)
                      · have gh67 := (of_decide_eq_true h67)
                        refine WL.p rfl rfl rfl (congrArg some h67) ?_
                        refine WL.p rfl rfl rfl (congrArg some h67) ?_
                        refine WL.p rfl rfl rfl (congrArg some h67) ?_
                        refine WL.va rfl rfl rfl (X.pickT rfl h67 rfl) ?_
                        refine WL.nil ?_
                        refine thn_n ?_
                        refine WF.cond_t rfl ?_
                        refine WF.seq ?_
                        refine WF.region ?_
                        refine WL.va rfl rfl rfl (X.assignB rfl) ?_
                        refine WL.nil ?_
                        refine thn_n ?_
                        refine WF.ret ?_
                        refine blk_r ?_
                        refine thn_r ?_
                        refine thn_r ?_
                        refine blk_r ?_
                        refine thn_r ?_
                        refine fin_r ?_
                        have hmem : E[k].1 ∈ m.E := hE ▸ List.mem_map.2 ⟨_, List.getElem_mem hk, rfl⟩
                        exact ⟨congrArg Value.bool (dec_f fun hr => by have h1 := (hr.2.2.2 _ hmem).1; have h2 := (hr.2.2.2 _ hmem).2; omega), (Ext.trans (Ext.trans hx2 hwL1) (Ext.store hx48 hx52 (by omega)))⟩
                      · have gh67 := (of_decide_eq_false h67)
                        refine WL.vg rfl (congrArg some h67) rfl rfl (X.fieldAddrO (off := 1) rfl Try.underlying57 rfl rfl Try.sizeOf3) ?_
                        refine WL.vg rfl (congrArg some h67) rfl rfl (X.loadO hO7 (Ext.refl _) rfl rfl Try.isAgg3) ?_
                        refine WL.vg rfl (congrArg some h67) rfl rfl (X.gtr rfl rfl) ?_
                        refine WL.va rfl rfl rfl (X.pickF rfl h67 rfl) ?_
                        refine WL.nil ?_
                        refine thn_n ?_
                        refine WF.cond rfl (fun h4_70 => ?_) (fun h4_70 => ?_)
                        · have gh4_70 := (of_decide_eq_true h4_70)
                          refine WF.seq ?_
                          refine WF.region ?_
                          refine WL.va rfl rfl rfl (X.assignB rfl) ?_
                          refine WL.nil ?_
                          refine thn_n ?_
                          refine WF.ret ?_
                          refine blk_r ?_
                          refine thn_r ?_
                          refine thn_r ?_
                          refine blk_r ?_
                          refine thn_r ?_
                          refine fin_r ?_
                          have hmem : E[k].1 ∈ m.E := hE ▸ List.mem_map.2 ⟨_, List.getElem_mem hk, rfl⟩
                          exact ⟨congrArg Value.bool (dec_f fun hr => by have h1 := (hr.2.2.2 _ hmem).1; have h2 := (hr.2.2.2 _ hmem).2; omega), (Ext.trans (Ext.trans hx2 hwL1) (Ext.store hx48 hx52 (by omega)))⟩
                        · have gh4_70 := (of_decide_eq_false h4_70)
                          refine WF.skip ?_
                          refine blk_n ?_
                          refine thn_n ?_
                          refine WF.region ?_
                          refine WL.va rfl rfl rfl (X.moveI e6_L1) ?_
                          refine WL.va rfl rfl rfl (X.add rfl rfl (w64 (by omega))) ?_
                          refine WL.va rfl rfl rfl (X.assignI rfl) ?_
                          refine WL.nil ?_
                          exact thn_n ⟨_, (by omega), k + 1, rfl, rfl, (by repeat (first | exact hAL1 | refine Agree.put ?_ rfl | refine Agree.sub hAL0 rfl ?_ | refine Agree.named hF43 ?_ | refine Agree.named hF26 ?_)), (Ext.trans hwL1 (Ext.store hx48 hx52 (by omega))), ⟨hO1, by omega, fun j hj hj2 => by rcases Nat.lt_succ_iff_lt_or_eq.1 hj2 with hj2 | rfl; exact hen j hj hj2; exact ⟨by omega, by omega⟩⟩⟩
                · have gh3_44 := (of_decide_eq_false h3_44)
                  refine WF.exit ?_
                  refine thn_x ?_
                  refine thn_x ?_
                  refine blk_eq ?_
                  refine thn_n ?_
                  refine WF.seq ?_
                  refine WF.region ?_
                  refine WL.va rfl rfl rfl (X.assignB rfl) ?_
                  refine WL.nil ?_
                  refine thn_n ?_
                  refine WF.ret ?_
                  refine fin_r ?_
                  refine ⟨congrArg Value.bool (dec_t ⟨show 1 ≤ m.n.getD 1 0 ∧ m.n.getD 1 0 ≤ 199 by omega, show 1 ≤ m.n.getD 2 0 ∧ m.n.getD 2 0 ≤ 199 by omega, fun q hq h11 => hall q (by omega) hq, fun e he => ?_⟩), (Ext.trans hx2 hwL1)⟩
                  rw [← hE] at he
                  obtain ⟨e2, he2, rfl⟩ := List.mem_map.1 he
                  obtain ⟨j, hj, rfl⟩ := List.getElem_of_mem he2
                  exact hen j hj (by omega)

set_option maxHeartbeats 4000000 in
theorem long_ok (vE vD : Value) (m : Mg) (w : World) (h : MgAt w vE vD m) : FnOk Try.prog 41 [agg (mc m.n m.ok vE vD)] w (fun r w' => r = .bool (decide (¬ m.fitsP)) ∧ Ext w w') := by
  obtain ⟨E, hE, rE, dE⟩ := h.E
  have hEl : E.length = m.E.length := by rw [← hE]; simp
  have lE := h.E.le
  have lD := Bytes.le64 h.D
  have hpl := places_len (m.g 0)
  have rE2 : Row w vE m.E.length 3 (E.flatMap EV.c) := by rw [← hEl]; exact rE
  have hfl : (fints (places (m.g 0))).length = (places (m.g 0)).length := List.length_map ..
  refine FnOk.enter (rs := [2]) Try.func41 rfl Try.ntmps41 Try.results41 rfl rfl ?_
  refine WF.seq ?_
  refine WF.region ?_
  refine WL.op rfl (OW.boxA (cs := (mc m.n m.ok vE vD)) rfl ?_ (by decide))
  intro g1 w1 heg1 hlg1 hO1 hx3
  have := World.grownBy.size hx3
  refine WL.va rfl rfl rfl (X.assignB rfl) ?_
  refine WL.nil ?_
  refine thn_n ?_
  refine WF.seq ?_
  refine WF.seq ?_
  refine WF.region ?_
  refine WL.va rfl rfl rfl (X.fieldAddrO (off := 15) rfl Try.underlying25 rfl rfl Try.sizeOf22) ?_
  refine WL.va rfl rfl rfl (X.loadO hO1 (Ext.refl _) rfl rfl Try.isAgg22) ?_
  refine WL.va rfl rfl rfl (X.len rE2 rfl Try.underlying22) ?_
  refine WL.va rfl rfl rfl (X.gtr rfl rfl) ?_
  refine WL.va rfl rfl rfl (X.moveB rfl) ?_
  refine WL.split (j := 4) rfl (fun h7 => ?_) (fun h7 => ?_)
  · have gh7 := (of_decide_eq_true h7)
    refine WL.p rfl rfl rfl (congrArg some h7) ?_
    refine WL.p rfl rfl rfl (congrArg some h7) ?_
    refine WL.p rfl rfl rfl (congrArg some h7) ?_
    refine WL.p rfl rfl rfl (congrArg some h7) ?_
    refine WL.va rfl rfl rfl (X.pickT rfl h7 rfl) ?_
    refine WL.nil ?_
    refine thn_n ?_
    refine WF.cond_t rfl ?_
    refine WF.seq ?_
    refine WF.region ?_
    refine WL.va rfl rfl rfl (X.assignB rfl) ?_
    refine WL.nil ?_
    refine thn_n ?_
    refine WF.ret ?_
    refine thn_r ?_
    refine fin_r ?_
    exact ⟨congrArg Value.bool (dec_t fun hr => by have := hr.1; have := hr.2.1; omega), hx3⟩
  · have gh7 := (of_decide_eq_false h7)
    refine WL.vg rfl (congrArg some h7) rfl rfl (X.fieldAddrO (off := 16) rfl Try.underlying25 rfl rfl Try.sizeOf23) ?_
    refine WL.vg rfl (congrArg some h7) rfl rfl (X.loadO hO1 (Ext.refl _) rfl rfl Try.isAgg23) ?_
    refine WL.vg rfl (congrArg some h7) rfl rfl (X.len h.D rfl Try.underlying23) ?_
    refine WL.vg rfl (congrArg some h7) rfl rfl (X.gtr rfl rfl) ?_
    refine WL.va rfl rfl rfl (X.pickF rfl h7 rfl) ?_
    refine WL.nil ?_
    refine thn_n ?_
    refine WF.cond rfl (fun h0_10 => ?_) (fun h0_10 => ?_)
    · have gh0_10 := (of_decide_eq_true h0_10)
      refine WF.seq ?_
      refine WF.region ?_
      refine WL.va rfl rfl rfl (X.assignB rfl) ?_
      refine WL.nil ?_
      refine thn_n ?_
      refine WF.ret ?_
      refine thn_r ?_
      refine fin_r ?_
      exact ⟨congrArg Value.bool (dec_t fun hr => by have := hr.1; have := hr.2.1; omega), hx3⟩
    · have gh0_10 := (of_decide_eq_false h0_10)
      refine WF.skip ?_
      refine thn_n ?_
      refine WF.seq ?_
      refine WF.seq ?_
      refine WF.region ?_
      refine WL.va rfl rfl rfl (X.assignI rfl) ?_
      refine WL.nil ?_
      refine thn_n ?_
      refine WF.block ?_
      refine WF.named (fun F13 hF14 => ?_)
      refine WF.loopN (fun mL0 f' w' => ∃ (k : Nat), mL0 = E.length - k ∧ f' 3 = .int .i64 (k : Int) ∧ Agree [0, 1, 6, 7, 8, 9, 10, 11, 12, 13, 14, 15] f' F13 ∧ Ext w w' ∧ Blk w' g1 25 (mc m.n m.ok vE vD) ∧ k ≤ E.length ∧ ∀ j (hj : j < E.length), j < k → E[j].1.Data.length ≤ 65536) ?_ ?_
      · exact ⟨_, 0, rfl, (congrFun hF14 3), (Agree.refl _ _), hx3, ⟨hO1, Nat.zero_le _, fun j _ hj => by omega⟩⟩
      · rintro mL0 fL0 wL0 ⟨k, hmL0, e3_L0, hAL0, hwL0, ⟨hO1, hk0, hall⟩⟩
        have := World.grownBy.size hwL0
        refine WF.seq ?_
        refine WF.seq ?_
        refine WF.region ?_
        refine WL.va rfl rfl rfl (X.moveI e3_L0) ?_
        refine WL.va rfl rfl rfl (X.fieldAddrO (off := 15) ((hAL0.eq 1).trans (congrFun hF14 1)) Try.underlying25 rfl rfl Try.sizeOf22) ?_
        refine WL.va rfl rfl rfl (X.loadO hO1 (Ext.refl _) rfl rfl Try.isAgg22) ?_
        refine WL.va rfl rfl rfl (X.len rE2 rfl Try.underlying22) ?_
        refine WL.va rfl rfl rfl (X.lss rfl rfl) ?_
        refine WL.nil ?_
        refine thn_n ?_
        refine WF.cond rfl (fun h1_15 => ?_) (fun h1_15 => ?_)
        · have gh1_15 := (of_decide_eq_true h1_15)
          have hk : k < E.length := by omega
          refine WF.skip ?_
          refine thn_n ?_
          refine WF.seq ?_
          refine WF.block ?_
          refine WF.seq ?_
          refine WF.region ?_
          refine WL.va rfl rfl rfl (X.fieldAddrO (off := 15) ((hAL0.eq 1).trans (congrFun hF14 1)) Try.underlying25 rfl rfl Try.sizeOf22) ?_
          refine WL.va rfl rfl rfl (X.loadO hO1 (Ext.refl _) rfl rfl Try.isAgg22) ?_
          refine WL.va rfl rfl rfl (X.moveI e3_L0) ?_
          refine WL.va rfl rfl rfl (X.idx rE2 rfl rfl (by omega) Try.underlying22 Try.sizeOf57) ?_
          refine WL.va rfl rfl rfl (X.fieldAddrA rfl Try.underlying57 rfl rfl Try.sizeOf23) ?_
          refine WL.va rfl rfl rfl (X.loadE rE2 hwL0 rfl (by omega) ((ERow.get hk (by decide)).trans rfl) Try.isAgg23) ?_
          refine WL.va rfl rfl rfl (X.len (dE _ (List.getElem_mem hk)) rfl Try.underlying23) ?_
          refine WL.va rfl rfl rfl (X.gtr rfl rfl) ?_
          refine WL.nil ?_
          refine thn_n ?_
          refine WF.cond rfl (fun h2_17 => ?_) (fun h2_17 => ?_)
          · have gh2_17 := (of_decide_eq_true h2_17)
            have hbig := gh2_17
            refine WF.seq ?_
            refine WF.region ?_
            refine WL.va rfl rfl rfl (X.assignB rfl) ?_
            refine WL.nil ?_
            refine thn_n ?_
            refine WF.ret ?_
            refine blk_r ?_
            refine thn_r ?_
            refine thn_r ?_
            refine blk_r ?_
            refine thn_r ?_
            refine fin_r ?_
            exact ⟨congrArg Value.bool (dec_t fun hr => by have h1 := hr.2.2; have hsm := sumE_map hE hk; have h2 := sumE_le (l := m.E) (k + 1); omega), hwL0⟩
          · have gh2_17 := (of_decide_eq_false h2_17)
            refine WF.skip ?_
            refine blk_n ?_
            refine thn_n ?_
            refine WF.region ?_
            refine WL.va rfl rfl rfl (X.moveI e3_L0) ?_
            refine WL.va rfl rfl rfl (X.add rfl rfl (w64 (by omega))) ?_
            refine WL.va rfl rfl rfl (X.assignI rfl) ?_
            refine WL.nil ?_
            exact thn_n ⟨_, (by omega), k + 1, rfl, rfl, (by repeat (first | exact hAL0 | refine Agree.put ?_ rfl | refine Agree.named hF14 ?_)), hwL0, ⟨hO1, by omega, fun j hj hj2 => by rcases Nat.lt_succ_iff_lt_or_eq.1 hj2 with hj2 | rfl; exact hall j hj hj2; omega⟩⟩
        · have gh1_15 := (of_decide_eq_false h1_15)
          have hall2 : ∀ j (hj : j < E.length), E[j].1.Data.length ≤ 65536 := fun j hj => hall j hj (by omega)
          refine WF.exit ?_
          refine thn_x ?_
          refine thn_x ?_
          refine blk_eq ?_
          refine thn_n ?_
          refine WF.seq ?_
          refine WF.region ?_
          refine WL.va rfl rfl rfl (X.assignI rfl) ?_
          refine WL.nil ?_
          refine thn_n ?_
          refine WF.seq ?_
          refine WF.seq ?_
          refine WF.region ?_
          refine WL.va rfl rfl rfl (X.assignI rfl) ?_
          refine WL.nil ?_
          refine thn_n ?_
          refine WF.block ?_
          refine WF.named (fun F20 hF21 => ?_)
          refine WF.loopN (fun mL1 f' w' => ∃ (k : Nat), mL1 = E.length - k ∧ f' 5 = .int .i64 (k : Int) ∧ f' 4 = .int .i64 ((sumE (m.E.take k) : Nat) : Int) ∧ Agree [0, 1, 3, 6, 7, 8, 9, 10, 11, 12, 13, 14, 15, 16, 17, 18, 19, 20] f' F20 ∧ Ext w w' ∧ Blk w' g1 25 (mc m.n m.ok vE vD) ∧ k ≤ E.length ∧ sumE (m.E.take k) ≤ 65560 * k) ?_ ?_
          · exact ⟨_, 0, rfl, (congrFun hF21 5), (congrFun hF21 4), (Agree.refl _ _), hwL0, ⟨hO1, Nat.zero_le _, Nat.zero_le _⟩⟩
          · rintro mL1 fL1 wL1 ⟨k, hmL1, e5_L1, e4_L1, hAL1, hwL1, ⟨hO1, hk0, hkt⟩⟩
            have := World.grownBy.size hwL1
            refine WF.seq ?_
            refine WF.seq ?_
            refine WF.region ?_
            refine WL.va rfl rfl rfl (X.moveI e5_L1) ?_
            refine WL.va rfl rfl rfl (X.fieldAddrO (off := 15) ((hAL1.eq 1).trans ((congrFun hF21 1).trans ((hAL0.eq 1).trans (congrFun hF14 1)))) Try.underlying25 rfl rfl Try.sizeOf22) ?_
            refine WL.va rfl rfl rfl (X.loadO hO1 (Ext.refl _) rfl rfl Try.isAgg22) ?_
            refine WL.va rfl rfl rfl (X.len rE2 rfl Try.underlying22) ?_
            refine WL.va rfl rfl rfl (X.lss rfl rfl) ?_
            refine WL.nil ?_
            refine thn_n ?_
            refine WF.cond rfl (fun h3_22 => ?_) (fun h3_22 => ?_)
            · have gh3_22 := (of_decide_eq_true h3_22)
              have hk : k < E.length := by omega
              have hsm := sumE_map hE hk
              have hdk := hall2 k hk
              refine WF.skip ?_
              refine thn_n ?_
              refine WF.seq ?_
              refine WF.block ?_
              refine WF.region ?_
              refine WL.va rfl rfl rfl (X.moveI e4_L1) ?_
              refine WL.va rfl rfl rfl (X.add rfl rfl (w64 (by omega))) ?_
              refine WL.va rfl rfl rfl (X.fieldAddrO (off := 15) ((hAL1.eq 1).trans ((congrFun hF21 1).trans ((hAL0.eq 1).trans (congrFun hF14 1)))) Try.underlying25 rfl rfl Try.sizeOf22) ?_
              refine WL.va rfl rfl rfl (X.loadO hO1 (Ext.refl _) rfl rfl Try.isAgg22) ?_
              refine WL.va rfl rfl rfl (X.moveI e5_L1) ?_
              refine WL.va rfl rfl rfl (X.idx rE2 rfl rfl (by omega) Try.underlying22 Try.sizeOf57) ?_
              refine WL.va rfl rfl rfl (X.fieldAddrA rfl Try.underlying57 rfl rfl Try.sizeOf23) ?_
              refine WL.va rfl rfl rfl (X.loadE rE2 hwL1 rfl (by omega) ((ERow.get hk (by decide)).trans rfl) Try.isAgg23) ?_
              refine WL.va rfl rfl rfl (X.len (dE _ (List.getElem_mem hk)) rfl Try.underlying23) ?_
              refine WL.va rfl rfl rfl (X.add rfl rfl (w64 (by omega))) ?_
              refine WL.va rfl rfl rfl (X.assignI rfl) ?_
              refine WL.nil ?_
              refine blk_n ?_
              refine thn_n ?_
              refine WF.region ?_
              refine WL.va rfl rfl rfl (X.moveI e5_L1) ?_
              refine WL.va rfl rfl rfl (X.add rfl rfl (w64 (by omega))) ?_
              refine WL.va rfl rfl rfl (X.assignI rfl) ?_
              refine WL.nil ?_
              exact thn_n ⟨_, (by omega), k + 1, rfl, rfl, (Eq.trans rfl (congrArg (Value.int .i64) (by omega))), (by repeat (first | exact hAL1 | refine Agree.put ?_ rfl | refine Agree.sub hAL0 rfl ?_ | refine Agree.named hF21 ?_ | refine Agree.named hF14 ?_)), hwL1, ⟨hO1, by omega, by omega⟩⟩
            · have gh3_22 := (of_decide_eq_false h3_22)
              refine WF.exit ?_
              refine thn_x ?_
              refine thn_x ?_
              refine blk_eq ?_
              refine thn_n ?_
              refine WF.seq ?_
              refine WF.drawn (.q 0 (.q 1 (.q 2 (.q 3 (.q 4 (.q 5 (.q 6 (.l 7 (.q 8 (.q 9 (.q 10 (.q 11 (.q 12 (.q 13 .nil)))))))))))))) (fun w' => Ext wL1 w') 14 (by kernel_rfl) (by kernel_rfl) (Ext.drew _) ?_
              have := World.grownBy.size (Ext.drew wL1)
              refine WO.q rfl rfl rfl rfl (fun w' hE24 => (X.moveI e4_L1)) ?_
              refine WO.q rfl rfl rfl rfl (fun w' hE24 => (X.fieldAddrO (off := 16) ((hAL1.eq 1).trans ((congrFun hF21 1).trans ((hAL0.eq 1).trans (congrFun hF14 1)))) Try.underlying25 rfl rfl Try.sizeOf23)) ?_
              refine WO.q rfl rfl rfl rfl (fun w' hE24 => (X.loadO hO1 hE24 rfl rfl Try.isAgg23)) ?_
              refine WO.q rfl rfl rfl rfl (fun w' hE24 => (X.len h.D rfl Try.underlying23)) ?_
              refine WO.q rfl rfl rfl rfl (fun w' hE24 => (X.add rfl rfl (w64 (by omega)))) ?_
              refine WO.q rfl rfl rfl rfl (fun w' hE24 => (X.fieldAddrO (off := 0) ((hAL1.eq 1).trans ((congrFun hF21 1).trans ((hAL0.eq 1).trans (congrFun hF14 1)))) Try.underlying25 rfl rfl Try.sizeOf3)) ?_
              refine WO.q rfl rfl rfl rfl (fun w' hE24 => (X.loadO hO1 hE24 rfl rfl Try.isAgg3)) ?_
              refine WO.l ?_
              refine LO.go rfl rfl (OW.enter rfl (by decide) (X.call Try.call37 (evl_cons rfl evl_nil)) (has_ok (m.g 0) _) ?_)
              rintro vh wh ⟨oh, hx25⟩
              have := World.grownBy.size hx25
              refine ⟨(Ext.trans (Ext.drew _) hx25), ?_⟩
              refine WO.q rfl rfl rfl rfl (fun w' hE24 => (X.len (Row.of_own oh) rfl Try.underlying45)) ?_
              refine WO.q rfl rfl rfl rfl (fun w' hE24 => (X.add rfl rfl (w64 (by omega)))) ?_
              refine WO.q rfl rfl rfl rfl (fun w' hE24 => (X.mul rfl rfl (w64 (by omega)))) ?_
              refine WO.q rfl rfl rfl rfl (fun w' hE24 => (X.add rfl rfl (w64 (by omega)))) ?_
              refine WO.q rfl rfl rfl rfl (fun w' hE24 => (X.gtr rfl rfl)) ?_
              refine WO.q rfl rfl rfl rfl (fun w' hE24 => (X.assignB rfl)) ?_
              refine WO.nil ?_
              refine WL.nil ?_
              refine thn_n ?_
              refine WF.ret ?_
              refine fin_r ?_
              have hke : m.E.take k = m.E := List.take_of_length_le (by omega)
              refine ⟨congrArg Value.bool (dec_iff ⟨fun hg hr => by have h1 := hr.2.2; rw [hke] at hg; omega, fun hr => Decidable.byContradiction fun hq => hr ⟨by omega, by omega, by rw [hke] at hq; omega⟩⟩), (Ext.trans (Ext.trans hwL1 (Ext.drew _)) hx25)⟩

set_option maxHeartbeats 4000000 in
theorem checkR_ok (vE vD : Value) (m : Mg) (w : World) (h : MgAt w vE vD m) : FnOk Try.prog 14 [agg (mc m.n m.ok vE vD)] w (fun r w' => r = i64 (chk m) ∧ Ext w w') := by
  obtain ⟨E, hE, rE, dE⟩ := h.E
  have hEl : E.length = m.E.length := by rw [← hE]; simp
  have lE := h.E.le
  have lD := Bytes.le64 h.D
  have hpl := places_len (m.g 0)
  have rE2 : Row w vE m.E.length 3 (E.flatMap EV.c) := by rw [← hEl]; exact rE
  have hfl : (fints (places (m.g 0))).length = (places (m.g 0)).length := List.length_map ..
  refine FnOk.enter (rs := [2]) Try.func14 rfl Try.ntmps14 Try.results14 rfl rfl ?_
  refine WF.seq ?_
  refine WF.region ?_
  refine WL.op rfl (OW.boxA (cs := (mc m.n m.ok vE vD)) rfl ?_ (by decide))
  intro g1 w1 heg1 hlg1 hO1 hx3
  have := World.grownBy.size hx3
  refine WL.va rfl rfl rfl (X.assignI rfl) ?_
  refine WL.nil ?_
  refine thn_n ?_
  refine WF.seq ?_
  refine WF.region ?_
  refine WL.va rfl rfl rfl (X.fieldAddrO (off := 0) rfl Try.underlying25 rfl rfl Try.sizeOf3) ?_
  refine WL.va rfl rfl rfl (X.loadO hO1 (Ext.refl _) rfl rfl Try.isAgg3) ?_
  refine WL.c rfl rfl rfl (X.call Try.call37 (evl_cons rfl evl_nil)) (has_ok (m.g 0) _) ?_
  rintro vh wh ⟨oh, hx5⟩
  have := World.grownBy.size hx5
  refine WL.va rfl rfl rfl (X.assign rfl) ?_
  refine WL.nil ?_
  refine thn_n ?_
  refine WF.seq ?_
  refine WF.seq ?_
  refine WF.region ?_
  refine WL.va rfl rfl rfl (X.move rfl) ?_
  refine WL.va rfl rfl rfl (X.len (Row.of_own oh) rfl Try.underlying45) ?_
  refine WL.va rfl rfl rfl (X.eql rfl rfl) ?_
  refine WL.nil ?_
  refine thn_n ?_
  refine WF.cond rfl (fun h0_6 => ?_) (fun h0_6 => ?_)
  · have gh0_6 := (of_decide_eq_true h0_6)
    have h0 : ¬ (1 ≤ m.g 0 ∧ m.g 0 ≤ 11) := (places_empty _).1 (List.eq_nil_of_length_eq_zero (by have := gh0_6; omega))
    refine WF.seq ?_
    refine WF.region ?_
    refine WL.va rfl rfl rfl (X.assignI rfl) ?_
    refine WL.nil ?_
    refine thn_n ?_
    refine WF.ret ?_
    refine thn_r ?_
    refine fin_r ?_
    exact ⟨congrArg (Value.int .i64) (by unfold chk; rw [if_pos h0]), (Ext.trans hx3 hx5)⟩
  · have gh0_6 := (of_decide_eq_false h0_6)
    have h0 : ¬ ¬ (1 ≤ m.g 0 ∧ m.g 0 ≤ 11) := fun q => by have := (places_empty _).2 q; have h1 := gh0_6; rw [this] at h1; exact h1 rfl
    refine WF.skip ?_
    refine thn_n ?_
    refine WF.seq ?_
    refine WF.region ?_
    refine WL.va rfl rfl rfl (X.loadOA hO1 hx5 rfl rfl Try.isAgg25 Try.sizeOf25) ?_
    refine WL.c rfl rfl rfl (X.call Try.call38 (evl_cons rfl evl_nil)) (numbers_ok _ _ m _ (h.ext (Ext.trans hx3 hx5))) ?_
    rintro vn wn ⟨on, hx8⟩
    have := World.grownBy.size hx8
    refine WL.va rfl rfl rfl (X.assign rfl) ?_
    refine WL.nil ?_
    refine thn_n ?_
    refine WF.seq ?_
    refine WF.seq ?_
    refine WF.region ?_
    refine WL.va rfl rfl rfl (X.assignI rfl) ?_
    refine WL.nil ?_
    refine thn_n ?_
    refine WF.block ?_
    refine WF.named (fun F9 hF10 => ?_)
    refine WF.loopN (fun mL0 f' w' => ∃ (p : Nat), mL0 = 11 - p ∧ f' 5 = .int .i64 (p : Int) ∧ Agree [0, 1, 3, 4, 6, 7, 8, 9, 10, 11, 12, 13] f' F9 ∧ Ext wn w' ∧ p ≤ 11 ∧ ∀ q, q < p → q ∉ (places (m.g 0)) → m.g (cl q) = 0) ?_ ?_
    · exact ⟨_, 0, rfl, (congrFun hF10 5), (Agree.refl _ _), (Ext.refl _), ⟨Nat.zero_le _, fun q hq => by omega⟩⟩
    · rintro mL0 fL0 wL0 ⟨p, hmL0, e5_L0, hAL0, hwL0, ⟨hp, hall⟩⟩
      have := World.grownBy.size hwL0
      refine WF.seq ?_
      refine WF.seq ?_
      refine WF.region ?_
      refine WL.va rfl rfl rfl (X.moveI e5_L0) ?_
      refine WL.va rfl rfl rfl (X.move ((hAL0.eq 4).trans (congrFun hF10 4))) ?_
      refine WL.va rfl rfl rfl (X.len (Row.of_own on) rfl Try.underlying45) ?_
      refine WL.va rfl rfl rfl (X.lss rfl rfl) ?_
      refine WL.nil ?_
      refine thn_n ?_
      refine WF.cond rfl (fun h1_11 => ?_) (fun h1_11 => ?_)
      · have gh1_11 := (of_decide_eq_true h1_11)
        have hp11 : p < 11 := by have := gh1_11; simp at this; omega
        refine WF.skip ?_
        refine thn_n ?_
        refine WF.seq ?_
        refine WF.block ?_
        refine WF.seq ?_
        refine WF.region ?_
        refine WL.va rfl rfl rfl (X.move ((hAL0.eq 4).trans (congrFun hF10 4))) ?_
        refine WL.va rfl rfl rfl (X.moveI e5_L0) ?_
        refine WL.va rfl rfl rfl (X.idx (Row.of_own on) rfl rfl (show p < 11 from hp11) Try.underlying45 Try.sizeOf3) ?_
        refine WL.va rfl rfl rfl (X.loadI (Row.of_own on) hwL0 rfl (show p < 11 from hp11) Try.isAgg3) ?_
        refine WL.va rfl rfl rfl (X.neq rfl rfl) ?_
        refine WL.va rfl rfl rfl (X.moveB rfl) ?_
        refine WL.split (j := 5) rfl (fun h14 => ?_) (fun h14 => ?_)
        · have gh14 := (of_decide_eq_true h14)
          have hnz : m.g (cl p) ≠ 0 := by have := gh14; rw [numL_get _ hp11] at this; exact this
          refine WL.vg rfl (congrArg some h14) rfl rfl (X.move ((hAL0.eq 3).trans (congrFun hF10 3))) ?_
          refine WL.vg rfl (congrArg some h14) rfl rfl (X.moveI e5_L0) ?_
          refine WL.cg rfl (congrArg some h14) rfl rfl (X.call Try.call39 (evl_cons rfl (evl_cons rfl evl_nil))) (inL_ok _ _ p _ (Row.ext (Row.of_own oh) (Ext.trans hx8 hwL0)) (by omega)) ?_
          rintro v16 w15 ⟨rfl, hx17⟩
          have := World.grownBy.size hx17
          refine WL.vg rfl (congrArg some h14) rfl rfl (X.not rfl) ?_
          refine WL.va rfl rfl rfl (X.pickT rfl h14 rfl) ?_
          refine WL.nil ?_
          refine thn_n ?_
          refine WF.cond rfl (fun h2_19 => ?_) (fun h2_19 => ?_)
          · have gh2_19 := (of_decide_eq_false (nt h2_19))
            have hnin : p ∉ (places (m.g 0)) := gh2_19
            refine WF.seq ?_
            refine WF.region ?_
            refine WL.va rfl rfl rfl (X.assignI rfl) ?_
            refine WL.nil ?_
            refine thn_n ?_
            refine WF.ret ?_
            refine blk_r ?_
            refine thn_r ?_
            refine thn_r ?_
            refine blk_r ?_
            refine thn_r ?_
            refine fin_r ?_
            exact ⟨congrArg (Value.int .i64) (by unfold chk; rw [if_neg h0, if_pos (fun hb => hnz ((bare_FP.1 hb).1 p hp11 hnin))]), (Ext.trans (Ext.trans (Ext.trans (Ext.trans hx3 hx5) hx8) hwL0) hx17)⟩
          · have gh2_19 := (of_decide_eq_true (nf h2_19))
            have hst : p ∉ (places (m.g 0)) → m.g (cl p) = 0 := fun q => absurd (show p ∈ (places (m.g 0)) from gh2_19) q
            refine WF.skip ?_
            refine blk_n ?_
            refine thn_n ?_
            refine WF.region ?_
            refine WL.va rfl rfl rfl (X.moveI e5_L0) ?_
            refine WL.va rfl rfl rfl (X.add rfl rfl (w64 (by omega))) ?_
            refine WL.va rfl rfl rfl (X.assignI rfl) ?_
            refine WL.nil ?_
            exact thn_n ⟨_, (by omega), p + 1, rfl, rfl, (by repeat (first | exact hAL0 | refine Agree.put ?_ rfl | refine Agree.named hF10 ?_)), (Ext.trans hwL0 hx17), ⟨by omega, fun q hq => by rcases Nat.lt_succ_iff_lt_or_eq.1 hq with hq | rfl; exact hall q hq; exact hst⟩⟩
        · have gh14 := (Decidable.of_not_not (of_decide_eq_false h14))
          have hst : p ∉ (places (m.g 0)) → m.g (cl p) = 0 := fun _ => by have := gh14; rw [numL_get _ hp11] at this; exact this
          refine WL.p rfl rfl rfl (congrArg some h14) ?_
          refine WL.p rfl rfl rfl (congrArg some h14) ?_
          refine WL.p rfl rfl rfl (congrArg some h14) ?_
          refine WL.p rfl rfl rfl (congrArg some h14) ?_
          refine WL.va rfl rfl rfl (X.pickF rfl h14 rfl) ?_
          refine WL.nil ?_
          refine thn_n ?_
          refine WF.cond_f rfl ?_
          refine WF.skip ?_
          refine blk_n ?_
          refine thn_n ?_
          refine WF.region ?_
          refine WL.va rfl rfl rfl (X.moveI e5_L0) ?_
          refine WL.va rfl rfl rfl (X.add rfl rfl (w64 (by omega))) ?_
          refine WL.va rfl rfl rfl (X.assignI rfl) ?_
          refine WL.nil ?_
          exact thn_n ⟨_, (by omega), p + 1, rfl, rfl, (by repeat (first | exact hAL0 | refine Agree.put ?_ rfl | refine Agree.named hF10 ?_)), hwL0, ⟨by omega, fun q hq => by rcases Nat.lt_succ_iff_lt_or_eq.1 hq with hq | rfl; exact hall q hq; exact hst⟩⟩
      · have gh1_11 := (of_decide_eq_false h1_11)
        have hpe : p = 11 := by have := gh1_11; simp at this; omega
        refine WF.exit ?_
        refine thn_x ?_
        refine thn_x ?_
        refine blk_eq ?_
        refine thn_n ?_
        refine WF.seq ?_
        refine WF.named (fun F22 hF23 => ?_)
        refine WF.cut (fun f' w' => f' 59 = .bool (decide (¬ FP m)) ∧ Agree [0, 1, 3, 4, 5, 6, 7, 8, 9, 10, 11, 12, 13, 14, 15, 16, 17] f' F22 ∧ Ext wL0 w') ?_ ?_
        · refine WF.region ?_
          refine WL.va rfl rfl rfl (X.fieldAddrO (off := 14) ((congrFun hF23 1).trans ((hAL0.eq 1).trans (congrFun hF10 1))) Try.underlying25 rfl rfl Try.sizeOf4) ?_
          refine WL.va rfl rfl rfl (X.loadO hO1 (Ext.trans (Ext.trans hx5 hx8) hwL0) rfl rfl Try.isAgg4) ?_
          refine WL.va rfl rfl rfl (X.moveB rfl) ?_
          refine WL.split (j := 2) rfl (fun h25 => ?_) (fun h25 => ?_)
          · have gh25 := h25
            have hokT : m.ok = true := gh25
            refine WL.vg rfl (congrArg some h25) rfl rfl (X.move ((congrFun hF23 3).trans ((hAL0.eq 3).trans (congrFun hF10 3)))) ?_
            refine WL.cg rfl (congrArg some h25) rfl rfl (X.call Try.call39 (evl_cons rfl (evl_cons rfl evl_nil))) (inL_ok _ _ 11 _ (Row.ext (Row.of_own oh) (Ext.trans hx8 hwL0)) (by omega)) ?_
            rintro v27 w26 ⟨rfl, hx28⟩
            have := World.grownBy.size hx28
            refine WL.vg rfl (congrArg some h25) rfl rfl (X.not rfl) ?_
            refine WL.va rfl rfl rfl (X.pickT rfl h25 rfl) ?_
            refine WL.va rfl rfl rfl (X.moveB rfl) ?_
            refine WL.split (j := 7) rfl (fun h31 => ?_) (fun h31 => ?_)
            · have gh31 := (of_decide_eq_false (nt h31))
              have h11F := gh31
              refine WL.p rfl rfl rfl (congrArg some h31) ?_
              refine WL.p rfl rfl rfl (congrArg some h31) ?_
              refine WL.p rfl rfl rfl (congrArg some h31) ?_
              refine WL.p rfl rfl rfl (congrArg some h31) ?_
              refine WL.p rfl rfl rfl (congrArg some h31) ?_
              refine WL.pn rfl rfl rfl rfl ?_
              refine WL.pn rfl rfl rfl rfl ?_
              refine WL.pn rfl rfl rfl rfl ?_
              refine WL.p rfl rfl rfl (congrArg some h31) ?_
              refine WL.va rfl rfl rfl (X.pickT rfl h31 rfl) ?_
              refine WL.va rfl rfl rfl (X.moveB rfl) ?_
              refine WL.p rfl rfl rfl rfl ?_
              refine WL.p rfl rfl rfl rfl ?_
              refine WL.p rfl rfl rfl rfl ?_
              refine WL.p rfl rfl rfl rfl ?_
              refine WL.p rfl rfl rfl rfl ?_
              refine WL.pn rfl rfl rfl rfl ?_
              refine WL.pn rfl rfl rfl rfl ?_
              refine WL.pn rfl rfl rfl rfl ?_
              refine WL.p rfl rfl rfl rfl ?_
              refine WL.va rfl rfl rfl (X.pickT rfl rfl rfl) ?_
              refine WL.nil ?_
              refine thn_n ?_
              exact ⟨(Eq.trans rfl (congrArg Value.bool (by first
    | exact dec_t fun q => h11F (q.1 hokT)
    | exact dec_t fun q => h12F (q.2.1 hET)
    | (rw [← decide_not]; exact dec_iff ⟨fun hh q => hh (q.2.2 hDT), fun hh h13 => hh ⟨hA, hB, fun _ => h13⟩⟩)
    | exact dec_f (fun hh => hh ⟨hA, hB, fun q => absurd q hDF⟩)))), (by repeat (first | exact (Agree.refl _ F22) | refine Agree.put ?_ rfl | refine Agree.sub hAL0 rfl ?_ | refine Agree.named hF23 ?_ | refine Agree.named hF10 ?_)), hx28⟩
            · have gh31 := (of_decide_eq_true (nf h31))
              have hA : m.ok = true → 11 ∈ (places (m.g 0)) := fun _ => gh31
              refine WL.vg rfl (congrArg some h31) rfl rfl (X.fieldAddrO (off := 15) ((congrFun hF23 1).trans ((hAL0.eq 1).trans (congrFun hF10 1))) Try.underlying25 rfl rfl Try.sizeOf22) ?_
              refine WL.vg rfl (congrArg some h31) rfl rfl (X.loadO hO1 (Ext.trans (Ext.trans (Ext.trans hx5 hx8) hwL0) hx28) rfl rfl Try.isAgg22) ?_
              refine WL.vg rfl (congrArg some h31) rfl rfl (X.len rE2 rfl Try.underlying22) ?_
              refine WL.vg rfl (congrArg some h31) rfl rfl (X.gtr rfl rfl) ?_
              refine WL.vg rfl (congrArg some h31) rfl rfl (X.moveB rfl) ?_
              refine WL.split (j := 12) rfl (fun h35 => ?_) (fun h35 => ?_)
              · have gh35 := (of_decide_eq_true h35)
                have hET : 0 < m.E.length := by have := gh35; omega
                refine WL.vg rfl (congrArg some h35) rfl rfl (X.move ((congrFun hF23 3).trans ((hAL0.eq 3).trans (congrFun hF10 3)))) ?_
                refine WL.cg rfl (congrArg some h35) rfl rfl (X.call Try.call39 (evl_cons rfl (evl_cons rfl evl_nil))) (inL_ok _ _ 12 _ (Row.ext (Row.of_own oh) (Ext.trans (Ext.trans hx8 hwL0) hx28)) (by omega)) ?_
                rintro v37 w36 ⟨rfl, hx38⟩
                have := World.grownBy.size hx38
                refine WL.vg rfl (congrArg some h35) rfl rfl (X.not rfl) ?_
                refine WL.vg rfl (congrArg some h31) rfl rfl (X.pickT rfl h35 rfl) ?_
                refine WL.va rfl rfl rfl (X.pickF rfl h31 rfl) ?_
                refine WL.va rfl rfl rfl (X.moveB rfl) ?_
                refine WL.split (j := 18) rfl (fun h41 => ?_) (fun h41 => ?_)
                · have gh41 := (of_decide_eq_false (nt h41))
                  have h12F := gh41
                  refine WL.p rfl rfl rfl (congrArg some h41) ?_
                  refine WL.p rfl rfl rfl (congrArg some h41) ?_
                  refine WL.p rfl rfl rfl (congrArg some h41) ?_
                  refine WL.p rfl rfl rfl (congrArg some h41) ?_
                  refine WL.p rfl rfl rfl (congrArg some h41) ?_
                  refine WL.pn rfl rfl rfl rfl ?_
                  refine WL.pn rfl rfl rfl rfl ?_
                  refine WL.pn rfl rfl rfl rfl ?_
                  refine WL.p rfl rfl rfl (congrArg some h41) ?_
                  refine WL.va rfl rfl rfl (X.pickT rfl h41 rfl) ?_
                  refine WL.nil ?_
                  refine thn_n ?_
                  exact ⟨(Eq.trans rfl (congrArg Value.bool (by first
    | exact dec_t fun q => h11F (q.1 hokT)
    | exact dec_t fun q => h12F (q.2.1 hET)
    | (rw [← decide_not]; exact dec_iff ⟨fun hh q => hh (q.2.2 hDT), fun hh h13 => hh ⟨hA, hB, fun _ => h13⟩⟩)
    | exact dec_f (fun hh => hh ⟨hA, hB, fun q => absurd q hDF⟩)))), (by repeat (first | exact (Agree.refl _ F22) | refine Agree.put ?_ rfl | refine Agree.sub hAL0 rfl ?_ | refine Agree.named hF23 ?_ | refine Agree.named hF10 ?_)), (Ext.trans hx28 hx38)⟩
                · have gh41 := (of_decide_eq_true (nf h41))
                  have hB : 0 < m.E.length → 12 ∈ (places (m.g 0)) := fun _ => gh41
                  refine WL.vg rfl (congrArg some h41) rfl rfl (X.fieldAddrO (off := 16) ((congrFun hF23 1).trans ((hAL0.eq 1).trans (congrFun hF10 1))) Try.underlying25 rfl rfl Try.sizeOf23) ?_
                  refine WL.vg rfl (congrArg some h41) rfl rfl (X.loadO hO1 (Ext.trans (Ext.trans (Ext.trans (Ext.trans hx5 hx8) hwL0) hx28) hx38) rfl rfl Try.isAgg23) ?_
                  refine WL.vg rfl (congrArg some h41) rfl rfl (X.len h.D rfl Try.underlying23) ?_
                  refine WL.vg rfl (congrArg some h41) rfl rfl (X.gtr rfl rfl) ?_
                  refine WL.vg rfl (congrArg some h41) rfl rfl (X.moveB rfl) ?_
                  refine WL.split (j := 23) rfl (fun h44 => ?_) (fun h44 => ?_)
                  · have gh44 := (of_decide_eq_true h44)
                    have hDT : 0 < m.D.length := by have := gh44; omega
                    refine WL.vg rfl (congrArg some h44) rfl rfl (X.move ((congrFun hF23 3).trans ((hAL0.eq 3).trans (congrFun hF10 3)))) ?_
                    refine WL.cg rfl (congrArg some h44) rfl rfl (X.call Try.call39 (evl_cons rfl (evl_cons rfl evl_nil))) (inL_ok _ _ 13 _ (Row.ext (Row.of_own oh) (Ext.trans (Ext.trans (Ext.trans hx8 hwL0) hx28) hx38)) (by omega)) ?_
                    rintro v46 w45 ⟨rfl, hx47⟩
                    have := World.grownBy.size hx47
                    refine WL.vg rfl (congrArg some h44) rfl rfl (X.not rfl) ?_
                    refine WL.vg rfl (congrArg some h41) rfl rfl (X.pickT rfl h44 rfl) ?_
                    refine WL.va rfl rfl rfl (X.pickF rfl h41 rfl) ?_
                    refine WL.nil ?_
                    refine thn_n ?_
                    exact ⟨(Eq.trans rfl (congrArg Value.bool (by first
    | exact dec_t fun q => h11F (q.1 hokT)
    | exact dec_t fun q => h12F (q.2.1 hET)
    | (rw [← decide_not]; exact dec_iff ⟨fun hh q => hh (q.2.2 hDT), fun hh h13 => hh ⟨hA, hB, fun _ => h13⟩⟩)
    | exact dec_f (fun hh => hh ⟨hA, hB, fun q => absurd q hDF⟩)))), (by repeat (first | exact (Agree.refl _ F22) | refine Agree.put ?_ rfl | refine Agree.sub hAL0 rfl ?_ | refine Agree.named hF23 ?_ | refine Agree.named hF10 ?_)), (Ext.trans (Ext.trans hx28 hx38) hx47)⟩
                  · have gh44 := (of_decide_eq_false h44)
                    have hDF : ¬ 0 < m.D.length := by have := gh44; omega
                    refine WL.p rfl rfl rfl (congrArg some h44) ?_
                    refine WL.p rfl rfl rfl (congrArg some h44) ?_
                    refine WL.p rfl rfl rfl (congrArg some h44) ?_
                    refine WL.vg rfl (congrArg some h41) rfl rfl (X.pickF rfl h44 rfl) ?_
                    refine WL.va rfl rfl rfl (X.pickF rfl h41 rfl) ?_
                    refine WL.nil ?_
                    refine thn_n ?_
                    exact ⟨(Eq.trans rfl (congrArg Value.bool (by first
    | exact dec_t fun q => h11F (q.1 hokT)
    | exact dec_t fun q => h12F (q.2.1 hET)
    | (rw [← decide_not]; exact dec_iff ⟨fun hh q => hh (q.2.2 hDT), fun hh h13 => hh ⟨hA, hB, fun _ => h13⟩⟩)
    | exact dec_f (fun hh => hh ⟨hA, hB, fun q => absurd q hDF⟩)))), (by repeat (first | exact (Agree.refl _ F22) | refine Agree.put ?_ rfl | refine Agree.sub hAL0 rfl ?_ | refine Agree.named hF23 ?_ | refine Agree.named hF10 ?_)), (Ext.trans hx28 hx38)⟩
              · have gh35 := (of_decide_eq_false h35)
                have hB : 0 < m.E.length → 12 ∈ (places (m.g 0)) := fun q => absurd q (by have := gh35; omega)
                refine WL.p rfl rfl rfl (congrArg some h35) ?_
                refine WL.p rfl rfl rfl (congrArg some h35) ?_
                refine WL.p rfl rfl rfl (congrArg some h35) ?_
                refine WL.vg rfl (congrArg some h31) rfl rfl (X.pickF rfl h35 rfl) ?_
                refine WL.va rfl rfl rfl (X.pickF rfl h31 rfl) ?_
                refine WL.va rfl rfl rfl (X.moveB rfl) ?_
                refine WL.vg rfl rfl rfl rfl (X.fieldAddrO (off := 16) ((congrFun hF23 1).trans ((hAL0.eq 1).trans (congrFun hF10 1))) Try.underlying25 rfl rfl Try.sizeOf23) ?_
                refine WL.vg rfl rfl rfl rfl (X.loadO hO1 (Ext.trans (Ext.trans (Ext.trans hx5 hx8) hwL0) hx28) rfl rfl Try.isAgg23) ?_
                refine WL.vg rfl rfl rfl rfl (X.len h.D rfl Try.underlying23) ?_
                refine WL.vg rfl rfl rfl rfl (X.gtr rfl rfl) ?_
                refine WL.vg rfl rfl rfl rfl (X.moveB rfl) ?_
                refine WL.split (j := 23) rfl (fun h53 => ?_) (fun h53 => ?_)
                · have gh53 := (of_decide_eq_true h53)
                  have hDT : 0 < m.D.length := by have := gh53; omega
                  refine WL.vg rfl (congrArg some h53) rfl rfl (X.move ((congrFun hF23 3).trans ((hAL0.eq 3).trans (congrFun hF10 3)))) ?_
                  refine WL.cg rfl (congrArg some h53) rfl rfl (X.call Try.call39 (evl_cons rfl (evl_cons rfl evl_nil))) (inL_ok _ _ 13 _ (Row.ext (Row.of_own oh) (Ext.trans (Ext.trans hx8 hwL0) hx28)) (by omega)) ?_
                  rintro v55 w54 ⟨rfl, hx56⟩
                  have := World.grownBy.size hx56
                  refine WL.vg rfl (congrArg some h53) rfl rfl (X.not rfl) ?_
                  refine WL.vg rfl rfl rfl rfl (X.pickT rfl h53 rfl) ?_
                  refine WL.va rfl rfl rfl (X.pickF rfl rfl rfl) ?_
                  refine WL.nil ?_
                  refine thn_n ?_
                  exact ⟨(Eq.trans rfl (congrArg Value.bool (by first
    | exact dec_t fun q => h11F (q.1 hokT)
    | exact dec_t fun q => h12F (q.2.1 hET)
    | (rw [← decide_not]; exact dec_iff ⟨fun hh q => hh (q.2.2 hDT), fun hh h13 => hh ⟨hA, hB, fun _ => h13⟩⟩)
    | exact dec_f (fun hh => hh ⟨hA, hB, fun q => absurd q hDF⟩)))), (by repeat (first | exact (Agree.refl _ F22) | refine Agree.put ?_ rfl | refine Agree.sub hAL0 rfl ?_ | refine Agree.named hF23 ?_ | refine Agree.named hF10 ?_)), (Ext.trans hx28 hx56)⟩
                · have gh53 := (of_decide_eq_false h53)
                  have hDF : ¬ 0 < m.D.length := by have := gh53; omega
                  refine WL.p rfl rfl rfl (congrArg some h53) ?_
                  refine WL.p rfl rfl rfl (congrArg some h53) ?_
                  refine WL.p rfl rfl rfl (congrArg some h53) ?_
                  refine WL.vg rfl rfl rfl rfl (X.pickF rfl h53 rfl) ?_
                  refine WL.va rfl rfl rfl (X.pickF rfl rfl rfl) ?_
                  refine WL.nil ?_
                  refine thn_n ?_
                  exact ⟨(Eq.trans rfl (congrArg Value.bool (by first
    | exact dec_t fun q => h11F (q.1 hokT)
    | exact dec_t fun q => h12F (q.2.1 hET)
    | (rw [← decide_not]; exact dec_iff ⟨fun hh q => hh (q.2.2 hDT), fun hh h13 => hh ⟨hA, hB, fun _ => h13⟩⟩)
    | exact dec_f (fun hh => hh ⟨hA, hB, fun q => absurd q hDF⟩)))), (by repeat (first | exact (Agree.refl _ F22) | refine Agree.put ?_ rfl | refine Agree.sub hAL0 rfl ?_ | refine Agree.named hF23 ?_ | refine Agree.named hF10 ?_)), hx28⟩
          · have gh25 := h25
            have hokF : m.ok = false := gh25
            have hA : m.ok = true → 11 ∈ (places (m.g 0)) := fun e => by rw [hokF] at e; cases e
            refine WL.p rfl rfl rfl (congrArg some h25) ?_
            refine WL.p rfl rfl rfl (congrArg some h25) ?_
            refine WL.p rfl rfl rfl (congrArg some h25) ?_
            refine WL.va rfl rfl rfl (X.pickF rfl h25 rfl) ?_
            refine WL.va rfl rfl rfl (X.moveB rfl) ?_
            refine WL.vg rfl rfl rfl rfl (X.fieldAddrO (off := 15) ((congrFun hF23 1).trans ((hAL0.eq 1).trans (congrFun hF10 1))) Try.underlying25 rfl rfl Try.sizeOf22) ?_
            refine WL.vg rfl rfl rfl rfl (X.loadO hO1 (Ext.trans (Ext.trans hx5 hx8) hwL0) rfl rfl Try.isAgg22) ?_
            refine WL.vg rfl rfl rfl rfl (X.len rE2 rfl Try.underlying22) ?_
            refine WL.vg rfl rfl rfl rfl (X.gtr rfl rfl) ?_
            refine WL.vg rfl rfl rfl rfl (X.moveB rfl) ?_
            refine WL.split (j := 12) rfl (fun h62 => ?_) (fun h62 => ?_)
            · have gh62 := (of_decide_eq_true h62)
              have hET : 0 < m.E.length := by have := gh62; omega
              refine WL.vg rfl (congrArg some h62) rfl rfl (X.move ((congrFun hF23 3).trans ((hAL0.eq 3).trans (congrFun hF10 3)))) ?_
              refine WL.cg rfl (congrArg some h62) rfl rfl (X.call Try.call39 (evl_cons rfl (evl_cons rfl evl_nil))) (inL_ok _ _ 12 _ (Row.ext (Row.of_own oh) (Ext.trans hx8 hwL0)) (by omega)) ?_
              rintro v65 w63 ⟨rfl, hx66⟩
              have := World.grownBy.size hx66
              refine WL.vg rfl (congrArg some h62) rfl rfl (X.not rfl) ?_
              refine WL.vg rfl rfl rfl rfl (X.pickT rfl h62 rfl) ?_
              refine WL.va rfl rfl rfl (X.pickF rfl rfl rfl) ?_
              refine WL.va rfl rfl rfl (X.moveB rfl) ?_
              refine WL.split (j := 18) rfl (fun h69 => ?_) (fun h69 => ?_)
              · have gh69 := (of_decide_eq_false (nt h69))
                have h12F := gh69
                refine WL.p rfl rfl rfl (congrArg some h69) ?_
                refine WL.p rfl rfl rfl (congrArg some h69) ?_
                refine WL.p rfl rfl rfl (congrArg some h69) ?_
                refine WL.p rfl rfl rfl (congrArg some h69) ?_
                refine WL.p rfl rfl rfl (congrArg some h69) ?_
                refine WL.pn rfl rfl rfl rfl ?_
                refine WL.pn rfl rfl rfl rfl ?_
                refine WL.pn rfl rfl rfl rfl ?_
                refine WL.p rfl rfl rfl (congrArg some h69) ?_
                refine WL.va rfl rfl rfl (X.pickT rfl h69 rfl) ?_
                refine WL.nil ?_
                refine thn_n ?_
                exact ⟨(Eq.trans rfl (congrArg Value.bool (by first
    | exact dec_t fun q => h11F (q.1 hokT)
    | exact dec_t fun q => h12F (q.2.1 hET)
    | (rw [← decide_not]; exact dec_iff ⟨fun hh q => hh (q.2.2 hDT), fun hh h13 => hh ⟨hA, hB, fun _ => h13⟩⟩)
    | exact dec_f (fun hh => hh ⟨hA, hB, fun q => absurd q hDF⟩)))), (by repeat (first | exact (Agree.refl _ F22) | refine Agree.put ?_ rfl | refine Agree.sub hAL0 rfl ?_ | refine Agree.named hF23 ?_ | refine Agree.named hF10 ?_)), hx66⟩
              · have gh69 := (of_decide_eq_true (nf h69))
                have hB : 0 < m.E.length → 12 ∈ (places (m.g 0)) := fun _ => gh69
                refine WL.vg rfl (congrArg some h69) rfl rfl (X.fieldAddrO (off := 16) ((congrFun hF23 1).trans ((hAL0.eq 1).trans (congrFun hF10 1))) Try.underlying25 rfl rfl Try.sizeOf23) ?_
                refine WL.vg rfl (congrArg some h69) rfl rfl (X.loadO hO1 (Ext.trans (Ext.trans (Ext.trans hx5 hx8) hwL0) hx66) rfl rfl Try.isAgg23) ?_
                refine WL.vg rfl (congrArg some h69) rfl rfl (X.len h.D rfl Try.underlying23) ?_
                refine WL.vg rfl (congrArg some h69) rfl rfl (X.gtr rfl rfl) ?_
                refine WL.vg rfl (congrArg some h69) rfl rfl (X.moveB rfl) ?_
                refine WL.split (j := 23) rfl (fun h72 => ?_) (fun h72 => ?_)
                · have gh72 := (of_decide_eq_true h72)
                  have hDT : 0 < m.D.length := by have := gh72; omega
                  refine WL.vg rfl (congrArg some h72) rfl rfl (X.move ((congrFun hF23 3).trans ((hAL0.eq 3).trans (congrFun hF10 3)))) ?_
                  refine WL.cg rfl (congrArg some h72) rfl rfl (X.call Try.call39 (evl_cons rfl (evl_cons rfl evl_nil))) (inL_ok _ _ 13 _ (Row.ext (Row.of_own oh) (Ext.trans (Ext.trans hx8 hwL0) hx66)) (by omega)) ?_
                  rintro v74 w73 ⟨rfl, hx75⟩
                  have := World.grownBy.size hx75
                  refine WL.vg rfl (congrArg some h72) rfl rfl (X.not rfl) ?_
                  refine WL.vg rfl (congrArg some h69) rfl rfl (X.pickT rfl h72 rfl) ?_
                  refine WL.va rfl rfl rfl (X.pickF rfl h69 rfl) ?_
                  refine WL.nil ?_
                  refine thn_n ?_
                  exact ⟨(Eq.trans rfl (congrArg Value.bool (by first
    | exact dec_t fun q => h11F (q.1 hokT)
    | exact dec_t fun q => h12F (q.2.1 hET)
    | (rw [← decide_not]; exact dec_iff ⟨fun hh q => hh (q.2.2 hDT), fun hh h13 => hh ⟨hA, hB, fun _ => h13⟩⟩)
    | exact dec_f (fun hh => hh ⟨hA, hB, fun q => absurd q hDF⟩)))), (by repeat (first | exact (Agree.refl _ F22) | refine Agree.put ?_ rfl | refine Agree.sub hAL0 rfl ?_ | refine Agree.named hF23 ?_ | refine Agree.named hF10 ?_)), (Ext.trans hx66 hx75)⟩
                · have gh72 := (of_decide_eq_false h72)
                  have hDF : ¬ 0 < m.D.length := by have := gh72; omega
                  refine WL.p rfl rfl rfl (congrArg some h72) ?_
                  refine WL.p rfl rfl rfl (congrArg some h72) ?_
                  refine WL.p rfl rfl rfl (congrArg some h72) ?_
                  refine WL.vg rfl (congrArg some h69) rfl rfl (X.pickF rfl h72 rfl) ?_
                  refine WL.va rfl rfl rfl (X.pickF rfl h69 rfl) ?_
                  refine WL.nil ?_
                  refine thn_n ?_
                  exact ⟨(Eq.trans rfl (congrArg Value.bool (by first
    | exact dec_t fun q => h11F (q.1 hokT)
    | exact dec_t fun q => h12F (q.2.1 hET)
    | (rw [← decide_not]; exact dec_iff ⟨fun hh q => hh (q.2.2 hDT), fun hh h13 => hh ⟨hA, hB, fun _ => h13⟩⟩)
    | exact dec_f (fun hh => hh ⟨hA, hB, fun q => absurd q hDF⟩)))), (by repeat (first | exact (Agree.refl _ F22) | refine Agree.put ?_ rfl | refine Agree.sub hAL0 rfl ?_ | refine Agree.named hF23 ?_ | refine Agree.named hF10 ?_)), hx66⟩
            · have gh62 := (of_decide_eq_false h62)
              have hB : 0 < m.E.length → 12 ∈ (places (m.g 0)) := fun q => absurd q (by have := gh62; omega)
              refine WL.p rfl rfl rfl (congrArg some h62) ?_
              refine WL.p rfl rfl rfl (congrArg some h62) ?_
              refine WL.p rfl rfl rfl (congrArg some h62) ?_
              refine WL.vg rfl rfl rfl rfl (X.pickF rfl h62 rfl) ?_
              refine WL.va rfl rfl rfl (X.pickF rfl rfl rfl) ?_
              refine WL.va rfl rfl rfl (X.moveB rfl) ?_
              refine WL.vg rfl rfl rfl rfl (X.fieldAddrO (off := 16) ((congrFun hF23 1).trans ((hAL0.eq 1).trans (congrFun hF10 1))) Try.underlying25 rfl rfl Try.sizeOf23) ?_
              refine WL.vg rfl rfl rfl rfl (X.loadO hO1 (Ext.trans (Ext.trans hx5 hx8) hwL0) rfl rfl Try.isAgg23) ?_
              refine WL.vg rfl rfl rfl rfl (X.len h.D rfl Try.underlying23) ?_
              refine WL.vg rfl rfl rfl rfl (X.gtr rfl rfl) ?_
              refine WL.vg rfl rfl rfl rfl (X.moveB rfl) ?_
              refine WL.split (j := 23) rfl (fun h81 => ?_) (fun h81 => ?_)
              · have gh81 := (of_decide_eq_true h81)
                have hDT : 0 < m.D.length := by have := gh81; omega
                refine WL.vg rfl (congrArg some h81) rfl rfl (X.move ((congrFun hF23 3).trans ((hAL0.eq 3).trans (congrFun hF10 3)))) ?_
                refine WL.cg rfl (congrArg some h81) rfl rfl (X.call Try.call39 (evl_cons rfl (evl_cons rfl evl_nil))) (inL_ok _ _ 13 _ (Row.ext (Row.of_own oh) (Ext.trans hx8 hwL0)) (by omega)) ?_
                rintro v83 w82 ⟨rfl, hx84⟩
                have := World.grownBy.size hx84
                refine WL.vg rfl (congrArg some h81) rfl rfl (X.not rfl) ?_
                refine WL.vg rfl rfl rfl rfl (X.pickT rfl h81 rfl) ?_
                refine WL.va rfl rfl rfl (X.pickF rfl rfl rfl) ?_
                refine WL.nil ?_
                refine thn_n ?_
                exact ⟨(Eq.trans rfl (congrArg Value.bool (by first
    | exact dec_t fun q => h11F (q.1 hokT)
    | exact dec_t fun q => h12F (q.2.1 hET)
    | (rw [← decide_not]; exact dec_iff ⟨fun hh q => hh (q.2.2 hDT), fun hh h13 => hh ⟨hA, hB, fun _ => h13⟩⟩)
    | exact dec_f (fun hh => hh ⟨hA, hB, fun q => absurd q hDF⟩)))), (by repeat (first | exact (Agree.refl _ F22) | refine Agree.put ?_ rfl | refine Agree.sub hAL0 rfl ?_ | refine Agree.named hF23 ?_ | refine Agree.named hF10 ?_)), hx84⟩
              · have gh81 := (of_decide_eq_false h81)
                have hDF : ¬ 0 < m.D.length := by have := gh81; omega
                refine WL.p rfl rfl rfl (congrArg some h81) ?_
                refine WL.p rfl rfl rfl (congrArg some h81) ?_
                refine WL.p rfl rfl rfl (congrArg some h81) ?_
                refine WL.vg rfl rfl rfl rfl (X.pickF rfl h81 rfl) ?_
                refine WL.va rfl rfl rfl (X.pickF rfl rfl rfl) ?_
                refine WL.nil ?_
                refine thn_n ?_
                exact ⟨(Eq.trans rfl (congrArg Value.bool (by first
    | exact dec_t fun q => h11F (q.1 hokT)
    | exact dec_t fun q => h12F (q.2.1 hET)
    | (rw [← decide_not]; exact dec_iff ⟨fun hh q => hh (q.2.2 hDT), fun hh h13 => hh ⟨hA, hB, fun _ => h13⟩⟩)
    | exact dec_f (fun hh => hh ⟨hA, hB, fun q => absurd q hDF⟩)))), (by repeat (first | exact (Agree.refl _ F22) | refine Agree.put ?_ rfl | refine Agree.sub hAL0 rfl ?_ | refine Agree.named hF23 ?_ | refine Agree.named hF10 ?_)), (Ext.refl _)⟩
        · rintro fCr10 wCr10 ⟨e59_Cr10, hACr10, hwCr10⟩
          have := World.grownBy.size hwCr10
          refine WF.cond e59_Cr10 (fun h3_88 => ?_) (fun h3_88 => ?_)
          · have gh3_88 := (of_decide_eq_true h3_88)
            have hFP : ¬ FP m := gh3_88
            refine WF.seq ?_
            refine WF.region ?_
            refine WL.va rfl rfl rfl (X.assignI rfl) ?_
            refine WL.nil ?_
            refine thn_n ?_
            refine WF.ret ?_
            refine thn_r ?_
            refine fin_r ?_
            exact ⟨congrArg (Value.int .i64) (by unfold chk; rw [if_neg h0, if_pos (fun hb => hFP (bare_FP.1 hb).2)]), (Ext.trans (Ext.trans (Ext.trans (Ext.trans hx3 hx5) hx8) hwL0) hwCr10)⟩
          · have gh3_88 := (of_decide_eq_false h3_88)
            have hFP : FP m := Decidable.of_not_not gh3_88
            have hbare : m.bareP := bare_FP.2 ⟨fun q hq hn => hall q (by omega) hn, hFP⟩
            refine WF.skip ?_
            refine thn_n ?_
            refine WF.seq ?_
            refine WF.seq ?_
            refine WF.region ?_
            refine WL.va rfl rfl rfl (X.loadOA hO1 (Ext.trans (Ext.trans (Ext.trans hx5 hx8) hwL0) hwCr10) ((hACr10.eq 1).trans ((congrFun hF23 1).trans ((hAL0.eq 1).trans (congrFun hF10 1)))) rfl Try.isAgg25 Try.sizeOf25) ?_
            refine WL.c rfl rfl rfl (X.call Try.call40 (evl_cons rfl evl_nil)) (may_ok _ _ m _ (h.ext (Ext.trans (Ext.trans (Ext.trans (Ext.trans hx3 hx5) hx8) hwL0) hwCr10))) ?_
            rintro v91 w90 ⟨rfl, hx92⟩
            have := World.grownBy.size hx92
            refine WL.va rfl rfl rfl (X.not rfl) ?_
            refine WL.nil ?_
            refine thn_n ?_
            refine WF.cond rfl (fun h4_94 => ?_) (fun h4_94 => ?_)
            · have gh4_94 := (of_decide_eq_false (nt h4_94))
              have h2 : ¬ m.rangeP := gh4_94
              refine WF.seq ?_
              refine WF.region ?_
              refine WL.va rfl rfl rfl (X.assignI rfl) ?_
              refine WL.nil ?_
              refine thn_n ?_
              refine WF.ret ?_
              refine thn_r ?_
              refine fin_r ?_
              exact ⟨congrArg (Value.int .i64) (by unfold chk; rw [if_neg h0, if_neg (fun q => q hbare), if_pos h2]), (Ext.trans (Ext.trans (Ext.trans (Ext.trans (Ext.trans hx3 hx5) hx8) hwL0) hwCr10) hx92)⟩
            · have gh4_94 := (of_decide_eq_true (nf h4_94))
              have h2 : m.rangeP := gh4_94
              refine WF.skip ?_
              refine thn_n ?_
              refine WF.seq ?_
              refine WF.seq ?_
              refine WF.region ?_
              refine WL.va rfl rfl rfl (X.loadOA hO1 (Ext.trans (Ext.trans (Ext.trans (Ext.trans hx5 hx8) hwL0) hwCr10) hx92) ((hACr10.eq 1).trans ((congrFun hF23 1).trans ((hAL0.eq 1).trans (congrFun hF10 1)))) rfl Try.isAgg25 Try.sizeOf25) ?_
              refine WL.c rfl rfl rfl (X.call Try.call41 (evl_cons rfl evl_nil)) (long_ok _ _ m _ (h.ext (Ext.trans (Ext.trans (Ext.trans (Ext.trans (Ext.trans hx3 hx5) hx8) hwL0) hwCr10) hx92))) ?_
              rintro v97 w96 ⟨rfl, hx98⟩
              have := World.grownBy.size hx98
              refine WL.nil ?_
              refine thn_n ?_
              refine WF.cond rfl (fun h5_99 => ?_) (fun h5_99 => ?_)
              · have gh5_99 := (of_decide_eq_true h5_99)
                have h3 : ¬ m.fitsP := gh5_99
                refine WF.seq ?_
                refine WF.region ?_
                refine WL.va rfl rfl rfl (X.assignI rfl) ?_
                refine WL.nil ?_
                refine thn_n ?_
                refine WF.ret ?_
                refine thn_r ?_
                refine fin_r ?_
                exact ⟨congrArg (Value.int .i64) (by unfold chk; rw [if_neg h0, if_neg (fun q => q hbare), if_neg (fun q => q h2), if_pos h3]), (Ext.trans (Ext.trans (Ext.trans (Ext.trans (Ext.trans (Ext.trans hx3 hx5) hx8) hwL0) hwCr10) hx92) hx98)⟩
              · have gh5_99 := (of_decide_eq_false h5_99)
                have h3 : ¬ ¬ m.fitsP := gh5_99
                refine WF.skip ?_
                refine thn_n ?_
                refine WF.seq ?_
                refine WF.region ?_
                refine WL.va rfl rfl rfl (X.assignI rfl) ?_
                refine WL.nil ?_
                refine thn_n ?_
                refine WF.ret ?_
                refine fin_r ?_
                exact ⟨congrArg (Value.int .i64) (by unfold chk; rw [if_neg h0, if_neg (fun q => q hbare), if_neg (fun q => q h2), if_neg h3]), (Ext.trans (Ext.trans (Ext.trans (Ext.trans (Ext.trans (Ext.trans hx3 hx5) hx8) hwL0) hwCr10) hx92) hx98)⟩

end Go.Proofs.Ytccbpfbcaogcnaa
