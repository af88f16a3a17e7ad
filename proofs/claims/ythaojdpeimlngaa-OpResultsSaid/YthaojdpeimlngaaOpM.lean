/- The walk of the reference's Get. -/
import Derived.Test.YthaojdpeimlngaaOpL
import Derived.Test.YthaojdpeimlngaaOpQ
namespace Go.Proofs.Ythaojdpeimlngaa
open Go Go.RowKit Kf
set_option maxRecDepth 20000

/-- an operation whose lists are in memory of their own -/
structure OpO (w : World) (B : Nat) (vP vR vW vD : Value) (o : Od) : Prop where
  len : o.n.length = 13
  inn : ∀ k, -9223372036854775808 ≤ o.n.getD k 0 ∧ o.n.getD k 0 ≤ 9223372036854775807
  P : OwnI w B 3 vP o.P
  R : OwnI w B 3 vR o.R
  W : ∃ F, F.map Prod.fst = o.W ∧ WOwn w B vW F
  D : OwnB w B 5 vD o.D
theorem OpO.at {w : World} {B : Nat} {vP vR vW vD : Value} {o : Od} (h : OpO w B vP vR vW vD o) : OpAt w vP vR vW vD o := by
  obtain ⟨F, hF, hW⟩ := h.W
  exact ⟨h.len, h.inn, Row.of_own h.P, Row.of_own h.R, hW.sessE hF, Row.of_own h.D⟩
theorem OpO.ext {w w' : World} {B : Nat} {vP vR vW vD : Value} {o : Od} (h : OpO w B vP vR vW vD o) (g : Ext w w') : OpO w' B vP vR vW vD o := by
  obtain ⟨F, hF, hW⟩ := h.W
  exact ⟨h.len, h.inn, own_ext h.P g, own_ext h.R g, ⟨F, hF, hW.ext g⟩, own_ext h.D g⟩
theorem OpO.keptO {w w' : World} {B b : Nat} {vP vR vW vD : Value} {o : Od} (h : OpO w B vP vR vW vD o) (g : w.grownBy w' (some b)) (hb : b < B ∨ w.heap.size ≤ b) : OpO w' B vP vR vW vD o := by
  obtain ⟨F, hF, hW⟩ := h.W
  exact ⟨h.len, h.inn, own_keptO h.P g hb, own_keptO h.R g hb, ⟨F, hF, hW.keptO g hb⟩, own_keptO h.D g hb⟩
theorem getL_small {n : List Int} {s : Pk.RS} {o : Od} {s' : Pk.RS} (h : getL n s = some (o, s')) (hl : s.left.length ≤ 1000000) : o.small := by
  unfold getL at h
  simp only at h
  split at h
  · cases h
  · injection h with h
    injection h with ho hs
    have le1 := ints_le s
    have le2 := ints_le s.ints.2
    have le3 := int_le s.ints.2.ints.2
    have le4 := rdW_le s.ints.2.ints.2.int.2 s.ints.2.ints.2.int.1.toNat
    rw [← ho]
    exact ⟨(by show s.ints.1.length ≤ _; omega), (by show s.ints.2.ints.1.length ≤ _; omega), (by show (rdW _ _).1.length ≤ _; rw [rdW_len]; omega), Nat.zero_le _, fun x hx => by have := le4.2 x hx; omega⟩
theorem fints_get2 {L : List Nat} {i : Nat} (h : i < L.length) : (fints L).getD i 0 = ((L[i] : Nat) : Int) := by simp [fints, List.getD_eq_getElem?_getD, h]
theorem getN_step {l : List UInt8} {k : Int} {i : Nat} (hi : i < (fieldL k).length) : getN (n0 l) (s3 l) ((offL k).take (i + 1)) = ((getN (n0 l) (s3 l) ((offL k).take i)).1.set (fo (fieldL k)[i]) (getN (n0 l) (s3 l) ((offL k).take i)).2.int.1, (getN (n0 l) (s3 l) ((offL k).take i)).2.int.2) := by
  have hi2 : i < (offL k).length := by rw [offL_flen]; exact hi
  rw [getN_snoc hi2]
  have e : (offL k)[i] = fo (fieldL k)[i] := by simp [offL_fields]
  rw [e]
theorem got_n2 {l : List UInt8} (h : (fields ((n0 l).getD 0 0)).isSome = false) : got l = (noOp, 4) := got_n1 (by rw [offs_fields]; simpa using h)
theorem got_s2 {l : List UInt8} (h : (fields ((n0 l).getD 0 0)).isSome = true) : got l = fin1 (getB (getN (n0 l) (s3 l) (offL ((n0 l).getD 0 0))).1 (getN (n0 l) (s3 l) (offL ((n0 l).getD 0 0))).2) := got_s (by rw [offs_fields]; simpa using h)
theorem fin_none {x : Option (Od × Pk.RS)} {s : Pk.RS} (h : x = none) (hb : s.bad = true) : fin1 x = (noOp, s.err) := by rw [h]; simp [fin1, Pk.RS.err, hb]
set_option maxHeartbeats 1600000 in
theorem fieldsO_ok (kd : Int) (w : World) : FnOk Try.prog 39 [i64 kd] w (fun r w' => (∃ v, r = .tuple #[v, .bool (fields kd).isSome] ∧ OwnI w' w.heap.size 3 v (fints (fieldL kd))) ∧ Ext w w') := by
  refine FnOk.enter (rs := [2, 3]) Try.func39 rfl Try.ntmps39 Try.results39 rfl rfl ?_
  refine WF.seq ?_
  refine WF.region ?_
  refine WL.va rfl rfl rfl (X.assign rfl) ?_
  refine WL.va rfl rfl rfl (X.assignB rfl) ?_
  refine WL.nil ?_
  refine thn_n ?_
  refine WF.seq ?_
  refine WF.seq ?_
  refine WF.region ?_
  refine WL.va rfl rfl rfl (X.moveI rfl) ?_
  refine WL.nil ?_
  refine thn_n ?_
  refine WF.block ?_
  refine WF.seq ?_
  refine WF.region ?_
  refine WL.va rfl rfl rfl (X.eql rfl rfl) ?_
  refine WL.va rfl rfl rfl (X.assignB rfl) ?_
  refine WL.nil ?_
  refine thn_n ?_
  refine WF.cond rfl (fun h0_2 => ?_) (fun h0_2 => ?_)
  · have gh0_2 := (of_decide_eq_true h0_2)
    have hF : fields kd = some [0, 1, 2, 6] := by rw [gh0_2]; rfl
    refine WF.seq ?_
    refine WF.region ?_
    refine WL.op rfl (OW.lits (vs := [_, _, _, _]) (evp_cons rfl (evp_cons rfl (evp_cons rfl (evp_cons rfl evp_nil)))) Try.underlying22 Try.sizeOf3 Try.zeroValue3 ⟨rfl, rfl, rfl, rfl, trivial⟩ rfl rfl rfl ?_ (by decide))
    intro v5 w4 ho7 hx6
    have oq : OwnI w4 w.heap.size 3 v5 (fints [0, 1, 2, 6]) := ho7
    refine WL.va rfl rfl rfl (X.assign rfl) ?_
    refine WL.va rfl rfl rfl (X.assignB rfl) ?_
    refine WL.nil ?_
    refine thn_n ?_
    refine WF.ret ?_
    refine blk_r ?_
    refine thn_r ?_
    refine fin_r ?_
    exact ⟨⟨_, by rw [hF]; rfl, by (unfold fieldL; rw [hF]; exact oq)⟩, hx6⟩
  · have gh0_2 := (of_decide_eq_false h0_2)
    refine WF.seq ?_
    refine WF.region ?_
    refine WL.va rfl rfl rfl (X.eql rfl rfl) ?_
    refine WL.va rfl rfl rfl (X.assignB rfl) ?_
    refine WL.nil ?_
    refine thn_n ?_
    refine WF.cond rfl (fun h1_9 => ?_) (fun h1_9 => ?_)
    · have gh1_9 := (of_decide_eq_true h1_9)
      have hF : fields kd = some [0, 1, 2, 3, 4, 5] := by rw [gh1_9]; rfl
      refine WF.seq ?_
      refine WF.region ?_
      refine WL.op rfl (OW.lits (vs := [_, _, _, _, _, _]) (evp_cons rfl (evp_cons rfl (evp_cons rfl (evp_cons rfl (evp_cons rfl (evp_cons rfl evp_nil)))))) Try.underlying22 Try.sizeOf3 Try.zeroValue3 ⟨rfl, rfl, rfl, rfl, rfl, rfl, trivial⟩ rfl rfl rfl ?_ (by decide))
      intro v12 w11 ho14 hx13
      have oq : OwnI w11 w.heap.size 3 v12 (fints [0, 1, 2, 3, 4, 5]) := ho14
      refine WL.va rfl rfl rfl (X.assign rfl) ?_
      refine WL.va rfl rfl rfl (X.assignB rfl) ?_
      refine WL.nil ?_
      refine thn_n ?_
      refine WF.ret ?_
      refine blk_r ?_
      refine thn_r ?_
      refine fin_r ?_
      exact ⟨⟨_, by rw [hF]; rfl, by (unfold fieldL; rw [hF]; exact oq)⟩, hx13⟩
    · have gh1_9 := (of_decide_eq_false h1_9)
      refine WF.seq ?_
      refine WF.region ?_
      refine WL.va rfl rfl rfl (X.eql rfl rfl) ?_
      refine WL.va rfl rfl rfl (X.assignB rfl) ?_
      refine WL.nil ?_
      refine thn_n ?_
      refine WF.cond rfl (fun h2_16 => ?_) (fun h2_16 => ?_)
      · have gh2_16 := (of_decide_eq_true h2_16)
        have hF : fields kd = some [0, 7] := by rw [gh2_16]; rfl
        refine WF.seq ?_
        refine WF.region ?_
        refine WL.op rfl (OW.lits (vs := [_, _]) (evp_cons rfl (evp_cons rfl evp_nil)) Try.underlying22 Try.sizeOf3 Try.zeroValue3 ⟨rfl, rfl, trivial⟩ rfl rfl rfl ?_ (by decide))
        intro v19 w18 ho21 hx20
        have oq : OwnI w18 w.heap.size 3 v19 (fints [0, 7]) := ho21
        refine WL.va rfl rfl rfl (X.assign rfl) ?_
        refine WL.va rfl rfl rfl (X.assignB rfl) ?_
        refine WL.nil ?_
        refine thn_n ?_
        refine WF.ret ?_
        refine blk_r ?_
        refine thn_r ?_
        refine fin_r ?_
        exact ⟨⟨_, by rw [hF]; rfl, by (unfold fieldL; rw [hF]; exact oq)⟩, hx20⟩
      · have gh2_16 := (of_decide_eq_false h2_16)
        refine WF.seq ?_
        refine WF.region ?_
        refine WL.va rfl rfl rfl (X.eql rfl rfl) ?_
        refine WL.va rfl rfl rfl (X.assignB rfl) ?_
        refine WL.nil ?_
        refine thn_n ?_
        refine WF.cond rfl (fun h3_23 => ?_) (fun h3_23 => ?_)
        · have gh3_23 := (of_decide_eq_true h3_23)
          have hF : fields kd = some [3, 2, 6] := by rw [gh3_23]; rfl
          refine WF.seq ?_
          refine WF.region ?_
          refine WL.op rfl (OW.lits (vs := [_, _, _]) (evp_cons rfl (evp_cons rfl (evp_cons rfl evp_nil))) Try.underlying22 Try.sizeOf3 Try.zeroValue3 ⟨rfl, rfl, rfl, trivial⟩ rfl rfl rfl ?_ (by decide))
          intro v26 w25 ho28 hx27
          have oq : OwnI w25 w.heap.size 3 v26 (fints [3, 2, 6]) := ho28
          refine WL.va rfl rfl rfl (X.assign rfl) ?_
          refine WL.va rfl rfl rfl (X.assignB rfl) ?_
          refine WL.nil ?_
          refine thn_n ?_
          refine WF.ret ?_
          refine blk_r ?_
          refine thn_r ?_
          refine fin_r ?_
          exact ⟨⟨_, by rw [hF]; rfl, by (unfold fieldL; rw [hF]; exact oq)⟩, hx27⟩
        · have gh3_23 := (of_decide_eq_false h3_23)
          refine WF.seq ?_
          refine WF.seq ?_
          refine WF.region ?_
          refine WL.va rfl rfl rfl (X.eql rfl rfl) ?_
          refine WL.va rfl rfl rfl (X.assignB rfl) ?_
          refine WL.nil ?_
          refine thn_n ?_
          refine WF.cond rfl (fun h4_30 => ?_) (fun h4_30 => ?_)
          · have gh4_30 := (of_decide_eq_true h4_30)
            have hF : fields kd = some [2, 4, 5] := by rw [gh4_30]; rfl
            refine WF.skip ?_
            refine thn_n ?_
            refine WF.cond_t ((rfl : _ = Value.bool _).trans (congrArg Value.bool h4_30)) ?_
            refine WF.seq ?_
            refine WF.region ?_
            refine WL.op rfl (OW.lits (vs := [_, _, _]) (evp_cons rfl (evp_cons rfl (evp_cons rfl evp_nil))) Try.underlying22 Try.sizeOf3 Try.zeroValue3 ⟨rfl, rfl, rfl, trivial⟩ rfl rfl rfl ?_ (by decide))
            intro v33 w32 ho35 hx34
            have oq : OwnI w32 w.heap.size 3 v33 (fints [2, 4, 5]) := ho35
            refine WL.va rfl rfl rfl (X.assign rfl) ?_
            refine WL.va rfl rfl rfl (X.assignB rfl) ?_
            refine WL.nil ?_
            refine thn_n ?_
            refine WF.ret ?_
            refine blk_r ?_
            refine thn_r ?_
            refine fin_r ?_
            exact ⟨⟨_, by rw [hF]; rfl, by (unfold fieldL; rw [hF]; exact oq)⟩, hx34⟩
          · have gh4_30 := (of_decide_eq_false h4_30)
            refine WF.region ?_
            refine WL.va rfl rfl rfl (X.eql rfl rfl) ?_
            refine WL.va rfl rfl rfl (X.assignB rfl) ?_
            refine WL.nil ?_
            refine thn_n ?_
            refine WF.cond rfl (fun h5_37 => ?_) (fun h5_37 => ?_)
            · have gh5_37 := (of_decide_eq_true h5_37)
              have hF : fields kd = some [2, 4, 5] := by rw [show kd = 6 from gh5_37]; rfl
              refine WF.seq ?_
              refine WF.region ?_
              refine WL.op rfl (OW.lits (vs := [_, _, _]) (evp_cons rfl (evp_cons rfl (evp_cons rfl evp_nil))) Try.underlying22 Try.sizeOf3 Try.zeroValue3 ⟨rfl, rfl, rfl, trivial⟩ rfl rfl rfl ?_ (by decide))
              intro v40 w39 ho42 hx41
              have oq : OwnI w39 w.heap.size 3 v40 (fints [2, 4, 5]) := ho42
              refine WL.va rfl rfl rfl (X.assign rfl) ?_
              refine WL.va rfl rfl rfl (X.assignB rfl) ?_
              refine WL.nil ?_
              refine thn_n ?_
              refine WF.ret ?_
              refine blk_r ?_
              refine thn_r ?_
              refine fin_r ?_
              exact ⟨⟨_, by rw [hF]; rfl, by (unfold fieldL; rw [hF]; exact oq)⟩, hx41⟩
            · have gh5_37 := (of_decide_eq_false h5_37)
              refine WF.seq ?_
              refine WF.seq ?_
              refine WF.region ?_
              refine WL.va rfl rfl rfl (X.eql rfl rfl) ?_
              refine WL.va rfl rfl rfl (X.assignB rfl) ?_
              refine WL.nil ?_
              refine thn_n ?_
              refine WF.cond rfl (fun h6_44 => ?_) (fun h6_44 => ?_)
              · have gh6_44 := (of_decide_eq_true h6_44)
                have hF : fields kd = some [2] := by rw [gh6_44]; rfl
                refine WF.skip ?_
                refine thn_n ?_
                refine WF.cond_t ((rfl : _ = Value.bool _).trans (congrArg Value.bool h6_44)) ?_
                refine WF.seq ?_
                refine WF.region ?_
                refine WL.op rfl (OW.lits (vs := [_]) (evp_cons rfl evp_nil) Try.underlying22 Try.sizeOf3 Try.zeroValue3 ⟨rfl, trivial⟩ rfl rfl rfl ?_ (by decide))
                intro v47 w46 ho49 hx48
                have oq : OwnI w46 w.heap.size 3 v47 (fints [2]) := ho49
                refine WL.va rfl rfl rfl (X.assign rfl) ?_
                refine WL.va rfl rfl rfl (X.assignB rfl) ?_
                refine WL.nil ?_
                refine thn_n ?_
                refine WF.ret ?_
                refine blk_r ?_
                refine thn_r ?_
                refine fin_r ?_
                exact ⟨⟨_, by rw [hF]; rfl, by (unfold fieldL; rw [hF]; exact oq)⟩, hx48⟩
              · have gh6_44 := (of_decide_eq_false h6_44)
                refine WF.region ?_
                refine WL.va rfl rfl rfl (X.eql rfl rfl) ?_
                refine WL.va rfl rfl rfl (X.assignB rfl) ?_
                refine WL.nil ?_
                refine thn_n ?_
                refine WF.cond rfl (fun h7_51 => ?_) (fun h7_51 => ?_)
                · have gh7_51 := (of_decide_eq_true h7_51)
                  have hF : fields kd = some [2] := by rw [show kd = 10 from gh7_51]; rfl
                  refine WF.seq ?_
                  refine WF.region ?_
                  refine WL.op rfl (OW.lits (vs := [_]) (evp_cons rfl evp_nil) Try.underlying22 Try.sizeOf3 Try.zeroValue3 ⟨rfl, trivial⟩ rfl rfl rfl ?_ (by decide))
                  intro v54 w53 ho56 hx55
                  have oq : OwnI w53 w.heap.size 3 v54 (fints [2]) := ho56
                  refine WL.va rfl rfl rfl (X.assign rfl) ?_
                  refine WL.va rfl rfl rfl (X.assignB rfl) ?_
                  refine WL.nil ?_
                  refine thn_n ?_
                  refine WF.ret ?_
                  refine blk_r ?_
                  refine thn_r ?_
                  refine fin_r ?_
                  exact ⟨⟨_, by rw [hF]; rfl, by (unfold fieldL; rw [hF]; exact oq)⟩, hx55⟩
                · have gh7_51 := (of_decide_eq_false h7_51)
                  refine WF.seq ?_
                  refine WF.region ?_
                  refine WL.va rfl rfl rfl (X.eql rfl rfl) ?_
                  refine WL.va rfl rfl rfl (X.assignB rfl) ?_
                  refine WL.nil ?_
                  refine thn_n ?_
                  refine WF.cond rfl (fun h8_58 => ?_) (fun h8_58 => ?_)
                  · have gh8_58 := (of_decide_eq_true h8_58)
                    have hF : fields kd = some [] := by rw [gh8_58]; rfl
                    have oq : OwnI w w.heap.size 3 (.slice none 0 0) (fints []) := World.ownsRow_nil _ _ _ _
                    refine WF.seq ?_
                    refine WF.region ?_
                    refine WL.va rfl rfl rfl (X.assign rfl) ?_
                    refine WL.va rfl rfl rfl (X.assignB rfl) ?_
                    refine WL.nil ?_
                    refine thn_n ?_
                    refine WF.ret ?_
                    refine blk_r ?_
                    refine thn_r ?_
                    refine fin_r ?_
                    exact ⟨⟨_, by rw [hF]; rfl, by (unfold fieldL; rw [hF]; exact oq)⟩, (Ext.refl _)⟩
                  · have gh8_58 := (of_decide_eq_false h8_58)
                    refine WF.seq ?_
                    refine WF.region ?_
                    refine WL.va rfl rfl rfl (X.eql rfl rfl) ?_
                    refine WL.va rfl rfl rfl (X.assignB rfl) ?_
                    refine WL.nil ?_
                    refine thn_n ?_
                    refine WF.cond rfl (fun h9_61 => ?_) (fun h9_61 => ?_)
                    · have gh9_61 := (of_decide_eq_true h9_61)
                      have hF : fields kd = some [8, 9, 4, 5] := by rw [gh9_61]; rfl
                      refine WF.seq ?_
                      refine WF.region ?_
                      refine WL.op rfl (OW.lits (vs := [_, _, _, _]) (evp_cons rfl (evp_cons rfl (evp_cons rfl (evp_cons rfl evp_nil)))) Try.underlying22 Try.sizeOf3 Try.zeroValue3 ⟨rfl, rfl, rfl, rfl, trivial⟩ rfl rfl rfl ?_ (by decide))
                      intro v65 w63 ho67 hx66
                      have oq : OwnI w63 w.heap.size 3 v65 (fints [8, 9, 4, 5]) := ho67
                      refine WL.va rfl rfl rfl (X.assign rfl) ?_
                      refine WL.va rfl rfl rfl (X.assignB rfl) ?_
                      refine WL.nil ?_
                      refine thn_n ?_
                      refine WF.ret ?_
                      refine blk_r ?_
                      refine thn_r ?_
                      refine fin_r ?_
                      exact ⟨⟨_, by rw [hF]; rfl, by (unfold fieldL; rw [hF]; exact oq)⟩, hx66⟩
                    · have gh9_61 := (of_decide_eq_false h9_61)
                      refine WF.seq ?_
                      refine WF.region ?_
                      refine WL.va rfl rfl rfl (X.eql rfl rfl) ?_
                      refine WL.va rfl rfl rfl (X.assignB rfl) ?_
                      refine WL.nil ?_
                      refine thn_n ?_
                      refine WF.cond rfl (fun h10_69 => ?_) (fun h10_69 => ?_)
                      · have gh10_69 := (of_decide_eq_true h10_69)
                        have hF : fields kd = some [9, 7] := by rw [gh10_69]; rfl
                        refine WF.seq ?_
                        refine WF.region ?_
                        refine WL.op rfl (OW.lits (vs := [_, _]) (evp_cons rfl (evp_cons rfl evp_nil)) Try.underlying22 Try.sizeOf3 Try.zeroValue3 ⟨rfl, rfl, trivial⟩ rfl rfl rfl ?_ (by decide))
                        intro v72 w71 ho74 hx73
                        have oq : OwnI w71 w.heap.size 3 v72 (fints [9, 7]) := ho74
                        refine WL.va rfl rfl rfl (X.assign rfl) ?_
                        refine WL.va rfl rfl rfl (X.assignB rfl) ?_
                        refine WL.nil ?_
                        refine thn_n ?_
                        refine WF.ret ?_
                        refine blk_r ?_
                        refine thn_r ?_
                        refine fin_r ?_
                        exact ⟨⟨_, by rw [hF]; rfl, by (unfold fieldL; rw [hF]; exact oq)⟩, hx73⟩
                      · have gh10_69 := (of_decide_eq_false h10_69)
                        have hF : fields kd = none := by
                          have hq := fields_isSome kd
                          rw [decide_eq_false (by omega)] at hq
                          cases hz : fields kd with
                          | none => rfl
                          | some L => rw [hz] at hq; cases hq
                        have oq : OwnI w w.heap.size 3 (.slice none 0 0) (fints []) := World.ownsRow_nil _ _ _ _
                        refine WF.skip ?_
                        refine blk_n ?_
                        refine thn_n ?_
                        refine WF.seq ?_
                        refine WF.region ?_
                        refine WL.va rfl rfl rfl (X.assign rfl) ?_
                        refine WL.va rfl rfl rfl (X.assignB rfl) ?_
                        refine WL.nil ?_
                        refine thn_n ?_
                        refine WF.ret ?_
                        refine fin_r ?_
                        exact ⟨⟨_, by rw [hF]; rfl, by (unfold fieldL; rw [hF]; exact oq)⟩, (Ext.refl _)⟩

set_option maxHeartbeats 4000000 in
theorem getR_ok (v : Value) (l : List UInt8) (w : World) (hb : Bytes w v l) (hl : l.length ≤ 1000000) : FnOk Try.prog 22 [v] w (fun r w' => (∃ v1 v2 v3 v4, r = .tuple #[agg (oc (got l).1.n v1 v2 v3 v4), i64 (got l).2] ∧ OpAt w' v1 v2 v3 v4 (got l).1) ∧ Ext w w') := by
  have hfl6 := fieldL_len ((n0 l).getD 0 0)
  refine FnOk.enterC (rs := [.cell 2 26, .tmp 3]) Try.func22 rfl Try.ntmps22 Try.results22 rfl rfl ?_
  refine WF.seq ?_
  refine WF.region ?_
  refine WL.op rfl (OW.allocO (cs := [i64 0, i64 0, i64 0, i64 0, i64 0, i64 0, i64 0, i64 0, i64 0, i64 0, i64 0, i64 0, i64 0, .slice none 0 0, .slice none 0 0, .slice none 0 0, .slice none 0 0]) Try.zeroValue26 rfl ?_ (by decide))
  intro g2 w1 heg2 hlg2 hO2 hx2
  have := World.grownBy.size hx2
  refine WL.va rfl rfl rfl (X.assignI rfl) ?_
  refine WL.nil ?_
  refine thn_n ?_
  refine WF.seq ?_
  refine WF.region ?_
  refine WL.va rfl rfl rfl (X.move rfl) ?_
  refine WL.c rfl rfl rfl (X.call Try.call66 (evl_cons rfl evl_nil)) (qRead_ok _ _ _ (Row.ext hb hx2) (by omega)) ?_
  rintro vr wr ⟨⟨vbb, hp0⟩, hx4⟩
  have := World.grownBy.size hx4
  obtain ⟨B, hBe⟩ : ∃ B, B = w1.heap.size := ⟨_, rfl⟩
  rw [← hBe] at hp0
  have hrl := hp0.lt.1
  have hDl := hp0.lt.2
  have hrw : ∀ i, (asRow vr).ownBlock = some i → w.heap.size ≤ i := fun i hi => by have := hrl i hi; omega
  refine WL.va rfl rfl rfl (X.assign rfl) ?_
  refine WL.nil ?_
  refine thn_n ?_
  refine WF.seq ?_
  refine WF.region ?_
  refine WL.va rfl rfl rfl (X.move rfl) ?_
  refine WL.c rfl rfl rfl (X.call Try.call67 (evl_cons rfl evl_nil)) (qInt_ok vr _ l _ _ _ _ hp0) ?_
  rintro v6 w5 ⟨rfl, ⟨a1, hp1⟩, hx7⟩
  have := World.grownBy.size hx7
  replace hO2 := (hO2.ext hx4).keptR hx7 (fun b hb => by have := hrl b hb; omega)
  refine WL.va rfl rfl rfl (X.buildT (P := Try.prog) (t := 26) (cs := (oc [(⟨l, false⟩ : Pk.RS).int.1, 0, 0, 0, 0, 0, 0, 0, 0, 0, 0, 0, 0] (.slice none 0 0) (.slice none 0 0) (.slice none 0 0) (.slice none 0 0))) (zs := [i64 0, i64 0, i64 0, i64 0, i64 0, i64 0, i64 0, i64 0, i64 0, i64 0, i64 0, i64 0, i64 0, .slice none 0 0, .slice none 0 0, .slice none 0 0, .slice none 0 0]) (places := [(0, 1), (1, 1), (2, 1), (3, 1), (4, 1), (5, 1), (6, 1), (7, 1), (8, 1), (9, 1), (10, 1), (11, 1), (12, 1), (13, 1), (14, 1), (15, 1), (16, 1)]) (n := 17) (evp_cons rfl evp_nil) Try.type26 Try.underlying26 rfl rfl ⟨rfl, trivial⟩ rfl rfl rfl) ?_
  refine WL.op rfl (OW.allocO (cs := [i64 0, i64 0, i64 0, i64 0, i64 0, i64 0, i64 0, i64 0, i64 0, i64 0, i64 0, i64 0, i64 0, .slice none 0 0, .slice none 0 0, .slice none 0 0, .slice none 0 0]) Try.zeroValue26 rfl ?_ (by decide))
  intro g5 wA heg5 hlg5 hO5 hx9
  have := World.grownBy.size hx9
  have gA := hx9
  refine WL.op rfl (OW.storeOA hO5 rfl rfl rfl (oc_ones _ rfl rfl rfl rfl) Try.sizeOf26 ?_)
  intro w11 hO5 hx13
  have := World.grownBy.size hx13
  replace hO2 := (hO2.ext hx9).keptO hx13 (by omega)
  have hp1s := (hp1.ext gA).kept hx13 (.inr fun e => by have := (hrl _ e).2; omega) (.inr fun e => by have := (hDl _ e).2; omega)
  refine WL.nil ?_
  refine thn_n ?_
  refine WF.seq ?_
  refine WF.region ?_
  refine WL.va rfl rfl rfl (X.move rfl) ?_
  refine WL.c rfl rfl rfl (X.call Try.call67 (evl_cons rfl evl_nil)) (qInt_ok vr _ l _ _ _ _ hp1s) ?_
  rintro v16 w15 ⟨rfl, ⟨a2, hp2⟩, hx17⟩
  have := World.grownBy.size hx17
  replace hO2 := hO2.keptR hx17 (fun b hb => by have := hrl b hb; omega)
  replace hO5 := hO5.keptR hx17 (fun b hb => by have := hrl b hb; omega)
  refine WL.va rfl rfl rfl (X.fieldAddrO (off := 1) rfl Try.underlying26 rfl rfl Try.sizeOf3) ?_
  refine WL.op rfl (OW.storeO hO5 (Nat.le_of_ble_eq_true rfl) rfl rfl rfl Try.sizeOf3 ?_)
  intro w18 hO5 hx20
  have := World.grownBy.size hx20
  replace hO2 := hO2.keptO hx20 (by omega)
  replace hO5 : Blk _ _ _ (oc [(⟨l, false⟩ : Pk.RS).int.1, (⟨l, false⟩ : Pk.RS).int.2.int.1, 0, 0, 0, 0, 0, 0, 0, 0, 0, 0, 0] (.slice none 0 0) (.slice none 0 0) (.slice none 0 0) (.slice none 0 0)) := hO5
  have hp2s := hp2.kept hx20 (.inr fun e => by have := (hrl _ e).2; omega) (.inr fun e => by have := (hDl _ e).2; omega)
  refine WL.nil ?_
  refine thn_n ?_
  refine WF.seq ?_
  refine WF.region ?_
  refine WL.va rfl rfl rfl (X.move rfl) ?_
  refine WL.c rfl rfl rfl (X.call Try.call67 (evl_cons rfl evl_nil)) (qInt_ok vr _ l _ _ _ _ hp2s) ?_
  rintro v23 w22 ⟨rfl, ⟨a3, hp3⟩, hx24⟩
  have := World.grownBy.size hx24
  replace hO2 := hO2.keptR hx24 (fun b hb => by have := hrl b hb; omega)
  replace hO5 := hO5.keptR hx24 (fun b hb => by have := hrl b hb; omega)
  refine WL.va rfl rfl rfl (X.fieldAddrO (off := 2) rfl Try.underlying26 rfl rfl Try.sizeOf3) ?_
  refine WL.op rfl (OW.storeO hO5 (Nat.le_of_ble_eq_true rfl) rfl rfl rfl Try.sizeOf3 ?_)
  intro wX hO5 hx26
  have := World.grownBy.size hx26
  replace hO2 := hO2.keptO hx26 (by omega)
  replace hO5 : Blk _ _ _ (oc (n0 l) (.slice none 0 0) (.slice none 0 0) (.slice none 0 0) (.slice none 0 0)) := hO5
  have hp3s : RR wX B vr vbb l a3 (s3 l) := hp3.kept hx26 (.inr fun e => by have := (hrl _ e).2; omega) (.inr fun e => by have := (hDl _ e).2; omega)
  refine WL.nil ?_
  refine thn_n ?_
  refine WF.seq ?_
  refine WF.region ?_
  refine WL.va rfl rfl rfl (X.fieldAddrO (off := 0) rfl Try.underlying26 rfl rfl Try.sizeOf3) ?_
  refine WL.va rfl rfl rfl (X.loadO hO5 (Ext.refl _) rfl rfl Try.isAgg3) ?_
  refine WL.c rfl rfl rfl (X.call Try.call39 (evl_cons rfl evl_nil)) (fieldsO_ok ((n0 l).getD 0 0) _) ?_
  rintro vf0 wf ⟨⟨vf, rfl, hvf⟩, hx28⟩
  have := World.grownBy.size hx28
  have oF := OwnT.of hvf
  have hp4 := hp3s.ext hx28
  refine WL.va rfl rfl rfl (X.move rfl) ?_
  refine WL.va rfl rfl rfl (X.extract rfl rfl) ?_
  refine WL.va rfl rfl rfl (X.extract rfl rfl) ?_
  refine WL.va rfl rfl rfl (X.assign rfl) ?_
  refine WL.va rfl rfl rfl (X.assignB rfl) ?_
  refine WL.nil ?_
  refine thn_n ?_
  refine WF.seq ?_
  refine WF.seq ?_
  refine WF.region ?_
  refine WL.va rfl rfl rfl (X.moveB rfl) ?_
  refine WL.va rfl rfl rfl (X.not rfl) ?_
  refine WL.nil ?_
  refine thn_n ?_
  refine WF.cond rfl (fun h0_30 => ?_) (fun h0_30 => ?_)
  · have gh0_30 := (nt h0_30)
    have hFn : (fields ((n0 l).getD 0 0)).isSome = false := gh0_30
    refine WF.seq ?_
    refine WF.region ?_
    refine WL.va rfl rfl rfl (X.buildT (P := Try.prog) (t := 26) (cs := (oc noOp.n (.slice none 0 0) (.slice none 0 0) (.slice none 0 0) (.slice none 0 0))) (zs := [i64 0, i64 0, i64 0, i64 0, i64 0, i64 0, i64 0, i64 0, i64 0, i64 0, i64 0, i64 0, i64 0, .slice none 0 0, .slice none 0 0, .slice none 0 0, .slice none 0 0]) (places := [(0, 1), (1, 1), (2, 1), (3, 1), (4, 1), (5, 1), (6, 1), (7, 1), (8, 1), (9, 1), (10, 1), (11, 1), (12, 1), (13, 1), (14, 1), (15, 1), (16, 1)]) (n := 17) evp_nil Try.type26 Try.underlying26 rfl rfl trivial rfl rfl rfl) ?_
    refine WL.op rfl (OW.storeOA (hO2.ext hx28) rfl rfl rfl (oc_ones _ rfl rfl rfl rfl) Try.sizeOf26 ?_)
    intro w32 hO2 hx34
    have := World.grownBy.size hx34
    replace hO5 := (hO5.ext hx28).keptO hx34 (by omega)
    replace oF := oF.keptO hx34 (by omega)
    refine WL.va rfl rfl rfl (X.assignI rfl) ?_
    refine WL.nil ?_
    refine thn_n ?_
    refine WF.ret ?_
    refine thn_r ?_
    refine finC_r (vs := [_, _]) ⟨⟨_, rfl, readO hO2 Try.isAgg26 Try.sizeOf26⟩, rfl, trivial⟩ ?_
    rw [got_n2 hFn]
    exact ⟨⟨_, _, _, _, rfl, (noOp_own _ 0).at⟩, (Ext.store (Ext.trans (Ext.store (grown_trans (Ext.store (grown_trans (Ext.trans (grown_trans (Ext.trans hx2 hx4) hx7 hrw) (Ext.store hx9 hx13 (by omega))) hx17 hrw) hx20 (by omega)) hx24 hrw) hx26 (by omega)) hx28) hx34 (by omega))⟩
  · have gh0_30 := (nf h0_30)
    have hFs : (fields ((n0 l).getD 0 0)).isSome = true := gh0_30
    have hgs := got_s2 hFs
    refine WF.skip ?_
    refine thn_n ?_
    refine WF.seq ?_
    refine WF.seq ?_
    refine WF.region ?_
    refine WL.va rfl rfl rfl (X.assignI rfl) ?_
    refine WL.nil ?_
    refine thn_n ?_
    refine WF.block ?_
    refine WF.named (fun F36 hF37 => ?_)
    refine WF.loopN (fun mL0 f' w' => ∃ (i : Nat) (ai : Nat), mL0 = (fieldL ((n0 l).getD 0 0)).length - i ∧ f' 8 = .int .i64 (i : Int) ∧ Agree [0, 2, 3, 4, 5, 6, 7, 10, 11, 12, 13, 14, 15, 16, 17, 18, 19, 20, 21, 22, 23, 24, 25, 26, 27, 28] f' F36 ∧ Ext w w' ∧ i ≤ (fieldL ((n0 l).getD 0 0)).length ∧ wA.heap.size ≤ w'.heap.size ∧ Blk w' g2 26 (oc noOp.n (.slice none 0 0) (.slice none 0 0) (.slice none 0 0) (.slice none 0 0)) ∧ Blk w' g5 26 (oc (getN (n0 l) (s3 l) ((offL ((n0 l).getD 0 0)).take i)).1 (.slice none 0 0) (.slice none 0 0) (.slice none 0 0) (.slice none 0 0)) ∧ RR w' B vr vbb l ai (getN (n0 l) (s3 l) ((offL ((n0 l).getD 0 0)).take i)).2 ∧ OwnT w' wX.heap.size wf.heap.size 3 1 vf (fints (fieldL ((n0 l).getD 0 0))).length ((fints (fieldL ((n0 l).getD 0 0))).map i64)) ?_ ?_
    · exact ⟨_, 0, _, rfl, (congrFun hF37 8), (Agree.refl _ _), (Ext.trans (Ext.store (grown_trans (Ext.store (grown_trans (Ext.trans (grown_trans (Ext.trans hx2 hx4) hx7 hrw) (Ext.store hx9 hx13 (by omega))) hx17 hrw) hx20 (by omega)) hx24 hrw) hx26 (by omega)) hx28), ⟨Nat.zero_le _, by omega, (hO2.ext hx28), (hO5.ext hx28), hp4, oF⟩⟩
    · rintro mL0 fL0 wL0 ⟨i, ai, hmL0, e8_L0, hAL0, hwL0, ⟨hi0, hzA, hO2, hO5, hpi, oF⟩⟩
      have := World.grownBy.size hwL0
      refine WF.seq ?_
      refine WF.seq ?_
      refine WF.region ?_
      refine WL.va rfl rfl rfl (X.moveI e8_L0) ?_
      refine WL.va rfl rfl rfl (X.move ((hAL0.eq 6).trans (congrFun hF37 6))) ?_
      refine WL.va rfl rfl rfl (X.len (Row.of_own oF.own) rfl Try.underlying22) ?_
      refine WL.va rfl rfl rfl (X.lss rfl rfl) ?_
      refine WL.nil ?_
      refine thn_n ?_
      refine WF.cond rfl (fun h1_38 => ?_) (fun h1_38 => ?_)
      · have gh1_38 := (of_decide_eq_true h1_38)
        have hi : i < (fieldL ((n0 l).getD 0 0)).length := by have hq := gh1_38; simp only [List.length_map] at hq; omega
        refine WF.skip ?_
        refine thn_n ?_
        refine WF.seq ?_
        refine WF.block ?_
        refine WF.drawn (.q 0 (.q 1 (.q 2 (.q 3 (.q 4 (.q 5 (.l 6 (.l 7 .nil)))))))) (fun w' => Ext w w' ∧ Blk w' g5 26 (oc (getN (n0 l) (s3 l) ((offL ((n0 l).getD 0 0)).take i)).1 (.slice none 0 0) (.slice none 0 0) (.slice none 0 0) (.slice none 0 0)) ∧ OwnT w' wX.heap.size wf.heap.size 3 1 vf (fints (fieldL ((n0 l).getD 0 0))).length ((fints (fieldL ((n0 l).getD 0 0))).map i64)) 8 (by kernel_rfl) (by kernel_rfl) ⟨Ext.trans hwL0 (Ext.drew _), (hO5).ext (Ext.drew _), (oF).ext (Ext.drew _)⟩ ?_
        have := World.grownBy.size (Ext.drew wL0)
        refine WO.q rfl rfl rfl rfl (fun w' hE40 => (X.loadOA hE40.2.1 (Ext.refl _) ((hAL0.eq 5).trans (congrFun hF37 5)) rfl Try.isAgg26 Try.sizeOf26)) ?_
        refine WO.q rfl rfl rfl rfl (fun w' hE40 => (X.move ((hAL0.eq 6).trans (congrFun hF37 6)))) ?_
        refine WO.q rfl rfl rfl rfl (fun w' hE40 => (X.moveI e8_L0)) ?_
        refine WO.q rfl rfl rfl rfl (fun w' hE40 => (X.idx (Row.of_own oF.own) rfl rfl (by rw [List.length_map]; exact hi) Try.underlying22 Try.sizeOf3)) ?_
        refine WO.q rfl rfl rfl rfl (fun w' hE40 => ((X.loadI (Row.of_own hE40.2.2.own) (Ext.refl _) rfl (by rw [List.length_map]; exact hi) Try.isAgg3).trans (by rw [fints_get2 hi]))) ?_
        refine WO.q rfl rfl rfl rfl (fun w' hE40 => (X.move ((hAL0.eq 4).trans (congrFun hF37 4)))) ?_
        refine WO.l ?_
        refine LO.go rfl rfl (OW.enter rfl (by decide) (X.call Try.call67 (evl_cons rfl evl_nil)) (qInt_ok vr _ l ai _ _ _ (hpi.ext (Ext.drew _))) ?_)
        rintro v42 w41 ⟨rfl, ⟨a5, hp5⟩, hx43⟩
        have := World.grownBy.size hx43
        replace hO2 := (hO2.ext (Ext.drew _)).keptR hx43 (fun b hb => by have := hrl b hb; omega)
        replace hO5 := (hO5.ext (Ext.drew _)).keptR hx43 (fun b hb => by have := hrl b hb; omega)
        replace oF := (oF.ext (Ext.drew _)).kept hx43 (fun b hb => by have := hrl b hb; omega)
        refine ⟨⟨(grown_trans (Ext.trans hwL0 (Ext.drew _)) hx43 hrw), hO5, oF⟩, ?_⟩
        refine WO.l ?_
        refine LO.go rfl rfl (OW.enter rfl (by decide) (X.call Try.call68 (evl_cons rfl (evl_cons rfl (evl_cons rfl evl_nil)))) (with_ok _ _ _ _ _ _ _ _ (fieldL_lt (List.getElem_mem hi)) (by rw [getN_len]; rfl) (fun m => oc_ones m rfl rfl rfl rfl)) ?_)
        rintro vq w44 ⟨rfl, hx45⟩
        have := World.grownBy.size hx45
        refine ⟨⟨(Ext.trans (grown_trans (Ext.trans hwL0 (Ext.drew _)) hx43 hrw) hx45), (hO5.ext hx45), (oF.ext hx45)⟩, ?_⟩
        have hp6 := hp5.ext hx45
        refine WO.nil ?_
        refine WL.op rfl (OW.storeOA (hO5.ext hx45) ((hAL0.eq 5).trans (congrFun hF37 5)) rfl rfl (oc_ones _ rfl rfl rfl rfl) Try.sizeOf26 ?_)
        intro w46 hO5 hx48
        have := World.grownBy.size hx48
        replace hO2 := (hO2.ext hx45).keptO hx48 (by omega)
        replace oF := (oF.ext hx45).keptO hx48 (by omega)
        have hp7 := hp6.kept hx48 (.inr fun e => by have := (hrl _ e).2; omega) (.inr fun e => by have := (hDl _ e).2; omega)
        refine WL.nil ?_
        refine blk_n ?_
        refine thn_n ?_
        refine WF.region ?_
        refine WL.va rfl rfl rfl (X.moveI e8_L0) ?_
        refine WL.va rfl rfl rfl (X.add rfl rfl (w64 (by omega))) ?_
        refine WL.va rfl rfl rfl (X.assignI rfl) ?_
        refine WL.nil ?_
        exact thn_n ⟨_, (by omega), i + 1, _, rfl, rfl, (by repeat (first | exact hAL0 | refine Agree.put ?_ rfl | refine Agree.named hF37 ?_)), (Ext.store (Ext.trans (grown_trans (Ext.trans hwL0 (Ext.drew _)) hx43 hrw) hx45) hx48 (by omega)), ⟨by omega, by omega, hO2, by rw [getN_step hi]; exact hO5, by rw [getN_step hi]; exact hp7, oF⟩⟩
      · have gh1_38 := (of_decide_eq_false h1_38)
        have hie : (offL ((n0 l).getD 0 0)).length ≤ i := by have hq := gh1_38; simp only [List.length_map] at hq; rw [offL_flen]; omega
        rw [List.take_of_length_le hie] at hO5 hpi
        have hpN := hpi
        have hlN : ((getN (n0 l) (s3 l) (offL ((n0 l).getD 0 0))).1).length = 13 := by rw [getN_len]; rfl
        have hrN := getN_rng (offL ((n0 l).getD 0 0)) (n0 l) (s3 l) (n0_rng l)
        have hle4 : ((getN (n0 l) (s3 l) (offL ((n0 l).getD 0 0))).2).left.length ≤ l.length := Nat.le_trans (getN_le _ _ _) (s3_le l)
        refine WF.exit ?_
        refine thn_x ?_
        refine thn_x ?_
        refine blk_eq ?_
        refine thn_n ?_
        refine WF.named (fun F50 hF51 => ?_)
        refine WF.cut (fun f' w' => ∃ (vPq vRq vWq : Value) (sq : Pk.RS) (aq : Nat), Agree [0, 2, 3, 4, 5, 6, 7, 8, 10, 11, 12, 13, 14, 15, 16, 17, 18, 19, 20, 21, 22, 23, 24, 25, 26, 27, 28, 30, 31, 32, 33] f' F50 ∧ Ext w w' ∧ wA.heap.size ≤ w'.heap.size ∧ Blk w' g2 26 (oc noOp.n (.slice none 0 0) (.slice none 0 0) (.slice none 0 0) (.slice none 0 0)) ∧ Blk w' g5 26 (oc (getN (n0 l) (s3 l) (offL ((n0 l).getD 0 0))).1 vPq vRq vWq (.slice none 0 0)) ∧ RR w' B vr vbb l aq sq ∧ ((getN (n0 l) (s3 l) (offL ((n0 l).getD 0 0))).1.getD 0 0 = 2 → ((getB (getN (n0 l) (s3 l) (offL ((n0 l).getD 0 0))).1 (getN (n0 l) (s3 l) (offL ((n0 l).getD 0 0))).2 = none ∧ sq.bad = true) ∨ ∃ o, getB (getN (n0 l) (s3 l) (offL ((n0 l).getD 0 0))).1 (getN (n0 l) (s3 l) (offL ((n0 l).getD 0 0))).2 = some (o, sq) ∧ o.n = (getN (n0 l) (s3 l) (offL ((n0 l).getD 0 0))).1 ∧ OpO w' wA.heap.size vPq vRq vWq (.slice none 0 0) o ∧ o.small)) ∧ ((getN (n0 l) (s3 l) (offL ((n0 l).getD 0 0))).1.getD 0 0 ≠ 2 → sq = (getN (n0 l) (s3 l) (offL ((n0 l).getD 0 0))).2 ∧ vPq = (.slice none 0 0) ∧ vRq = (.slice none 0 0) ∧ vWq = (.slice none 0 0))) ?_ ?_
        · refine WF.seq ?_
          refine WF.region ?_
          refine WL.va rfl rfl rfl (X.fieldAddrO (off := 0) ((congrFun hF51 5).trans ((hAL0.eq 5).trans (congrFun hF37 5))) Try.underlying26 rfl rfl Try.sizeOf3) ?_
          refine WL.va rfl rfl rfl (X.loadO hO5 (Ext.refl _) rfl rfl Try.isAgg3) ?_
          refine WL.va rfl rfl rfl (X.eql rfl rfl) ?_
          refine WL.nil ?_
          refine thn_n ?_
          refine WF.cond rfl (fun h2_52 => ?_) (fun h2_52 => ?_)
          · have gh2_52 := (of_decide_eq_true h2_52)
            have hk2 : (getN (n0 l) (s3 l) (offL ((n0 l).getD 0 0))).1.getD 0 0 = 2 := gh2_52
            refine WF.region ?_
            refine WL.va rfl rfl rfl (X.loadOA hO5 (Ext.refl _) ((congrFun hF51 5).trans ((hAL0.eq 5).trans (congrFun hF37 5))) rfl Try.isAgg26 Try.sizeOf26) ?_
            refine WL.va rfl rfl rfl (X.move ((congrFun hF51 4).trans ((hAL0.eq 4).trans (congrFun hF37 4)))) ?_
            refine WL.c rfl rfl rfl (X.call Try.call69 (evl_cons rfl (evl_cons rfl evl_nil))) (lists_ok vr _ l _ (getN (n0 l) (s3 l) (offL ((n0 l).getD 0 0))).2 (getN (n0 l) (s3 l) (offL ((n0 l).getD 0 0))).1 _ _ hpN hlN (by omega)) ?_
            rintro vls w54 ⟨⟨v1, v2, v3, a7, s7, rfl, hones, hp7, hcs⟩, hx55⟩
            have := World.grownBy.size hx55
            replace hO2 := hO2.keptR hx55 (fun b hb => by have := hrl b hb; omega)
            replace hO5 := hO5.keptR hx55 (fun b hb => by have := hrl b hb; omega)
            replace oF := oF.kept hx55 (fun b hb => by have := hrl b hb; omega)
            refine WL.op rfl (OW.storeOA hO5 ((congrFun hF51 5).trans ((hAL0.eq 5).trans (congrFun hF37 5))) rfl rfl hones Try.sizeOf26 ?_)
            intro w56 hO5 hx58
            have := World.grownBy.size hx58
            replace hO2 := hO2.keptO hx58 (by omega)
            replace oF := oF.keptO hx58 (by omega)
            have hpX := hp7.kept hx58 (.inr fun e => by have := (hrl _ e).2; omega) (.inr fun e => by have := (hDl _ e).2; omega)
            have hqA : (getN (n0 l) (s3 l) (offL ((n0 l).getD 0 0))).1.getD 0 0 = 2 → ((getB (getN (n0 l) (s3 l) (offL ((n0 l).getD 0 0))).1 (getN (n0 l) (s3 l) (offL ((n0 l).getD 0 0))).2 = none ∧ s7.bad = true) ∨ ∃ o, getB (getN (n0 l) (s3 l) (offL ((n0 l).getD 0 0))).1 (getN (n0 l) (s3 l) (offL ((n0 l).getD 0 0))).2 = some (o, s7) ∧ o.n = (getN (n0 l) (s3 l) (offL ((n0 l).getD 0 0))).1 ∧ OpO w56 wA.heap.size v1 v2 v3 (.slice none 0 0) o ∧ o.small) := fun _ => by
              rcases hcs with ⟨q1, q2⟩ | ⟨o, q1, q2, q3, q4, ⟨F, q5, q6⟩, q7⟩
              · exact .inl ⟨by rw [getB_two hk2]; exact q1, q2⟩
              · have e2 : getB (getN (n0 l) (s3 l) (offL ((n0 l).getD 0 0))).1 (getN (n0 l) (s3 l) (offL ((n0 l).getD 0 0))).2 = some (o, s7) := by rw [getB_two hk2]; exact q1
                exact .inr ⟨o, e2, q2, OpO.keptO (b := g5) ⟨by rw [q2]; exact hlN, by rw [q2]; exact hrN, own_mono q3 (by omega), own_mono q4 (by omega), ⟨F, q5, q6.mono (by omega)⟩, by rw [q7]; exact World.ownsRow_nil _ _ _ _⟩ hx58 (.inl (by omega)), getL_small q1 (by omega)⟩
            have hqB : (getN (n0 l) (s3 l) (offL ((n0 l).getD 0 0))).1.getD 0 0 ≠ 2 → s7 = (getN (n0 l) (s3 l) (offL ((n0 l).getD 0 0))).2 ∧ v1 = (.slice none 0 0) ∧ v2 = (.slice none 0 0) ∧ v3 = (.slice none 0 0) := fun q => absurd hk2 q
            refine WL.nil ?_
            refine thn_n ?_
            exact ⟨_, _, _, _, _, (by repeat (first | exact (Agree.refl _ F50) | refine Agree.put ?_ rfl | refine Agree.sub hAL0 rfl ?_ | refine Agree.named hF51 ?_ | refine Agree.named hF37 ?_)), (Ext.store (grown_trans hwL0 hx55 hrw) hx58 (by omega)), ⟨by omega, hO2, hO5, hpX, hqA, hqB⟩⟩
          · have gh2_52 := (of_decide_eq_false h2_52)
            have hk2 : (getN (n0 l) (s3 l) (offL ((n0 l).getD 0 0))).1.getD 0 0 ≠ 2 := gh2_52
            have hpX := hpN
            have hqA : (getN (n0 l) (s3 l) (offL ((n0 l).getD 0 0))).1.getD 0 0 = 2 → ((getB (getN (n0 l) (s3 l) (offL ((n0 l).getD 0 0))).1 (getN (n0 l) (s3 l) (offL ((n0 l).getD 0 0))).2 = none ∧ ((getN (n0 l) (s3 l) (offL ((n0 l).getD 0 0))).2).bad = true) ∨ ∃ o, getB (getN (n0 l) (s3 l) (offL ((n0 l).getD 0 0))).1 (getN (n0 l) (s3 l) (offL ((n0 l).getD 0 0))).2 = some (o, ((getN (n0 l) (s3 l) (offL ((n0 l).getD 0 0))).2)) ∧ o.n = (getN (n0 l) (s3 l) (offL ((n0 l).getD 0 0))).1 ∧ OpO wL0 wA.heap.size (.slice none 0 0) (.slice none 0 0) (.slice none 0 0) (.slice none 0 0) o ∧ o.small) := fun q => absurd q hk2
            have hqB : (getN (n0 l) (s3 l) (offL ((n0 l).getD 0 0))).1.getD 0 0 ≠ 2 → (getN (n0 l) (s3 l) (offL ((n0 l).getD 0 0))).2 = (getN (n0 l) (s3 l) (offL ((n0 l).getD 0 0))).2 ∧ Value.slice none 0 0 = .slice none 0 0 ∧ Value.slice none 0 0 = .slice none 0 0 ∧ Value.slice none 0 0 = .slice none 0 0 := fun _ => ⟨rfl, rfl, rfl, rfl⟩
            refine WF.skip ?_
            refine thn_n ?_
            exact ⟨_, _, _, _, _, (by repeat (first | exact (Agree.refl _ F50) | refine Agree.put ?_ rfl | refine Agree.sub hAL0 rfl ?_ | refine Agree.named hF51 ?_ | refine Agree.named hF37 ?_)), hwL0, ⟨by omega, hO2, hO5, hpX, hqA, hqB⟩⟩
        · rintro fCs12 wCs12 ⟨vPq, vRq, vWq, sq, aq, hACs12, hwCs12, ⟨hzA, hO2, hO5, hpq, hq2, hq0⟩⟩
          have := World.grownBy.size hwCs12
          refine WF.named (fun F60 hF61 => ?_)
          refine WF.cut (fun f' w' => ∃ (oF : Od) (sF : Pk.RS) (aF : Nat) (vPF vRF vWF vDF : Value), Agree [0, 2, 3, 4, 5, 6, 7, 8, 10, 11, 12, 13, 14, 15, 16, 17, 18, 19, 20, 21, 22, 23, 24, 25, 26, 27, 28, 30, 31, 32, 33] f' F60 ∧ Ext w w' ∧ wA.heap.size ≤ w'.heap.size ∧ Blk w' g2 26 (oc noOp.n (.slice none 0 0) (.slice none 0 0) (.slice none 0 0) (.slice none 0 0)) ∧ Blk w' g5 26 (oc oF.n vPF vRF vWF vDF) ∧ RR w' B vr vbb l aF sF ∧ ((getB (getN (n0 l) (s3 l) (offL ((n0 l).getD 0 0))).1 (getN (n0 l) (s3 l) (offL ((n0 l).getD 0 0))).2 = none ∧ sF.bad = true) ∨ (getB (getN (n0 l) (s3 l) (offL ((n0 l).getD 0 0))).1 (getN (n0 l) (s3 l) (offL ((n0 l).getD 0 0))).2 = some (oF, sF) ∧ OpO w' wA.heap.size vPF vRF vWF vDF oF ∧ oF.small))) ?_ ?_
          · refine WF.seq ?_
            refine WF.region ?_
            refine WL.va rfl rfl rfl (X.fieldAddrO (off := 0) ((congrFun hF61 5).trans ((hACs12.eq 5).trans ((congrFun hF51 5).trans ((hAL0.eq 5).trans (congrFun hF37 5))))) Try.underlying26 rfl rfl Try.sizeOf3) ?_
            refine WL.va rfl rfl rfl (X.loadO hO5 (Ext.refl _) rfl rfl Try.isAgg3) ?_
            refine WL.va rfl rfl rfl (X.eql rfl rfl) ?_
            refine WL.nil ?_
            refine thn_n ?_
            refine WF.cond rfl (fun h3_62 => ?_) (fun h3_62 => ?_)
            · have gh3_62 := (of_decide_eq_true h3_62)
              have hk6 : (getN (n0 l) (s3 l) (offL ((n0 l).getD 0 0))).1.getD 0 0 = 6 := gh3_62
              obtain ⟨rfl, rfl, rfl, rfl⟩ := hq0 (by omega)
              have hpQ := hpq
              refine WF.region ?_
              refine WL.va rfl rfl rfl (X.move ((congrFun hF61 4).trans ((hACs12.eq 4).trans ((congrFun hF51 4).trans ((hAL0.eq 4).trans (congrFun hF37 4)))))) ?_
              refine WL.c rfl rfl rfl (X.call Try.call70 (evl_cons rfl evl_nil)) (qBlob_ok vr _ l _ _ _ _ hpQ) ?_
              rintro vB w65 ⟨oB, ⟨a8, hp8⟩, hx66⟩
              have := World.grownBy.size hx66
              replace hO2 := hO2.keptR hx66 (fun b hb => by have := hrl b hb; omega)
              replace hO5 := hO5.keptR hx66 (fun b hb => by have := hrl b hb; omega)
              refine WL.va rfl rfl rfl (X.fieldAddrO (off := 16) ((congrFun hF61 5).trans ((hACs12.eq 5).trans ((congrFun hF51 5).trans ((hAL0.eq 5).trans (congrFun hF37 5))))) Try.underlying26 rfl rfl Try.sizeOf24) ?_
              refine WL.op rfl (OW.storeO hO5 (Nat.le_of_ble_eq_true rfl) rfl rfl (own_one oB) Try.sizeOf24 ?_)
              intro w67 hO5 hx69
              have := World.grownBy.size hx69
              replace hO2 := hO2.keptO hx69 (by omega)
              replace hO5 : Blk _ _ _ (oc (getN (n0 l) (s3 l) (offL ((n0 l).getD 0 0))).1 (.slice none 0 0) (.slice none 0 0) (.slice none 0 0) vB) := hO5
              have hpY := hp8.kept hx69 (.inr fun e => by have := (hrl _ e).2; omega) (.inr fun e => by have := (hDl _ e).2; omega)
              have leB := blob_le (getN (n0 l) (s3 l) (offL ((n0 l).getD 0 0))).2
              have hfin : ∃ (oF : Od) (sF : Pk.RS) (aF : Nat) (vPF vRF vWF vDF : Value), Blk w67 g5 26 (oc oF.n vPF vRF vWF vDF) ∧ RR w67 B vr vbb l aF sF ∧ ((getB (getN (n0 l) (s3 l) (offL ((n0 l).getD 0 0))).1 (getN (n0 l) (s3 l) (offL ((n0 l).getD 0 0))).2 = none ∧ sF.bad = true) ∨ (getB (getN (n0 l) (s3 l) (offL ((n0 l).getD 0 0))).1 (getN (n0 l) (s3 l) (offL ((n0 l).getD 0 0))).2 = some (oF, sF) ∧ OpO w67 wA.heap.size vPF vRF vWF vDF oF ∧ oF.small)) := ⟨⟨(getN (n0 l) (s3 l) (offL ((n0 l).getD 0 0))).1, [], [], [], (getN (n0 l) (s3 l) (offL ((n0 l).getD 0 0))).2.blob.1⟩, _, _, _, _, _, _, hO5, hpY, .inr ⟨getB_six hk6, OpO.keptO (b := g5) ⟨hlN, hrN, World.ownsRow_nil _ _ _ _, World.ownsRow_nil _ _ _ _, ⟨[], rfl, WOwn.nil _ _⟩, own_mono oB (by omega)⟩ hx69 (.inl (by omega)), ⟨Nat.zero_le _, Nat.zero_le _, Nat.zero_le _, (by show ((getN (n0 l) (s3 l) (offL ((n0 l).getD 0 0))).2).blob.1.length ≤ _; omega), fun x hx => by cases hx⟩⟩⟩
              obtain ⟨oF, sF, aF, vPF, vRF, vWF, vDF, hO5x, hpX, hFX⟩ := hfin
              refine WL.nil ?_
              refine thn_n ?_
              exact ⟨_, _, _, _, _, _, _, (by repeat (first | exact (Agree.refl _ F60) | refine Agree.put ?_ rfl | refine Agree.sub hACs12 rfl ?_ | refine Agree.sub hAL0 rfl ?_ | refine Agree.named hF61 ?_ | refine Agree.named hF51 ?_ | refine Agree.named hF37 ?_)), (Ext.store (grown_trans hwCs12 hx66 hrw) hx69 (by omega)), ⟨by omega, hO2, hO5x, hpX, hFX⟩⟩
            · have gh3_62 := (of_decide_eq_false h3_62)
              have hk6 : (getN (n0 l) (s3 l) (offL ((n0 l).getD 0 0))).1.getD 0 0 ≠ 6 := gh3_62
              have hfin : ∃ (oF : Od) (sF : Pk.RS) (aF : Nat) (vPF vRF vWF vDF : Value), Blk wCs12 g5 26 (oc oF.n vPF vRF vWF vDF) ∧ RR wCs12 B vr vbb l aF sF ∧ ((getB (getN (n0 l) (s3 l) (offL ((n0 l).getD 0 0))).1 (getN (n0 l) (s3 l) (offL ((n0 l).getD 0 0))).2 = none ∧ sF.bad = true) ∨ (getB (getN (n0 l) (s3 l) (offL ((n0 l).getD 0 0))).1 (getN (n0 l) (s3 l) (offL ((n0 l).getD 0 0))).2 = some (oF, sF) ∧ OpO wCs12 wA.heap.size vPF vRF vWF vDF oF ∧ oF.small)) := by
                by_cases hk2 : (getN (n0 l) (s3 l) (offL ((n0 l).getD 0 0))).1.getD 0 0 = 2
                · rcases hq2 hk2 with q | ⟨o, q1, q2, q3, q4⟩
                  · exact ⟨⟨(getN (n0 l) (s3 l) (offL ((n0 l).getD 0 0))).1, [], [], [], []⟩, _, _, _, _, _, _, hO5, hpq, .inl q⟩
                  · exact ⟨o, _, _, _, _, _, _, (by rw [q2]; exact hO5), hpq, .inr ⟨q1, q3, q4⟩⟩
                · obtain ⟨rfl, rfl, rfl, rfl⟩ := hq0 hk2
                  exact ⟨⟨(getN (n0 l) (s3 l) (offL ((n0 l).getD 0 0))).1, [], [], [], []⟩, _, _, _, _, _, _, hO5, hpq, .inr ⟨getB_else hk2 hk6, ⟨hlN, hrN, World.ownsRow_nil _ _ _ _, World.ownsRow_nil _ _ _ _, ⟨[], rfl, WOwn.nil _ _⟩, World.ownsRow_nil _ _ _ _⟩, ⟨Nat.zero_le _, Nat.zero_le _, Nat.zero_le _, Nat.zero_le _, fun x hx => by cases hx⟩⟩⟩
              obtain ⟨oF, sF, aF, vPF, vRF, vWF, vDF, hO5x, hpX, hFX⟩ := hfin
              refine WF.skip ?_
              refine thn_n ?_
              exact ⟨_, _, _, _, _, _, _, (by repeat (first | exact (Agree.refl _ F60) | refine Agree.put ?_ rfl | refine Agree.sub hACs12 rfl ?_ | refine Agree.sub hAL0 rfl ?_ | refine Agree.named hF61 ?_ | refine Agree.named hF51 ?_ | refine Agree.named hF37 ?_)), hwCs12, ⟨by omega, hO2, hO5x, hpX, hFX⟩⟩
          · rintro fCs14 wCs14 ⟨oF, sF, aF, vPF, vRF, vWF, vDF, hACs14, hwCs14, ⟨hzA, hO2, hO5, hpF, hFF⟩⟩
            have := World.grownBy.size hwCs14
            have hgB : getB (getN (n0 l) (s3 l) (offL ((n0 l).getD 0 0))).1 (getN (n0 l) (s3 l) (offL ((n0 l).getD 0 0))).2 = some (oF, sF) ∨ (getB (getN (n0 l) (s3 l) (offL ((n0 l).getD 0 0))).1 (getN (n0 l) (s3 l) (offL ((n0 l).getD 0 0))).2 = none ∧ sF.bad = true) := by rcases hFF with q | q; exact .inr q; exact .inl q.1
            refine WF.seq ?_
            refine WF.region ?_
            refine WL.va rfl rfl rfl (X.move ((hACs14.eq 4).trans ((congrFun hF61 4).trans ((hACs12.eq 4).trans ((congrFun hF51 4).trans ((hAL0.eq 4).trans (congrFun hF37 4))))))) ?_
            refine WL.c rfl rfl rfl (X.call Try.call71 (evl_cons rfl evl_nil)) (qEnd_ok vr _ l _ _ _ _ hpF) ?_
            rintro v72 w71 ⟨rfl, hx73⟩
            have := World.grownBy.size hx73
            refine WL.va rfl rfl rfl (X.assignI rfl) ?_
            refine WL.nil ?_
            refine thn_n ?_
            refine WF.seq ?_
            refine WF.seq ?_
            refine WF.region ?_
            refine WL.va rfl rfl rfl (X.moveI rfl) ?_
            refine WL.va rfl rfl rfl (X.eql rfl rfl) ?_
            refine WL.nil ?_
            refine thn_n ?_
            refine WF.cond rfl (fun h4_74 => ?_) (fun h4_74 => ?_)
            · have gh4_74 := (of_decide_eq_true h4_74)
              have he0 : sF.err = 0 := gh4_74
              obtain ⟨hgB1, hGF0, hsF⟩ : getB (getN (n0 l) (s3 l) (offL ((n0 l).getD 0 0))).1 (getN (n0 l) (s3 l) (offL ((n0 l).getD 0 0))).2 = some (oF, sF) ∧ OpO wCs14 wA.heap.size vPF vRF vWF vDF oF ∧ oF.small := by
                rcases hFF with ⟨_, q⟩ | q
                · simp [Pk.RS.err, q] at he0
                · exact q
              refine WF.region ?_
              refine WL.va rfl rfl rfl (X.loadOA hO5 hx73 ((hACs14.eq 5).trans ((congrFun hF61 5).trans ((hACs12.eq 5).trans ((congrFun hF51 5).trans ((hAL0.eq 5).trans (congrFun hF37 5)))))) rfl Try.isAgg26 Try.sizeOf26) ?_
              refine WL.c rfl rfl rfl (X.call Try.call15 (evl_cons rfl evl_nil)) (checkR_ok vPF vRF vWF vDF oF _ (hGF0.at.ext hx73) hsF) ?_
              rintro v77 w76 ⟨rfl, hx78⟩
              have := World.grownBy.size hx78
              refine WL.va rfl rfl rfl (X.assignI rfl) ?_
              refine WL.nil ?_
              refine thn_n ?_
              refine WF.seq ?_
              refine WF.seq ?_
              refine WF.region ?_
              refine WL.va rfl rfl rfl (X.moveI rfl) ?_
              refine WL.va rfl rfl rfl (X.neq rfl rfl) ?_
              refine WL.nil ?_
              refine thn_n ?_
              refine WF.cond rfl (fun h5_79 => ?_) (fun h5_79 => ?_)
              · have gh5_79 := (of_decide_eq_true h5_79)
                refine WF.seq ?_
                refine WF.region ?_
                refine WL.va rfl rfl rfl (X.buildT (P := Try.prog) (t := 26) (cs := (oc noOp.n (.slice none 0 0) (.slice none 0 0) (.slice none 0 0) (.slice none 0 0))) (zs := [i64 0, i64 0, i64 0, i64 0, i64 0, i64 0, i64 0, i64 0, i64 0, i64 0, i64 0, i64 0, i64 0, .slice none 0 0, .slice none 0 0, .slice none 0 0, .slice none 0 0]) (places := [(0, 1), (1, 1), (2, 1), (3, 1), (4, 1), (5, 1), (6, 1), (7, 1), (8, 1), (9, 1), (10, 1), (11, 1), (12, 1), (13, 1), (14, 1), (15, 1), (16, 1)]) (n := 17) evp_nil Try.type26 Try.underlying26 rfl rfl trivial rfl rfl rfl) ?_
                refine WL.va rfl rfl rfl (X.moveI rfl) ?_
                refine WL.op rfl (OW.storeOA (hO2.ext (Ext.trans hx73 hx78)) ((hACs14.eq 2).trans ((congrFun hF61 2).trans ((hACs12.eq 2).trans ((congrFun hF51 2).trans ((hAL0.eq 2).trans (congrFun hF37 2)))))) rfl rfl (oc_ones _ rfl rfl rfl rfl) Try.sizeOf26 ?_)
                intro w81 hO2 hx83
                have := World.grownBy.size hx83
                replace hO5 := (hO5.ext (Ext.trans hx73 hx78)).keptO hx83 (by omega)
                refine WL.va rfl rfl rfl (X.assignI rfl) ?_
                refine WL.nil ?_
                refine thn_n ?_
                refine WF.ret ?_
                refine thn_r ?_
                refine finC_r (vs := [_, _]) ⟨⟨_, ((hACs14.eq 2).trans ((congrFun hF61 2).trans ((hACs12.eq 2).trans ((congrFun hF51 2).trans ((hAL0.eq 2).trans (congrFun hF37 2)))))), readO hO2 Try.isAgg26 Try.sizeOf26⟩, rfl, trivial⟩ ?_
                first | (rw [hgs, fin_chk hgB (by assumption) (by assumption)]; exact ⟨⟨_, _, _, _, rfl, (noOp_own _ 0).at⟩, (Ext.store (Ext.trans (Ext.trans hwCs14 hx73) hx78) hx83 (by omega))⟩) | (rw [hgs, fin_err hgB (by assumption)]; exact ⟨⟨_, _, _, _, rfl, (noOp_own _ 0).at⟩, (Ext.store (Ext.trans (Ext.trans hwCs14 hx73) hx78) hx83 (by omega))⟩)
              · have gh5_79 := (Decidable.of_not_not (of_decide_eq_false h5_79))
                refine WF.skip ?_
                refine thn_n ?_
                refine WF.seq ?_
                refine WF.region ?_
                refine WL.va rfl rfl rfl (X.loadOA hO5 (Ext.trans hx73 hx78) ((hACs14.eq 5).trans ((congrFun hF61 5).trans ((hACs12.eq 5).trans ((congrFun hF51 5).trans ((hAL0.eq 5).trans (congrFun hF37 5)))))) rfl Try.isAgg26 Try.sizeOf26) ?_
                have hGF : OpO w76 wA.heap.size vPF vRF vWF vDF oF := by first | exact hGF0.ext (Ext.trans hx73 hx78) | exact absurd (show sF.err = 0 by assumption) (show ¬ sF.err = 0 by assumption)
                refine WL.op rfl (OW.storeOA (hO2.ext (Ext.trans hx73 hx78)) ((hACs14.eq 2).trans ((congrFun hF61 2).trans ((hACs12.eq 2).trans ((congrFun hF51 2).trans ((hAL0.eq 2).trans (congrFun hF37 2)))))) rfl rfl (hGF.at.ones _) Try.sizeOf26 ?_)
                intro w85 hO2 hx87
                have := World.grownBy.size hx87
                replace hO5 := (hO5.ext (Ext.trans hx73 hx78)).keptO hx87 (by omega)
                have hGN := hGF.keptO hx87 (.inl (by omega))
                refine WL.va rfl rfl rfl (X.assignI rfl) ?_
                refine WL.nil ?_
                refine thn_n ?_
                refine WF.ret ?_
                refine finC_r (vs := [_, _]) ⟨⟨_, ((hACs14.eq 2).trans ((congrFun hF61 2).trans ((hACs12.eq 2).trans ((congrFun hF51 2).trans ((hAL0.eq 2).trans (congrFun hF37 2)))))), readO hO2 Try.isAgg26 Try.sizeOf26⟩, rfl, trivial⟩ ?_
                first | (rw [hgs, fin_ok hgB (by assumption) (by assumption)]; exact ⟨⟨vPF, vRF, vWF, vDF, rfl, hGN.at⟩, (Ext.store (Ext.trans (Ext.trans hwCs14 hx73) hx78) hx87 (by omega))⟩) | exact absurd (show sF.err = 0 by assumption) (show ¬ sF.err = 0 by assumption)
            · have gh4_74 := (of_decide_eq_false h4_74)
              refine WF.skip ?_
              refine thn_n ?_
              refine WF.seq ?_
              refine WF.seq ?_
              refine WF.region ?_
              refine WL.va rfl rfl rfl (X.moveI rfl) ?_
              refine WL.va rfl rfl rfl (X.neq rfl rfl) ?_
              refine WL.nil ?_
              refine thn_n ?_
              refine WF.cond rfl (fun h5_89 => ?_) (fun h5_89 => ?_)
              · have gh5_89 := (of_decide_eq_true h5_89)
                refine WF.seq ?_
                refine WF.region ?_
                refine WL.va rfl rfl rfl (X.buildT (P := Try.prog) (t := 26) (cs := (oc noOp.n (.slice none 0 0) (.slice none 0 0) (.slice none 0 0) (.slice none 0 0))) (zs := [i64 0, i64 0, i64 0, i64 0, i64 0, i64 0, i64 0, i64 0, i64 0, i64 0, i64 0, i64 0, i64 0, .slice none 0 0, .slice none 0 0, .slice none 0 0, .slice none 0 0]) (places := [(0, 1), (1, 1), (2, 1), (3, 1), (4, 1), (5, 1), (6, 1), (7, 1), (8, 1), (9, 1), (10, 1), (11, 1), (12, 1), (13, 1), (14, 1), (15, 1), (16, 1)]) (n := 17) evp_nil Try.type26 Try.underlying26 rfl rfl trivial rfl rfl rfl) ?_
                refine WL.va rfl rfl rfl (X.moveI rfl) ?_
                refine WL.op rfl (OW.storeOA (hO2.ext hx73) ((hACs14.eq 2).trans ((congrFun hF61 2).trans ((hACs12.eq 2).trans ((congrFun hF51 2).trans ((hAL0.eq 2).trans (congrFun hF37 2)))))) rfl rfl (oc_ones _ rfl rfl rfl rfl) Try.sizeOf26 ?_)
                intro w91 hO2 hx93
                have := World.grownBy.size hx93
                replace hO5 := (hO5.ext hx73).keptO hx93 (by omega)
                refine WL.va rfl rfl rfl (X.assignI rfl) ?_
                refine WL.nil ?_
                refine thn_n ?_
                refine WF.ret ?_
                refine thn_r ?_
                refine finC_r (vs := [_, _]) ⟨⟨_, ((hACs14.eq 2).trans ((congrFun hF61 2).trans ((hACs12.eq 2).trans ((congrFun hF51 2).trans ((hAL0.eq 2).trans (congrFun hF37 2)))))), readO hO2 Try.isAgg26 Try.sizeOf26⟩, rfl, trivial⟩ ?_
                first | (rw [hgs, fin_chk hgB (by assumption) (by assumption)]; exact ⟨⟨_, _, _, _, rfl, (noOp_own _ 0).at⟩, (Ext.store (Ext.trans hwCs14 hx73) hx93 (by omega))⟩) | (rw [hgs, fin_err hgB (by assumption)]; exact ⟨⟨_, _, _, _, rfl, (noOp_own _ 0).at⟩, (Ext.store (Ext.trans hwCs14 hx73) hx93 (by omega))⟩)
              · have gh5_89 := (Decidable.of_not_not (of_decide_eq_false h5_89))
                refine WF.skip ?_
                refine thn_n ?_
                refine WF.seq ?_
                refine WF.region ?_
                refine WL.va rfl rfl rfl (X.loadOA hO5 hx73 ((hACs14.eq 5).trans ((congrFun hF61 5).trans ((hACs12.eq 5).trans ((congrFun hF51 5).trans ((hAL0.eq 5).trans (congrFun hF37 5)))))) rfl Try.isAgg26 Try.sizeOf26) ?_
                have hGF : OpO w71 wA.heap.size vPF vRF vWF vDF oF := by first | exact hGF0.ext hx73 | exact absurd (show sF.err = 0 by assumption) (show ¬ sF.err = 0 by assumption)
                refine WL.op rfl (OW.storeOA (hO2.ext hx73) ((hACs14.eq 2).trans ((congrFun hF61 2).trans ((hACs12.eq 2).trans ((congrFun hF51 2).trans ((hAL0.eq 2).trans (congrFun hF37 2)))))) rfl rfl (hGF.at.ones _) Try.sizeOf26 ?_)
                intro w95 hO2 hx97
                have := World.grownBy.size hx97
                replace hO5 := (hO5.ext hx73).keptO hx97 (by omega)
                have hGN := hGF.keptO hx97 (.inl (by omega))
                refine WL.va rfl rfl rfl (X.assignI rfl) ?_
                refine WL.nil ?_
                refine thn_n ?_
                refine WF.ret ?_
                refine finC_r (vs := [_, _]) ⟨⟨_, ((hACs14.eq 2).trans ((congrFun hF61 2).trans ((hACs12.eq 2).trans ((congrFun hF51 2).trans ((hAL0.eq 2).trans (congrFun hF37 2)))))), readO hO2 Try.isAgg26 Try.sizeOf26⟩, rfl, trivial⟩ ?_
                first | (rw [hgs, fin_ok hgB (by assumption) (by assumption)]; exact ⟨⟨vPF, vRF, vWF, vDF, rfl, hGN.at⟩, (Ext.store (Ext.trans hwCs14 hx73) hx97 (by omega))⟩) | exact absurd (show sF.err = 0 by assumption) (show ¬ sF.err = 0 by assumption)

end Go.Proofs.Ythaojdpeimlngaa
