/- The walks of Put and of the reference's Put. -/
import Derived.Test.YtccbpfbcaogcnaaMgD
import Derived.Test.YtccbpfbcaogcnaaFrameW
namespace Go.Proofs.Ytccbpfbcaogcnaa
open Go Go.RowKit Kf
set_option maxRecDepth 20000

/-- a message's frame -/
def mput (m : Mg) : List UInt8 := Frm.head (mbytes m) ++ mbytes m
theorem fieldsB_app (m : Mg) (T : List Nat) (q : Nat) : fieldsB m (T ++ [q]) = fieldsB m T ++ fieldB m q := by unfold fieldsB; rw [List.flatMap_append]; simp
theorem F11 {m : Mg} {q : Nat} (h : q = 11) : fieldB m q = Pk.enc (if m.ok then 1 else 0) := by subst h; rfl
theorem F12 {m : Mg} {q : Nat} (h : q = 12) : fieldB m q = Pk.enc m.E.length ++ flatE m.E := by subst h; rfl
theorem F13 {m : Mg} {q : Nat} (h : q = 13) : fieldB m q = Pk.blob m.D := by subst h; rfl
theorem Fn {m : Mg} {q : Nat} (h : q < 11) : fieldB m q = Pk.enc (m.g (cl q)) := by unfold fieldB; rw [if_neg (by omega), if_neg (by omega), if_neg (by omega)]
theorem fieldB_len (m : Mg) (q : Nat) : (fieldB m q).length = 8 + (if q = 12 then sumE m.E else 0) + (if q = 13 then m.D.length else 0) := by
  unfold fieldB
  split
  · rename_i h; subst h; rfl
  · split
    · rename_i h; subst h; simp [Pk.enc_len, flatE_len]
    · split
      · rename_i h; subst h; simp [Pk.blob, Pk.enc_len]
      · rfl
theorem fieldsB_len (m : Mg) (L : List Nat) : (fieldsB m L).length = (L.map fun q => 8 + (if q = 12 then sumE m.E else 0) + (if q = 13 then m.D.length else 0)).sum := by
  unfold fieldsB
  induction L with
  | nil => rfl
  | cons a L ih => simp only [List.flatMap_cons, List.length_append, fieldB_len, ih, List.map_cons, List.sum_cons]
theorem fields_le (m : Mg) (k : Int) : (fieldsB m (places k)).length ≤ 8 * (places k).length + m.D.length + sumE m.E := by
  rw [fieldsB_len]
  refine places_all (P := fun L => (L.map fun q => 8 + (if q = 12 then sumE m.E else 0) + (if q = 13 then m.D.length else 0)).sum ≤ 8 * L.length + m.D.length + sumE m.E) ?_ k
  refine ⟨?_, ?_, ?_, ?_, ?_, ?_, ?_, ?_, ?_, ?_, ?_⟩ <;> simp <;> omega
theorem fieldsB_take (m : Mg) (L : List Nat) (p : Nat) : (fieldsB m (L.take p)).length ≤ (fieldsB m L).length := by
  unfold fieldsB
  conv => rhs; rw [← List.take_append_drop p L, List.flatMap_append]
  rw [List.length_append]; omega
theorem head3_len (m : Mg) : (head3 m).length = 24 := rfl
/-- what a right message is -/
theorem chk_ok {m : Mg} (h : chk m = 0) : (1 ≤ m.g 0 ∧ m.g 0 ≤ 11) ∧ m.bareP ∧ m.rangeP ∧ m.fitsP := by
  unfold chk at h
  split at h
  · cases h
  · rename_i h0
    split at h
    · cases h
    · rename_i h1
      split at h
      · cases h
      · rename_i h2
        split at h
        · cases h
        · rename_i h3
          exact ⟨Decidable.of_not_not h0, Decidable.of_not_not h1, Decidable.of_not_not h2, Decidable.of_not_not h3⟩
theorem mbytes_len {m : Mg} (h : chk m = 0) : (mbytes m).length ≤ 65536 := by
  obtain ⟨_, _, _, h1, h2, h3⟩ := chk_ok h
  have := fields_le m (m.g 0)
  unfold mbytes
  rw [List.length_append, head3_len]
  omega
theorem flatE_snoc {E : List EV} {l : List En} (hE : E.map Prod.fst = l) {k : Nat} (h : k < E.length) : flatE (l.take (k + 1)) = flatE (l.take k) ++ Pk.enc E[k].1.Term ++ Pk.enc E[k].1.Kind ++ Pk.blob E[k].1.Data := by
  subst hE
  unfold flatE
  rw [take_map h, List.flatMap_append]
  simp [encE]
theorem ne_some {x : Option Nat} {g : Nat} (h : ∀ b, x = some b → b ≠ g) : x = none ∨ x ≠ some g := by
  cases x with
  | none => exact .inl rfl
  | some b => exact .inr fun e => h b rfl (by injection e)
theorem flatE_take (l : List En) (k : Nat) : (flatE (l.take k)).length ≤ sumE l := by rw [flatE_len]; exact sumE_le k
set_option maxHeartbeats 4000000 in
theorem put_ok (vE vD : Value) (m : Mg) (w : World) (h : MgAt w vE vD m) : FnOk Try.prog 16 [agg (mc m.n m.ok vE vD)] w (fun r w' => (∃ v, r = .tuple #[v, i64 (chk m)] ∧ (chk m = 0 → OwnB w' w.heap.size 5 v (mput m)) ∧ (chk m ≠ 0 → v = .slice none 0 0)) ∧ Ext w w') := by
  obtain ⟨E, hE, rE, dE⟩ := h.E
  have hEl : E.length = m.E.length := by rw [← hE]; simp
  have lE := h.E.le
  have lD := Bytes.le64 h.D
  have hpl := places_len (m.g 0)
  have rE2 : Row w vE m.E.length 3 (E.flatMap EV.c) := by rw [← hEl]; exact rE
  refine FnOk.enter (rs := [2, 3]) Try.func16 rfl Try.ntmps16 Try.results16 rfl rfl ?_
  refine WF.seq ?_
  refine WF.region ?_
  refine WL.op rfl (OW.boxA (cs := (mc m.n m.ok vE vD)) rfl ?_ (by decide))
  intro g1 w1 heg1 hlg1 hO1 hx3
  have := World.grownBy.size hx3
  refine WL.va rfl rfl rfl (X.assign rfl) ?_
  refine WL.va rfl rfl rfl (X.assignI rfl) ?_
  refine WL.nil ?_
  refine thn_n ?_
  refine WF.seq ?_
  refine WF.seq ?_
  refine WF.region ?_
  refine WL.va rfl rfl rfl (X.loadOA hO1 (Ext.refl _) rfl rfl Try.isAgg25 Try.sizeOf25) ?_
  refine WL.c rfl rfl rfl (X.call Try.call13 (evl_cons rfl evl_nil)) (check_ok vE vD m _ (h.ext hx3)) ?_
  rintro v6 w5 ⟨rfl, hx7⟩
  have := World.grownBy.size hx7
  refine WL.va rfl rfl rfl (X.assignI rfl) ?_
  refine WL.nil ?_
  refine thn_n ?_
  refine WF.seq ?_
  refine WF.region ?_
  refine WL.va rfl rfl rfl (X.moveI rfl) ?_
  refine WL.va rfl rfl rfl (X.neq rfl rfl) ?_
  refine WL.nil ?_
  refine thn_n ?_
  refine WF.cond rfl (fun h0_8 => ?_) (fun h0_8 => ?_)
  · have gh0_8 := (of_decide_eq_true h0_8)
    refine WF.seq ?_
    refine WF.region ?_
    refine WL.va rfl rfl rfl (X.moveI rfl) ?_
    refine WL.va rfl rfl rfl (X.assign rfl) ?_
    refine WL.va rfl rfl rfl (X.assignI rfl) ?_
    refine WL.nil ?_
    refine thn_n ?_
    refine WF.ret ?_
    refine thn_r ?_
    refine fin_r ?_
    exact ⟨⟨_, rfl, fun q => absurd q (by assumption), fun _ => rfl⟩, (Ext.trans hx3 hx7)⟩
  · have gh0_8 := (Decidable.of_not_not (of_decide_eq_false h0_8))
    have hc0 : chk m = 0 := gh0_8
    obtain ⟨c0, c1, c2, c3, c4, c5⟩ := chk_ok hc0
    have hfl := fields_le m (m.g 0)
    have hfe := flatE_take m.E
    refine WF.skip ?_
    refine thn_n ?_
    refine WF.seq ?_
    refine WF.drawn (.q 0 (.q 1 (.q 3 (.q 4 (.q 6 (.q 7 (.l 2 (.l 5 (.l 8 (.q 9 .nil)))))))))) (fun w' => Ext w5 w') 10 (by kernel_rfl) (by kernel_rfl) (Ext.drew _) ?_
    have := World.grownBy.size (Ext.drew w5)
    refine WO.q rfl rfl rfl rfl (fun w' hE10 => (X.fieldAddrO (off := 0) rfl Try.underlying25 rfl rfl Try.sizeOf3)) ?_
    refine WO.q rfl rfl rfl rfl (fun w' hE10 => (X.loadO hO1 (Ext.trans hx7 hE10) rfl rfl Try.isAgg3)) ?_
    refine WO.q rfl rfl rfl rfl (fun w' hE10 => (X.fieldAddrO (off := 1) rfl Try.underlying25 rfl rfl Try.sizeOf3)) ?_
    refine WO.q rfl rfl rfl rfl (fun w' hE10 => (X.loadO hO1 (Ext.trans hx7 hE10) rfl rfl Try.isAgg3)) ?_
    refine WO.q rfl rfl rfl rfl (fun w' hE10 => (X.fieldAddrO (off := 2) rfl Try.underlying25 rfl rfl Try.sizeOf3)) ?_
    refine WO.q rfl rfl rfl rfl (fun w' hE10 => (X.loadO hO1 (Ext.trans hx7 hE10) rfl rfl Try.isAgg3)) ?_
    refine WO.l ?_
    refine LO.go rfl rfl (OW.enter rfl (by decide) (X.call Try.call43 (evl_cons rfl (evl_cons rfl evl_nil))) (int_ok _ [] _ _ (Bytes.nil _) (by decide)) ?_)
    rintro va1 wa1 ⟨oa1, hx11⟩
    have := World.grownBy.size hx11
    refine ⟨(Ext.trans (Ext.drew _) hx11), ?_⟩
    refine WO.l ?_
    refine LO.go rfl rfl (OW.enter rfl (by decide) (X.call Try.call43 (evl_cons rfl (evl_cons rfl evl_nil))) (int_ok _ _ _ _ (Row.ext (Row.of_own oa1) (Ext.refl wa1)) (by simp [Pk.enc_len])) ?_)
    rintro va2 wa2 ⟨oa2, hx12⟩
    have := World.grownBy.size hx12
    refine ⟨(Ext.trans (Ext.trans (Ext.drew _) hx11) hx12), ?_⟩
    refine WO.l ?_
    have hz3 := World.grownBy.size (show Ext w wa2 from (Ext.trans (Ext.trans (Ext.trans (Ext.trans hx3 hx7) (Ext.drew _)) hx11) hx12))
    refine LO.go rfl rfl (OW.enter rfl (by decide) (X.call Try.call43 (evl_cons rfl (evl_cons rfl evl_nil))) (int_ok _ _ _ _ (Row.ext (Row.of_own oa2) (Ext.refl wa2)) (by simp [Pk.enc_len])) ?_)
    rintro va3 wa3 ⟨oa3, hx13⟩
    have := World.grownBy.size hx13
    refine ⟨(Ext.trans (Ext.trans (Ext.trans (Ext.drew _) hx11) hx12) hx13), ?_⟩
    have ob0 : OwnB wa3 w.heap.size 5 va3 (head3 m) := own_mono (show OwnB wa3 _ 5 va3 (head3 m) from by rw [List.nil_append] at oa3; exact oa3) hz3
    refine WO.q rfl rfl rfl rfl (fun w' hE10 => (X.assign rfl)) ?_
    refine WO.nil ?_
    refine WL.nil ?_
    refine thn_n ?_
    refine WF.seq ?_
    refine WF.seq ?_
    refine WF.region ?_
    refine WL.va rfl rfl rfl (X.fieldAddrO (off := 0) rfl Try.underlying25 rfl rfl Try.sizeOf3) ?_
    refine WL.va rfl rfl rfl (X.loadO hO1 (Ext.trans (Ext.trans (Ext.trans (Ext.trans hx7 (Ext.drew _)) hx11) hx12) hx13) rfl rfl Try.isAgg3) ?_
    refine WL.c rfl rfl rfl (X.call Try.call33 (evl_cons rfl evl_nil)) (fields_ok (m.g 0) _) ?_
    rintro v15 w14 ⟨rfl, hx16⟩
    have := World.grownBy.size hx16
    refine WL.op rfl (OW.range rfl Try.underlying9 ?_ (by decide))
    intro g28 w17 heg28 hlg28 hI28 hx19
    have := World.grownBy.size hx19
    refine WL.nil ?_
    refine thn_n ?_
    refine WF.block ?_
    refine WF.named (fun F21 hF22 => ?_)
    refine WF.loopN (fun mL0 f' w' => ∃ (p : Nat) (vb : Value), mL0 = (places (m.g 0)).length - p ∧ f' 5 = vb ∧ Agree [0, 1, 2, 3, 4, 11, 12, 13, 14, 16, 17, 18, 19, 20, 21, 22, 23, 24, 25, 26, 27, 28] f' F21 ∧ Ext w w' ∧ It w' g28 (strL (lets (m.g 0))) p ∧ Blk w' g1 25 (mc m.n m.ok vE vD) ∧ p ≤ (places (m.g 0)).length ∧ OwnB w' w.heap.size 5 vb (head3 m ++ fieldsB m ((places (m.g 0)).take p)) ∧ ∀ b, vb.ownBlock = some b → b ≠ g28) ?_ ?_
    · exact ⟨_, 0, _, rfl, (congrFun hF22 5), (Agree.refl _ _), (Ext.trans (Ext.trans (Ext.trans (Ext.trans (Ext.trans (Ext.trans (Ext.trans hx3 hx7) (Ext.drew _)) hx11) hx12) hx13) hx16) hx19), ⟨hI28, (hO1.ext (Ext.trans (Ext.trans (Ext.trans (Ext.trans (Ext.trans (Ext.trans hx7 (Ext.drew _)) hx11) hx12) hx13) hx16) hx19)), Nat.zero_le _, by rw [List.take_zero]; show OwnB _ _ _ _ (_ ++ []); rw [List.append_nil]; exact own_ext ob0 (Ext.trans hx16 hx19), fun b hb => by have := (ob0.lt b hb).2; omega⟩⟩
    · rintro mL0 fL0 wL0 ⟨p, vb, hmL0, e5_L0, hAL0, hwL0, ⟨hI28, hO1, hp, ob, hne⟩⟩
      have := World.grownBy.size hwL0
      have hO1l := hO1.lt
      have hI28l := hI28.lt
      refine WF.seq ?_
      refine WF.region ?_
      rcases Nat.lt_or_ge p (places (m.g 0)).length with hn6 | hn6
      · obtain ⟨q, hq, hq14, hdec, htk⟩ := next_place hn6
        have hlt := lt_num hq14
        have hfp := fieldsB_take m (places (m.g 0)) p
        refine WL.op rfl (OW.next hI28 ((hAL0.eq 28).trans (congrFun hF22 28)) (by rw [strL_size, lets_len]; exact hn6) hdec ?_ (by decide))
        intro wN hI28 hx24
        have := World.grownBy.size hx24
        replace hO1 := hO1.keptO hx24 (by omega)
        have obn : OwnB wN w.heap.size 5 vb (head3 m ++ fieldsB m ((places (m.g 0)).take p)) := ob.kept hx24 (ne_some hne)
        refine WL.va rfl rfl rfl (X.extract rfl rfl) ?_
        refine WL.nil ?_
        refine thn_n ?_
        refine WF.seq ?_
        refine WF.cond_t rfl ?_
        refine WF.skip ?_
        refine thn_n ?_
        refine WF.block ?_
        refine WF.seq ?_
        refine WF.region ?_
        refine WL.va rfl rfl rfl (X.extract rfl rfl) ?_
        refine WL.va rfl rfl rfl (X.assignI rfl) ?_
        refine WL.nil ?_
        refine thn_n ?_
        refine WF.seq ?_
        refine WF.region ?_
        refine WL.va rfl rfl rfl (X.moveI rfl) ?_
        refine WL.nil ?_
        refine thn_n ?_
        refine WF.block ?_
        refine WF.seq ?_
        refine WF.region ?_
        refine WL.va rfl rfl rfl (X.eql rfl rfl) ?_
        refine WL.va rfl rfl rfl (X.assignB rfl) ?_
        refine WL.nil ?_
        refine thn_n ?_
        refine WF.cond rfl (fun h2_27 => ?_) (fun h2_27 => ?_)
        · have gh2_27 := (of_decide_eq_true h2_27)
          have hq11 : q = 11 := hlt.1.1 (by have := gh2_27; omega)
          refine WF.seq ?_
          refine WF.region ?_
          refine WL.va rfl rfl rfl (X.assignI rfl) ?_
          refine WL.nil ?_
          refine thn_n ?_
          refine WF.seq ?_
          refine WF.seq ?_
          refine WF.region ?_
          refine WL.va rfl rfl rfl (X.fieldAddrO (off := 14) ((hAL0.eq 1).trans (congrFun hF22 1)) Try.underlying25 rfl rfl Try.sizeOf4) ?_
          refine WL.va rfl rfl rfl (X.loadO hO1 (Ext.refl _) rfl rfl Try.isAgg4) ?_
          refine WL.nil ?_
          refine thn_n ?_
          refine WF.cond rfl (fun h3_29 => ?_) (fun h3_29 => ?_)
          · have gh3_29 := h3_29
            have hok : m.ok = true := gh3_29
            refine WF.region ?_
            refine WL.va rfl rfl rfl (X.assignI rfl) ?_
            refine WL.nil ?_
            refine thn_n ?_
            refine WF.region ?_
            refine WL.va rfl rfl rfl (X.move e5_L0) ?_
            refine WL.va rfl rfl rfl (X.moveI rfl) ?_
            have hz5 := World.grownBy.size (show Ext w wN from (Ext.store hwL0 hx24 (by omega)))
            refine WL.c rfl rfl rfl (X.call Try.call43 (evl_cons rfl (evl_cons rfl evl_nil))) (int_ok _ _ _ _ (Row.ext (Row.of_own obn) (Ext.refl wN)) (by rw [List.length_append, head3_len]; omega)) ?_
            rintro vb5 w5b ⟨o5, hx31⟩
            have := World.grownBy.size hx31
            have hnf : ∀ b, (vb5).ownBlock = some b → b ≠ g28 := fun b hb => by have := (o5.lt b hb).1; omega
            have ofin : OwnB w5b w.heap.size 5 vb5 (head3 m ++ fieldsB m ((places (m.g 0)).take p ++ [q])) := by
              rw [fieldsB_app, F11 hq11, ← List.append_assoc]
              rw [hok]; exact own_mono o5 hz5
            refine WL.va rfl rfl rfl (X.assign rfl) ?_
            refine WL.nil ?_
            refine blk_n ?_
            refine blk_n ?_
            exact thn_n ⟨_, (by omega), p + 1, _, rfl, rfl, (by repeat (first | exact hAL0 | refine Agree.put ?_ rfl | refine Agree.named hF22 ?_)), (Ext.trans (Ext.store hwL0 hx24 (by omega)) hx31), ⟨(hI28.ext hx31), (hO1.ext hx31), by omega, by rw [htk]; exact ofin, hnf⟩⟩
          · have gh3_29 := h3_29
            have hok : m.ok = false := gh3_29
            refine WF.skip ?_
            refine thn_n ?_
            refine WF.region ?_
            refine WL.va rfl rfl rfl (X.move e5_L0) ?_
            refine WL.va rfl rfl rfl (X.moveI rfl) ?_
            have hz5 := World.grownBy.size (show Ext w wN from (Ext.store hwL0 hx24 (by omega)))
            refine WL.c rfl rfl rfl (X.call Try.call43 (evl_cons rfl (evl_cons rfl evl_nil))) (int_ok _ _ _ _ (Row.ext (Row.of_own obn) (Ext.refl wN)) (by rw [List.length_append, head3_len]; omega)) ?_
            rintro vb5 w5b ⟨o5, hx32⟩
            have := World.grownBy.size hx32
            have hnf : ∀ b, (vb5).ownBlock = some b → b ≠ g28 := fun b hb => by have := (o5.lt b hb).1; omega
            have ofin : OwnB w5b w.heap.size 5 vb5 (head3 m ++ fieldsB m ((places (m.g 0)).take p ++ [q])) := by
              rw [fieldsB_app, F11 hq11, ← List.append_assoc]
              rw [hok]; exact own_mono o5 hz5
            refine WL.va rfl rfl rfl (X.assign rfl) ?_
            refine WL.nil ?_
            refine blk_n ?_
            refine blk_n ?_
            exact thn_n ⟨_, (by omega), p + 1, _, rfl, rfl, (by repeat (first | exact hAL0 | refine Agree.put ?_ rfl | refine Agree.named hF22 ?_)), (Ext.trans (Ext.store hwL0 hx24 (by omega)) hx32), ⟨(hI28.ext hx32), (hO1.ext hx32), by omega, by rw [htk]; exact ofin, hnf⟩⟩
        · have gh2_27 := (of_decide_eq_false h2_27)
          have hq11 : q ≠ 11 := fun e => by have h1 := hlt.1.2 e; have h2 := gh2_27; omega
          refine WF.seq ?_
          refine WF.region ?_
          refine WL.va rfl rfl rfl (X.eql rfl rfl) ?_
          refine WL.va rfl rfl rfl (X.assignB rfl) ?_
          refine WL.nil ?_
          refine thn_n ?_
          refine WF.cond rfl (fun h4_33 => ?_) (fun h4_33 => ?_)
          · have gh4_33 := (of_decide_eq_true h4_33)
            have hq12 : q = 12 := hlt.2.1.1 (by have := gh4_33; omega)
            refine WF.seq ?_
            refine WF.region ?_
            refine WL.va rfl rfl rfl (X.move e5_L0) ?_
            refine WL.va rfl rfl rfl (X.fieldAddrO (off := 15) ((hAL0.eq 1).trans (congrFun hF22 1)) Try.underlying25 rfl rfl Try.sizeOf22) ?_
            refine WL.va rfl rfl rfl (X.loadO hO1 (Ext.refl _) rfl rfl Try.isAgg22) ?_
            refine WL.va rfl rfl rfl (X.len rE2 rfl Try.underlying22) ?_
            have hz6 := World.grownBy.size (show Ext w wN from (Ext.store hwL0 hx24 (by omega)))
            refine WL.c rfl rfl rfl (X.call Try.call43 (evl_cons rfl (evl_cons rfl evl_nil))) (int_ok _ _ _ _ (Row.ext (Row.of_own obn) (Ext.refl wN)) (by rw [List.length_append, head3_len]; omega)) ?_
            rintro vb6 w6b ⟨o6, hx35⟩
            have := World.grownBy.size hx35
            have ok0 := own_mono o6 hz6
            have hn6 : ∀ b, vb6.ownBlock = some b → b ≠ g28 := fun b hb => by have := (o6.lt b hb).1; omega
            refine WL.va rfl rfl rfl (X.assign rfl) ?_
            refine WL.nil ?_
            refine thn_n ?_
            refine WF.seq ?_
            refine WF.region ?_
            refine WL.va rfl rfl rfl (X.fieldAddrO (off := 15) ((hAL0.eq 1).trans (congrFun hF22 1)) Try.underlying25 rfl rfl Try.sizeOf22) ?_
            refine WL.va rfl rfl rfl (X.loadO hO1 hx35 rfl rfl Try.isAgg22) ?_
            refine WL.va rfl rfl rfl (X.len rE2 rfl Try.underlying22) ?_
            refine WL.va rfl rfl rfl (X.moveI rfl) ?_
            refine WL.nil ?_
            refine thn_n ?_
            refine WF.block ?_
            refine WF.named (fun F36 hF37 => ?_)
            refine WF.loopN (fun mL1 f' w' => ∃ (k : Nat) (vk : Value), mL1 = E.length - k ∧ f' 56 = .int .i64 (k : Int) ∧ f' 5 = vk ∧ Agree [0, 1, 2, 3, 4, 7, 11, 12, 13, 14, 16, 17, 18, 19, 20, 21, 22, 23, 24, 25, 26, 27, 28, 29, 30, 31, 32, 39, 40, 46, 47, 48, 49, 50, 51, 52, 53, 54, 55] f' F36 ∧ Ext w6b w' ∧ k ≤ E.length ∧ OwnB w' w.heap.size 5 vk ((head3 m ++ fieldsB m ((places (m.g 0)).take p)) ++ Pk.enc m.E.length ++ flatE (m.E.take k)) ∧ ∀ b, vk.ownBlock = some b → b ≠ g28) ?_ ?_
            · exact ⟨_, 0, _, rfl, (congrFun hF37 56), (congrFun hF37 5), (Agree.refl _ _), (Ext.refl _), ⟨Nat.zero_le _, by rw [List.take_zero]; show OwnB _ _ _ _ (_ ++ []); rw [List.append_nil]; exact own_ext ok0 (Ext.refl w6b), hn6⟩⟩
            · rintro mL1 fL1 wL1 ⟨k, vk, hmL1, e56_L1, e5_L1, hAL1, hwL1, ⟨hk0, okk, hnk⟩⟩
              have := World.grownBy.size hwL1
              refine WF.seq ?_
              refine WF.region ?_
              refine WL.va rfl rfl rfl (X.lss e56_L1 ((hAL1.eq 55).trans (congrFun hF37 55))) ?_
              refine WL.nil ?_
              refine thn_n ?_
              refine WF.seq ?_
              refine WF.cond rfl (fun h5_38 => ?_) (fun h5_38 => ?_)
              · have gh5_38 := (of_decide_eq_true h5_38)
                have hk : k < E.length := by omega
                have hdk := sumE_map hE hk
                have hdl := sumE_le (l := m.E) (k + 1)
                have hfk := hfe k
                refine WF.skip ?_
                refine thn_n ?_
                refine WF.seq ?_
                refine WF.block ?_
                refine WF.seq ?_
                refine WF.region ?_
                refine WL.va rfl rfl rfl (X.idx rE2 ((hAL1.eq 54).trans (congrFun hF37 54)) e56_L1 (by omega) Try.underlying22 Try.sizeOf57) ?_
                refine WL.va rfl rfl rfl (X.loadEl rE2 (Ext.trans (Ext.trans (Ext.store hwL0 hx24 (by omega)) hx35) hwL1) rfl (by omega) (ERow.el (E := E) (k := k) hk) Try.isAgg57 Try.sizeOf57) ?_
                refine WL.op rfl (OW.allocO (cs := [i64 0, i64 0, .slice none 0 0]) Try.zeroValue57 rfl ?_ (by decide))
                intro g10 w40 heg10 hlg10 hO10 hx42
                have := World.grownBy.size hx42
                refine WL.op rfl (OW.storeOA hO10 rfl rfl rfl (dE.one1 hk) Try.sizeOf57 ?_)
                intro w44 hO10 hx46
                have := World.grownBy.size hx46
                replace hO1 := (hO1.ext (Ext.trans (Ext.trans hx35 hwL1) hx42)).keptO hx46 (by omega)
                replace hI28 := (hI28.ext (Ext.trans (Ext.trans hx35 hwL1) hx42)).keptO hx46 (by omega)
                refine WL.nil ?_
                refine thn_n ?_
                refine WF.drawn (.q 0 (.q 1 (.q 2 (.q 4 (.q 5 (.q 7 (.q 8 (.l 3 (.l 6 (.l 9 (.q 10 .nil))))))))))) (fun w' => Ext w44 w') 11 (by kernel_rfl) (by kernel_rfl) (Ext.drew _) ?_
                have := World.grownBy.size (Ext.drew w44)
                refine WO.q rfl rfl rfl rfl (fun w' hE48 => (X.move e5_L1)) ?_
                refine WO.q rfl rfl rfl rfl (fun w' hE48 => (X.fieldAddrO (off := 0) rfl Try.underlying57 rfl rfl Try.sizeOf3)) ?_
                refine WO.q rfl rfl rfl rfl (fun w' hE48 => (X.loadO hO10 hE48 rfl rfl Try.isAgg3)) ?_
                refine WO.q rfl rfl rfl rfl (fun w' hE48 => (X.fieldAddrO (off := 1) rfl Try.underlying57 rfl rfl Try.sizeOf3)) ?_
                refine WO.q rfl rfl rfl rfl (fun w' hE48 => (X.loadO hO10 hE48 rfl rfl Try.isAgg3)) ?_
                refine WO.q rfl rfl rfl rfl (fun w' hE48 => (X.fieldAddrO (off := 2) rfl Try.underlying57 rfl rfl Try.sizeOf23)) ?_
                refine WO.q rfl rfl rfl rfl (fun w' hE48 => (X.loadO hO10 hE48 rfl rfl Try.isAgg23)) ?_
                refine WO.l ?_
                refine LO.go rfl rfl (OW.enter rfl (by decide) (X.call Try.call43 (evl_cons rfl (evl_cons rfl evl_nil))) (int_ok _ _ _ _ (Row.ext (Row.of_own okk) (Ext.trans (Ext.store hx42 hx46 (by omega)) (Ext.drew _))) (by simp only [List.length_append, head3_len, Pk.enc_len]; omega)) ?_)
                rintro vd1 wd1 ⟨od1, hx49⟩
                have := World.grownBy.size hx49
                refine ⟨(Ext.trans (Ext.drew _) hx49), ?_⟩
                refine WO.l ?_
                refine LO.go rfl rfl (OW.enter rfl (by decide) (X.call Try.call43 (evl_cons rfl (evl_cons rfl evl_nil))) (int_ok _ _ _ _ (Row.ext (Row.of_own od1) (Ext.refl wd1)) (by simp only [List.length_append, head3_len, Pk.enc_len]; omega)) ?_)
                rintro vd2 wd2 ⟨od2, hx50⟩
                have := World.grownBy.size hx50
                refine ⟨(Ext.trans (Ext.trans (Ext.drew _) hx49) hx50), ?_⟩
                refine WO.l ?_
                have hz9 := World.grownBy.size (show Ext w wd2 from (Ext.trans (Ext.trans (Ext.trans (Ext.trans (Ext.trans (Ext.trans (Ext.store hwL0 hx24 (by omega)) hx35) hwL1) (Ext.store hx42 hx46 (by omega))) (Ext.drew _)) hx49) hx50))
                refine LO.go rfl rfl (OW.enter rfl (by decide) (X.call Try.call44 (evl_cons rfl (evl_cons rfl evl_nil))) (blob_ok _ _ _ (E[k]'hk).1.Data _ (Row.ext (Row.of_own od2) (Ext.refl wd2)) (Row.ext (dE _ (List.getElem_mem hk)) (Ext.trans (Ext.trans (Ext.trans (Ext.trans (Ext.trans (Ext.trans (Ext.store hwL0 hx24 (by omega)) hx35) hwL1) (Ext.store hx42 hx46 (by omega))) (Ext.drew _)) hx49) hx50)) (by simp only [List.length_append, head3_len, Pk.enc_len]; omega)) ?_)
                rintro vd3 wd3 ⟨od3, hx51⟩
                have := World.grownBy.size hx51
                refine ⟨(Ext.trans (Ext.trans (Ext.trans (Ext.drew _) hx49) hx50) hx51), ?_⟩
                refine WO.q rfl rfl rfl rfl (fun w' hE48 => (X.assign rfl)) ?_
                refine WO.nil ?_
                refine WL.nil ?_
                refine blk_n ?_
                refine thn_n ?_
                refine WF.region ?_
                refine WL.va rfl rfl rfl (X.add e56_L1 rfl (w64 (by omega))) ?_
                refine WL.va rfl rfl rfl (X.moveI rfl) ?_
                refine WL.nil ?_
                exact thn_n ⟨_, (by omega), k + 1, _, rfl, rfl, rfl, (by repeat (first | exact hAL1 | refine Agree.put ?_ rfl | refine Agree.sub hAL0 rfl ?_ | refine Agree.named hF37 ?_ | refine Agree.named hF22 ?_)), (Ext.trans (Ext.trans (Ext.trans (Ext.trans (Ext.trans hwL1 (Ext.store hx42 hx46 (by omega))) (Ext.drew _)) hx49) hx50) hx51), ⟨by omega, by rw [flatE_snoc hE hk, ← List.append_assoc, ← List.append_assoc, ← List.append_assoc]; exact own_mono od3 hz9, fun b hb => by have := (od3.lt b hb).1; omega⟩⟩
              · have gh5_38 := (of_decide_eq_false h5_38)
                have hnf := hnk
                have ofin : OwnB wL1 w.heap.size 5 vk (head3 m ++ fieldsB m ((places (m.g 0)).take p ++ [q])) := by
                  rw [fieldsB_app, F12 hq12, ← List.append_assoc]
                  rw [List.take_of_length_le (show m.E.length ≤ k by omega)] at okk
                  simpa only [List.append_assoc] using okk
                refine WF.exit ?_
                refine thn_x ?_
                refine thn_x ?_
                refine blk_eq ?_
                refine blk_n ?_
                refine blk_n ?_
                exact thn_n ⟨_, (by omega), p + 1, _, rfl, e5_L1, (by repeat (first | exact hAL0 | refine Agree.put ?_ rfl | refine Agree.sub hAL1 rfl ?_ | refine Agree.named hF37 ?_ | refine Agree.named hF22 ?_)), (Ext.trans (Ext.trans (Ext.store hwL0 hx24 (by omega)) hx35) hwL1), ⟨(hI28.ext (Ext.trans hx35 hwL1)), (hO1.ext (Ext.trans hx35 hwL1)), by omega, by rw [htk]; exact ofin, hnf⟩⟩
          · have gh4_33 := (of_decide_eq_false h4_33)
            have hq12 : q ≠ 12 := fun e => by have h1 := hlt.2.1.2 e; have h2 := gh4_33; omega
            refine WF.seq ?_
            refine WF.region ?_
            refine WL.va rfl rfl rfl (X.eql rfl rfl) ?_
            refine WL.va rfl rfl rfl (X.assignB rfl) ?_
            refine WL.nil ?_
            refine thn_n ?_
            refine WF.cond rfl (fun h6_52 => ?_) (fun h6_52 => ?_)
            · have gh6_52 := (of_decide_eq_true h6_52)
              have hq13 : q = 13 := hlt.2.2.1.1 (by have := gh6_52; omega)
              refine WF.region ?_
              refine WL.va rfl rfl rfl (X.move e5_L0) ?_
              refine WL.va rfl rfl rfl (X.fieldAddrO (off := 16) ((hAL0.eq 1).trans (congrFun hF22 1)) Try.underlying25 rfl rfl Try.sizeOf23) ?_
              refine WL.va rfl rfl rfl (X.loadO hO1 (Ext.refl _) rfl rfl Try.isAgg23) ?_
              have hz10 := World.grownBy.size (show Ext w wN from (Ext.store hwL0 hx24 (by omega)))
              refine WL.c rfl rfl rfl (X.call Try.call44 (evl_cons rfl (evl_cons rfl evl_nil))) (blob_ok _ _ _ m.D _ (Row.ext (Row.of_own obn) (Ext.refl wN)) (Row.ext h.D (Ext.store hwL0 hx24 (by omega))) (by rw [List.length_append, head3_len]; omega)) ?_
              rintro vb10 w10b ⟨o10, hx54⟩
              have := World.grownBy.size hx54
              have hnf : ∀ b, (vb10).ownBlock = some b → b ≠ g28 := fun b hb => by have := (o10.lt b hb).1; omega
              have ofin : OwnB w10b w.heap.size 5 vb10 (head3 m ++ fieldsB m ((places (m.g 0)).take p ++ [q])) := by
                rw [fieldsB_app, F13 hq13, ← List.append_assoc]
                exact own_mono o10 hz10
              refine WL.va rfl rfl rfl (X.assign rfl) ?_
              refine WL.nil ?_
              refine blk_n ?_
              refine blk_n ?_
              exact thn_n ⟨_, (by omega), p + 1, _, rfl, rfl, (by repeat (first | exact hAL0 | refine Agree.put ?_ rfl | refine Agree.named hF22 ?_)), (Ext.trans (Ext.store hwL0 hx24 (by omega)) hx54), ⟨(hI28.ext hx54), (hO1.ext hx54), by omega, by rw [htk]; exact ofin, hnf⟩⟩
            · have gh6_52 := (of_decide_eq_false h6_52)
              have hq13 : q ≠ 13 := fun e => by have h1 := hlt.2.2.1.2 e; have h2 := gh6_52; omega
              refine WF.region ?_
              refine WL.va rfl rfl rfl (X.move e5_L0) ?_
              refine WL.va rfl rfl rfl (X.moveI rfl) ?_
              refine WL.c rfl rfl rfl (X.call Try.call45 (evl_cons ((hAL0.eq 1).trans (congrFun hF22 1)) (evl_cons rfl evl_nil))) (number_ok2 g1 _ _ _ hO1) ?_
              rintro v56 w55 ⟨rfl, hx57⟩
              have := World.grownBy.size hx57
              refine WL.va rfl rfl rfl (X.nilCheck rfl) ?_
              refine WL.va rfl rfl rfl (X.loadO hO1 hx57 rfl (by rw [nOff_place (show q < 11 by omega)]; exact mc_get h.len (cl_lt (by omega)).2) Try.isAgg3) ?_
              have hz12 := World.grownBy.size (show Ext w w55 from (Ext.trans (Ext.store hwL0 hx24 (by omega)) hx57))
              refine WL.c rfl rfl rfl (X.call Try.call43 (evl_cons rfl (evl_cons rfl evl_nil))) (int_ok _ _ _ _ (Row.ext (Row.of_own obn) hx57) (by rw [List.length_append, head3_len]; omega)) ?_
              rintro vb12 w12b ⟨o12, hx58⟩
              have := World.grownBy.size hx58
              have hnf : ∀ b, (vb12).ownBlock = some b → b ≠ g28 := fun b hb => by have := (o12.lt b hb).1; omega
              have ofin : OwnB w12b w.heap.size 5 vb12 (head3 m ++ fieldsB m ((places (m.g 0)).take p ++ [q])) := by
                rw [fieldsB_app, Fn (show q < 11 by omega), ← List.append_assoc]
                exact own_mono o12 hz12
              refine WL.va rfl rfl rfl (X.assign rfl) ?_
              refine WL.nil ?_
              refine blk_n ?_
              refine blk_n ?_
              exact thn_n ⟨_, (by omega), p + 1, _, rfl, rfl, (by repeat (first | exact hAL0 | refine Agree.put ?_ rfl | refine Agree.named hF22 ?_)), (Ext.trans (Ext.trans (Ext.store hwL0 hx24 (by omega)) hx57) hx58), ⟨(hI28.ext (Ext.trans hx57 hx58)), (hO1.ext (Ext.trans hx57 hx58)), by omega, by rw [htk]; exact ofin, hnf⟩⟩
      · refine WL.op rfl (OW.nextEnd hI28 ((hAL0.eq 28).trans (congrFun hF22 28)) (by rw [strL_size, lets_len]; omega) ?_ (by decide))
        have obm : OwnB wL0 w.heap.size 5 vb (mbytes m) := by
          rw [List.take_of_length_le (by omega)] at ob; exact ob
        refine WL.va rfl rfl rfl (X.extract rfl rfl) ?_
        refine WL.nil ?_
        refine thn_n ?_
        refine WF.seq ?_
        refine WF.cond_f rfl ?_
        refine WF.exit ?_
        refine thn_x ?_
        refine thn_x ?_
        refine blk_eq ?_
        refine thn_n ?_
        refine WF.seq ?_
        refine WF.region ?_
        refine WL.va rfl rfl rfl (X.move e5_L0) ?_
        have hz13 := World.grownBy.size (show Ext w wL0 from hwL0)
        refine WL.c rfl rfl rfl (X.call Try.call46 (evl_cons rfl evl_nil)) (fput_ok _ (mbytes m) _ (Row.ext (Row.of_own obm) (Ext.refl wL0))) ?_
        rintro vf wf ⟨⟨vx, rfl, of0⟩, hx60⟩
        have := World.grownBy.size hx60
        have hpo := Frm.put_ok (mbytes_len hc0)
        rw [hpo] at of0
        refine WL.va rfl rfl rfl (X.extract rfl rfl) ?_
        refine WL.va rfl rfl rfl (X.extract rfl rfl) ?_
        refine WL.va rfl rfl rfl (X.assign rfl) ?_
        refine WL.va rfl rfl rfl (X.assignI rfl) ?_
        refine WL.nil ?_
        refine thn_n ?_
        refine WF.ret ?_
        refine fin_r ?_
        have hcx := hpo
        rw [hpo]
        refine ⟨⟨vx, (by rw [hc0]; rfl), fun _ => own_mono of0 hz13, fun q => absurd hc0 q⟩, (Ext.trans hwL0 hx60)⟩

end Go.Proofs.Ytccbpfbcaogcnaa
