/- The walk of foreign. -/
import Derived.Test.YtccbpfbcaogcnaaMgA
namespace Go.Proofs.Ytccbpfbcaogcnaa
open Go Go.RowKit Kf
set_option maxRecDepth 20000

theorem next_place {k : Int} {p : Nat} (h : p < (places k).length) : ∃ q, (places k)[p]? = some q ∧ q < 14 ∧ Utf8.decode (strL (lets k)) p = ((lt q).toNat, 1) ∧ (places k).take (p + 1) = (places k).take p ++ [q] :=
  ⟨(places k)[p], List.getElem?_eq_getElem h, places_lt (List.getElem_mem h), lets_dec (by rw [lets_len]; exact h), List.take_succ_eq_append_getElem h⟩
def nl : List UInt8 := [103, 116, 105, 112, 99, 114, 115, 120, 97, 98, 118]
theorem nl_dec {p : Nat} (h : p < 11) : Utf8.decode (strL nl) p = ((lt p).toNat, 1) := by
  have e : nl[p]'h = lt p := by
    match p, h with
    | 0, _ | 1, _ | 2, _ | 3, _ | 4, _ | 5, _ | 6, _ | 7, _ | 8, _ | 9, _ | 10, _ => rfl
  rw [← e]
  exact strL_dec h (by rw [e]; exact lt_small (by omega))
abbrev Zc (n : List Int) (ok : Bool) (vE vD : Value) (T : List Nat) : List Value := mc (zer n T) (zok ok T) (zE vE T) (zD vD T)
section
variable {n : List Int} {ok : Bool} {vE vD : Value} {T : List Nat} {q : Nat}
theorem zer_app (T : List Nat) (q : Nat) : zer n (T ++ [q]) = if q < 11 then (zer n T).set (cl q) 0 else zer n T := by unfold zer; rw [List.foldl_append]; rfl
theorem zok_app (h : q ≠ 11) : zok ok (T ++ [q]) = zok ok T := by
  unfold zok; congr 2; simp [List.contains_eq_mem, List.mem_append]; intro e; exact absurd e.symm h
theorem zE_app (h : q ≠ 12) : zE vE (T ++ [q]) = zE vE T := by
  unfold zE; congr 1; simp [List.mem_append]; intro e; exact absurd e.symm h
theorem zD_app (h : q ≠ 13) : zD vD (T ++ [q]) = zD vD T := by
  unfold zD; congr 1; simp [List.mem_append]; intro e; exact absurd e.symm h
theorem Z11 (hq : q = 11) : (Zc n ok vE vD T).set 14 (.bool false) = Zc n ok vE vD (T ++ [q]) := by
  have e : zok ok (T ++ [q]) = false := by unfold zok; subst hq; simp
  show mc (zer n T) false (zE vE T) (zD vD T) = _
  unfold Zc
  rw [zer_app, if_neg (by omega), e, zE_app (by omega), zD_app (by omega)]
theorem Z12 (hq : q = 12) : (Zc n ok vE vD T).set 15 (.slice none 0 0) = Zc n ok vE vD (T ++ [q]) := by
  have e : zE vE (T ++ [q]) = .slice none 0 0 := by unfold zE; subst hq; simp
  show mc (zer n T) (zok ok T) (.slice none 0 0) (zD vD T) = _
  unfold Zc
  rw [zer_app, if_neg (by omega), e, zok_app (by omega), zD_app (by omega)]
theorem Z13 (hq : q = 13) : (Zc n ok vE vD T).set 16 (.slice none 0 0) = Zc n ok vE vD (T ++ [q]) := by
  have e : zD vD (T ++ [q]) = .slice none 0 0 := by unfold zD; subst hq; simp
  show mc (zer n T) (zok ok T) (zE vE T) (.slice none 0 0) = _
  unfold Zc
  rw [zer_app, if_neg (by omega), e, zok_app (by omega), zE_app (by omega)]
theorem Zn (hn : n.length = 14) (hq : q < 11) : (Zc n ok vE vD T).set (nOff (lt q).toNat) (i64 0) = Zc n ok vE vD (T ++ [q]) := by
  unfold Zc
  rw [zer_app, if_pos hq, zok_app (by omega), zE_app (by omega), zD_app (by omega), nOff_place hq]
  exact mc_set 0 (by rw [zer_len]; exact hn) (cl_lt hq).2
theorem Z0 : mc n ok vE vD = Zc n ok vE vD [] := by simp [Zc, zer, zok, zE, zD]
theorem zE_row {w : World} {sz k : Nat} {cs : List Value} (h : Row w vE k sz cs) (L : List Nat) : Row w (zE vE L) (if 12 ∈ L then 0 else k) sz (if 12 ∈ L then [] else cs) := by
  unfold zE; split
  · exact Row.nil w sz
  · exact h
theorem zD_row {w : World} {sz k : Nat} {cs : List Value} (h : Row w vD k sz cs) (L : List Nat) : Row w (zD vD L) (if 13 ∈ L then 0 else k) sz (if 13 ∈ L then [] else cs) := by
  unfold zD; split
  · exact Row.nil w sz
  · exact h
end
theorem bare_zer {m : Mg} : m.bareP ↔ (∀ p, p < 11 → (zer m.n (places (m.g 0))).getD (cl p) 0 = 0) ∧ zok m.ok (places (m.g 0)) = false ∧ (if 12 ∈ places (m.g 0) then 0 else m.E.length) = 0 ∧ (if 13 ∈ places (m.g 0) then 0 else m.D.length) = 0 := by
  unfold Mg.bareP zok
  have h1 : (∀ p, p < 11 → (zer m.n (places (m.g 0))).getD (cl p) 0 = 0) ↔ ∀ p, p < 11 → p ∉ places (m.g 0) → m.g (cl p) = 0 := by
    constructor
    · intro h p hp hm
      have := h p hp
      rwa [zer_get _ _ _ hp, if_neg hm] at this
    · intro h p hp
      rw [zer_get _ _ _ hp]
      split
      · rfl
      · exact h p hp ‹_›
  rw [h1]
  have h2 : (11 ∉ places (m.g 0) → m.ok = false) ↔ (m.ok && !(places (m.g 0)).contains 11) = false := by
    generalize places (m.g 0) = L
    by_cases h : 11 ∈ L <;> simp [h]
  have h3 : ∀ (a : Nat) (q : Nat), (q ∉ places (m.g 0) → a = 0) ↔ (if q ∈ places (m.g 0) then 0 else a) = 0 := fun a q => by
    generalize places (m.g 0) = L
    by_cases h : q ∈ L <;> simp [h]
  rw [h2, h3, h3]
set_option maxHeartbeats 4000000 in
theorem foreign_ok (vE vD : Value) (m : Mg) (w : World) (h : MgAt w vE vD m) : FnOk Try.prog 34 [agg (mc m.n m.ok vE vD)] w (fun r w' => r = .bool (decide (¬ m.bareP)) ∧ Ext w w') := by
  obtain ⟨E, hE, rE, dE⟩ := h.E
  have hEl : E.length = m.E.length := by rw [← hE]; simp
  have rE2 : Row w vE m.E.length 3 (E.flatMap EV.c) := by rw [← hEl]; exact rE
  have lE := h.E.le
  have lD := Bytes.le64 h.D
  refine FnOk.enter (rs := [2]) Try.func34 rfl Try.ntmps34 Try.results34 rfl rfl ?_
  refine WF.seq ?_
  refine WF.region ?_
  refine WL.op rfl (OW.boxA (cs := (mc m.n m.ok vE vD)) rfl ?_ (by decide))
  intro g1 w1 heg1 hlg1 hO1 hx3
  have := World.grownBy.size hx3
  refine WL.va rfl rfl rfl (X.assignB rfl) ?_
  refine WL.nil ?_
  refine thn_n ?_
  refine WF.seq ?_
  refine WF.seq ?_
  refine WF.region ?_
  refine WL.va rfl rfl rfl (X.fieldAddrO (off := 0) rfl Try.underlying25 rfl rfl Try.sizeOf3) ?_
  refine WL.va rfl rfl rfl (X.loadO hO1 (Ext.refl _) rfl rfl Try.isAgg3) ?_
  refine WL.c rfl rfl rfl (X.call Try.call33 (evl_cons rfl evl_nil)) (fields_ok (m.g 0) _) ?_
  rintro v7 w6 ⟨rfl, hx8⟩
  have := World.grownBy.size hx8
  refine WL.op rfl (OW.range rfl Try.underlying9 ?_ (by decide))
  intro g10 w9 heg10 hlg10 hI10 hx11
  have := World.grownBy.size hx11
  refine WL.nil ?_
  refine thn_n ?_
  refine WF.block ?_
  refine WF.named (fun F13 hF14 => ?_)
  refine WF.loopN (fun mL0 f' w' => ∃ (p : Nat), mL0 = (places (m.g 0)).length - p ∧ Agree [0, 1, 2, 7, 8, 9, 10] f' F13 ∧ Ext w w' ∧ It w' g10 (strL (lets (m.g 0))) p ∧ Blk w' g1 25 (Zc m.n m.ok vE vD ((places (m.g 0)).take p)) ∧ p ≤ (places (m.g 0)).length) ?_ ?_
  · exact ⟨_, 0, rfl, (Agree.refl _ _), (Ext.trans (Ext.trans hx3 hx8) hx11), ⟨hI10, ((hO1.ext (Ext.trans hx8 hx11))).cast Z0, Nat.zero_le _⟩⟩
  · rintro mL0 fL0 wL0 ⟨p, hmL0, hAL0, hwL0, ⟨hI10, hO1, hp⟩⟩
    have := World.grownBy.size hwL0
    have hO1l := hO1.lt
    refine WF.seq ?_
    refine WF.region ?_
    rcases Nat.lt_or_ge p (places (m.g 0)).length with hn2 | hn2
    · obtain ⟨q, hq, hq14, hdec, htk⟩ := next_place hn2
      have hlt := lt_num hq14
      refine WL.op rfl (OW.next hI10 ((hAL0.eq 10).trans (congrFun hF14 10)) (by rw [strL_size, lets_len]; exact hn2) hdec ?_ (by decide))
      intro w15 hI10 hx17
      have := World.grownBy.size hx17
      replace hO1 := hO1.keptO hx17 (by omega)
      refine WL.va rfl rfl rfl (X.extract rfl rfl) ?_
      refine WL.nil ?_
      refine thn_n ?_
      refine WF.seq ?_
      refine WF.cond_t rfl ?_
      refine WF.skip ?_
      refine thn_n ?_
      refine WF.block ?_
      refine WF.seq ?_
      refine WF.region ?_
      refine WL.va rfl rfl rfl (X.extract rfl rfl) ?_
      refine WL.va rfl rfl rfl (X.assignI rfl) ?_
      refine WL.nil ?_
      refine thn_n ?_
      refine WF.seq ?_
      refine WF.region ?_
      refine WL.va rfl rfl rfl (X.moveI rfl) ?_
      refine WL.nil ?_
      refine thn_n ?_
      refine WF.block ?_
      refine WF.seq ?_
      refine WF.region ?_
      refine WL.va rfl rfl rfl (X.eql rfl rfl) ?_
      refine WL.va rfl rfl rfl (X.assignB rfl) ?_
      refine WL.nil ?_
      refine thn_n ?_
      refine WF.cond rfl (fun h1_20 => ?_) (fun h1_20 => ?_)
      · have gh1_20 := (of_decide_eq_true h1_20)
        have hq11 : q = 11 := hlt.1.1 (by have := gh1_20; omega)
        refine WF.region ?_
        refine WL.va rfl rfl rfl (X.fieldAddrO (off := 14) ((hAL0.eq 1).trans (congrFun hF14 1)) Try.underlying25 rfl rfl Try.sizeOf4) ?_
        refine WL.op rfl (OW.storeO hO1 (Nat.le_of_ble_eq_true rfl) rfl rfl rfl Try.sizeOf4 ?_)
        intro w22 hO1 hx24
        have := World.grownBy.size hx24
        replace hI10 := hI10.keptO hx24 (by omega)
        replace hO1 := hO1.cast (Z11 hq11)
        refine WL.nil ?_
        refine blk_n ?_
        refine blk_n ?_
        exact thn_n ⟨_, (by omega), p + 1, rfl, (by repeat (first | exact hAL0 | refine Agree.put ?_ rfl | refine Agree.named hF14 ?_)), (Ext.store (Ext.store hwL0 hx17 (by omega)) hx24 (by omega)), ⟨hI10, by rw [htk]; exact hO1, by omega⟩⟩
      · have gh1_20 := (of_decide_eq_false h1_20)
        have hq11 : q ≠ 11 := fun e => by have h1 := hlt.1.2 e; have h2 := gh1_20; omega
        refine WF.seq ?_
        refine WF.region ?_
        refine WL.va rfl rfl rfl (X.eql rfl rfl) ?_
        refine WL.va rfl rfl rfl (X.assignB rfl) ?_
        refine WL.nil ?_
        refine thn_n ?_
        refine WF.cond rfl (fun h2_26 => ?_) (fun h2_26 => ?_)
        · have gh2_26 := (of_decide_eq_true h2_26)
          have hq12 : q = 12 := hlt.2.1.1 (by have := gh2_26; omega)
          refine WF.region ?_
          refine WL.va rfl rfl rfl (X.fieldAddrO (off := 15) ((hAL0.eq 1).trans (congrFun hF14 1)) Try.underlying25 rfl rfl Try.sizeOf22) ?_
          refine WL.op rfl (OW.storeO hO1 (Nat.le_of_ble_eq_true rfl) rfl rfl rfl Try.sizeOf22 ?_)
          intro w28 hO1 hx30
          have := World.grownBy.size hx30
          replace hI10 := hI10.keptO hx30 (by omega)
          replace hO1 := hO1.cast (Z12 hq12)
          refine WL.nil ?_
          refine blk_n ?_
          refine blk_n ?_
          exact thn_n ⟨_, (by omega), p + 1, rfl, (by repeat (first | exact hAL0 | refine Agree.put ?_ rfl | refine Agree.named hF14 ?_)), (Ext.store (Ext.store hwL0 hx17 (by omega)) hx30 (by omega)), ⟨hI10, by rw [htk]; exact hO1, by omega⟩⟩
        · have gh2_26 := (of_decide_eq_false h2_26)
          have hq12 : q ≠ 12 := fun e => by have h1 := hlt.2.1.2 e; have h2 := gh2_26; omega
          refine WF.seq ?_
          refine WF.region ?_
          refine WL.va rfl rfl rfl (X.eql rfl rfl) ?_
          refine WL.va rfl rfl rfl (X.assignB rfl) ?_
          refine WL.nil ?_
          refine thn_n ?_
          refine WF.cond rfl (fun h3_32 => ?_) (fun h3_32 => ?_)
          · have gh3_32 := (of_decide_eq_true h3_32)
            have hq13 : q = 13 := hlt.2.2.1.1 (by have := gh3_32; omega)
            refine WF.region ?_
            refine WL.va rfl rfl rfl (X.fieldAddrO (off := 16) ((hAL0.eq 1).trans (congrFun hF14 1)) Try.underlying25 rfl rfl Try.sizeOf23) ?_
            refine WL.op rfl (OW.storeO hO1 (Nat.le_of_ble_eq_true rfl) rfl rfl rfl Try.sizeOf23 ?_)
            intro w34 hO1 hx36
            have := World.grownBy.size hx36
            replace hI10 := hI10.keptO hx36 (by omega)
            replace hO1 := hO1.cast (Z13 hq13)
            refine WL.nil ?_
            refine blk_n ?_
            refine blk_n ?_
            exact thn_n ⟨_, (by omega), p + 1, rfl, (by repeat (first | exact hAL0 | refine Agree.put ?_ rfl | refine Agree.named hF14 ?_)), (Ext.store (Ext.store hwL0 hx17 (by omega)) hx36 (by omega)), ⟨hI10, by rw [htk]; exact hO1, by omega⟩⟩
          · have gh3_32 := (of_decide_eq_false h3_32)
            have hq13 : q ≠ 13 := fun e => by have h1 := hlt.2.2.1.2 e; have h2 := gh3_32; omega
            refine WF.region ?_
            refine WL.va rfl rfl rfl (X.moveI rfl) ?_
            refine WL.c rfl rfl rfl (X.call Try.call45 (evl_cons ((hAL0.eq 1).trans (congrFun hF14 1)) (evl_cons rfl evl_nil))) (number_ok2 g1 _ _ _ hO1) ?_
            rintro v39 w38 ⟨rfl, hx40⟩
            have := World.grownBy.size hx40
            refine WL.va rfl rfl rfl (X.nilCheck rfl) ?_
            refine WL.op rfl (OW.storeO (hO1.ext hx40) (Nat.lt_of_lt_of_le (nOff_lt _).2 (by show 14 ≤ 17; decide)) rfl rfl rfl Try.sizeOf3 ?_)
            intro w41 hO1 hx43
            have := World.grownBy.size hx43
            replace hI10 := (hI10.ext hx40).keptO hx43 (by omega)
            replace hO1 := hO1.cast (Zn h.len (by omega))
            refine WL.nil ?_
            refine blk_n ?_
            refine blk_n ?_
            exact thn_n ⟨_, (by omega), p + 1, rfl, (by repeat (first | exact hAL0 | refine Agree.put ?_ rfl | refine Agree.named hF14 ?_)), (Ext.store (Ext.trans (Ext.store hwL0 hx17 (by omega)) hx40) hx43 (by omega)), ⟨hI10, by rw [htk]; exact hO1, by omega⟩⟩
    · refine WL.op rfl (OW.nextEnd hI10 ((hAL0.eq 10).trans (congrFun hF14 10)) (by rw [strL_size, lets_len]; omega) ?_ (by decide))
      refine WL.va rfl rfl rfl (X.extract rfl rfl) ?_
      refine WL.nil ?_
      refine thn_n ?_
      refine WF.seq ?_
      refine WF.cond_f rfl ?_
      refine WF.exit ?_
      refine thn_x ?_
      refine thn_x ?_
      refine blk_eq ?_
      refine thn_n ?_
      refine WF.seq ?_
      refine WF.seq ?_
      refine WF.region ?_
      refine WL.op rfl (OW.range (s := strL nl) rfl Try.underlying9 ?_ (by decide))
      intro g27 w46 heg27 hlg27 hI27 hx48
      have := World.grownBy.size hx48
      refine WL.nil ?_
      refine thn_n ?_
      refine WF.block ?_
      refine WF.named (fun F50 hF51 => ?_)
      refine WF.loopN (fun mL1 f' w' => ∃ (p : Nat), mL1 = 11 - p ∧ Agree [0, 1, 7, 8, 9, 10, 11, 12, 27] f' F50 ∧ Ext w w' ∧ It w' g27 (strL nl) p ∧ Blk w' g1 25 (Zc m.n m.ok vE vD (places (m.g 0))) ∧ p ≤ 11 ∧ ∀ j, j < p → (zer m.n (places (m.g 0))).getD (cl j) 0 = 0) ?_ ?_
      · exact ⟨_, 0, rfl, (Agree.refl _ _), (Ext.trans hwL0 hx48), ⟨hI27, (by rw [List.take_of_length_le hn2] at hO1; exact (hO1.ext hx48)), Nat.zero_le _, fun j hj => by omega⟩⟩
      · rintro mL1 fL1 wL1 ⟨p, hmL1, hAL1, hwL1, ⟨hI27, hO1, hp, hz⟩⟩
        have := World.grownBy.size hwL1
        refine WF.seq ?_
        refine WF.region ?_
        rcases Nat.lt_or_ge p 11 with hn13 | hn13
        · refine WL.op rfl (OW.next hI27 ((hAL1.eq 27).trans (congrFun hF51 27)) (by rw [strL_size]; exact hn13) (nl_dec hn13) ?_ (by decide))
          intro w52 hI27 hx54
          have := World.grownBy.size hx54
          replace hO1 := hO1.keptO hx54 (by omega)
          refine WL.va rfl rfl rfl (X.extract rfl rfl) ?_
          refine WL.nil ?_
          refine thn_n ?_
          refine WF.seq ?_
          refine WF.cond_t rfl ?_
          refine WF.skip ?_
          refine thn_n ?_
          refine WF.block ?_
          refine WF.seq ?_
          refine WF.region ?_
          refine WL.va rfl rfl rfl (X.extract rfl rfl) ?_
          refine WL.va rfl rfl rfl (X.assignI rfl) ?_
          refine WL.nil ?_
          refine thn_n ?_
          refine WF.seq ?_
          refine WF.region ?_
          refine WL.va rfl rfl rfl (X.moveI rfl) ?_
          refine WL.c rfl rfl rfl (X.call Try.call45 (evl_cons ((hAL1.eq 1).trans ((congrFun hF51 1).trans ((hAL0.eq 1).trans (congrFun hF14 1)))) (evl_cons rfl evl_nil))) (number_ok2 g1 _ _ _ hO1) ?_
          rintro v58 w57 ⟨rfl, hx59⟩
          have := World.grownBy.size hx59
          refine WL.va rfl rfl rfl (X.nilCheck rfl) ?_
          refine WL.va rfl rfl rfl (X.loadO hO1 hx59 rfl (by rw [nOff_place hn13]; exact mc_get (by rw [zer_len]; exact h.len) (cl_lt hn13).2) Try.isAgg3) ?_
          refine WL.va rfl rfl rfl (X.neq rfl rfl) ?_
          refine WL.nil ?_
          refine thn_n ?_
          refine WF.cond rfl (fun h5_60 => ?_) (fun h5_60 => ?_)
          · have gh5_60 := (of_decide_eq_true h5_60)
            have hnz : (zer m.n (places (m.g 0))).getD (cl p) 0 ≠ 0 := gh5_60
            refine WF.seq ?_
            refine WF.region ?_
            refine WL.va rfl rfl rfl (X.assignB rfl) ?_
            refine WL.nil ?_
            refine thn_n ?_
            refine WF.ret ?_
            refine blk_r ?_
            refine thn_r ?_
            refine blk_r ?_
            refine thn_r ?_
            refine fin_r ?_
            exact ⟨congrArg Value.bool (dec_t fun hb => hnz ((bare_zer.1 hb).1 p hn13)), (Ext.trans (Ext.store hwL1 hx54 (by omega)) hx59)⟩
          · have gh5_60 := (Decidable.of_not_not (of_decide_eq_false h5_60))
            have hzp : (zer m.n (places (m.g 0))).getD (cl p) 0 = 0 := gh5_60
            refine WF.skip ?_
            refine blk_n ?_
            exact thn_n ⟨_, (by omega), p + 1, rfl, (by repeat (first | exact hAL1 | refine Agree.put ?_ rfl | refine Agree.sub hAL0 rfl ?_ | refine Agree.named hF51 ?_ | refine Agree.named hF14 ?_)), (Ext.trans (Ext.store hwL1 hx54 (by omega)) hx59), ⟨(hI27.ext hx59), (hO1.ext hx59), by omega, fun j hj => by rcases Nat.lt_succ_iff_lt_or_eq.1 hj with hj | rfl; exact hz j hj; exact hzp⟩⟩
        · refine WL.op rfl (OW.nextEnd hI27 ((hAL1.eq 27).trans (congrFun hF51 27)) (by rw [strL_size]; show ¬ p < 11; omega) ?_ (by decide))
          refine WL.va rfl rfl rfl (X.extract rfl rfl) ?_
          refine WL.nil ?_
          refine thn_n ?_
          refine WF.seq ?_
          refine WF.cond_f rfl ?_
          refine WF.exit ?_
          refine thn_x ?_
          refine thn_x ?_
          refine blk_eq ?_
          refine thn_n ?_
          refine WF.seq ?_
          refine WF.region ?_
          refine WL.va rfl rfl rfl (X.fieldAddrO (off := 14) ((hAL1.eq 1).trans ((congrFun hF51 1).trans ((hAL0.eq 1).trans (congrFun hF14 1)))) Try.underlying25 rfl rfl Try.sizeOf4) ?_
          refine WL.va rfl rfl rfl (X.loadO hO1 (Ext.refl _) rfl rfl Try.isAgg4) ?_
          refine WL.va rfl rfl rfl (X.moveB rfl) ?_
          refine WL.split (j := 2) rfl (fun h66 => ?_) (fun h66 => ?_)
          · have gh66 := h66
            have hzT : zok m.ok (places (m.g 0)) = true := gh66
            refine WL.p rfl rfl rfl (congrArg some h66) ?_
            refine WL.p rfl rfl rfl (congrArg some h66) ?_
            refine WL.p rfl rfl rfl (congrArg some h66) ?_
            refine WL.p rfl rfl rfl (congrArg some h66) ?_
            refine WL.va rfl rfl rfl (X.pickT rfl h66 rfl) ?_
            refine WL.va rfl rfl rfl (X.moveB rfl) ?_
            refine WL.p rfl rfl rfl rfl ?_
            refine WL.p rfl rfl rfl rfl ?_
            refine WL.p rfl rfl rfl rfl ?_
            refine WL.p rfl rfl rfl rfl ?_
            refine WL.va rfl rfl rfl (X.pickT rfl rfl rfl) ?_
            refine WL.va rfl rfl rfl (X.assignB rfl) ?_
            refine WL.nil ?_
            refine thn_n ?_
            refine WF.ret ?_
            refine fin_r ?_
            have hz11 : ∀ p, p < 11 → (zer m.n (places (m.g 0))).getD (cl p) 0 = 0 := fun j hj => hz j (by omega)
            refine ⟨congrArg Value.bool ?_, hwL1⟩
            first
              | (refine dec_t fun hb => ?_; have hb := (bare_zer.1 hb).2.1; rw [hzT] at hb; cases hb; done)
              | (refine dec_t fun hb => ?_; have hb := (bare_zer.1 hb).2.2.1; rw [hb] at hzE; exact absurd hzE (by decide))
              | exact dec_iff ⟨fun hg hb => by
                  have hb := (bare_zer.1 hb).2.2.2
                  rw [hb] at hg; exact absurd hg (by decide), fun (hb : ¬ m.bareP) => by
                  have h12 : (if 12 ∈ (places (m.g 0)) then 0 else m.E.length) = 0 := Nat.eq_zero_of_not_pos fun q => hz12 (Int.ofNat_lt.2 q)
                  exact Int.ofNat_lt.2 (Nat.pos_of_ne_zero fun h0 => hb (bare_zer.2 ⟨hz11, hzo, h12, h0⟩))⟩
          · have gh66 := h66
            have hzo : zok m.ok (places (m.g 0)) = false := gh66
            refine WL.vg rfl (congrArg some h66) rfl rfl (X.fieldAddrO (off := 15) ((hAL1.eq 1).trans ((congrFun hF51 1).trans ((hAL0.eq 1).trans (congrFun hF14 1)))) Try.underlying25 rfl rfl Try.sizeOf22) ?_
            refine WL.vg rfl (congrArg some h66) rfl rfl (X.loadO hO1 (Ext.refl _) rfl rfl Try.isAgg22) ?_
            refine WL.vg rfl (congrArg some h66) rfl rfl (X.len (zE_row rE2 (places (m.g 0))) rfl Try.underlying22) ?_
            refine WL.vg rfl (congrArg some h66) rfl rfl (X.gtr rfl rfl) ?_
            refine WL.va rfl rfl rfl (X.pickF rfl h66 rfl) ?_
            refine WL.va rfl rfl rfl (X.moveB rfl) ?_
            refine WL.split (j := 8) rfl (fun h70 => ?_) (fun h70 => ?_)
            · have gh70 := (of_decide_eq_true h70)
              have hzE := gh70
              refine WL.p rfl rfl rfl (congrArg some h70) ?_
              refine WL.p rfl rfl rfl (congrArg some h70) ?_
              refine WL.p rfl rfl rfl (congrArg some h70) ?_
              refine WL.p rfl rfl rfl (congrArg some h70) ?_
              refine WL.va rfl rfl rfl (X.pickT rfl h70 rfl) ?_
              refine WL.va rfl rfl rfl (X.assignB rfl) ?_
              refine WL.nil ?_
              refine thn_n ?_
              refine WF.ret ?_
              refine fin_r ?_
              have hz11 : ∀ p, p < 11 → (zer m.n (places (m.g 0))).getD (cl p) 0 = 0 := fun j hj => hz j (by omega)
              refine ⟨congrArg Value.bool ?_, hwL1⟩
              first
                | (refine dec_t fun hb => ?_; have hb := (bare_zer.1 hb).2.1; rw [hzT] at hb; cases hb; done)
                | (refine dec_t fun hb => ?_; have hb := (bare_zer.1 hb).2.2.1; rw [hb] at hzE; exact absurd hzE (by decide))
                | exact dec_iff ⟨fun hg hb => by
                    have hb := (bare_zer.1 hb).2.2.2
                    rw [hb] at hg; exact absurd hg (by decide), fun (hb : ¬ m.bareP) => by
                    have h12 : (if 12 ∈ (places (m.g 0)) then 0 else m.E.length) = 0 := Nat.eq_zero_of_not_pos fun q => hz12 (Int.ofNat_lt.2 q)
                    exact Int.ofNat_lt.2 (Nat.pos_of_ne_zero fun h0 => hb (bare_zer.2 ⟨hz11, hzo, h12, h0⟩))⟩
            · have gh70 := (of_decide_eq_false h70)
              have hz12 := gh70
              refine WL.vg rfl (congrArg some h70) rfl rfl (X.fieldAddrO (off := 16) ((hAL1.eq 1).trans ((congrFun hF51 1).trans ((hAL0.eq 1).trans (congrFun hF14 1)))) Try.underlying25 rfl rfl Try.sizeOf23) ?_
              refine WL.vg rfl (congrArg some h70) rfl rfl (X.loadO hO1 (Ext.refl _) rfl rfl Try.isAgg23) ?_
              refine WL.vg rfl (congrArg some h70) rfl rfl (X.len (zD_row h.D (places (m.g 0))) rfl Try.underlying23) ?_
              refine WL.vg rfl (congrArg some h70) rfl rfl (X.gtr rfl rfl) ?_
              refine WL.va rfl rfl rfl (X.pickF rfl h70 rfl) ?_
              refine WL.va rfl rfl rfl (X.assignB rfl) ?_
              refine WL.nil ?_
              refine thn_n ?_
              refine WF.ret ?_
              refine fin_r ?_
              have hz11 : ∀ p, p < 11 → (zer m.n (places (m.g 0))).getD (cl p) 0 = 0 := fun j hj => hz j (by omega)
              refine ⟨congrArg Value.bool ?_, hwL1⟩
              first
                | (refine dec_t fun hb => ?_; have hb := (bare_zer.1 hb).2.1; rw [hzT] at hb; cases hb; done)
                | (refine dec_t fun hb => ?_; have hb := (bare_zer.1 hb).2.2.1; rw [hb] at hzE; exact absurd hzE (by decide))
                | exact dec_iff ⟨fun hg hb => by
                    have hb := (bare_zer.1 hb).2.2.2
                    rw [hb] at hg; exact absurd hg (by decide), fun (hb : ¬ m.bareP) => by
                    have h12 : (if 12 ∈ (places (m.g 0)) then 0 else m.E.length) = 0 := Nat.eq_zero_of_not_pos fun q => hz12 (Int.ofNat_lt.2 q)
                    exact Int.ofNat_lt.2 (Nat.pos_of_ne_zero fun h0 => hb (bare_zer.2 ⟨hz11, hzo, h12, h0⟩))⟩

end Go.Proofs.Ytccbpfbcaogcnaa
