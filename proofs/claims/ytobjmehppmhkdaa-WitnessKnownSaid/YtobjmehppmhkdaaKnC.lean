/- The walks of the document's answer: Order, wrote, Play, place, wrong, snaps, bad, Check. -/
import Derived.Test.YtobjmehppmhkdaaKnB
import Derived.Test.YtobjmehppmhkdaaBlkR
namespace Go.Proofs.Ytobjmehppmhkdaa
open Go Go.RowKit Kf
set_option maxRecDepth 20000

section
variable {l : List Ev} {k n i m : Nat} {t : Int} {d : List Bl} {e : Ev}
theorem sw_app {a b : List Wr} : setsL d (a ++ b) = setsL (setsL d a) b := by unfold setsL; rw [List.foldl_append]
theorem sw_t (hk : k < l.length) (h : l[k].Txn = t) (h2 : ans l[k] 3 0 = true) : setsL d (writesL (l.take (k + 1)) t) = setB (setsL d (writesL (l.take k) t)) l[k].Call.Block l[k].Call.Data := by
  rw [writes_t hk h h2, sw_app]; rfl
theorem play_succ (hk : k < (orderL l).length) : playN l (k + 1) = setsL (playN l k) (writesL l ((orderL l).getD k 0)) := by
  unfold playN
  rw [List.take_succ_eq_append_getElem hk, List.foldl_append, List.getD_eq_getElem?_getD, List.getElem?_eq_getElem hk]; rfl
theorem play_right : ∀ {n : Nat}, RightB (playN l n) := by
  intro n
  unfold playN
  generalize (orderL l).take n = ts
  have : ∀ (ts : List Int) (d : List Bl), RightB d → RightB (ts.foldl (fun d t => setsL d (writesL l t)) d) := by
    intro ts
    induction ts with
    | nil => intro d h; exact h
    | cons t ts ih => intro d h; exact ih _ (sets_right h _)
  exact this ts [] RightB.nil
theorem play_end1 {z : Int} (hk : (k : Int) ≤ max z 0) (h : ¬ (k : Int) < z) : playN l k = playL l z := by
  unfold playL; congr 1; omega
theorem play_end2 {z : Int} (hk : (k : Int) ≤ max z 0) (h : (orderL l).length ≤ k) : playN l k = playL l z := by
  unfold playL playN
  rw [List.take_of_length_le h, List.take_of_length_le (by omega)]
theorem play_nat : playL l (n : Int) = playN l n := rfl
theorem rplace_at (hk : k < (orderL l).length) (h : (orderL l).getD k 0 = t) (hno : ∀ j, j < k → (orderL l).getD j 0 ≠ t) : ((k + 1 : Nat) : Int) = (rplace l t : Int) := by
  unfold rplace; rw [placeOf_at hk h hno]
theorem rplace_no (hk : (orderL l).length ≤ k) (hno : ∀ j, j < k → (orderL l).getD j 0 ≠ t) : (0 : Int) = (rplace l t : Int) := by
  unfold rplace; rw [placeOf_no (fun j hj => hno j (by omega))]; rfl
theorem placeOf_lt : ∀ {l : List Int} {t : Int} {a : Nat}, placeOf l t = some a → a < l.length
  | [], _, _, h => by cases h
  | x :: l, t, a, h => by
    unfold placeOf at h
    split at h
    · injection h with h; subst h; simp
    · cases hp : placeOf l t with
      | none => rw [hp] at h; cases h
      | some b => rw [hp] at h; simp only [Option.map_some, Option.some.injEq] at h; have := placeOf_lt hp; simp only [List.length_cons]; omega
theorem rplace_le : rplace l t ≤ (orderL l).length := by
  unfold rplace
  split
  · rename_i a h; exact placeOf_lt h
  · omega
theorem wr_1 (h : ans e 2 0 = false) : Value.bool false = Value.bool (wrongR l i e) := by simp [wrongR, h]
theorem wr_2 (h : rplace l e.Txn = 0) : Value.bool false = Value.bool (wrongR l i e) := by simp [wrongR, h]
theorem wr_3 (h : ans e 2 0 = true) (h2 : ¬ rplace l e.Txn = 0) : Value.bool (!decide (getB (setsL (playN l (rplace l e.Txn - 1)) (writesL (l.take i) e.Txn)) e.Call.Block = e.Answer.Data)) = Value.bool (wrongR l i e) := by simp [wrongR, h, h2]
theorem sr_1 (h : ans e 8 0 = false) : Value.bool false = Value.bool (snapsR l i e) := by simp [snapsR, h]
theorem sr_2 (h : ans e 8 0 = true) (h2 : rchosen l e.Call.Snap i = false) : Value.bool true = Value.bool (snapsR l i e) := by simp [snapsR, h, h2]
theorem sr_3 (h : ans e 8 0 = true) (h2 : rchosen l e.Call.Snap i = true) : Value.bool (!decide (getB (playN l (rplace l e.Call.Snap)) e.Call.Block = e.Answer.Data)) = Value.bool (snapsR l i e) := by simp [snapsR, h, h2]
theorem ba_2 (h : e.Kind = 3) : Value.bool (rchosen l e.Txn i) = Value.bool (badR l 2 i e) := by simp [badR, h]
theorem ba_2n (h : ¬ e.Kind = 3) : Value.bool false = Value.bool (badR l 2 i e) := by simp [badR, h]
theorem ba_3 (h : deniesB e = true) : Value.bool (rchosen l e.Txn l.length) = Value.bool (badR l 3 i e) := by simp [badR, h]
theorem ba_3n (h : deniesB e = false) : Value.bool false = Value.bool (badR l 3 i e) := by simp [badR, h]
theorem ba_4 (h : saysB l e = true) : Value.bool (!rchosen l e.Txn i) = Value.bool (badR l 4 i e) := by simp [badR, h]
theorem ba_4n (h : saysB l e = false) : Value.bool false = Value.bool (badR l 4 i e) := by simp [badR, h]
theorem go_5 (h : e.Kind = 1) (h5 : e.Call.Kind = 5) : goesOn e = true := by simp [goesOn, h, h5]
theorem ba_5 (h : goesOn e = true) : Value.bool (rchosen l e.Txn i) = Value.bool (badR l 5 i e) := by simp [badR, h]
theorem ba_5n (h : ¬ e.Kind = 1) : Value.bool false = Value.bool (badR l 5 i e) := by simp [badR, goesOn, h]
theorem ba_5m (h2 : ¬ e.Call.Kind = 2) (h3 : ¬ e.Call.Kind = 3) (h4 : ¬ e.Call.Kind = 4) (h5 : ¬ e.Call.Kind = 5) : Value.bool false = Value.bool (badR l 5 i e) := by simp [badR, goesOn, h2, h3, h4, h5]
def noR : List Int := [0, 4, 7, 24, 6, 15, 12, 23]
theorem no_code : ∀ {m : Nat}, 1 ≤ m → m ≤ 7 → noR.getD m 0 = codeR m
  | 0, h, _ => by omega
  | 1, _, _ => rfl
  | 2, _, _ => rfl
  | 3, _, _ => rfl
  | 4, _, _ => rfl
  | 5, _, _ => rfl
  | 6, _, _ => rfl
  | 7, _, _ => rfl
  | m + 8, _, h => by omega
def NoW (l : List Ev) (m : Nat) : Prop := ∀ j, 1 ≤ j → j < m → anyI l (badR l j) = false
theorem rck_len : (rchecks l).length = 7 := rfl
theorem rck_get {j : Nat} (hj : j < (rchecks l).length) : (rchecks l)[j] = (anyI l (badR l (j + 1)), codeR (j + 1)) := by
  have h := List.getElem?_eq_getElem hj
  have h2 : (rchecks l)[j]? = some (anyI l (badR l (j + 1)), codeR (j + 1)) := by unfold rchecks; rw [List.getElem?_map, List.getElem?_range (show j < 7 from hj)]; rfl
  rw [h] at h2
  injection h2
theorem rck_at (h1 : 1 ≤ m) (h7 : m ≤ 7) (h : anyI l (badR l m) = true) (hno : NoW l m) : noR.getD m 0 = refCheckL l := by
  have hm : m - 1 < (rchecks l).length := by rw [rck_len]; omega
  unfold refCheckL
  rw [firstG_at hm (by rw [rck_get, show m - 1 + 1 = m by omega]; exact h) (fun j hj hjm => by rw [rck_get]; exact hno (j + 1) (by omega) (by omega)), rck_get, show m - 1 + 1 = m by omega]
  exact no_code h1 h7
theorem rck_no (hno : NoW l 8) : 0 = refCheckL l := by
  unfold refCheckL
  exact (firstG_no fun j hj => by rw [rck_get]; exact hno (j + 1) (by omega) (by rw [rck_len] at hj; omega)).symm
theorem NoW.s (h : NoW l m) (hm : anyI l (badR l m) = false) : NoW l (m + 1) := fun j h1 h2 => by
  by_cases q : j = m
  · subst q; exact hm
  · exact h j h1 (by omega)
end
set_option maxHeartbeats 2000000 in
theorem rorder_ok (v : Value) (l : List Ev) (w : World) (hv : Evs w v l) (hl : l.length ≤ 1000000) : FnOk Try.prog 38 [v] w (fun r w' => OwnI w' w.heap.size 3 r (orderL l) ∧ Ext w w') := by
  have hle := hv.le
  obtain ⟨cs, hr, hel⟩ := hv
  refine FnOk.enter (rs := [2]) Try.func38 rfl Try.ntmps38 Try.results38 rfl rfl ?_
  refine WF.seq ?_
  refine WF.region ?_
  refine WL.va rfl rfl rfl (X.assign rfl) ?_
  refine WL.nil ?_
  refine thn_n ?_
  refine WF.seq ?_
  refine WF.region ?_
  refine WL.va rfl rfl rfl (X.assign rfl) ?_
  refine WL.nil ?_
  refine thn_n ?_
  refine WF.seq ?_
  refine WF.seq ?_
  refine WF.region ?_
  refine WL.va rfl rfl rfl (X.assignI rfl) ?_
  refine WL.nil ?_
  refine thn_n ?_
  refine WF.block ?_
  refine WF.named (fun F1 hF2 => ?_)
  refine WF.loopN (fun mL0 f' w' => ∃ (k : Nat) (vo : Value), mL0 = l.length - k ∧ f' 4 = .int .i64 (k : Int) ∧ f' 3 = vo ∧ Agree [0, 2] f' F1 ∧ Ext w w' ∧ k ≤ l.length ∧ OwnI w' w.heap.size 3 vo (orderL (l.take k))) ?_ ?_
  · exact ⟨_, 0, _, rfl, (congrFun hF2 4), (congrFun hF2 3), (Agree.refl _ _), (Ext.refl _), ⟨Nat.zero_le _, OwnI.nil _ _ _⟩⟩
  · rintro mL0 fL0 wL0 ⟨k, vo, hmL0, e4_L0, e3_L0, hAL0, hwL0, ⟨hk0, hO⟩⟩
    have hOT := OwnT.of hO
    refine WF.seq ?_
    refine WF.seq ?_
    refine WF.region ?_
    refine WL.va rfl rfl rfl (X.moveI e4_L0) ?_
    refine WL.va rfl rfl rfl (X.move ((hAL0.eq 0).trans (congrFun hF2 0))) ?_
    refine WL.va rfl rfl rfl (X.len hr rfl Try.underlying26) ?_
    refine WL.va rfl rfl rfl (X.lss rfl rfl) ?_
    refine WL.nil ?_
    refine thn_n ?_
    refine WF.cond rfl (fun h0_3 => ?_) (fun h0_3 => ?_)
    · have gh0_3 := (of_decide_eq_true h0_3)
      have hk : k < l.length := by have := gh0_3; omega
      obtain ⟨d, d2, hcs, hd1, hd2⟩ := hel k hk
      have hol := order_len (l := l.take k)
      rw [show (l.take k).length = k from by simp; omega] at hol
      refine WF.skip ?_
      refine thn_n ?_
      refine WF.seq ?_
      refine WF.block ?_
      refine WF.seq ?_
      refine WF.region ?_
      refine WL.va rfl rfl rfl (X.move ((hAL0.eq 0).trans (congrFun hF2 0))) ?_
      refine WL.va rfl rfl rfl (X.moveI e4_L0) ?_
      refine WL.va rfl rfl rfl (X.idx hr rfl rfl hk Try.underlying26 Try.sizeOf42) ?_
      refine WL.va rfl rfl rfl (X.fieldAddrA rfl Try.underlying42 rfl rfl Try.sizeOf3) ?_
      refine WL.va rfl rfl rfl (X.loadE hr hwL0 rfl hk ((el_get hcs 0 (by decide)).trans rfl) Try.isAgg3) ?_
      refine WL.va rfl rfl rfl (X.eql rfl rfl) ?_
      refine WL.nil ?_
      refine thn_n ?_
      refine WF.cond rfl (fun h1_5 => ?_) (fun h1_5 => ?_)
      · have gh1_5 := (of_decide_eq_true h1_5)
        have h3 : (l[k]'hk).Kind = 3 := gh1_5
        refine WF.region ?_
        refine WL.va rfl rfl rfl (X.move e3_L0) ?_
        refine WL.va rfl rfl rfl (X.move ((hAL0.eq 0).trans (congrFun hF2 0))) ?_
        refine WL.va rfl rfl rfl (X.moveI e4_L0) ?_
        refine WL.va rfl rfl rfl (X.idx hr rfl rfl hk Try.underlying26 Try.sizeOf42) ?_
        refine WL.va rfl rfl rfl (X.fieldAddrA rfl Try.underlying42 rfl rfl Try.sizeOf3) ?_
        refine WL.va rfl rfl rfl (X.loadE hr hwL0 rfl hk ((el_get hcs 2 (by decide)).trans rfl) Try.isAgg3) ?_
        refine WL.op rfl (OW.lits (vs := [i64 (l[k]'hk).Txn]) (evp_cons rfl evp_nil) Try.underlying34 Try.sizeOf3 Try.zeroValue3 ⟨rfl, trivial⟩ rfl rfl rfl ?_ (by decide))
        intro v8 w7 ho10 hx9
        have := World.grownBy.size hx9
        have o1 : World.ownsRow w7 _ 3 1 v8 1 [i64 (l[k]'hk).Txn] := ho10
        refine WL.op rfl (OW.appendI (hOT.ext hx9).own (show Ints _ _ [(l[k]'hk).Txn] from Row.of_own o1) rfl rfl Try.underlying34 Try.type3 rfl rfl rfl rfl (by show (orderL (l.take k)).length + 1 ≤ _; omega) (by have := ((Ext.trans hwL0 hx9)).size; omega) ?_ (by decide))
        intro vo2 w11 ho13 hx12 hmvhx12
        have hO2 : OwnI w11 w.heap.size 3 vo2 (orderL (l.take k) ++ [(l[k]'hk).Txn]) := ho13
        rw [← order_t hk h3] at hO2
        refine WL.va rfl rfl rfl (X.assign rfl) ?_
        refine WL.nil ?_
        refine blk_n ?_
        refine thn_n ?_
        refine WF.region ?_
        refine WL.va rfl rfl rfl (X.moveI e4_L0) ?_
        refine WL.va rfl rfl rfl (X.add rfl rfl (w64 (by omega))) ?_
        refine WL.va rfl rfl rfl (X.assignI rfl) ?_
        refine WL.nil ?_
        exact thn_n ⟨_, (by omega), k + 1, _, rfl, rfl, rfl, (by repeat (first | exact hAL0 | refine Agree.put ?_ rfl | refine Agree.named hF2 ?_)), (Ext.own (Ext.trans hwL0 hx9) (hOT.ext hx9).own (Nat.le_refl _) hx12), ⟨by omega, hO2⟩⟩
      · have gh1_5 := (of_decide_eq_false h1_5)
        have h3 : ¬ (l[k]'hk).Kind = 3 := gh1_5
        refine WF.skip ?_
        refine blk_n ?_
        refine thn_n ?_
        refine WF.region ?_
        refine WL.va rfl rfl rfl (X.moveI e4_L0) ?_
        refine WL.va rfl rfl rfl (X.add rfl rfl (w64 (by omega))) ?_
        refine WL.va rfl rfl rfl (X.assignI rfl) ?_
        refine WL.nil ?_
        first | exact thn_n ⟨_, (by omega), k + 1, _, rfl, rfl, e3_L0, (by repeat (first | exact hAL0 | refine Agree.put ?_ rfl | refine Agree.named hF2 ?_)), hwL0, ⟨by omega, hO2⟩⟩ | exact thn_n ⟨_, (by omega), k + 1, _, rfl, rfl, e3_L0, (by repeat (first | exact hAL0 | refine Agree.put ?_ rfl | refine Agree.named hF2 ?_)), hwL0, ⟨by omega, by rw [order_f hk h3]; exact hOT.own⟩⟩
    · have gh0_3 := (of_decide_eq_false h0_3)
      have hk : l.length ≤ k := by have := gh0_3; omega
      refine WF.exit ?_
      refine thn_x ?_
      refine thn_x ?_
      refine blk_eq ?_
      refine thn_n ?_
      refine WF.seq ?_
      refine WF.region ?_
      refine WL.va rfl rfl rfl (X.move e3_L0) ?_
      refine WL.va rfl rfl rfl (X.assign rfl) ?_
      refine WL.nil ?_
      refine thn_n ?_
      refine WF.ret ?_
      refine fin_r ?_
      rw [List.take_of_length_le hk] at hO
      exact ⟨hO, hwL0⟩

set_option maxHeartbeats 4000000 in
theorem rwrote_ok (v : Value) (l : List Ev) (t : Int) (n : Nat) (vd : Value) (E : List BV) (B : Nat) (w : World) (hv : Evs w v l) (hn : n ≤ l.length) (h : BRng w B vd E) (hB : B ≤ w.heap.size) (hrt : RightB (E.map Prod.fst)) : FnOk Try.prog 67 [v, i64 t, i64 (n : Int), vd] w (fun r w' => (∃ F, F.map Prod.fst = setsL (E.map Prod.fst) (writesL (l.take n) t) ∧ BRng w' B r F) ∧ Ext w w') := by
  have hle := hv.le
  obtain ⟨cs, hr, hel⟩ := hv
  refine FnOk.enter (rs := [8]) Try.func67 rfl Try.ntmps67 Try.results67 rfl rfl ?_
  refine WF.seq ?_
  refine WF.region ?_
  refine WL.va rfl rfl rfl (X.assign rfl) ?_
  refine WL.nil ?_
  refine thn_n ?_
  refine WF.seq ?_
  refine WF.seq ?_
  refine WF.region ?_
  refine WL.va rfl rfl rfl (X.assignI rfl) ?_
  refine WL.nil ?_
  refine thn_n ?_
  refine WF.block ?_
  refine WF.named (fun F1 hF2 => ?_)
  refine WF.loopN (fun mL0 f' w' => ∃ (k : Nat) (vo : Value) (F : List BV), mL0 = n - k ∧ f' 9 = .int .i64 (k : Int) ∧ f' 3 = vo ∧ Agree [0, 1, 2, 8] f' F1 ∧ Ext w w' ∧ k ≤ n ∧ BRng w' B vo F ∧ F.map Prod.fst = setsL (E.map Prod.fst) (writesL (l.take k) t)) ?_ ?_
  · exact ⟨_, 0, _, E, rfl, (congrFun hF2 9), (congrFun hF2 3), (Agree.refl _ _), (Ext.refl _), ⟨Nat.zero_le _, h, rfl⟩⟩
  · rintro mL0 fL0 wL0 ⟨k, vo, F, hmL0, e9_L0, e3_L0, hAL0, hwL0, ⟨hk0, hF, hFm⟩⟩
    refine WF.seq ?_
    refine WF.seq ?_
    refine WF.region ?_
    refine WL.va rfl rfl rfl (X.moveI e9_L0) ?_
    refine WL.va rfl rfl rfl (X.moveI ((hAL0.eq 2).trans (congrFun hF2 2))) ?_
    refine WL.va rfl rfl rfl (X.lss rfl rfl) ?_
    refine WL.nil ?_
    refine thn_n ?_
    refine WF.cond rfl (fun h0_3 => ?_) (fun h0_3 => ?_)
    · have gh0_3 := (of_decide_eq_true h0_3)
      have hkn : k < n := by have := gh0_3; omega
      have hk : k < l.length := by omega
      obtain ⟨d1, d2, hcs, hd1, hd2⟩ := hel k hk
      refine WF.skip ?_
      refine thn_n ?_
      refine WF.seq ?_
      refine WF.block ?_
      refine WF.seq ?_
      refine WF.region ?_
      refine WL.va rfl rfl rfl (X.move ((hAL0.eq 0).trans (congrFun hF2 0))) ?_
      refine WL.va rfl rfl rfl (X.moveI e9_L0) ?_
      refine WL.va rfl rfl rfl (X.idx hr rfl rfl hk Try.underlying26 Try.sizeOf42) ?_
      refine WL.va rfl rfl rfl (X.fieldAddrA rfl Try.underlying42 rfl rfl Try.sizeOf3) ?_
      refine WL.va rfl rfl rfl (X.loadE hr hwL0 rfl hk ((el_get hcs 2 (by decide)).trans rfl) Try.isAgg3) ?_
      refine WL.va rfl rfl rfl (X.moveI ((hAL0.eq 1).trans (congrFun hF2 1))) ?_
      refine WL.va rfl rfl rfl (X.eql rfl rfl) ?_
      refine WL.va rfl rfl rfl (X.moveB rfl) ?_
      refine WL.split (j := 7) rfl (fun h6 => ?_) (fun h6 => ?_)
      · have gh6 := (of_decide_eq_true h6)
        have c1 : (l[k]'hk).Txn = t := gh6
        refine WL.vg rfl (congrArg some h6) rfl rfl (X.move ((hAL0.eq 0).trans (congrFun hF2 0))) ?_
        refine WL.vg rfl (congrArg some h6) rfl rfl (X.moveI e9_L0) ?_
        refine WL.vg rfl (congrArg some h6) rfl rfl (X.idx hr rfl rfl hk Try.underlying26 Try.sizeOf42) ?_
        refine WL.vg rfl (congrArg some h6) rfl rfl (X.loadEl hr hwL0 rfl hk hcs Try.isAgg42 Try.sizeOf42) ?_
        refine WL.cg rfl (congrArg some h6) rfl rfl (X.call Try.call85 (evl_cons (v := (agg (Ev.c (l[k]'hk) d1 d2))) rfl (evl_cons (v := (i64 3)) rfl evl_nil))) (rok_ok (l[k]'hk) d1 d2 3 _) ?_
        rintro v8 w7 ⟨rfl, hx9⟩
        refine WL.va rfl rfl rfl (X.pickT rfl h6 rfl) ?_
        refine WL.nil ?_
        refine thn_n ?_
        refine WF.cond rfl (fun h1_10 => ?_) (fun h1_10 => ?_)
        · have gh1_10 := h1_10
          have hst := sw_t (d := E.map Prod.fst) hk c1 gh1_10
          refine WF.drawn (.q 0 (.q 1 (.q 2 (.q 3 (.q 4 (.q 5 (.q 6 (.q 7 (.q 8 (.q 9 (.q 10 (.q 11 (.q 12 (.l 13 (.q 14 .nil))))))))))))))) (fun w' => Ext w7 w') 15 (by kernel_rfl) (by kernel_rfl) (Ext.drew _) ?_
          refine WO.q rfl rfl rfl rfl (fun w' hE12 => (X.move e3_L0)) ?_
          refine WO.q rfl rfl rfl rfl (fun w' hE12 => (X.move ((hAL0.eq 0).trans (congrFun hF2 0)))) ?_
          refine WO.q rfl rfl rfl rfl (fun w' hE12 => (X.moveI e9_L0)) ?_
          refine WO.q rfl rfl rfl rfl (fun w' hE12 => (X.idx hr rfl rfl hk Try.underlying26 Try.sizeOf42)) ?_
          refine WO.q rfl rfl rfl rfl (fun w' hE12 => (X.fieldAddrA rfl Try.underlying42 rfl rfl Try.sizeOf38)) ?_
          refine WO.q rfl rfl rfl rfl (fun w' hE12 => (X.fieldAddrAA (off := 1) rfl Try.underlying38 rfl rfl Try.sizeOf3)) ?_
          refine WO.q rfl rfl rfl rfl (fun w' hE12 => (X.loadE hr (Ext.trans (Ext.trans hwL0 hx9) hE12) rfl hk ((el_get hcs 4 (by decide)).trans rfl) Try.isAgg3)) ?_
          refine WO.q rfl rfl rfl rfl (fun w' hE12 => (X.move ((hAL0.eq 0).trans (congrFun hF2 0)))) ?_
          refine WO.q rfl rfl rfl rfl (fun w' hE12 => (X.moveI e9_L0)) ?_
          refine WO.q rfl rfl rfl rfl (fun w' hE12 => (X.idx hr rfl rfl hk Try.underlying26 Try.sizeOf42)) ?_
          refine WO.q rfl rfl rfl rfl (fun w' hE12 => (X.fieldAddrA rfl Try.underlying42 rfl rfl Try.sizeOf38)) ?_
          refine WO.q rfl rfl rfl rfl (fun w' hE12 => (X.fieldAddrAA (off := 12) rfl Try.underlying38 rfl rfl Try.sizeOf36)) ?_
          refine WO.q rfl rfl rfl rfl (fun w' hE12 => (X.loadE hr (Ext.trans (Ext.trans hwL0 hx9) hE12) rfl hk ((el_get hcs 15 (by decide)).trans rfl) Try.isAgg36)) ?_
          refine WO.l ?_
          have hzs := World.grownBy.size (show Ext w w7.drew from (Ext.trans (Ext.trans hwL0 hx9) (Ext.drew _)))
          refine LO.go rfl rfl (OW.enter rfl (by decide) (X.call Try.call86 (evl_cons rfl (evl_cons (v := (i64 (l[k]'hk).Call.Block)) rfl (evl_cons rfl evl_nil)))) (refSet_ok _ (setsL (E.map Prod.fst) (writesL (l.take k) t)) (l[k]'hk).Call.Block _ (l[k]'hk).Call.Data _ ((hF.blsE hFm).ext (Ext.trans hx9 (Ext.drew _))) (sets_right hrt _) (Row.ext hd1 (Ext.trans (Ext.trans hwL0 hx9) (Ext.drew _)))) ?_)
          rintro vS w13 ⟨⟨G, hG, oG0⟩, hx14⟩
          refine ⟨(Ext.trans (Ext.drew _) hx14), ?_⟩
          have oG := oG0.mono (Nat.le_trans hB hzs)
          refine WO.q rfl rfl rfl rfl (fun w' hE12 => (X.assign rfl)) ?_
          refine WO.nil ?_
          refine WL.nil ?_
          refine blk_n ?_
          refine thn_n ?_
          refine WF.region ?_
          refine WL.va rfl rfl rfl (X.moveI e9_L0) ?_
          refine WL.va rfl rfl rfl (X.add rfl rfl (w64 (by omega))) ?_
          refine WL.va rfl rfl rfl (X.assignI rfl) ?_
          refine WL.nil ?_
          first | exact thn_n ⟨_, (by omega), k + 1, _, G, rfl, rfl, rfl, (by repeat (first | exact hAL0 | refine Agree.put ?_ rfl | refine Agree.named hF2 ?_)), (Ext.trans (Ext.trans (Ext.trans hwL0 hx9) (Ext.drew _)) hx14), ⟨by omega, oG, by rw [hG, hst]⟩⟩ | exact thn_n ⟨_, (by omega), k + 1, _, F, rfl, rfl, rfl, (by repeat (first | exact hAL0 | refine Agree.put ?_ rfl | refine Agree.named hF2 ?_)), (Ext.trans (Ext.trans (Ext.trans hwL0 hx9) (Ext.drew _)) hx14), ⟨by omega, hF9, by rw [hst]; exact hFm⟩⟩
        · have gh1_10 := h1_10
          have hst : writesL (l.take (k + 1)) t = writesL (l.take k) t := writes_g hk gh1_10
          have hF9 := hF.ext (show Ext wL0 w7 from hx9)
          refine WF.skip ?_
          refine blk_n ?_
          refine thn_n ?_
          refine WF.region ?_
          refine WL.va rfl rfl rfl (X.moveI e9_L0) ?_
          refine WL.va rfl rfl rfl (X.add rfl rfl (w64 (by omega))) ?_
          refine WL.va rfl rfl rfl (X.assignI rfl) ?_
          refine WL.nil ?_
          first | exact thn_n ⟨_, (by omega), k + 1, _, G, rfl, rfl, e3_L0, (by repeat (first | exact hAL0 | refine Agree.put ?_ rfl | refine Agree.named hF2 ?_)), (Ext.trans hwL0 hx9), ⟨by omega, oG, by rw [hG, hst]⟩⟩ | exact thn_n ⟨_, (by omega), k + 1, _, F, rfl, rfl, e3_L0, (by repeat (first | exact hAL0 | refine Agree.put ?_ rfl | refine Agree.named hF2 ?_)), (Ext.trans hwL0 hx9), ⟨by omega, hF9, by rw [hst]; exact hFm⟩⟩
      · have gh6 := (of_decide_eq_false h6)
        have hst : writesL (l.take (k + 1)) t = writesL (l.take k) t := writes_f hk gh6
        have hF9 := hF.ext (show Ext wL0 wL0 from (Ext.refl _))
        refine WL.p rfl rfl rfl (congrArg some h6) ?_
        refine WL.p rfl rfl rfl (congrArg some h6) ?_
        refine WL.p rfl rfl rfl (congrArg some h6) ?_
        refine WL.p rfl rfl rfl (congrArg some h6) ?_
        refine WL.p rfl rfl rfl (congrArg some h6) ?_
        refine WL.va rfl rfl rfl (X.pickF rfl h6 rfl) ?_
        refine WL.nil ?_
        refine thn_n ?_
        refine WF.cond_f rfl ?_
        refine WF.skip ?_
        refine blk_n ?_
        refine thn_n ?_
        refine WF.region ?_
        refine WL.va rfl rfl rfl (X.moveI e9_L0) ?_
        refine WL.va rfl rfl rfl (X.add rfl rfl (w64 (by omega))) ?_
        refine WL.va rfl rfl rfl (X.assignI rfl) ?_
        refine WL.nil ?_
        first | exact thn_n ⟨_, (by omega), k + 1, _, G, rfl, rfl, e3_L0, (by repeat (first | exact hAL0 | refine Agree.put ?_ rfl | refine Agree.named hF2 ?_)), hwL0, ⟨by omega, oG, by rw [hG, hst]⟩⟩ | exact thn_n ⟨_, (by omega), k + 1, _, F, rfl, rfl, e3_L0, (by repeat (first | exact hAL0 | refine Agree.put ?_ rfl | refine Agree.named hF2 ?_)), hwL0, ⟨by omega, hF9, by rw [hst]; exact hFm⟩⟩
    · have gh0_3 := (of_decide_eq_false h0_3)
      have hk : n ≤ k := by have := gh0_3; omega
      obtain rfl : k = n := by omega
      refine WF.exit ?_
      refine thn_x ?_
      refine thn_x ?_
      refine blk_eq ?_
      refine thn_n ?_
      refine WF.seq ?_
      refine WF.region ?_
      refine WL.va rfl rfl rfl (X.move e3_L0) ?_
      refine WL.va rfl rfl rfl (X.assign rfl) ?_
      refine WL.nil ?_
      refine thn_n ?_
      refine WF.ret ?_
      refine fin_r ?_
      exact ⟨⟨F, hFm, hF⟩, hwL0⟩

set_option maxHeartbeats 4000000 in
theorem rplay_ok (v : Value) (l : List Ev) (z : Int) (w : World) (hv : Evs w v l) (hl : l.length ≤ 1000000) : FnOk Try.prog 43 [v, i64 z] w (fun r w' => (∃ F, F.map Prod.fst = playL l z ∧ BRng w' w.heap.size r F) ∧ Ext w w') := by
  have hv0 := hv
  have hle := hv.le
  obtain ⟨cs, hr, hel⟩ := hv
  have hol := order_len (l := l)
  refine FnOk.enter (rs := [4]) Try.func43 rfl Try.ntmps43 Try.results43 rfl rfl ?_
  refine WF.seq ?_
  refine WF.region ?_
  refine WL.va rfl rfl rfl (X.assign rfl) ?_
  refine WL.nil ?_
  refine thn_n ?_
  refine WF.seq ?_
  refine WF.region ?_
  refine WL.va rfl rfl rfl (X.assign rfl) ?_
  refine WL.nil ?_
  refine thn_n ?_
  refine WF.seq ?_
  refine WF.region ?_
  refine WL.va rfl rfl rfl (X.move rfl) ?_
  refine WL.c rfl rfl rfl (X.call Try.call38 (evl_cons rfl evl_nil)) (rorder_ok _ l _ (hv0.ext (Ext.refl w)) hl) ?_
  rintro v1 wO ⟨hov, hx2⟩
  refine WL.va rfl rfl rfl (X.assign rfl) ?_
  refine WL.nil ?_
  refine thn_n ?_
  refine WF.seq ?_
  refine WF.seq ?_
  refine WF.region ?_
  refine WL.va rfl rfl rfl (X.assignI rfl) ?_
  refine WL.nil ?_
  refine thn_n ?_
  refine WF.block ?_
  refine WF.named (fun F3 hF4 => ?_)
  refine WF.loopN (fun mL0 f' w' => ∃ (k : Nat) (vo : Value) (F : List BV), mL0 = (orderL l).length - k ∧ f' 7 = .int .i64 (k : Int) ∧ f' 5 = vo ∧ Agree [0, 1, 4, 6, 8, 9] f' F3 ∧ Ext wO w' ∧ k ≤ (orderL l).length ∧ (k : Int) ≤ max z 0 ∧ BRng w' w.heap.size vo F ∧ F.map Prod.fst = playN l k) ?_ ?_
  · exact ⟨_, 0, _, [], rfl, (congrFun hF4 7), (congrFun hF4 5), (Agree.refl _ _), (Ext.refl _), ⟨Nat.zero_le _, (by omega), BRng.nil _ _, rfl⟩⟩
  · rintro mL0 fL0 wL0 ⟨k, vo, F, hmL0, e7_L0, e5_L0, hAL0, hwL0, ⟨hk0, hkz0, hF, hFm⟩⟩
    refine WF.seq ?_
    refine WF.seq ?_
    refine WF.region ?_
    refine WL.va rfl rfl rfl (X.moveI e7_L0) ?_
    refine WL.va rfl rfl rfl (X.moveI ((hAL0.eq 1).trans (congrFun hF4 1))) ?_
    refine WL.va rfl rfl rfl (X.lss rfl rfl) ?_
    refine WL.va rfl rfl rfl (X.moveB rfl) ?_
    refine WL.split (j := 3) rfl (fun h6 => ?_) (fun h6 => ?_)
    · have gh6 := (of_decide_eq_true h6)
      have hkz : (k : Int) < z := gh6
      refine WL.vg rfl (congrArg some h6) rfl rfl (X.moveI e7_L0) ?_
      refine WL.vg rfl (congrArg some h6) rfl rfl (X.move ((hAL0.eq 6).trans (congrFun hF4 6))) ?_
      refine WL.vg rfl (congrArg some h6) rfl rfl (X.len (show Ints _ _ (orderL l) from Row.of_own hov) rfl Try.underlying34) ?_
      refine WL.vg rfl (congrArg some h6) rfl rfl (X.lss rfl rfl) ?_
      refine WL.va rfl rfl rfl (X.pickT rfl h6 rfl) ?_
      refine WL.nil ?_
      refine thn_n ?_
      refine WF.cond rfl (fun h0_7 => ?_) (fun h0_7 => ?_)
      · have gh0_7 := (of_decide_eq_true h0_7)
        have hk : k < (orderL l).length := by have := gh0_7; omega
        refine WF.skip ?_
        refine thn_n ?_
        refine WF.seq ?_
        refine WF.block ?_
        refine WF.region ?_
        refine WL.va rfl rfl rfl (X.move ((hAL0.eq 0).trans (congrFun hF4 0))) ?_
        refine WL.va rfl rfl rfl (X.move ((hAL0.eq 6).trans (congrFun hF4 6))) ?_
        refine WL.va rfl rfl rfl (X.moveI e7_L0) ?_
        refine WL.va rfl rfl rfl (X.idx (show Ints _ _ (orderL l) from Row.of_own hov) rfl rfl hk Try.underlying34 Try.sizeOf3) ?_
        refine WL.va rfl rfl rfl (X.loadI (show Ints _ _ (orderL l) from Row.of_own hov) hwL0 rfl hk Try.isAgg3) ?_
        refine WL.va rfl rfl rfl (X.move ((hAL0.eq 0).trans (congrFun hF4 0))) ?_
        refine WL.va rfl rfl rfl (X.len hr rfl Try.underlying26) ?_
        refine WL.va rfl rfl rfl (X.move e5_L0) ?_
        have hzs := World.grownBy.size (show Ext w wL0 from (Ext.trans hx2 hwL0))
        refine WL.c rfl rfl rfl (X.call Try.call67 (evl_cons rfl (evl_cons (v := (i64 ((orderL l).getD k 0))) rfl (evl_cons (v := (i64 (l.length : Int))) rfl (evl_cons rfl evl_nil))))) (rwrote_ok _ l ((orderL l).getD k 0) l.length _ F w.heap.size _ (hv0.ext (Ext.trans hx2 hwL0)) (Nat.le_refl _) (hF.ext (Ext.refl wL0)) hzs (by rw [hFm]; exact play_right)) ?_
        rintro vS w9 ⟨⟨G, hG, oG⟩, hx10⟩
        rw [List.take_length, hFm, ← play_succ hk] at hG
        refine WL.va rfl rfl rfl (X.assign rfl) ?_
        refine WL.nil ?_
        refine blk_n ?_
        refine thn_n ?_
        refine WF.region ?_
        refine WL.va rfl rfl rfl (X.moveI e7_L0) ?_
        refine WL.va rfl rfl rfl (X.add rfl rfl (w64 (by omega))) ?_
        refine WL.va rfl rfl rfl (X.assignI rfl) ?_
        refine WL.nil ?_
        exact thn_n ⟨_, (by omega), k + 1, _, G, rfl, rfl, rfl, (by repeat (first | exact hAL0 | refine Agree.put ?_ rfl | refine Agree.named hF4 ?_)), (Ext.trans hwL0 hx10), ⟨by omega, by omega, oG, hG⟩⟩
      · have gh0_7 := (of_decide_eq_false h0_7)
        have hend : playN l k = playL l z := play_end2 hkz0 (by have := gh0_7; omega)
        refine WF.exit ?_
        refine thn_x ?_
        refine thn_x ?_
        refine blk_eq ?_
        refine thn_n ?_
        refine WF.seq ?_
        refine WF.region ?_
        refine WL.va rfl rfl rfl (X.move e5_L0) ?_
        refine WL.va rfl rfl rfl (X.assign rfl) ?_
        refine WL.nil ?_
        refine thn_n ?_
        refine WF.ret ?_
        refine fin_r ?_
        exact ⟨⟨F, hFm.trans hend, hF⟩, (Ext.trans hx2 hwL0)⟩
    · have gh6 := (of_decide_eq_false h6)
      have hend : playN l k = playL l z := play_end1 hkz0 gh6
      refine WL.p rfl rfl rfl (congrArg some h6) ?_
      refine WL.p rfl rfl rfl (congrArg some h6) ?_
      refine WL.p rfl rfl rfl (congrArg some h6) ?_
      refine WL.p rfl rfl rfl (congrArg some h6) ?_
      refine WL.va rfl rfl rfl (X.pickF rfl h6 rfl) ?_
      refine WL.nil ?_
      refine thn_n ?_
      refine WF.cond_f rfl ?_
      refine WF.exit ?_
      refine thn_x ?_
      refine thn_x ?_
      refine blk_eq ?_
      refine thn_n ?_
      refine WF.seq ?_
      refine WF.region ?_
      refine WL.va rfl rfl rfl (X.move e5_L0) ?_
      refine WL.va rfl rfl rfl (X.assign rfl) ?_
      refine WL.nil ?_
      refine thn_n ?_
      refine WF.ret ?_
      refine fin_r ?_
      exact ⟨⟨F, hFm.trans hend, hF⟩, (Ext.trans hx2 hwL0)⟩

set_option maxHeartbeats 2000000 in
theorem rplace_ok (v : Value) (l : List Ev) (t : Int) (w : World) (hv : Evs w v l) (hl : l.length ≤ 1000000) : FnOk Try.prog 90 [v, i64 t] w (fun r w' => r = i64 (rplace l t : Int) ∧ Ext w w') := by
  have hv0 := hv
  have hol := order_len (l := l)
  refine FnOk.enter (rs := [4]) Try.func90 rfl Try.ntmps90 Try.results90 rfl rfl ?_
  refine WF.seq ?_
  refine WF.region ?_
  refine WL.va rfl rfl rfl (X.assignI rfl) ?_
  refine WL.nil ?_
  refine thn_n ?_
  refine WF.seq ?_
  refine WF.region ?_
  refine WL.va rfl rfl rfl (X.move rfl) ?_
  refine WL.c rfl rfl rfl (X.call Try.call38 (evl_cons rfl evl_nil)) (rorder_ok _ l _ (hv0.ext (Ext.refl w)) hl) ?_
  rintro v1 wO ⟨hov, hx2⟩
  refine WL.va rfl rfl rfl (X.assign rfl) ?_
  refine WL.nil ?_
  refine thn_n ?_
  refine WF.seq ?_
  refine WF.seq ?_
  refine WF.region ?_
  refine WL.va rfl rfl rfl (X.assignI rfl) ?_
  refine WL.nil ?_
  refine thn_n ?_
  refine WF.block ?_
  refine WF.named (fun F3 hF4 => ?_)
  refine WF.loopN (fun mL0 f' w' => ∃ (k : Nat), mL0 = (orderL l).length - k ∧ f' 6 = .int .i64 (k : Int) ∧ Agree [0, 1, 5, 7, 8] f' F3 ∧ Ext wO w' ∧ k ≤ (orderL l).length ∧ ∀ j, j < k → (orderL l).getD j 0 ≠ t) ?_ ?_
  · exact ⟨_, 0, rfl, (congrFun hF4 6), (Agree.refl _ _), (Ext.refl _), ⟨Nat.zero_le _, fun j h => absurd h (by omega)⟩⟩
  · rintro mL0 fL0 wL0 ⟨k, hmL0, e6_L0, hAL0, hwL0, ⟨hk0, hno⟩⟩
    refine WF.seq ?_
    refine WF.seq ?_
    refine WF.region ?_
    refine WL.va rfl rfl rfl (X.moveI e6_L0) ?_
    refine WL.va rfl rfl rfl (X.move ((hAL0.eq 5).trans (congrFun hF4 5))) ?_
    refine WL.va rfl rfl rfl (X.len (show Ints _ _ (orderL l) from Row.of_own hov) rfl Try.underlying34) ?_
    refine WL.va rfl rfl rfl (X.lss rfl rfl) ?_
    refine WL.nil ?_
    refine thn_n ?_
    refine WF.cond rfl (fun h0_5 => ?_) (fun h0_5 => ?_)
    · have gh0_5 := (of_decide_eq_true h0_5)
      have hk : k < (orderL l).length := by have := gh0_5; omega
      refine WF.skip ?_
      refine thn_n ?_
      refine WF.seq ?_
      refine WF.block ?_
      refine WF.seq ?_
      refine WF.region ?_
      refine WL.va rfl rfl rfl (X.move ((hAL0.eq 5).trans (congrFun hF4 5))) ?_
      refine WL.va rfl rfl rfl (X.moveI e6_L0) ?_
      refine WL.va rfl rfl rfl (X.idx (show Ints _ _ (orderL l) from Row.of_own hov) rfl rfl hk Try.underlying34 Try.sizeOf3) ?_
      refine WL.va rfl rfl rfl (X.loadI (show Ints _ _ (orderL l) from Row.of_own hov) hwL0 rfl hk Try.isAgg3) ?_
      refine WL.va rfl rfl rfl (X.moveI ((hAL0.eq 1).trans (congrFun hF4 1))) ?_
      refine WL.va rfl rfl rfl (X.eql rfl rfl) ?_
      refine WL.nil ?_
      refine thn_n ?_
      refine WF.cond rfl (fun h1_7 => ?_) (fun h1_7 => ?_)
      · have gh1_7 := (of_decide_eq_true h1_7)
        have hy : ((orderL l).getD k 0) = t := gh1_7
        refine WF.seq ?_
        refine WF.region ?_
        refine WL.va rfl rfl rfl (X.moveI e6_L0) ?_
        refine WL.va rfl rfl rfl (X.add rfl rfl (show _ = ((k + 1 : Nat) : Int) from (w64 (by omega)).trans (by omega))) ?_
        refine WL.va rfl rfl rfl (X.assignI rfl) ?_
        refine WL.nil ?_
        refine thn_n ?_
        refine WF.ret ?_
        refine blk_r ?_
        refine thn_r ?_
        refine thn_r ?_
        refine blk_r ?_
        refine thn_r ?_
        refine fin_r ?_
        exact ⟨congrArg i64 (rplace_at hk hy hno), (Ext.trans hx2 hwL0)⟩
      · have gh1_7 := (of_decide_eq_false h1_7)
        have hy : ¬ ((orderL l).getD k 0) = t := gh1_7
        refine WF.skip ?_
        refine blk_n ?_
        refine thn_n ?_
        refine WF.region ?_
        refine WL.va rfl rfl rfl (X.moveI e6_L0) ?_
        refine WL.va rfl rfl rfl (X.add rfl rfl (w64 (by omega))) ?_
        refine WL.va rfl rfl rfl (X.assignI rfl) ?_
        refine WL.nil ?_
        exact thn_n ⟨_, (by omega), k + 1, rfl, rfl, (by repeat (first | exact hAL0 | refine Agree.put ?_ rfl | refine Agree.named hF4 ?_)), hwL0, ⟨by omega, fun j h => by by_cases q : j = k; (subst q; exact hy); exact hno j (by omega)⟩⟩
    · have gh0_5 := (of_decide_eq_false h0_5)
      have hk : (orderL l).length ≤ k := by have := gh0_5; omega
      refine WF.exit ?_
      refine thn_x ?_
      refine thn_x ?_
      refine blk_eq ?_
      refine thn_n ?_
      refine WF.seq ?_
      refine WF.region ?_
      refine WL.va rfl rfl rfl (X.assignI rfl) ?_
      refine WL.nil ?_
      refine thn_n ?_
      refine WF.ret ?_
      refine fin_r ?_
      exact ⟨congrArg i64 (rplace_no hk hno), (Ext.trans hx2 hwL0)⟩

set_option maxHeartbeats 4000000 in
theorem rwrong_ok (v : Value) (l : List Ev) (i : Nat) (w : World) (hv : Evs w v l) (hi : i < l.length) (hl : l.length ≤ 1000000) : FnOk Try.prog 80 [v, i64 (i : Int)] w (fun r w' => r = .bool (wrongR l i (l[i]'hi)) ∧ Ext w w') := by
  have hv0 := hv
  have hle := hv.le
  obtain ⟨cs, hr, hel⟩ := hv
  obtain ⟨d, d2, hcs, hd1, hd2⟩ := hel i hi
  have hol := order_len (l := l)
  have hpl := rplace_le (l := l) (t := (l[i]'hi).Txn)
  refine FnOk.enter (rs := [4]) Try.func80 rfl Try.ntmps80 Try.results80 rfl rfl ?_
  refine WF.seq ?_
  refine WF.region ?_
  refine WL.va rfl rfl rfl (X.assignB rfl) ?_
  refine WL.nil ?_
  refine thn_n ?_
  refine WF.seq ?_
  refine WF.region ?_
  refine WL.va rfl rfl rfl (X.move rfl) ?_
  refine WL.va rfl rfl rfl (X.moveI rfl) ?_
  refine WL.va rfl rfl rfl (X.idx hr rfl rfl hi Try.underlying26 Try.sizeOf42) ?_
  refine WL.va rfl rfl rfl (X.loadEl hr (Ext.refl _) rfl hi hcs Try.isAgg42 Try.sizeOf42) ?_
  refine WL.op rfl (OW.allocO (cs := [i64 0, i64 0, i64 0, i64 0, i64 0, i64 0, i64 0, i64 0, i64 0, i64 0, i64 0, i64 0, i64 0, i64 0, i64 0, .slice none 0 0, i64 0, i64 0, .slice none 0 0]) Try.zeroValue42 rfl ?_ (by decide))
  intro g5 w2 heg5 hlg5 hO5 hx4
  have := World.grownBy.size hx4
  refine WL.op rfl (OW.storeOA hO5 rfl rfl rfl (ev_ones hd1 hd2) Try.sizeOf42 ?_)
  intro w6 hO5 hx8
  have := World.grownBy.size hx8
  replace hO5 : Blk _ _ _ (Ev.c (l[i]'hi) d d2) := hO5
  refine WL.nil ?_
  refine thn_n ?_
  refine WF.seq ?_
  refine WF.seq ?_
  refine WF.region ?_
  refine WL.va rfl rfl rfl (X.loadOA hO5 (Ext.refl _) rfl rfl Try.isAgg42 Try.sizeOf42) ?_
  refine WL.c rfl rfl rfl (X.call Try.call85 (evl_cons (v := (agg (Ev.c (l[i]'hi) d d2))) rfl (evl_cons (v := (i64 2)) rfl evl_nil))) (rok_ok (l[i]'hi) d d2 2 _) ?_
  rintro v11 w10 ⟨rfl, hx12⟩
  have := World.grownBy.size hx12
  refine WL.va rfl rfl rfl (X.not rfl) ?_
  refine WL.nil ?_
  refine thn_n ?_
  refine WF.cond rfl (fun h0_14 => ?_) (fun h0_14 => ?_)
  · have gh0_14 := (nt h0_14)
    have a2 : ans (l[i]'hi) 2 0 = false := gh0_14
    refine WF.seq ?_
    refine WF.region ?_
    refine WL.va rfl rfl rfl (X.assignB rfl) ?_
    refine WL.nil ?_
    refine thn_n ?_
    refine WF.ret ?_
    refine thn_r ?_
    refine fin_r ?_
    exact ⟨by first | exact wr_1 a2 | exact wr_2 p0 | exact wr_3 a2 p0, (Ext.trans (Ext.store hx4 hx8 (by omega)) hx12)⟩
  · have gh0_14 := (nf h0_14)
    have a2 : ans (l[i]'hi) 2 0 = true := gh0_14
    refine WF.skip ?_
    refine thn_n ?_
    refine WF.seq ?_
    refine WF.region ?_
    refine WL.va rfl rfl rfl (X.move rfl) ?_
    refine WL.va rfl rfl rfl (X.fieldAddrO (off := 2) rfl Try.underlying42 rfl rfl Try.sizeOf3) ?_
    refine WL.va rfl rfl rfl (X.loadO hO5 hx12 rfl rfl Try.isAgg3) ?_
    refine WL.c rfl rfl rfl (X.call Try.call90 (evl_cons rfl (evl_cons (v := (i64 (l[i]'hi).Txn)) rfl evl_nil))) (rplace_ok _ l (l[i]'hi).Txn _ (hv0.ext (Ext.trans (Ext.store hx4 hx8 (by omega)) hx12)) hl) ?_
    rintro v18 w17 ⟨rfl, hx19⟩
    have := World.grownBy.size hx19
    refine WL.va rfl rfl rfl (X.assignI rfl) ?_
    refine WL.nil ?_
    refine thn_n ?_
    refine WF.seq ?_
    refine WF.seq ?_
    refine WF.region ?_
    refine WL.va rfl rfl rfl (X.moveI rfl) ?_
    refine WL.va rfl rfl rfl (X.eql rfl rfl) ?_
    refine WL.nil ?_
    refine thn_n ?_
    refine WF.cond rfl (fun h1_20 => ?_) (fun h1_20 => ?_)
    · have gh1_20 := (of_decide_eq_true h1_20)
      have p0 : (rplace l (l[i]'hi).Txn) = 0 := by have := gh1_20; omega
      refine WF.seq ?_
      refine WF.region ?_
      refine WL.va rfl rfl rfl (X.assignB rfl) ?_
      refine WL.nil ?_
      refine thn_n ?_
      refine WF.ret ?_
      refine thn_r ?_
      refine fin_r ?_
      exact ⟨by first | exact wr_1 a2 | exact wr_2 p0 | exact wr_3 a2 p0, (Ext.trans (Ext.trans (Ext.store hx4 hx8 (by omega)) hx12) hx19)⟩
    · have gh1_20 := (of_decide_eq_false h1_20)
      have p0 : ¬ (rplace l (l[i]'hi).Txn) = 0 := by have := gh1_20; omega
      refine WF.skip ?_
      refine thn_n ?_
      refine WF.seq ?_
      refine WF.drawn (.q 0 (.q 1 (.q 2 (.q 3 (.q 4 (.q 5 (.q 6 (.l 7 (.l 8 (.q 9 .nil)))))))))) (fun w' => Ext w17 w') 10 (by kernel_rfl) (by kernel_rfl) (Ext.drew _) ?_
      have := World.grownBy.size (Ext.drew w17)
      refine WO.q rfl rfl rfl rfl (fun w' hE23 => (X.move rfl)) ?_
      refine WO.q rfl rfl rfl rfl (fun w' hE23 => (X.fieldAddrO (off := 2) rfl Try.underlying42 rfl rfl Try.sizeOf3)) ?_
      refine WO.q rfl rfl rfl rfl (fun w' hE23 => (X.loadO hO5 (Ext.trans (Ext.trans hx12 hx19) hE23) rfl rfl Try.isAgg3)) ?_
      refine WO.q rfl rfl rfl rfl (fun w' hE23 => (X.moveI rfl)) ?_
      refine WO.q rfl rfl rfl rfl (fun w' hE23 => (X.move rfl)) ?_
      refine WO.q rfl rfl rfl rfl (fun w' hE23 => (X.moveI rfl)) ?_
      refine WO.q rfl rfl rfl rfl (fun w' hE23 => (X.sub rfl rfl (show _ = (((rplace l (l[i]'hi).Txn) - 1 : Nat) : Int) from (w64 (by omega)).trans (by omega)))) ?_
      refine WO.l ?_
      have hzp := World.grownBy.size (show Ext w w17.drew from (Ext.trans (Ext.trans (Ext.trans (Ext.store hx4 hx8 (by omega)) hx12) hx19) (Ext.drew _)))
      refine LO.go rfl rfl (OW.enter rfl (by decide) (X.call Try.call43 (evl_cons rfl (evl_cons rfl evl_nil))) (rplay_ok _ l (((rplace l (l[i]'hi).Txn) - 1 : Nat) : Int) _ (hv0.ext (Ext.trans (Ext.trans (Ext.trans (Ext.store hx4 hx8 (by omega)) hx12) hx19) (Ext.drew _))) hl) ?_)
      rintro v24 wP ⟨⟨F, hFm, hF⟩, hx25⟩
      have := World.grownBy.size hx25
      refine ⟨(Ext.trans (Ext.drew _) hx25), ?_⟩
      rw [play_nat] at hFm
      have hzx := World.grownBy.size hx25
      refine WO.l ?_
      refine LO.go rfl rfl (OW.enter rfl (by decide) (X.call Try.call67 (evl_cons rfl (evl_cons (v := (i64 (l[i]'hi).Txn)) rfl (evl_cons (v := (i64 (i : Int))) rfl (evl_cons rfl evl_nil))))) (rwrote_ok _ l (l[i]'hi).Txn i _ F _ _ (hv0.ext (Ext.trans (Ext.trans (Ext.trans (Ext.trans (Ext.store hx4 hx8 (by omega)) hx12) hx19) (Ext.drew _)) hx25)) (by omega) hF hzx (by rw [hFm]; exact play_right)) ?_)
      rintro v26 wW ⟨⟨G, hG, oG⟩, hx27⟩
      have := World.grownBy.size hx27
      refine ⟨(Ext.trans (Ext.trans (Ext.drew _) hx25) hx27), ?_⟩
      rw [hFm] at hG
      have hrg : RightB (G.map Prod.fst) := by rw [hG]; exact sets_right play_right _
      refine WO.q rfl rfl rfl rfl (fun w' hE23 => (X.assign rfl)) ?_
      refine WO.nil ?_
      refine WL.nil ?_
      refine thn_n ?_
      refine WF.seq ?_
      refine WF.drawn (.q 0 (.q 1 (.q 2 (.q 3 (.q 5 (.q 6 (.q 7 (.l 4 (.l 8 (.q 9 (.q 10 .nil))))))))))) (fun w' => Ext wW w') 11 (by kernel_rfl) (by kernel_rfl) (Ext.drew _) ?_
      have := World.grownBy.size (Ext.drew wW)
      refine WO.q rfl rfl rfl rfl (fun w' hE28 => (X.move rfl)) ?_
      refine WO.q rfl rfl rfl rfl (fun w' hE28 => (X.fieldAddrO (off := 3) rfl Try.underlying42 rfl rfl Try.sizeOf38)) ?_
      refine WO.q rfl rfl rfl rfl (fun w' hE28 => (X.fieldAddrP (off := 1) rfl Try.underlying38 rfl rfl Try.sizeOf3)) ?_
      refine WO.q rfl rfl rfl rfl (fun w' hE28 => (X.loadO hO5 (Ext.trans (Ext.trans (Ext.trans (Ext.trans (Ext.trans hx12 hx19) (Ext.drew _)) hx25) hx27) hE28) rfl rfl Try.isAgg3)) ?_
      refine WO.q rfl rfl rfl rfl (fun w' hE28 => (X.fieldAddrO (off := 16) rfl Try.underlying42 rfl rfl Try.sizeOf40)) ?_
      refine WO.q rfl rfl rfl rfl (fun w' hE28 => (X.fieldAddrP (off := 2) rfl Try.underlying40 rfl rfl Try.sizeOf36)) ?_
      refine WO.q rfl rfl rfl rfl (fun w' hE28 => (X.loadO hO5 (Ext.trans (Ext.trans (Ext.trans (Ext.trans (Ext.trans hx12 hx19) (Ext.drew _)) hx25) hx27) hE28) rfl rfl Try.isAgg36)) ?_
      refine WO.l ?_
      refine LO.go rfl rfl (OW.enter rfl (by decide) (X.call Try.call91 (evl_cons rfl (evl_cons (v := (i64 (l[i]'hi).Call.Block)) rfl evl_nil))) (refGet_ok _ (setsL (playN l ((rplace l (l[i]'hi).Txn) - 1)) (writesL (l.take i) (l[i]'hi).Txn)) (l[i]'hi).Call.Block _ ((oG.blsE hG).ext (Ext.drew _)) (fun s hs => by have := (hrg.each s (hG ▸ hs)).2.2.1; omega)) ?_)
      rintro v30 w29 ⟨hgv, hx31⟩
      have := World.grownBy.size hx31
      refine ⟨(Ext.trans (Ext.drew _) hx31), ?_⟩
      refine WO.l ?_
      refine LO.go rfl rfl (OW.enter rfl (by decide) (X.call Try.call84 (evl_cons rfl (evl_cons rfl evl_nil))) (sameBytes_ok _ _ (getB (setsL (playN l ((rplace l (l[i]'hi).Txn) - 1)) (writesL (l.take i) (l[i]'hi).Txn)) (l[i]'hi).Call.Block) (l[i]'hi).Answer.Data _ (Bytes.of_own hgv) (Row.ext hd2 (Ext.trans (Ext.trans (Ext.trans (Ext.trans (Ext.trans (Ext.trans (Ext.trans (Ext.store hx4 hx8 (by omega)) hx12) hx19) (Ext.drew _)) hx25) hx27) (Ext.drew _)) hx31))) ?_)
      rintro v33 w32 ⟨rfl, hx34⟩
      have := World.grownBy.size hx34
      refine ⟨(Ext.trans (Ext.trans (Ext.drew _) hx31) hx34), ?_⟩
      refine WO.q rfl rfl rfl rfl (fun w' hE28 => (X.not rfl)) ?_
      refine WO.q rfl rfl rfl rfl (fun w' hE28 => (X.assignB rfl)) ?_
      refine WO.nil ?_
      refine WL.nil ?_
      refine thn_n ?_
      refine WF.ret ?_
      refine fin_r ?_
      exact ⟨by first | exact wr_1 a2 | exact wr_2 p0 | exact wr_3 a2 p0, (Ext.trans (Ext.trans (Ext.trans (Ext.trans (Ext.trans (Ext.trans (Ext.trans (Ext.trans (Ext.store hx4 hx8 (by omega)) hx12) hx19) (Ext.drew _)) hx25) hx27) (Ext.drew _)) hx31) hx34)⟩

set_option maxHeartbeats 4000000 in
theorem rsnaps_ok (v : Value) (l : List Ev) (i : Nat) (w : World) (hv : Evs w v l) (hi : i < l.length) (hl : l.length ≤ 1000000) : FnOk Try.prog 81 [v, i64 (i : Int)] w (fun r w' => r = .bool (snapsR l i (l[i]'hi)) ∧ Ext w w') := by
  have hv0 := hv
  have hle := hv.le
  obtain ⟨cs, hr, hel⟩ := hv
  obtain ⟨d, d2, hcs, hd1, hd2⟩ := hel i hi
  have hol := order_len (l := l)
  have hpl := rplace_le (l := l) (t := (l[i]'hi).Call.Snap)
  refine FnOk.enter (rs := [4]) Try.func81 rfl Try.ntmps81 Try.results81 rfl rfl ?_
  refine WF.seq ?_
  refine WF.region ?_
  refine WL.va rfl rfl rfl (X.assignB rfl) ?_
  refine WL.nil ?_
  refine thn_n ?_
  refine WF.seq ?_
  refine WF.region ?_
  refine WL.va rfl rfl rfl (X.move rfl) ?_
  refine WL.va rfl rfl rfl (X.moveI rfl) ?_
  refine WL.va rfl rfl rfl (X.idx hr rfl rfl hi Try.underlying26 Try.sizeOf42) ?_
  refine WL.va rfl rfl rfl (X.loadEl hr (Ext.refl _) rfl hi hcs Try.isAgg42 Try.sizeOf42) ?_
  refine WL.op rfl (OW.allocO (cs := [i64 0, i64 0, i64 0, i64 0, i64 0, i64 0, i64 0, i64 0, i64 0, i64 0, i64 0, i64 0, i64 0, i64 0, i64 0, .slice none 0 0, i64 0, i64 0, .slice none 0 0]) Try.zeroValue42 rfl ?_ (by decide))
  intro g5 w2 heg5 hlg5 hO5 hx4
  have := World.grownBy.size hx4
  refine WL.op rfl (OW.storeOA hO5 rfl rfl rfl (ev_ones hd1 hd2) Try.sizeOf42 ?_)
  intro w6 hO5 hx8
  have := World.grownBy.size hx8
  replace hO5 : Blk _ _ _ (Ev.c (l[i]'hi) d d2) := hO5
  refine WL.nil ?_
  refine thn_n ?_
  refine WF.seq ?_
  refine WF.seq ?_
  refine WF.region ?_
  refine WL.va rfl rfl rfl (X.loadOA hO5 (Ext.refl _) rfl rfl Try.isAgg42 Try.sizeOf42) ?_
  refine WL.c rfl rfl rfl (X.call Try.call85 (evl_cons (v := (agg (Ev.c (l[i]'hi) d d2))) rfl (evl_cons (v := (i64 8)) rfl evl_nil))) (rok_ok (l[i]'hi) d d2 8 _) ?_
  rintro v11 w10 ⟨rfl, hx12⟩
  have := World.grownBy.size hx12
  refine WL.va rfl rfl rfl (X.not rfl) ?_
  refine WL.nil ?_
  refine thn_n ?_
  refine WF.cond rfl (fun h0_14 => ?_) (fun h0_14 => ?_)
  · have gh0_14 := (nt h0_14)
    have a8 : ans (l[i]'hi) 8 0 = false := gh0_14
    refine WF.seq ?_
    refine WF.region ?_
    refine WL.va rfl rfl rfl (X.assignB rfl) ?_
    refine WL.nil ?_
    refine thn_n ?_
    refine WF.ret ?_
    refine thn_r ?_
    refine fin_r ?_
    exact ⟨by first | exact sr_1 a8 | exact sr_2 a8 c0 | exact sr_3 a8 c0, (Ext.trans (Ext.store hx4 hx8 (by omega)) hx12)⟩
  · have gh0_14 := (nf h0_14)
    have a8 : ans (l[i]'hi) 8 0 = true := gh0_14
    refine WF.skip ?_
    refine thn_n ?_
    refine WF.seq ?_
    refine WF.seq ?_
    refine WF.region ?_
    refine WL.va rfl rfl rfl (X.move rfl) ?_
    refine WL.va rfl rfl rfl (X.fieldAddrO (off := 3) rfl Try.underlying42 rfl rfl Try.sizeOf38) ?_
    refine WL.va rfl rfl rfl (X.fieldAddrP (off := 3) rfl Try.underlying38 rfl rfl Try.sizeOf3) ?_
    refine WL.va rfl rfl rfl (X.loadO hO5 hx12 rfl rfl Try.isAgg3) ?_
    refine WL.va rfl rfl rfl (X.moveI rfl) ?_
    refine WL.c rfl rfl rfl (X.call Try.call77 (evl_cons rfl (evl_cons (v := (i64 (l[i]'hi).Call.Snap)) rfl (evl_cons (v := (i64 (i : Int))) rfl evl_nil)))) (rchosen_ok _ l (l[i]'hi).Call.Snap i _ (hv0.ext (Ext.trans (Ext.store hx4 hx8 (by omega)) hx12)) (by omega)) ?_
    rintro v18 w17 ⟨rfl, hx19⟩
    have := World.grownBy.size hx19
    refine WL.va rfl rfl rfl (X.not rfl) ?_
    refine WL.nil ?_
    refine thn_n ?_
    refine WF.cond rfl (fun h1_21 => ?_) (fun h1_21 => ?_)
    · have gh1_21 := (nt h1_21)
      have c0 : rchosen l (l[i]'hi).Call.Snap i = false := gh1_21
      refine WF.seq ?_
      refine WF.region ?_
      refine WL.va rfl rfl rfl (X.assignB rfl) ?_
      refine WL.nil ?_
      refine thn_n ?_
      refine WF.ret ?_
      refine thn_r ?_
      refine fin_r ?_
      exact ⟨by first | exact sr_1 a8 | exact sr_2 a8 c0 | exact sr_3 a8 c0, (Ext.trans (Ext.trans (Ext.store hx4 hx8 (by omega)) hx12) hx19)⟩
    · have gh1_21 := (nf h1_21)
      have c0 : rchosen l (l[i]'hi).Call.Snap i = true := gh1_21
      refine WF.skip ?_
      refine thn_n ?_
      refine WF.seq ?_
      refine WF.region ?_
      refine WL.va rfl rfl rfl (X.move rfl) ?_
      refine WL.va rfl rfl rfl (X.move rfl) ?_
      refine WL.va rfl rfl rfl (X.fieldAddrO (off := 3) rfl Try.underlying42 rfl rfl Try.sizeOf38) ?_
      refine WL.va rfl rfl rfl (X.fieldAddrP (off := 3) rfl Try.underlying38 rfl rfl Try.sizeOf3) ?_
      refine WL.va rfl rfl rfl (X.loadO hO5 (Ext.trans hx12 hx19) rfl rfl Try.isAgg3) ?_
      refine WL.c rfl rfl rfl (X.call Try.call90 (evl_cons rfl (evl_cons (v := (i64 (l[i]'hi).Call.Snap)) rfl evl_nil))) (rplace_ok _ l (l[i]'hi).Call.Snap _ (hv0.ext (Ext.trans (Ext.trans (Ext.store hx4 hx8 (by omega)) hx12) hx19)) hl) ?_
      rintro v25 w24 ⟨rfl, hx26⟩
      have := World.grownBy.size hx26
      refine WL.c rfl rfl rfl (X.call Try.call43 (evl_cons rfl (evl_cons rfl evl_nil))) (rplay_ok _ l (rplace l (l[i]'hi).Call.Snap : Int) _ (hv0.ext (Ext.trans (Ext.trans (Ext.trans (Ext.store hx4 hx8 (by omega)) hx12) hx19) hx26)) hl) ?_
      rintro v27 wP ⟨⟨F, hFm, hF⟩, hx28⟩
      have := World.grownBy.size hx28
      rw [play_nat] at hFm
      have hrg : RightB (F.map Prod.fst) := by rw [hFm]; exact play_right
      refine WL.va rfl rfl rfl (X.assign rfl) ?_
      refine WL.nil ?_
      refine thn_n ?_
      refine WF.seq ?_
      refine WF.drawn (.q 0 (.q 1 (.q 2 (.q 3 (.q 5 (.q 6 (.q 7 (.l 4 (.l 8 (.q 9 (.q 10 .nil))))))))))) (fun w' => Ext wP w') 11 (by kernel_rfl) (by kernel_rfl) (Ext.drew _) ?_
      have := World.grownBy.size (Ext.drew wP)
      refine WO.q rfl rfl rfl rfl (fun w' hE29 => (X.move rfl)) ?_
      refine WO.q rfl rfl rfl rfl (fun w' hE29 => (X.fieldAddrO (off := 3) rfl Try.underlying42 rfl rfl Try.sizeOf38)) ?_
      refine WO.q rfl rfl rfl rfl (fun w' hE29 => (X.fieldAddrP (off := 1) rfl Try.underlying38 rfl rfl Try.sizeOf3)) ?_
      refine WO.q rfl rfl rfl rfl (fun w' hE29 => (X.loadO hO5 (Ext.trans (Ext.trans (Ext.trans (Ext.trans hx12 hx19) hx26) hx28) hE29) rfl rfl Try.isAgg3)) ?_
      refine WO.q rfl rfl rfl rfl (fun w' hE29 => (X.fieldAddrO (off := 16) rfl Try.underlying42 rfl rfl Try.sizeOf40)) ?_
      refine WO.q rfl rfl rfl rfl (fun w' hE29 => (X.fieldAddrP (off := 2) rfl Try.underlying40 rfl rfl Try.sizeOf36)) ?_
      refine WO.q rfl rfl rfl rfl (fun w' hE29 => (X.loadO hO5 (Ext.trans (Ext.trans (Ext.trans (Ext.trans hx12 hx19) hx26) hx28) hE29) rfl rfl Try.isAgg36)) ?_
      refine WO.l ?_
      refine LO.go rfl rfl (OW.enter rfl (by decide) (X.call Try.call91 (evl_cons rfl (evl_cons (v := (i64 (l[i]'hi).Call.Block)) rfl evl_nil))) (refGet_ok _ (playN l (rplace l (l[i]'hi).Call.Snap)) (l[i]'hi).Call.Block _ ((hF.blsE hFm).ext (Ext.drew _)) (fun s hs => by have := (hrg.each s (hFm ▸ hs)).2.2.1; omega)) ?_)
      rintro v31 w30 ⟨hgv, hx32⟩
      have := World.grownBy.size hx32
      refine ⟨(Ext.trans (Ext.drew _) hx32), ?_⟩
      refine WO.l ?_
      refine LO.go rfl rfl (OW.enter rfl (by decide) (X.call Try.call84 (evl_cons rfl (evl_cons rfl evl_nil))) (sameBytes_ok _ _ (getB (playN l (rplace l (l[i]'hi).Call.Snap)) (l[i]'hi).Call.Block) (l[i]'hi).Answer.Data _ (Bytes.of_own hgv) (Row.ext hd2 (Ext.trans (Ext.trans (Ext.trans (Ext.trans (Ext.trans (Ext.trans (Ext.store hx4 hx8 (by omega)) hx12) hx19) hx26) hx28) (Ext.drew _)) hx32))) ?_)
      rintro v34 w33 ⟨rfl, hx35⟩
      have := World.grownBy.size hx35
      refine ⟨(Ext.trans (Ext.trans (Ext.drew _) hx32) hx35), ?_⟩
      refine WO.q rfl rfl rfl rfl (fun w' hE29 => (X.not rfl)) ?_
      refine WO.q rfl rfl rfl rfl (fun w' hE29 => (X.assignB rfl)) ?_
      refine WO.nil ?_
      refine WL.nil ?_
      refine thn_n ?_
      refine WF.ret ?_
      refine fin_r ?_
      exact ⟨by first | exact sr_1 a8 | exact sr_2 a8 c0 | exact sr_3 a8 c0, (Ext.trans (Ext.trans (Ext.trans (Ext.trans (Ext.trans (Ext.trans (Ext.trans (Ext.store hx4 hx8 (by omega)) hx12) hx19) hx26) hx28) (Ext.drew _)) hx32) hx35)⟩

set_option maxHeartbeats 4000000 in
theorem bad_ok (v : Value) (l : List Ev) (i m : Nat) (w : World) (hv : Evs w v l) (hi : i < l.length) (hl : l.length ≤ 1000000) (h1 : 1 ≤ m) (h7 : m ≤ 7) : FnOk Try.prog 64 [v, i64 (i : Int), i64 (m : Int)] w (fun r w' => r = .bool (badR l m i (l[i]'hi)) ∧ Ext w w') := by
  have hv0 := hv
  have hle := hv.le
  obtain ⟨cs, hr, hel⟩ := hv
  obtain ⟨d, d2, hcs, hd1, hd2⟩ := hel i hi
  have hol := order_len (l := l)
  refine FnOk.enter (rs := [6]) Try.func64 rfl Try.ntmps64 Try.results64 rfl rfl ?_
  refine WF.seq ?_
  refine WF.region ?_
  refine WL.va rfl rfl rfl (X.assignB rfl) ?_
  refine WL.nil ?_
  refine thn_n ?_
  refine WF.seq ?_
  refine WF.region ?_
  refine WL.va rfl rfl rfl (X.move rfl) ?_
  refine WL.va rfl rfl rfl (X.moveI rfl) ?_
  refine WL.va rfl rfl rfl (X.idx hr rfl rfl hi Try.underlying26 Try.sizeOf42) ?_
  refine WL.va rfl rfl rfl (X.loadEl hr (Ext.refl _) rfl hi hcs Try.isAgg42 Try.sizeOf42) ?_
  refine WL.op rfl (OW.allocO (cs := [i64 0, i64 0, i64 0, i64 0, i64 0, i64 0, i64 0, i64 0, i64 0, i64 0, i64 0, i64 0, i64 0, i64 0, i64 0, .slice none 0 0, i64 0, i64 0, .slice none 0 0]) Try.zeroValue42 rfl ?_ (by decide))
  intro g7 w2 heg7 hlg7 hO7 hx4
  have := World.grownBy.size hx4
  refine WL.op rfl (OW.storeOA hO7 rfl rfl rfl (ev_ones hd1 hd2) Try.sizeOf42 ?_)
  intro w6 hO7 hx8
  have := World.grownBy.size hx8
  replace hO7 : Blk _ _ _ (Ev.c (l[i]'hi) d d2) := hO7
  refine WL.nil ?_
  refine thn_n ?_
  refine WF.seq ?_
  refine WF.seq ?_
  refine WF.region ?_
  refine WL.va rfl rfl rfl (X.moveI rfl) ?_
  refine WL.nil ?_
  refine thn_n ?_
  refine WF.block ?_
  refine WF.seq ?_
  refine WF.region ?_
  refine WL.va rfl rfl rfl (X.eql rfl rfl) ?_
  refine WL.va rfl rfl rfl (X.assignB rfl) ?_
  refine WL.nil ?_
  refine thn_n ?_
  refine WF.cond rfl (fun h0_10 => ?_) (fun h0_10 => ?_)
  · have gh0_10 := (of_decide_eq_true h0_10)
    obtain rfl : m = 1 := by have := gh0_10; omega
    refine WF.seq ?_
    refine WF.region ?_
    refine WL.va rfl rfl rfl (X.move rfl) ?_
    refine WL.va rfl rfl rfl (X.moveI rfl) ?_
    refine WL.c rfl rfl rfl (X.call Try.call76 (evl_cons rfl (evl_cons rfl evl_nil))) (odd_ok _ l i _ (hv0.ext (Ext.store hx4 hx8 (by omega))) hi hl) ?_
    rintro v13 w12 ⟨rfl, hx14⟩
    have := World.grownBy.size hx14
    refine WL.va rfl rfl rfl (X.assignB rfl) ?_
    refine WL.nil ?_
    refine thn_n ?_
    refine WF.ret ?_
    refine blk_r ?_
    refine thn_r ?_
    refine fin_r ?_
    exact ⟨rfl, (Ext.trans (Ext.store hx4 hx8 (by omega)) hx14)⟩
  · have gh0_10 := (of_decide_eq_false h0_10)
    refine WF.seq ?_
    refine WF.region ?_
    refine WL.va rfl rfl rfl (X.eql rfl rfl) ?_
    refine WL.va rfl rfl rfl (X.assignB rfl) ?_
    refine WL.nil ?_
    refine thn_n ?_
    refine WF.cond rfl (fun h1_16 => ?_) (fun h1_16 => ?_)
    · have gh1_16 := (of_decide_eq_true h1_16)
      obtain rfl : m = 2 := by have := gh1_16; omega
      refine WF.seq ?_
      refine WF.region ?_
      refine WL.va rfl rfl rfl (X.fieldAddrO (off := 0) rfl Try.underlying42 rfl rfl Try.sizeOf3) ?_
      refine WL.va rfl rfl rfl (X.loadO hO7 (Ext.refl _) rfl rfl Try.isAgg3) ?_
      refine WL.va rfl rfl rfl (X.eql rfl rfl) ?_
      refine WL.va rfl rfl rfl (X.moveB rfl) ?_
      refine WL.split (j := 3) rfl (fun h19 => ?_) (fun h19 => ?_)
      · have gh19 := (of_decide_eq_true h19)
        have c3 : (l[i]'hi).Kind = 3 := gh19
        refine WL.vg rfl (congrArg some h19) rfl rfl (X.move rfl) ?_
        refine WL.vg rfl (congrArg some h19) rfl rfl (X.fieldAddrO (off := 2) rfl Try.underlying42 rfl rfl Try.sizeOf3) ?_
        refine WL.vg rfl (congrArg some h19) rfl rfl (X.loadO hO7 (Ext.refl _) rfl rfl Try.isAgg3) ?_
        refine WL.vg rfl (congrArg some h19) rfl rfl (X.moveI rfl) ?_
        refine WL.cg rfl (congrArg some h19) rfl rfl (X.call Try.call77 (evl_cons rfl (evl_cons (v := (i64 (l[i]'hi).Txn)) rfl (evl_cons (v := (i64 (i : Int))) rfl evl_nil)))) (rchosen_ok _ l (l[i]'hi).Txn i _ (hv0.ext (Ext.store hx4 hx8 (by omega))) (by omega)) ?_
        rintro v21 w20 ⟨rfl, hx22⟩
        have := World.grownBy.size hx22
        refine WL.va rfl rfl rfl (X.pickT rfl h19 rfl) ?_
        refine WL.va rfl rfl rfl (X.assignB rfl) ?_
        refine WL.nil ?_
        refine thn_n ?_
        refine WF.ret ?_
        refine blk_r ?_
        refine thn_r ?_
        refine fin_r ?_
        exact ⟨by first | exact ba_2 c3 | exact ba_2n c3, (Ext.trans (Ext.store hx4 hx8 (by omega)) hx22)⟩
      · have gh19 := (of_decide_eq_false h19)
        have c3 : ¬ (l[i]'hi).Kind = 3 := gh19
        refine WL.p rfl rfl rfl (congrArg some h19) ?_
        refine WL.p rfl rfl rfl (congrArg some h19) ?_
        refine WL.p rfl rfl rfl (congrArg some h19) ?_
        refine WL.p rfl rfl rfl (congrArg some h19) ?_
        refine WL.p rfl rfl rfl (congrArg some h19) ?_
        refine WL.va rfl rfl rfl (X.pickF rfl h19 rfl) ?_
        refine WL.va rfl rfl rfl (X.assignB rfl) ?_
        refine WL.nil ?_
        refine thn_n ?_
        refine WF.ret ?_
        refine blk_r ?_
        refine thn_r ?_
        refine fin_r ?_
        exact ⟨by first | exact ba_2 c3 | exact ba_2n c3, (Ext.store hx4 hx8 (by omega))⟩
    · have gh1_16 := (of_decide_eq_false h1_16)
      refine WF.seq ?_
      refine WF.region ?_
      refine WL.va rfl rfl rfl (X.eql rfl rfl) ?_
      refine WL.va rfl rfl rfl (X.assignB rfl) ?_
      refine WL.nil ?_
      refine thn_n ?_
      refine WF.cond rfl (fun h2_25 => ?_) (fun h2_25 => ?_)
      · have gh2_25 := (of_decide_eq_true h2_25)
        obtain rfl : m = 3 := by have := gh2_25; omega
        refine WF.seq ?_
        refine WF.region ?_
        refine WL.va rfl rfl rfl (X.loadOA hO7 (Ext.refl _) rfl rfl Try.isAgg42 Try.sizeOf42) ?_
        refine WL.c rfl rfl rfl (X.call Try.call78 (evl_cons (v := (agg (Ev.c (l[i]'hi) d d2))) rfl evl_nil)) (rnot_ok (l[i]'hi) d d2 _) ?_
        rintro v28 w27 ⟨rfl, hx29⟩
        have := World.grownBy.size hx29
        refine WL.va rfl rfl rfl (X.moveB rfl) ?_
        refine WL.split (j := 2) rfl (fun h31 => ?_) (fun h31 => ?_)
        · have gh31 := h31
          have c3 : deniesB (l[i]'hi) = true := gh31
          refine WL.vg rfl (congrArg some h31) rfl rfl (X.move rfl) ?_
          refine WL.vg rfl (congrArg some h31) rfl rfl (X.fieldAddrO (off := 2) rfl Try.underlying42 rfl rfl Try.sizeOf3) ?_
          refine WL.vg rfl (congrArg some h31) rfl rfl (X.loadO hO7 hx29 rfl rfl Try.isAgg3) ?_
          refine WL.vg rfl (congrArg some h31) rfl rfl (X.move rfl) ?_
          refine WL.vg rfl (congrArg some h31) rfl rfl (X.len hr rfl Try.underlying26) ?_
          refine WL.cg rfl (congrArg some h31) rfl rfl (X.call Try.call77 (evl_cons rfl (evl_cons (v := (i64 (l[i]'hi).Txn)) rfl (evl_cons (v := (i64 (l.length : Int))) rfl evl_nil)))) (rchosen_ok _ l (l[i]'hi).Txn l.length _ (hv0.ext (Ext.trans (Ext.store hx4 hx8 (by omega)) hx29)) (by omega)) ?_
          rintro v33 w32 ⟨rfl, hx34⟩
          have := World.grownBy.size hx34
          refine WL.va rfl rfl rfl (X.pickT rfl h31 rfl) ?_
          refine WL.va rfl rfl rfl (X.assignB rfl) ?_
          refine WL.nil ?_
          refine thn_n ?_
          refine WF.ret ?_
          refine blk_r ?_
          refine thn_r ?_
          refine fin_r ?_
          exact ⟨by first | exact ba_3 c3 | exact ba_3n c3, (Ext.trans (Ext.trans (Ext.store hx4 hx8 (by omega)) hx29) hx34)⟩
        · have gh31 := h31
          have c3 : deniesB (l[i]'hi) = false := gh31
          refine WL.p rfl rfl rfl (congrArg some h31) ?_
          refine WL.p rfl rfl rfl (congrArg some h31) ?_
          refine WL.p rfl rfl rfl (congrArg some h31) ?_
          refine WL.p rfl rfl rfl (congrArg some h31) ?_
          refine WL.p rfl rfl rfl (congrArg some h31) ?_
          refine WL.p rfl rfl rfl (congrArg some h31) ?_
          refine WL.va rfl rfl rfl (X.pickF rfl h31 rfl) ?_
          refine WL.va rfl rfl rfl (X.assignB rfl) ?_
          refine WL.nil ?_
          refine thn_n ?_
          refine WF.ret ?_
          refine blk_r ?_
          refine thn_r ?_
          refine fin_r ?_
          exact ⟨by first | exact ba_3 c3 | exact ba_3n c3, (Ext.trans (Ext.store hx4 hx8 (by omega)) hx29)⟩
      · have gh2_25 := (of_decide_eq_false h2_25)
        refine WF.seq ?_
        refine WF.region ?_
        refine WL.va rfl rfl rfl (X.eql rfl rfl) ?_
        refine WL.va rfl rfl rfl (X.assignB rfl) ?_
        refine WL.nil ?_
        refine thn_n ?_
        refine WF.cond rfl (fun h3_37 => ?_) (fun h3_37 => ?_)
        · have gh3_37 := (of_decide_eq_true h3_37)
          obtain rfl : m = 4 := by have := gh3_37; omega
          refine WF.seq ?_
          refine WF.region ?_
          refine WL.va rfl rfl rfl (X.move rfl) ?_
          refine WL.va rfl rfl rfl (X.loadOA hO7 (Ext.refl _) rfl rfl Try.isAgg42 Try.sizeOf42) ?_
          refine WL.c rfl rfl rfl (X.call Try.call79 (evl_cons rfl (evl_cons (v := (agg (Ev.c (l[i]'hi) d d2))) rfl evl_nil))) (says_ok _ l (l[i]'hi) d d2 _ (hv0.ext (Ext.store hx4 hx8 (by omega)))) ?_
          rintro v40 w39 ⟨rfl, hx41⟩
          have := World.grownBy.size hx41
          refine WL.va rfl rfl rfl (X.moveB rfl) ?_
          refine WL.split (j := 3) rfl (fun h43 => ?_) (fun h43 => ?_)
          · have gh43 := h43
            have c3 : saysB l (l[i]'hi) = true := gh43
            refine WL.vg rfl (congrArg some h43) rfl rfl (X.move rfl) ?_
            refine WL.vg rfl (congrArg some h43) rfl rfl (X.fieldAddrO (off := 2) rfl Try.underlying42 rfl rfl Try.sizeOf3) ?_
            refine WL.vg rfl (congrArg some h43) rfl rfl (X.loadO hO7 hx41 rfl rfl Try.isAgg3) ?_
            refine WL.vg rfl (congrArg some h43) rfl rfl (X.moveI rfl) ?_
            refine WL.cg rfl (congrArg some h43) rfl rfl (X.call Try.call77 (evl_cons rfl (evl_cons (v := (i64 (l[i]'hi).Txn)) rfl (evl_cons (v := (i64 (i : Int))) rfl evl_nil)))) (rchosen_ok _ l (l[i]'hi).Txn i _ (hv0.ext (Ext.trans (Ext.store hx4 hx8 (by omega)) hx41)) (by omega)) ?_
            rintro v45 w44 ⟨rfl, hx46⟩
            have := World.grownBy.size hx46
            refine WL.vg rfl (congrArg some h43) rfl rfl (X.not rfl) ?_
            refine WL.va rfl rfl rfl (X.pickT rfl h43 rfl) ?_
            refine WL.va rfl rfl rfl (X.assignB rfl) ?_
            refine WL.nil ?_
            refine thn_n ?_
            refine WF.ret ?_
            refine blk_r ?_
            refine thn_r ?_
            refine fin_r ?_
            exact ⟨by first | exact ba_4 c3 | exact ba_4n c3, (Ext.trans (Ext.trans (Ext.store hx4 hx8 (by omega)) hx41) hx46)⟩
          · have gh43 := h43
            have c3 : saysB l (l[i]'hi) = false := gh43
            refine WL.p rfl rfl rfl (congrArg some h43) ?_
            refine WL.p rfl rfl rfl (congrArg some h43) ?_
            refine WL.p rfl rfl rfl (congrArg some h43) ?_
            refine WL.p rfl rfl rfl (congrArg some h43) ?_
            refine WL.p rfl rfl rfl (congrArg some h43) ?_
            refine WL.p rfl rfl rfl (congrArg some h43) ?_
            refine WL.va rfl rfl rfl (X.pickF rfl h43 rfl) ?_
            refine WL.va rfl rfl rfl (X.assignB rfl) ?_
            refine WL.nil ?_
            refine thn_n ?_
            refine WF.ret ?_
            refine blk_r ?_
            refine thn_r ?_
            refine fin_r ?_
            exact ⟨by first | exact ba_4 c3 | exact ba_4n c3, (Ext.trans (Ext.store hx4 hx8 (by omega)) hx41)⟩
        · have gh3_37 := (of_decide_eq_false h3_37)
          refine WF.seq ?_
          refine WF.region ?_
          refine WL.va rfl rfl rfl (X.eql rfl rfl) ?_
          refine WL.va rfl rfl rfl (X.assignB rfl) ?_
          refine WL.nil ?_
          refine thn_n ?_
          refine WF.cond rfl (fun h4_50 => ?_) (fun h4_50 => ?_)
          · have gh4_50 := (of_decide_eq_true h4_50)
            obtain rfl : m = 5 := by have := gh4_50; omega
            refine WF.seq ?_
            refine WF.region ?_
            refine WL.va rfl rfl rfl (X.fieldAddrO (off := 3) rfl Try.underlying42 rfl rfl Try.sizeOf38) ?_
            refine WL.va rfl rfl rfl (X.fieldAddrP (off := 0) rfl Try.underlying38 rfl rfl Try.sizeOf3) ?_
            refine WL.va rfl rfl rfl (X.loadO hO7 (Ext.refl _) rfl rfl Try.isAgg3) ?_
            refine WL.va rfl rfl rfl (X.assignI rfl) ?_
            refine WL.nil ?_
            refine thn_n ?_
            refine WF.seq ?_
            refine WF.region ?_
            refine WL.va rfl rfl rfl (X.fieldAddrO (off := 0) rfl Try.underlying42 rfl rfl Try.sizeOf3) ?_
            refine WL.va rfl rfl rfl (X.loadO hO7 (Ext.refl _) rfl rfl Try.isAgg3) ?_
            refine WL.va rfl rfl rfl (X.eql rfl rfl) ?_
            refine WL.va rfl rfl rfl (X.moveB rfl) ?_
            refine WL.split (j := 3) rfl (fun h53 => ?_) (fun h53 => ?_)
            · have gh53 := (of_decide_eq_true h53)
              have c1 : (l[i]'hi).Kind = 1 := gh53
              refine WL.vg rfl (congrArg some h53) rfl rfl (X.moveI rfl) ?_
              refine WL.vg rfl (congrArg some h53) rfl rfl (X.eql rfl rfl) ?_
              refine WL.vg rfl (congrArg some h53) rfl rfl (X.moveB rfl) ?_
              refine WL.split (j := 6) rfl (fun h55 => ?_) (fun h55 => ?_)
              · have gh55 := (of_decide_eq_true h55)
                have cg : goesOn (l[i]'hi) = true := goes_of c1 (.inl gh55)
                refine WL.p rfl rfl rfl (congrArg some h55) ?_
                refine WL.p rfl rfl rfl (congrArg some h55) ?_
                refine WL.vg rfl (congrArg some h53) rfl rfl (X.pickT rfl h55 rfl) ?_
                refine WL.vg rfl (congrArg some h53) rfl rfl (X.moveB rfl) ?_
                refine WL.p rfl rfl rfl rfl ?_
                refine WL.p rfl rfl rfl rfl ?_
                refine WL.vg rfl (congrArg some h53) rfl rfl (X.pickT rfl rfl rfl) ?_
                refine WL.vg rfl (congrArg some h53) rfl rfl (X.moveB rfl) ?_
                refine WL.p rfl rfl rfl rfl ?_
                refine WL.p rfl rfl rfl rfl ?_
                refine WL.vg rfl (congrArg some h53) rfl rfl (X.pickT rfl rfl rfl) ?_
                refine WL.va rfl rfl rfl (X.pickT rfl h53 rfl) ?_
                refine WL.va rfl rfl rfl (X.moveB rfl) ?_
                refine WL.vg rfl rfl rfl rfl (X.move rfl) ?_
                refine WL.vg rfl rfl rfl rfl (X.fieldAddrO (off := 2) rfl Try.underlying42 rfl rfl Try.sizeOf3) ?_
                refine WL.vg rfl rfl rfl rfl (X.loadO hO7 (Ext.refl _) rfl rfl Try.isAgg3) ?_
                refine WL.vg rfl rfl rfl rfl (X.moveI rfl) ?_
                refine WL.cg rfl rfl rfl rfl (X.call Try.call77 (evl_cons rfl (evl_cons (v := (i64 (l[i]'hi).Txn)) rfl (evl_cons (v := (i64 (i : Int))) rfl evl_nil)))) (rchosen_ok _ l (l[i]'hi).Txn i _ (hv0.ext (Ext.store hx4 hx8 (by omega))) (by omega)) ?_
                rintro v60 w59 ⟨rfl, hx61⟩
                have := World.grownBy.size hx61
                refine WL.va rfl rfl rfl (X.pickT rfl rfl rfl) ?_
                refine WL.va rfl rfl rfl (X.assignB rfl) ?_
                refine WL.nil ?_
                refine thn_n ?_
                refine WF.ret ?_
                refine blk_r ?_
                refine thn_r ?_
                refine fin_r ?_
                exact ⟨by first | exact ba_5 cg | exact ba_5n c1 | exact ba_5m n2 n3 n4 n5, (Ext.trans (Ext.store hx4 hx8 (by omega)) hx61)⟩
              · have gh55 := (of_decide_eq_false h55)
                have n2 : ¬ (l[i]'hi).Call.Kind = 2 := gh55
                refine WL.vg rfl (congrArg some h55) rfl rfl (X.moveI rfl) ?_
                refine WL.vg rfl (congrArg some h55) rfl rfl (X.eql rfl rfl) ?_
                refine WL.vg rfl (congrArg some h53) rfl rfl (X.pickF rfl h55 rfl) ?_
                refine WL.vg rfl (congrArg some h53) rfl rfl (X.moveB rfl) ?_
                refine WL.split (j := 10) rfl (fun h65 => ?_) (fun h65 => ?_)
                · have gh65 := (of_decide_eq_true h65)
                  have cg : goesOn (l[i]'hi) = true := goes_of c1 (.inr (.inl gh65))
                  refine WL.p rfl rfl rfl (congrArg some h65) ?_
                  refine WL.p rfl rfl rfl (congrArg some h65) ?_
                  refine WL.vg rfl (congrArg some h53) rfl rfl (X.pickT rfl h65 rfl) ?_
                  refine WL.vg rfl (congrArg some h53) rfl rfl (X.moveB rfl) ?_
                  refine WL.p rfl rfl rfl rfl ?_
                  refine WL.p rfl rfl rfl rfl ?_
                  refine WL.vg rfl (congrArg some h53) rfl rfl (X.pickT rfl rfl rfl) ?_
                  refine WL.va rfl rfl rfl (X.pickT rfl h53 rfl) ?_
                  refine WL.va rfl rfl rfl (X.moveB rfl) ?_
                  refine WL.vg rfl rfl rfl rfl (X.move rfl) ?_
                  refine WL.vg rfl rfl rfl rfl (X.fieldAddrO (off := 2) rfl Try.underlying42 rfl rfl Try.sizeOf3) ?_
                  refine WL.vg rfl rfl rfl rfl (X.loadO hO7 (Ext.refl _) rfl rfl Try.isAgg3) ?_
                  refine WL.vg rfl rfl rfl rfl (X.moveI rfl) ?_
                  refine WL.cg rfl rfl rfl rfl (X.call Try.call77 (evl_cons rfl (evl_cons (v := (i64 (l[i]'hi).Txn)) rfl (evl_cons (v := (i64 (i : Int))) rfl evl_nil)))) (rchosen_ok _ l (l[i]'hi).Txn i _ (hv0.ext (Ext.store hx4 hx8 (by omega))) (by omega)) ?_
                  rintro v69 w68 ⟨rfl, hx70⟩
                  have := World.grownBy.size hx70
                  refine WL.va rfl rfl rfl (X.pickT rfl rfl rfl) ?_
                  refine WL.va rfl rfl rfl (X.assignB rfl) ?_
                  refine WL.nil ?_
                  refine thn_n ?_
                  refine WF.ret ?_
                  refine blk_r ?_
                  refine thn_r ?_
                  refine fin_r ?_
                  exact ⟨by first | exact ba_5 cg | exact ba_5n c1 | exact ba_5m n2 n3 n4 n5, (Ext.trans (Ext.store hx4 hx8 (by omega)) hx70)⟩
                · have gh65 := (of_decide_eq_false h65)
                  have n3 : ¬ (l[i]'hi).Call.Kind = 3 := gh65
                  refine WL.vg rfl (congrArg some h65) rfl rfl (X.moveI rfl) ?_
                  refine WL.vg rfl (congrArg some h65) rfl rfl (X.eql rfl rfl) ?_
                  refine WL.vg rfl (congrArg some h53) rfl rfl (X.pickF rfl h65 rfl) ?_
                  refine WL.vg rfl (congrArg some h53) rfl rfl (X.moveB rfl) ?_
                  refine WL.split (j := 14) rfl (fun h73 => ?_) (fun h73 => ?_)
                  · have gh73 := (of_decide_eq_true h73)
                    have cg : goesOn (l[i]'hi) = true := goes_of c1 (.inr (.inr gh73))
                    refine WL.p rfl rfl rfl (congrArg some h73) ?_
                    refine WL.p rfl rfl rfl (congrArg some h73) ?_
                    refine WL.vg rfl (congrArg some h53) rfl rfl (X.pickT rfl h73 rfl) ?_
                    refine WL.va rfl rfl rfl (X.pickT rfl h53 rfl) ?_
                    refine WL.va rfl rfl rfl (X.moveB rfl) ?_
                    refine WL.vg rfl rfl rfl rfl (X.move rfl) ?_
                    refine WL.vg rfl rfl rfl rfl (X.fieldAddrO (off := 2) rfl Try.underlying42 rfl rfl Try.sizeOf3) ?_
                    refine WL.vg rfl rfl rfl rfl (X.loadO hO7 (Ext.refl _) rfl rfl Try.isAgg3) ?_
                    refine WL.vg rfl rfl rfl rfl (X.moveI rfl) ?_
                    refine WL.cg rfl rfl rfl rfl (X.call Try.call77 (evl_cons rfl (evl_cons (v := (i64 (l[i]'hi).Txn)) rfl (evl_cons (v := (i64 (i : Int))) rfl evl_nil)))) (rchosen_ok _ l (l[i]'hi).Txn i _ (hv0.ext (Ext.store hx4 hx8 (by omega))) (by omega)) ?_
                    rintro v76 w75 ⟨rfl, hx77⟩
                    have := World.grownBy.size hx77
                    refine WL.va rfl rfl rfl (X.pickT rfl rfl rfl) ?_
                    refine WL.va rfl rfl rfl (X.assignB rfl) ?_
                    refine WL.nil ?_
                    refine thn_n ?_
                    refine WF.ret ?_
                    refine blk_r ?_
                    refine thn_r ?_
                    refine fin_r ?_
                    exact ⟨by first | exact ba_5 cg | exact ba_5n c1 | exact ba_5m n2 n3 n4 n5, (Ext.trans (Ext.store hx4 hx8 (by omega)) hx77)⟩
                  · have gh73 := (of_decide_eq_false h73)
                    have n4 : ¬ (l[i]'hi).Call.Kind = 4 := gh73
                    refine WL.vg rfl (congrArg some h73) rfl rfl (X.moveI rfl) ?_
                    refine WL.vg rfl (congrArg some h73) rfl rfl (X.eql rfl rfl) ?_
                    refine WL.vg rfl (congrArg some h53) rfl rfl (X.pickF rfl h73 rfl) ?_
                    refine WL.va rfl rfl rfl (X.pickT rfl h53 rfl) ?_
                    refine WL.va rfl rfl rfl (X.moveB rfl) ?_
                    refine WL.split (j := 19) rfl (fun h80 => ?_) (fun h80 => ?_)
                    · have gh80 := (of_decide_eq_true h80)
                      have cg : goesOn (l[i]'hi) = true := go_5 c1 gh80
                      refine WL.vg rfl (congrArg some h80) rfl rfl (X.move rfl) ?_
                      refine WL.vg rfl (congrArg some h80) rfl rfl (X.fieldAddrO (off := 2) rfl Try.underlying42 rfl rfl Try.sizeOf3) ?_
                      refine WL.vg rfl (congrArg some h80) rfl rfl (X.loadO hO7 (Ext.refl _) rfl rfl Try.isAgg3) ?_
                      refine WL.vg rfl (congrArg some h80) rfl rfl (X.moveI rfl) ?_
                      refine WL.cg rfl (congrArg some h80) rfl rfl (X.call Try.call77 (evl_cons rfl (evl_cons (v := (i64 (l[i]'hi).Txn)) rfl (evl_cons (v := (i64 (i : Int))) rfl evl_nil)))) (rchosen_ok _ l (l[i]'hi).Txn i _ (hv0.ext (Ext.store hx4 hx8 (by omega))) (by omega)) ?_
                      rintro v82 w81 ⟨rfl, hx83⟩
                      have := World.grownBy.size hx83
                      refine WL.va rfl rfl rfl (X.pickT rfl h80 rfl) ?_
                      refine WL.va rfl rfl rfl (X.assignB rfl) ?_
                      refine WL.nil ?_
                      refine thn_n ?_
                      refine WF.ret ?_
                      refine blk_r ?_
                      refine thn_r ?_
                      refine fin_r ?_
                      exact ⟨by first | exact ba_5 cg | exact ba_5n c1 | exact ba_5m n2 n3 n4 n5, (Ext.trans (Ext.store hx4 hx8 (by omega)) hx83)⟩
                    · have gh80 := (of_decide_eq_false h80)
                      have n5 : ¬ (l[i]'hi).Call.Kind = 5 := gh80
                      refine WL.p rfl rfl rfl (congrArg some h80) ?_
                      refine WL.p rfl rfl rfl (congrArg some h80) ?_
                      refine WL.p rfl rfl rfl (congrArg some h80) ?_
                      refine WL.p rfl rfl rfl (congrArg some h80) ?_
                      refine WL.p rfl rfl rfl (congrArg some h80) ?_
                      refine WL.va rfl rfl rfl (X.pickF rfl h80 rfl) ?_
                      refine WL.va rfl rfl rfl (X.assignB rfl) ?_
                      refine WL.nil ?_
                      refine thn_n ?_
                      refine WF.ret ?_
                      refine blk_r ?_
                      refine thn_r ?_
                      refine fin_r ?_
                      exact ⟨by first | exact ba_5 cg | exact ba_5n c1 | exact ba_5m n2 n3 n4 n5, (Ext.store hx4 hx8 (by omega))⟩
            · have gh53 := (of_decide_eq_false h53)
              have c1 : ¬ (l[i]'hi).Kind = 1 := gh53
              refine WL.p rfl rfl rfl (congrArg some h53) ?_
              refine WL.p rfl rfl rfl (congrArg some h53) ?_
              refine WL.p rfl rfl rfl (congrArg some h53) ?_
              refine WL.pn rfl rfl rfl rfl ?_
              refine WL.pn rfl rfl rfl rfl ?_
              refine WL.p rfl rfl rfl (congrArg some h53) ?_
              refine WL.p rfl rfl rfl (congrArg some h53) ?_
              refine WL.pn rfl rfl rfl rfl ?_
              refine WL.pn rfl rfl rfl rfl ?_
              refine WL.p rfl rfl rfl (congrArg some h53) ?_
              refine WL.p rfl rfl rfl (congrArg some h53) ?_
              refine WL.pn rfl rfl rfl rfl ?_
              refine WL.pn rfl rfl rfl rfl ?_
              refine WL.p rfl rfl rfl (congrArg some h53) ?_
              refine WL.va rfl rfl rfl (X.pickF rfl h53 rfl) ?_
              refine WL.va rfl rfl rfl (X.moveB rfl) ?_
              refine WL.p rfl rfl rfl rfl ?_
              refine WL.p rfl rfl rfl rfl ?_
              refine WL.p rfl rfl rfl rfl ?_
              refine WL.p rfl rfl rfl rfl ?_
              refine WL.p rfl rfl rfl rfl ?_
              refine WL.va rfl rfl rfl (X.pickF rfl rfl rfl) ?_
              refine WL.va rfl rfl rfl (X.assignB rfl) ?_
              refine WL.nil ?_
              refine thn_n ?_
              refine WF.ret ?_
              refine blk_r ?_
              refine thn_r ?_
              refine fin_r ?_
              exact ⟨by first | exact ba_5 cg | exact ba_5n c1 | exact ba_5m n2 n3 n4 n5, (Ext.store hx4 hx8 (by omega))⟩
          · have gh4_50 := (of_decide_eq_false h4_50)
            refine WF.seq ?_
            refine WF.region ?_
            refine WL.va rfl rfl rfl (X.eql rfl rfl) ?_
            refine WL.va rfl rfl rfl (X.assignB rfl) ?_
            refine WL.nil ?_
            refine thn_n ?_
            refine WF.cond rfl (fun h5_88 => ?_) (fun h5_88 => ?_)
            · have gh5_88 := (of_decide_eq_true h5_88)
              obtain rfl : m = 6 := by have := gh5_88; omega
              refine WF.seq ?_
              refine WF.region ?_
              refine WL.va rfl rfl rfl (X.move rfl) ?_
              refine WL.va rfl rfl rfl (X.moveI rfl) ?_
              refine WL.c rfl rfl rfl (X.call Try.call80 (evl_cons rfl (evl_cons rfl evl_nil))) (rwrong_ok _ l i _ (hv0.ext (Ext.store hx4 hx8 (by omega))) hi hl) ?_
              rintro v91 w90 ⟨rfl, hx92⟩
              have := World.grownBy.size hx92
              refine WL.va rfl rfl rfl (X.assignB rfl) ?_
              refine WL.nil ?_
              refine thn_n ?_
              refine WF.ret ?_
              refine blk_r ?_
              refine thn_r ?_
              refine fin_r ?_
              exact ⟨rfl, (Ext.trans (Ext.store hx4 hx8 (by omega)) hx92)⟩
            · have gh5_88 := (of_decide_eq_false h5_88)
              obtain rfl : m = 7 := by omega
              refine WF.skip ?_
              refine blk_n ?_
              refine thn_n ?_
              refine WF.seq ?_
              refine WF.region ?_
              refine WL.va rfl rfl rfl (X.move rfl) ?_
              refine WL.va rfl rfl rfl (X.moveI rfl) ?_
              refine WL.c rfl rfl rfl (X.call Try.call81 (evl_cons rfl (evl_cons rfl evl_nil))) (rsnaps_ok _ l i _ (hv0.ext (Ext.store hx4 hx8 (by omega))) hi hl) ?_
              rintro v95 w94 ⟨rfl, hx96⟩
              have := World.grownBy.size hx96
              refine WL.va rfl rfl rfl (X.assignB rfl) ?_
              refine WL.nil ?_
              refine thn_n ?_
              refine WF.ret ?_
              refine fin_r ?_
              exact ⟨rfl, (Ext.trans (Ext.store hx4 hx8 (by omega)) hx96)⟩

set_option maxHeartbeats 4000000 in
theorem rcheck_ok (v : Value) (l : List Ev) (w : World) (hv : Evs w v l) (hl : l.length ≤ 1000000) : FnOk Try.prog 36 [v] w (fun r w' => r = i64 (refCheckL l) ∧ Ext w w') := by
  have hv0 := hv
  have hle := hv.le
  obtain ⟨cs, hr, hel⟩ := hv
  have hnr : noR.length = 8 := rfl
  refine FnOk.enter (rs := [2]) Try.func36 rfl Try.ntmps36 Try.results36 rfl rfl ?_
  refine WF.seq ?_
  refine WF.region ?_
  refine WL.va rfl rfl rfl (X.assignI rfl) ?_
  refine WL.nil ?_
  refine thn_n ?_
  refine WF.seq ?_
  refine WF.region ?_
  refine WL.op rfl (OW.lits (vs := [_, _, _, _, _, _, _, _]) (evp_cons rfl (evp_cons rfl (evp_cons rfl (evp_cons rfl (evp_cons rfl (evp_cons rfl (evp_cons rfl (evp_cons rfl evp_nil)))))))) Try.underlying98 Try.sizeOf29 Try.zeroValue29 ⟨rfl, rfl, rfl, rfl, rfl, rfl, rfl, rfl, trivial⟩ rfl rfl rfl ?_ (by decide))
  intro v1 wN ho3 hx2
  refine WL.va rfl rfl rfl (X.assign rfl) ?_
  refine WL.nil ?_
  refine thn_n ?_
  refine WF.seq ?_
  refine WF.seq ?_
  refine WF.region ?_
  refine WL.va rfl rfl rfl (X.assignI rfl) ?_
  refine WL.nil ?_
  refine thn_n ?_
  refine WF.block ?_
  refine WF.named (fun F4 hF5 => ?_)
  refine WF.loopN (fun mL0 f' w' => ∃ (m : Nat), mL0 = 8 - m ∧ f' 4 = .int .i64 (m : Int) ∧ Agree [0, 3, 6] f' F4 ∧ Ext wN w' ∧ 1 ≤ m ∧ m ≤ 8 ∧ NoW l m) ?_ ?_
  · exact ⟨_, 1, rfl, (congrFun hF5 4), (Agree.refl _ _), (Ext.refl _), ⟨Nat.le_refl _, by omega, fun j h h2 => absurd h2 (by omega)⟩⟩
  · rintro mL0 fL0 wL0 ⟨m, hmL0, e4_L0, hAL0, hwL0, ⟨h1, h8, hno⟩⟩
    refine WF.seq ?_
    refine WF.seq ?_
    refine WF.region ?_
    refine WL.va rfl rfl rfl (X.moveI e4_L0) ?_
    refine WL.va rfl rfl rfl (X.leq rfl rfl) ?_
    refine WL.nil ?_
    refine thn_n ?_
    refine WF.cond rfl (fun h0_6 => ?_) (fun h0_6 => ?_)
    · have gh0_6 := (of_decide_eq_true h0_6)
      have h7 : m ≤ 7 := by have := gh0_6; omega
      refine WF.skip ?_
      refine thn_n ?_
      refine WF.seq ?_
      refine WF.block ?_
      refine WF.seq ?_
      refine WF.region ?_
      refine WL.va rfl rfl rfl (X.assignI rfl) ?_
      refine WL.nil ?_
      refine thn_n ?_
      refine WF.block ?_
      refine WF.named (fun F8 hF9 => ?_)
      refine WF.loopN (fun mL1 f' w' => ∃ (i : Nat), mL1 = l.length - i ∧ f' 5 = .int .i64 (i : Int) ∧ Agree [0, 3, 4, 6, 7, 8] f' F8 ∧ Ext wN w' ∧ i ≤ l.length ∧ NoI l (badR l m) i) ?_ ?_
      · exact ⟨_, 0, rfl, (congrFun hF9 5), (Agree.refl _ _), hwL0, ⟨Nat.zero_le _, NoI.z⟩⟩
      · rintro mL1 fL1 wL1 ⟨i, hmL1, e5_L1, hAL1, hwL1, ⟨hi0, hni⟩⟩
        refine WF.seq ?_
        refine WF.seq ?_
        refine WF.region ?_
        refine WL.va rfl rfl rfl (X.moveI e5_L1) ?_
        refine WL.va rfl rfl rfl (X.move ((hAL1.eq 0).trans ((congrFun hF9 0).trans ((hAL0.eq 0).trans (congrFun hF5 0))))) ?_
        refine WL.va rfl rfl rfl (X.len hr rfl Try.underlying26) ?_
        refine WL.va rfl rfl rfl (X.lss rfl rfl) ?_
        refine WL.nil ?_
        refine thn_n ?_
        refine WF.cond rfl (fun h1_10 => ?_) (fun h1_10 => ?_)
        · have gh1_10 := (of_decide_eq_true h1_10)
          have hi : i < l.length := by have := gh1_10; omega
          refine WF.skip ?_
          refine thn_n ?_
          refine WF.seq ?_
          refine WF.block ?_
          refine WF.seq ?_
          refine WF.region ?_
          refine WL.va rfl rfl rfl (X.move ((hAL1.eq 0).trans ((congrFun hF9 0).trans ((hAL0.eq 0).trans (congrFun hF5 0))))) ?_
          refine WL.va rfl rfl rfl (X.moveI e5_L1) ?_
          refine WL.va rfl rfl rfl (X.moveI ((hAL1.eq 4).trans ((congrFun hF9 4).trans e4_L0))) ?_
          refine WL.c rfl rfl rfl (X.call Try.call64 (evl_cons rfl (evl_cons rfl (evl_cons rfl evl_nil)))) (bad_ok _ l i m _ (hv0.ext (Ext.trans hx2 hwL1)) hi hl h1 h7) ?_
          rintro v13 w12 ⟨rfl, hx14⟩
          refine WL.nil ?_
          refine thn_n ?_
          refine WF.cond rfl (fun h2_15 => ?_) (fun h2_15 => ?_)
          · have gh2_15 := h2_15
            have hy : anyI l (badR l m) = true := anyI_true hi gh2_15
            refine WF.seq ?_
            refine WF.region ?_
            refine WL.va rfl rfl rfl (X.move ((hAL1.eq 3).trans ((congrFun hF9 3).trans ((hAL0.eq 3).trans (congrFun hF5 3))))) ?_
            refine WL.va rfl rfl rfl (X.moveI ((hAL1.eq 4).trans ((congrFun hF9 4).trans e4_L0))) ?_
            refine WL.va rfl rfl rfl (X.idx (show Ints _ _ noR from Row.of_own ho3) rfl rfl (show m < noR.length from by omega) Try.underlying98 Try.sizeOf29) ?_
            refine WL.va rfl rfl rfl (X.loadI (show Ints _ _ noR from Row.of_own ho3) (Ext.trans hwL1 hx14) rfl (show m < noR.length from by omega) Try.isAgg29) ?_
            refine WL.va rfl rfl rfl (X.assignI rfl) ?_
            refine WL.nil ?_
            refine thn_n ?_
            refine WF.ret ?_
            refine blk_r ?_
            refine thn_r ?_
            refine thn_r ?_
            refine blk_r ?_
            refine blk_r ?_
            refine thn_r ?_
            refine thn_r ?_
            refine blk_r ?_
            refine thn_r ?_
            refine fin_r ?_
            exact ⟨congrArg i64 (rck_at h1 h7 hy hno), (Ext.trans (Ext.trans hx2 hwL1) hx14)⟩
          · have gh2_15 := h2_15
            have hfk : badR l m i (l[i]'hi) = false := gh2_15
            refine WF.skip ?_
            refine blk_n ?_
            refine thn_n ?_
            refine WF.region ?_
            refine WL.va rfl rfl rfl (X.moveI e5_L1) ?_
            refine WL.va rfl rfl rfl (X.add rfl rfl (w64 (by omega))) ?_
            refine WL.va rfl rfl rfl (X.assignI rfl) ?_
            refine WL.nil ?_
            exact thn_n ⟨_, (by omega), i + 1, rfl, rfl, (by repeat (first | exact hAL1 | refine Agree.put ?_ rfl | refine Agree.sub hAL0 rfl ?_ | refine Agree.named hF9 ?_ | refine Agree.named hF5 ?_)), (Ext.trans hwL1 hx14), ⟨by omega, hni.s hi hfk⟩⟩
        · have gh1_10 := (of_decide_eq_false h1_10)
          have hi : l.length ≤ i := by have := gh1_10; omega
          have hw9 := hno.s (anyI_false hni hi)
          refine WF.exit ?_
          refine thn_x ?_
          refine thn_x ?_
          refine blk_eq ?_
          refine blk_n ?_
          refine thn_n ?_
          refine WF.region ?_
          refine WL.va rfl rfl rfl (X.moveI ((hAL1.eq 4).trans ((congrFun hF9 4).trans e4_L0))) ?_
          refine WL.va rfl rfl rfl (X.add rfl rfl (w64 (by omega))) ?_
          refine WL.va rfl rfl rfl (X.assignI rfl) ?_
          refine WL.nil ?_
          exact thn_n ⟨_, (by omega), m + 1, rfl, rfl, (by repeat (first | exact hAL0 | refine Agree.put ?_ rfl | refine Agree.sub hAL1 rfl ?_ | refine Agree.named hF9 ?_ | refine Agree.named hF5 ?_)), hwL1, ⟨by omega, by omega, hw9⟩⟩
    · have gh0_6 := (of_decide_eq_false h0_6)
      obtain rfl : m = 8 := by have := gh0_6; omega
      refine WF.exit ?_
      refine thn_x ?_
      refine thn_x ?_
      refine blk_eq ?_
      refine thn_n ?_
      refine WF.seq ?_
      refine WF.region ?_
      refine WL.va rfl rfl rfl (X.assignI rfl) ?_
      refine WL.nil ?_
      refine thn_n ?_
      refine WF.ret ?_
      refine fin_r ?_
      exact ⟨congrArg i64 (rck_no hno), (Ext.trans hx2 hwL0)⟩

end Go.Proofs.Ytobjmehppmhkdaa
