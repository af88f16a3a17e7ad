/- The walks of fields, number, within and foreign. -/
import Derived.Test.YtccbpfbcaogcnaaMg
import Derived.Test.YtccbpfbcaogcnaaStg
import Derived.Test.YtccbpfbcaogcnaaPackQ
namespace Go.Proofs.Ytccbpfbcaogcnaa
open Go Go.RowKit Kf
set_option maxRecDepth 20000
theorem dec_iff {p q : Prop} {i : Decidable p} {j : Decidable q} (h : p ↔ q) : decide p = decide q := decide_eq_decide.2 h
theorem dec_f {q : Prop} {j : Decidable q} (h : ¬ q) : false = decide q := (decide_eq_false h).symm
theorem dec_t {q : Prop} {j : Decidable q} (h : q) : true = decide q := (decide_eq_true h).symm

/-- the letters of a kind's fields -/
def lets (k : Int) : List UInt8 := (places k).map lt
theorem lets_len (k : Int) : (lets k).length = (places k).length := by simp [lets]
theorem lets_get {k : Int} {p : Nat} (h : p < (lets k).length) : (lets k)[p] = lt ((places k)[p]'(by rw [← lets_len]; exact h)) := by simp [lets]
theorem lt_small {p : Nat} (h : p < 14) : (lt p).toNat < 128 := by
  have : ∀ a, a < 14 → (lt a).toNat < 128 := by decide
  exact this p h
theorem lets_dec {k : Int} {p : Nat} (h : p < (lets k).length) : Utf8.decode (strL (lets k)) p = ((lt ((places k)[p]'(by rw [← lets_len]; exact h))).toNat, 1) := by
  rw [← lets_get h]
  exact strL_dec h (by rw [lets_get h]; exact lt_small (places_lt (List.getElem_mem _)))
theorem lets_nil (k : Int) : lets k = [] ↔ ¬ (1 ≤ k ∧ k ≤ 11) := by
  unfold lets
  rw [List.map_eq_nil_iff, places_empty]
/-- the cell that a letter stands for -/
def nOff (c : Nat) : Nat := if c = 103 then 3 else if c = 116 then 4 else if c = 105 then 5 else if c = 112 then 6 else if c = 99 then 7 else if c = 114 then 8 else if c = 115 then 13 else if c = 120 then 9 else if c = 97 then 10 else if c = 98 then 11 else 12
theorem nOff_lt (c : Nat) : 3 ≤ nOff c ∧ nOff c < 14 := by
  unfold nOff
  repeat' split
  all_goals exact ⟨by decide, by decide⟩
theorem nOff_place {p : Nat} (h : p < 11) : nOff (lt p).toNat = cl p := by
  have : ∀ a, a < 11 → nOff (lt a).toNat = cl a := by decide
  exact this p h
theorem lt_num {p : Nat} (h : p < 14) : ((lt p).toNat = 111 ↔ p = 11) ∧ ((lt p).toNat = 101 ↔ p = 12) ∧ ((lt p).toNat = 100 ↔ p = 13) ∧ ((lt p).toNat = 103 ↔ p = 0) ∧ ((lt p).toNat = 118 ↔ p = 10) ∧ ((lt p).toNat = 120 ↔ p = 7) ∧ ((lt p).toNat = 97 ↔ p = 8) := by
  have : ∀ a, a < 14 → ((lt a).toNat = 111 ↔ a = 11) ∧ ((lt a).toNat = 101 ↔ a = 12) ∧ ((lt a).toNat = 100 ↔ a = 13) ∧ ((lt a).toNat = 103 ↔ a = 0) ∧ ((lt a).toNat = 118 ↔ a = 10) ∧ ((lt a).toNat = 120 ↔ a = 7) ∧ ((lt a).toNat = 97 ↔ a = 8) := by decide
  exact this p h
/-- set to nought what a kind has -/
def zer (n : List Int) (L : List Nat) : List Int := L.foldl (fun m p => if p < 11 then m.set (cl p) 0 else m) n
theorem zer_len (L : List Nat) : ∀ n, (zer n L).length = n.length := by
  induction L with
  | nil => intro n; rfl
  | cons a L ih => intro n; show (zer (if a < 11 then n.set (cl a) 0 else n) L).length = _; rw [ih]; split <;> simp
theorem zer_get (L : List Nat) : ∀ (n : List Int) (p : Nat), p < 11 → (zer n L).getD (cl p) 0 = if p ∈ L then 0 else n.getD (cl p) 0 := by
  induction L with
  | nil => intro n p _; simp [zer]
  | cons b L ih =>
    intro n p hp
    show (zer (if b < 11 then n.set (cl b) 0 else n) L).getD (cl p) 0 = _
    rw [ih _ _ hp]
    by_cases h : p ∈ L
    · rw [if_pos h, if_pos (List.mem_cons_of_mem _ h)]
    · rw [if_neg h]
      by_cases e : p = b
      · subst e
        rw [if_pos hp, if_pos (List.mem_cons_self ..)]
        simp only [List.getD_eq_getElem?_getD, List.getElem?_set]
        simp
        split <;> rfl
      · rw [if_neg (show ¬ p ∈ b :: L from fun q => by rcases List.mem_cons.1 q with q | q; exact e q; exact h q)]
        by_cases hb : b < 11
        · rw [if_pos hb]
          have : cl b ≠ cl p := fun q => e (cl_inj hb hp q).symm
          simp only [List.getD_eq_getElem?_getD, List.getElem?_set_ne this]
        · rw [if_neg hb]
theorem zer_snoc {n : List Int} {L : List Nat} {j : Nat} (h : j < L.length) : zer n (L.take (j + 1)) = if L[j] < 11 then (zer n (L.take j)).set (cl L[j]) 0 else zer n (L.take j) := by
  unfold zer
  rw [List.take_succ_eq_append_getElem h, List.foldl_append]
  rfl
/-- what is left of the others -/
def zok (ok : Bool) (L : List Nat) : Bool := ok && !L.contains 11
def zE (v : Value) (L : List Nat) : Value := if 12 ∈ L then .slice none 0 0 else v
def zD (v : Value) (L : List Nat) : Value := if 13 ∈ L then .slice none 0 0 else v
theorem mem_snoc {L : List Nat} {j q : Nat} (h : j < L.length) : q ∈ L.take (j + 1) ↔ q ∈ L.take j ∨ q = L[j] := by
  rw [List.take_succ_eq_append_getElem h, List.mem_append, List.mem_singleton]
set_option maxHeartbeats 800000 in
theorem fields_ok (k : Int) (w : World) : FnOk Try.prog 33 [i64 k] w (fun r w' => r = .string (strL (lets k)) ∧ Ext w w') := by
  refine FnOk.enter (rs := [2]) Try.func33 rfl Try.ntmps33 Try.results33 rfl rfl ?_
  refine WF.seq ?_
  refine WF.region ?_
  refine WL.va rfl rfl rfl (X.assign rfl) ?_
  refine WL.nil ?_
  refine thn_n ?_
  refine WF.seq ?_
  refine WF.seq ?_
  refine WF.region ?_
  refine WL.va rfl rfl rfl (X.moveI rfl) ?_
  refine WL.nil ?_
  refine thn_n ?_
  refine WF.block ?_
  refine WF.seq ?_
  refine WF.region ?_
  refine WL.va rfl rfl rfl (X.eql rfl rfl) ?_
  refine WL.va rfl rfl rfl (X.assignB rfl) ?_
  refine WL.nil ?_
  refine thn_n ?_
  refine WF.cond rfl (fun h0_1 => ?_) (fun h0_1 => ?_)
  · have gh0_1 := (of_decide_eq_true h0_1)
    refine WF.seq ?_
    refine WF.region ?_
    refine WL.va rfl rfl rfl (X.assign rfl) ?_
    refine WL.nil ?_
    refine thn_n ?_
    refine WF.ret ?_
    refine blk_r ?_
    refine thn_r ?_
    refine fin_r ?_
    have e : k = 1 := by omega
    subst e
    refine ⟨?_, (Ext.refl _)⟩
    rfl
  · have gh0_1 := (of_decide_eq_false h0_1)
    refine WF.seq ?_
    refine WF.region ?_
    refine WL.va rfl rfl rfl (X.eql rfl rfl) ?_
    refine WL.va rfl rfl rfl (X.assignB rfl) ?_
    refine WL.nil ?_
    refine thn_n ?_
    refine WF.cond rfl (fun h1_3 => ?_) (fun h1_3 => ?_)
    · have gh1_3 := (of_decide_eq_true h1_3)
      refine WF.seq ?_
      refine WF.region ?_
      refine WL.va rfl rfl rfl (X.assign rfl) ?_
      refine WL.nil ?_
      refine thn_n ?_
      refine WF.ret ?_
      refine blk_r ?_
      refine thn_r ?_
      refine fin_r ?_
      have e : k = 2 := by omega
      subst e
      refine ⟨?_, (Ext.refl _)⟩
      rfl
    · have gh1_3 := (of_decide_eq_false h1_3)
      refine WF.seq ?_
      refine WF.region ?_
      refine WL.va rfl rfl rfl (X.eql rfl rfl) ?_
      refine WL.va rfl rfl rfl (X.assignB rfl) ?_
      refine WL.nil ?_
      refine thn_n ?_
      refine WF.cond rfl (fun h2_5 => ?_) (fun h2_5 => ?_)
      · have gh2_5 := (of_decide_eq_true h2_5)
        refine WF.seq ?_
        refine WF.region ?_
        refine WL.va rfl rfl rfl (X.assign rfl) ?_
        refine WL.nil ?_
        refine thn_n ?_
        refine WF.ret ?_
        refine blk_r ?_
        refine thn_r ?_
        refine fin_r ?_
        have e : k = 3 := by omega
        subst e
        refine ⟨?_, (Ext.refl _)⟩
        rfl
      · have gh2_5 := (of_decide_eq_false h2_5)
        refine WF.seq ?_
        refine WF.region ?_
        refine WL.va rfl rfl rfl (X.eql rfl rfl) ?_
        refine WL.va rfl rfl rfl (X.assignB rfl) ?_
        refine WL.nil ?_
        refine thn_n ?_
        refine WF.cond rfl (fun h3_7 => ?_) (fun h3_7 => ?_)
        · have gh3_7 := (of_decide_eq_true h3_7)
          refine WF.seq ?_
          refine WF.region ?_
          refine WL.va rfl rfl rfl (X.assign rfl) ?_
          refine WL.nil ?_
          refine thn_n ?_
          refine WF.ret ?_
          refine blk_r ?_
          refine thn_r ?_
          refine fin_r ?_
          have e : k = 4 := by omega
          subst e
          refine ⟨?_, (Ext.refl _)⟩
          rfl
        · have gh3_7 := (of_decide_eq_false h3_7)
          refine WF.seq ?_
          refine WF.region ?_
          refine WL.va rfl rfl rfl (X.eql rfl rfl) ?_
          refine WL.va rfl rfl rfl (X.assignB rfl) ?_
          refine WL.nil ?_
          refine thn_n ?_
          refine WF.cond rfl (fun h4_9 => ?_) (fun h4_9 => ?_)
          · have gh4_9 := (of_decide_eq_true h4_9)
            refine WF.seq ?_
            refine WF.region ?_
            refine WL.va rfl rfl rfl (X.assign rfl) ?_
            refine WL.nil ?_
            refine thn_n ?_
            refine WF.ret ?_
            refine blk_r ?_
            refine thn_r ?_
            refine fin_r ?_
            have e : k = 5 := by omega
            subst e
            refine ⟨?_, (Ext.refl _)⟩
            rfl
          · have gh4_9 := (of_decide_eq_false h4_9)
            refine WF.seq ?_
            refine WF.region ?_
            refine WL.va rfl rfl rfl (X.eql rfl rfl) ?_
            refine WL.va rfl rfl rfl (X.assignB rfl) ?_
            refine WL.nil ?_
            refine thn_n ?_
            refine WF.cond rfl (fun h5_11 => ?_) (fun h5_11 => ?_)
            · have gh5_11 := (of_decide_eq_true h5_11)
              refine WF.seq ?_
              refine WF.region ?_
              refine WL.va rfl rfl rfl (X.assign rfl) ?_
              refine WL.nil ?_
              refine thn_n ?_
              refine WF.ret ?_
              refine blk_r ?_
              refine thn_r ?_
              refine fin_r ?_
              have e : k = 6 := by omega
              subst e
              refine ⟨?_, (Ext.refl _)⟩
              rfl
            · have gh5_11 := (of_decide_eq_false h5_11)
              refine WF.seq ?_
              refine WF.region ?_
              refine WL.va rfl rfl rfl (X.eql rfl rfl) ?_
              refine WL.va rfl rfl rfl (X.assignB rfl) ?_
              refine WL.nil ?_
              refine thn_n ?_
              refine WF.cond rfl (fun h6_13 => ?_) (fun h6_13 => ?_)
              · have gh6_13 := (of_decide_eq_true h6_13)
                refine WF.seq ?_
                refine WF.region ?_
                refine WL.va rfl rfl rfl (X.assign rfl) ?_
                refine WL.nil ?_
                refine thn_n ?_
                refine WF.ret ?_
                refine blk_r ?_
                refine thn_r ?_
                refine fin_r ?_
                have e : k = 7 := by omega
                subst e
                refine ⟨?_, (Ext.refl _)⟩
                rfl
              · have gh6_13 := (of_decide_eq_false h6_13)
                refine WF.seq ?_
                refine WF.region ?_
                refine WL.va rfl rfl rfl (X.eql rfl rfl) ?_
                refine WL.va rfl rfl rfl (X.assignB rfl) ?_
                refine WL.nil ?_
                refine thn_n ?_
                refine WF.cond rfl (fun h7_15 => ?_) (fun h7_15 => ?_)
                · have gh7_15 := (of_decide_eq_true h7_15)
                  refine WF.seq ?_
                  refine WF.region ?_
                  refine WL.va rfl rfl rfl (X.assign rfl) ?_
                  refine WL.nil ?_
                  refine thn_n ?_
                  refine WF.ret ?_
                  refine blk_r ?_
                  refine thn_r ?_
                  refine fin_r ?_
                  have e : k = 8 := by omega
                  subst e
                  refine ⟨?_, (Ext.refl _)⟩
                  rfl
                · have gh7_15 := (of_decide_eq_false h7_15)
                  refine WF.seq ?_
                  refine WF.seq ?_
                  refine WF.region ?_
                  refine WL.va rfl rfl rfl (X.eql rfl rfl) ?_
                  refine WL.va rfl rfl rfl (X.assignB rfl) ?_
                  refine WL.nil ?_
                  refine thn_n ?_
                  refine WF.cond rfl (fun h8_17 => ?_) (fun h8_17 => ?_)
                  · have gh8_17 := (of_decide_eq_true h8_17)
                    refine WF.skip ?_
                    refine thn_n ?_
                    refine WF.cond_t ((rfl : _ = Value.bool _).trans (congrArg Value.bool h8_17)) ?_
                    refine WF.seq ?_
                    refine WF.region ?_
                    refine WL.va rfl rfl rfl (X.assign rfl) ?_
                    refine WL.nil ?_
                    refine thn_n ?_
                    refine WF.ret ?_
                    refine blk_r ?_
                    refine thn_r ?_
                    refine fin_r ?_
                    have e : k = 9 ∨ k = 11 := by omega
                    rcases e with rfl | rfl
                    · refine ⟨?_, (Ext.refl _)⟩; rfl
                    · refine ⟨?_, (Ext.refl _)⟩; rfl
                  · have gh8_17 := (of_decide_eq_false h8_17)
                    refine WF.region ?_
                    refine WL.va rfl rfl rfl (X.eql rfl rfl) ?_
                    refine WL.va rfl rfl rfl (X.assignB rfl) ?_
                    refine WL.nil ?_
                    refine thn_n ?_
                    refine WF.cond rfl (fun h9_19 => ?_) (fun h9_19 => ?_)
                    · have gh9_19 := (of_decide_eq_true h9_19)
                      refine WF.seq ?_
                      refine WF.region ?_
                      refine WL.va rfl rfl rfl (X.assign rfl) ?_
                      refine WL.nil ?_
                      refine thn_n ?_
                      refine WF.ret ?_
                      refine blk_r ?_
                      refine thn_r ?_
                      refine fin_r ?_
                      have e : k = 9 ∨ k = 11 := by omega
                      rcases e with rfl | rfl
                      · refine ⟨?_, (Ext.refl _)⟩; rfl
                      · refine ⟨?_, (Ext.refl _)⟩; rfl
                    · have gh9_19 := (of_decide_eq_false h9_19)
                      refine WF.seq ?_
                      refine WF.region ?_
                      refine WL.va rfl rfl rfl (X.eql rfl rfl) ?_
                      refine WL.va rfl rfl rfl (X.assignB rfl) ?_
                      refine WL.nil ?_
                      refine thn_n ?_
                      refine WF.cond rfl (fun h10_21 => ?_) (fun h10_21 => ?_)
                      · have gh10_21 := (of_decide_eq_true h10_21)
                        refine WF.seq ?_
                        refine WF.region ?_
                        refine WL.va rfl rfl rfl (X.assign rfl) ?_
                        refine WL.nil ?_
                        refine thn_n ?_
                        refine WF.ret ?_
                        refine blk_r ?_
                        refine thn_r ?_
                        refine fin_r ?_
                        have e : k = 10 := by omega
                        subst e
                        refine ⟨?_, (Ext.refl _)⟩
                        rfl
                      · have gh10_21 := (of_decide_eq_false h10_21)
                        refine WF.skip ?_
                        refine blk_n ?_
                        refine thn_n ?_
                        refine WF.seq ?_
                        refine WF.region ?_
                        refine WL.va rfl rfl rfl (X.assign rfl) ?_
                        refine WL.nil ?_
                        refine thn_n ?_
                        refine WF.ret ?_
                        refine fin_r ?_
                        have e : lets k = [] := (lets_nil k).2 (by omega)
                        rw [e]
                        exact ⟨rfl, (Ext.refl _)⟩

theorem within_ok (n a b : Int) (w : World) : FnOk Try.prog 64 [i64 n, i64 a, i64 b] w (fun r w' => r = .bool (decide (a ≤ n ∧ n ≤ b)) ∧ Ext w w') := by
  refine FnOk.enter (rs := [6]) Try.func64 rfl Try.ntmps64 Try.results64 rfl rfl ?_
  refine WF.seq ?_
  refine WF.region ?_
  refine WL.va rfl rfl rfl (X.assignB rfl) ?_
  refine WL.nil ?_
  refine thn_n ?_
  refine WF.seq ?_
  refine WF.region ?_
  refine WL.va rfl rfl rfl (X.moveI rfl) ?_
  refine WL.va rfl rfl rfl (X.moveI rfl) ?_
  refine WL.va rfl rfl rfl (X.geq rfl rfl) ?_
  refine WL.va rfl rfl rfl (X.moveB rfl) ?_
  refine WL.split (j := 3) rfl (fun h3 => ?_) (fun h3 => ?_)
  · have gh3 := (of_decide_eq_true h3)
    refine WL.vg rfl (congrArg some h3) rfl rfl (X.moveI rfl) ?_
    refine WL.vg rfl (congrArg some h3) rfl rfl (X.moveI rfl) ?_
    refine WL.vg rfl (congrArg some h3) rfl rfl (X.leq rfl rfl) ?_
    refine WL.va rfl rfl rfl (X.pickT rfl h3 rfl) ?_
    refine WL.va rfl rfl rfl (X.assignB rfl) ?_
    refine WL.nil ?_
    refine thn_n ?_
    refine WF.ret ?_
    refine fin_r ?_
    exact ⟨congrArg Value.bool (by first | exact decide_eq_decide.2 (by omega) | exact (decide_eq_false (by omega)).symm | exact (decide_eq_true (by omega)).symm), (Ext.refl _)⟩
  · have gh3 := (of_decide_eq_false h3)
    refine WL.p rfl rfl rfl (congrArg some h3) ?_
    refine WL.p rfl rfl rfl (congrArg some h3) ?_
    refine WL.p rfl rfl rfl (congrArg some h3) ?_
    refine WL.va rfl rfl rfl (X.pickF rfl h3 rfl) ?_
    refine WL.va rfl rfl rfl (X.assignB rfl) ?_
    refine WL.nil ?_
    refine thn_n ?_
    refine WF.ret ?_
    refine fin_r ?_
    exact ⟨congrArg Value.bool (by first | exact decide_eq_decide.2 (by omega) | exact (decide_eq_false (by omega)).symm | exact (decide_eq_true (by omega)).symm), (Ext.refl _)⟩

set_option maxHeartbeats 1600000 in
theorem number_ok2 (g c : Nat) (cs : List Value) (w : World) (hO : Blk w g 25 cs) : FnOk Try.prog 45 [at_ g, .int .i32 (c : Int)] w (fun r w' => r = .pointer (some ⟨g, nOff c, none⟩) ∧ Ext w w') := by
  refine FnOk.enter (rs := [4]) Try.func45 rfl Try.ntmps45 Try.results45 rfl rfl ?_
  refine WF.seq ?_
  refine WF.region ?_
  refine WL.va rfl rfl rfl (X.assign rfl) ?_
  refine WL.nil ?_
  refine thn_n ?_
  refine WF.seq ?_
  refine WF.seq ?_
  refine WF.region ?_
  refine WL.va rfl rfl rfl (X.moveI rfl) ?_
  refine WL.nil ?_
  refine thn_n ?_
  refine WF.block ?_
  refine WF.seq ?_
  refine WF.region ?_
  refine WL.va rfl rfl rfl (X.eql rfl rfl) ?_
  refine WL.va rfl rfl rfl (X.assignB rfl) ?_
  refine WL.nil ?_
  refine thn_n ?_
  refine WF.cond rfl (fun h0_1 => ?_) (fun h0_1 => ?_)
  · have gh0_1 := (of_decide_eq_true h0_1)
    refine WF.seq ?_
    refine WF.region ?_
    refine WL.va rfl rfl rfl (X.move rfl) ?_
    refine WL.va rfl rfl rfl (X.nilCheck rfl) ?_
    refine WL.va rfl rfl rfl (X.fieldAddrO (off := 3) rfl Try.underlying25 rfl rfl Try.sizeOf3) ?_
    refine WL.va rfl rfl rfl (X.assign rfl) ?_
    refine WL.nil ?_
    refine thn_n ?_
    refine WF.ret ?_
    refine blk_r ?_
    refine thn_r ?_
    refine fin_r ?_
    refine ⟨?_, (Ext.refl _)⟩
    unfold nOff
    first | (obtain rfl : c = 103 := (by omega); rfl) | (obtain rfl : c = 116 := (by omega); rfl) | (obtain rfl : c = 105 := (by omega); rfl) | (obtain rfl : c = 112 := (by omega); rfl) | (obtain rfl : c = 99 := (by omega); rfl) | (obtain rfl : c = 114 := (by omega); rfl) | (obtain rfl : c = 115 := (by omega); rfl) | (obtain rfl : c = 120 := (by omega); rfl) | (obtain rfl : c = 97 := (by omega); rfl) | (obtain rfl : c = 98 := (by omega); rfl) | (rw [if_neg (by omega), if_neg (by omega), if_neg (by omega), if_neg (by omega), if_neg (by omega), if_neg (by omega), if_neg (by omega), if_neg (by omega), if_neg (by omega), if_neg (by omega)] <;> rfl)
  · have gh0_1 := (of_decide_eq_false h0_1)
    refine WF.seq ?_
    refine WF.region ?_
    refine WL.va rfl rfl rfl (X.eql rfl rfl) ?_
    refine WL.va rfl rfl rfl (X.assignB rfl) ?_
    refine WL.nil ?_
    refine thn_n ?_
    refine WF.cond rfl (fun h1_3 => ?_) (fun h1_3 => ?_)
    · have gh1_3 := (of_decide_eq_true h1_3)
      refine WF.seq ?_
      refine WF.region ?_
      refine WL.va rfl rfl rfl (X.move rfl) ?_
      refine WL.va rfl rfl rfl (X.nilCheck rfl) ?_
      refine WL.va rfl rfl rfl (X.fieldAddrO (off := 4) rfl Try.underlying25 rfl rfl Try.sizeOf3) ?_
      refine WL.va rfl rfl rfl (X.assign rfl) ?_
      refine WL.nil ?_
      refine thn_n ?_
      refine WF.ret ?_
      refine blk_r ?_
      refine thn_r ?_
      refine fin_r ?_
      refine ⟨?_, (Ext.refl _)⟩
      unfold nOff
      first | (obtain rfl : c = 103 := (by omega); rfl) | (obtain rfl : c = 116 := (by omega); rfl) | (obtain rfl : c = 105 := (by omega); rfl) | (obtain rfl : c = 112 := (by omega); rfl) | (obtain rfl : c = 99 := (by omega); rfl) | (obtain rfl : c = 114 := (by omega); rfl) | (obtain rfl : c = 115 := (by omega); rfl) | (obtain rfl : c = 120 := (by omega); rfl) | (obtain rfl : c = 97 := (by omega); rfl) | (obtain rfl : c = 98 := (by omega); rfl) | (rw [if_neg (by omega), if_neg (by omega), if_neg (by omega), if_neg (by omega), if_neg (by omega), if_neg (by omega), if_neg (by omega), if_neg (by omega), if_neg (by omega), if_neg (by omega)] <;> rfl)
    · have gh1_3 := (of_decide_eq_false h1_3)
      refine WF.seq ?_
      refine WF.region ?_
      refine WL.va rfl rfl rfl (X.eql rfl rfl) ?_
      refine WL.va rfl rfl rfl (X.assignB rfl) ?_
      refine WL.nil ?_
      refine thn_n ?_
      refine WF.cond rfl (fun h2_5 => ?_) (fun h2_5 => ?_)
      · have gh2_5 := (of_decide_eq_true h2_5)
        refine WF.seq ?_
        refine WF.region ?_
        refine WL.va rfl rfl rfl (X.move rfl) ?_
        refine WL.va rfl rfl rfl (X.nilCheck rfl) ?_
        refine WL.va rfl rfl rfl (X.fieldAddrO (off := 5) rfl Try.underlying25 rfl rfl Try.sizeOf3) ?_
        refine WL.va rfl rfl rfl (X.assign rfl) ?_
        refine WL.nil ?_
        refine thn_n ?_
        refine WF.ret ?_
        refine blk_r ?_
        refine thn_r ?_
        refine fin_r ?_
        refine ⟨?_, (Ext.refl _)⟩
        unfold nOff
        first | (obtain rfl : c = 103 := (by omega); rfl) | (obtain rfl : c = 116 := (by omega); rfl) | (obtain rfl : c = 105 := (by omega); rfl) | (obtain rfl : c = 112 := (by omega); rfl) | (obtain rfl : c = 99 := (by omega); rfl) | (obtain rfl : c = 114 := (by omega); rfl) | (obtain rfl : c = 115 := (by omega); rfl) | (obtain rfl : c = 120 := (by omega); rfl) | (obtain rfl : c = 97 := (by omega); rfl) | (obtain rfl : c = 98 := (by omega); rfl) | (rw [if_neg (by omega), if_neg (by omega), if_neg (by omega), if_neg (by omega), if_neg (by omega), if_neg (by omega), if_neg (by omega), if_neg (by omega), if_neg (by omega), if_neg (by omega)] <;> rfl)
      · have gh2_5 := (of_decide_eq_false h2_5)
        refine WF.seq ?_
        refine WF.region ?_
        refine WL.va rfl rfl rfl (X.eql rfl rfl) ?_
        refine WL.va rfl rfl rfl (X.assignB rfl) ?_
        refine WL.nil ?_
        refine thn_n ?_
        refine WF.cond rfl (fun h3_7 => ?_) (fun h3_7 => ?_)
        · have gh3_7 := (of_decide_eq_true h3_7)
          refine WF.seq ?_
          refine WF.region ?_
          refine WL.va rfl rfl rfl (X.move rfl) ?_
          refine WL.va rfl rfl rfl (X.nilCheck rfl) ?_
          refine WL.va rfl rfl rfl (X.fieldAddrO (off := 6) rfl Try.underlying25 rfl rfl Try.sizeOf3) ?_
          refine WL.va rfl rfl rfl (X.assign rfl) ?_
          refine WL.nil ?_
          refine thn_n ?_
          refine WF.ret ?_
          refine blk_r ?_
          refine thn_r ?_
          refine fin_r ?_
          refine ⟨?_, (Ext.refl _)⟩
          unfold nOff
          first | (obtain rfl : c = 103 := (by omega); rfl) | (obtain rfl : c = 116 := (by omega); rfl) | (obtain rfl : c = 105 := (by omega); rfl) | (obtain rfl : c = 112 := (by omega); rfl) | (obtain rfl : c = 99 := (by omega); rfl) | (obtain rfl : c = 114 := (by omega); rfl) | (obtain rfl : c = 115 := (by omega); rfl) | (obtain rfl : c = 120 := (by omega); rfl) | (obtain rfl : c = 97 := (by omega); rfl) | (obtain rfl : c = 98 := (by omega); rfl) | (rw [if_neg (by omega), if_neg (by omega), if_neg (by omega), if_neg (by omega), if_neg (by omega), if_neg (by omega), if_neg (by omega), if_neg (by omega), if_neg (by omega), if_neg (by omega)] <;> rfl)
        · have gh3_7 := (of_decide_eq_false h3_7)
          refine WF.seq ?_
          refine WF.region ?_
          refine WL.va rfl rfl rfl (X.eql rfl rfl) ?_
          refine WL.va rfl rfl rfl (X.assignB rfl) ?_
          refine WL.nil ?_
          refine thn_n ?_
          refine WF.cond rfl (fun h4_9 => ?_) (fun h4_9 => ?_)
          · have gh4_9 := (of_decide_eq_true h4_9)
            refine WF.seq ?_
            refine WF.region ?_
            refine WL.va rfl rfl rfl (X.move rfl) ?_
            refine WL.va rfl rfl rfl (X.nilCheck rfl) ?_
            refine WL.va rfl rfl rfl (X.fieldAddrO (off := 7) rfl Try.underlying25 rfl rfl Try.sizeOf3) ?_
            refine WL.va rfl rfl rfl (X.assign rfl) ?_
            refine WL.nil ?_
            refine thn_n ?_
            refine WF.ret ?_
            refine blk_r ?_
            refine thn_r ?_
            refine fin_r ?_
            refine ⟨?_, (Ext.refl _)⟩
            unfold nOff
            first | (obtain rfl : c = 103 := (by omega); rfl) | (obtain rfl : c = 116 := (by omega); rfl) | (obtain rfl : c = 105 := (by omega); rfl) | (obtain rfl : c = 112 := (by omega); rfl) | (obtain rfl : c = 99 := (by omega); rfl) | (obtain rfl : c = 114 := (by omega); rfl) | (obtain rfl : c = 115 := (by omega); rfl) | (obtain rfl : c = 120 := (by omega); rfl) | (obtain rfl : c = 97 := (by omega); rfl) | (obtain rfl : c = 98 := (by omega); rfl) | (rw [if_neg (by omega), if_neg (by omega), if_neg (by omega), if_neg (by omega), if_neg (by omega), if_neg (by omega), if_neg (by omega), if_neg (by omega), if_neg (by omega), if_neg (by omega)] <;> rfl)
          · have gh4_9 := (of_decide_eq_false h4_9)
            refine WF.seq ?_
            refine WF.region ?_
            refine WL.va rfl rfl rfl (X.eql rfl rfl) ?_
            refine WL.va rfl rfl rfl (X.assignB rfl) ?_
            refine WL.nil ?_
            refine thn_n ?_
            refine WF.cond rfl (fun h5_11 => ?_) (fun h5_11 => ?_)
            · have gh5_11 := (of_decide_eq_true h5_11)
              refine WF.seq ?_
              refine WF.region ?_
              refine WL.va rfl rfl rfl (X.move rfl) ?_
              refine WL.va rfl rfl rfl (X.nilCheck rfl) ?_
              refine WL.va rfl rfl rfl (X.fieldAddrO (off := 8) rfl Try.underlying25 rfl rfl Try.sizeOf3) ?_
              refine WL.va rfl rfl rfl (X.assign rfl) ?_
              refine WL.nil ?_
              refine thn_n ?_
              refine WF.ret ?_
              refine blk_r ?_
              refine thn_r ?_
              refine fin_r ?_
              refine ⟨?_, (Ext.refl _)⟩
              unfold nOff
              first | (obtain rfl : c = 103 := (by omega); rfl) | (obtain rfl : c = 116 := (by omega); rfl) | (obtain rfl : c = 105 := (by omega); rfl) | (obtain rfl : c = 112 := (by omega); rfl) | (obtain rfl : c = 99 := (by omega); rfl) | (obtain rfl : c = 114 := (by omega); rfl) | (obtain rfl : c = 115 := (by omega); rfl) | (obtain rfl : c = 120 := (by omega); rfl) | (obtain rfl : c = 97 := (by omega); rfl) | (obtain rfl : c = 98 := (by omega); rfl) | (rw [if_neg (by omega), if_neg (by omega), if_neg (by omega), if_neg (by omega), if_neg (by omega), if_neg (by omega), if_neg (by omega), if_neg (by omega), if_neg (by omega), if_neg (by omega)] <;> rfl)
            · have gh5_11 := (of_decide_eq_false h5_11)
              refine WF.seq ?_
              refine WF.region ?_
              refine WL.va rfl rfl rfl (X.eql rfl rfl) ?_
              refine WL.va rfl rfl rfl (X.assignB rfl) ?_
              refine WL.nil ?_
              refine thn_n ?_
              refine WF.cond rfl (fun h6_13 => ?_) (fun h6_13 => ?_)
              · have gh6_13 := (of_decide_eq_true h6_13)
                refine WF.seq ?_
                refine WF.region ?_
                refine WL.va rfl rfl rfl (X.move rfl) ?_
                refine WL.va rfl rfl rfl (X.nilCheck rfl) ?_
                refine WL.va rfl rfl rfl (X.fieldAddrO (off := 13) rfl Try.underlying25 rfl rfl Try.sizeOf3) ?_
                refine WL.va rfl rfl rfl (X.assign rfl) ?_
                refine WL.nil ?_
                refine thn_n ?_
                refine WF.ret ?_
                refine blk_r ?_
                refine thn_r ?_
                refine fin_r ?_
                refine ⟨?_, (Ext.refl _)⟩
                unfold nOff
                first | (obtain rfl : c = 103 := (by omega); rfl) | (obtain rfl : c = 116 := (by omega); rfl) | (obtain rfl : c = 105 := (by omega); rfl) | (obtain rfl : c = 112 := (by omega); rfl) | (obtain rfl : c = 99 := (by omega); rfl) | (obtain rfl : c = 114 := (by omega); rfl) | (obtain rfl : c = 115 := (by omega); rfl) | (obtain rfl : c = 120 := (by omega); rfl) | (obtain rfl : c = 97 := (by omega); rfl) | (obtain rfl : c = 98 := (by omega); rfl) | (rw [if_neg (by omega), if_neg (by omega), if_neg (by omega), if_neg (by omega), if_neg (by omega), if_neg (by omega), if_neg (by omega), if_neg (by omega), if_neg (by omega), if_neg (by omega)] <;> rfl)
              · have gh6_13 := (of_decide_eq_false h6_13)
                refine WF.seq ?_
                refine WF.region ?_
                refine WL.va rfl rfl rfl (X.eql rfl rfl) ?_
                refine WL.va rfl rfl rfl (X.assignB rfl) ?_
                refine WL.nil ?_
                refine thn_n ?_
                refine WF.cond rfl (fun h7_15 => ?_) (fun h7_15 => ?_)
                · have gh7_15 := (of_decide_eq_true h7_15)
                  refine WF.seq ?_
                  refine WF.region ?_
                  refine WL.va rfl rfl rfl (X.move rfl) ?_
                  refine WL.va rfl rfl rfl (X.nilCheck rfl) ?_
                  refine WL.va rfl rfl rfl (X.fieldAddrO (off := 9) rfl Try.underlying25 rfl rfl Try.sizeOf3) ?_
                  refine WL.va rfl rfl rfl (X.assign rfl) ?_
                  refine WL.nil ?_
                  refine thn_n ?_
                  refine WF.ret ?_
                  refine blk_r ?_
                  refine thn_r ?_
                  refine fin_r ?_
                  refine ⟨?_, (Ext.refl _)⟩
                  unfold nOff
                  first | (obtain rfl : c = 103 := (by omega); rfl) | (obtain rfl : c = 116 := (by omega); rfl) | (obtain rfl : c = 105 := (by omega); rfl) | (obtain rfl : c = 112 := (by omega); rfl) | (obtain rfl : c = 99 := (by omega); rfl) | (obtain rfl : c = 114 := (by omega); rfl) | (obtain rfl : c = 115 := (by omega); rfl) | (obtain rfl : c = 120 := (by omega); rfl) | (obtain rfl : c = 97 := (by omega); rfl) | (obtain rfl : c = 98 := (by omega); rfl) | (rw [if_neg (by omega), if_neg (by omega), if_neg (by omega), if_neg (by omega), if_neg (by omega), if_neg (by omega), if_neg (by omega), if_neg (by omega), if_neg (by omega), if_neg (by omega)] <;> rfl)
                · have gh7_15 := (of_decide_eq_false h7_15)
                  refine WF.seq ?_
                  refine WF.region ?_
                  refine WL.va rfl rfl rfl (X.eql rfl rfl) ?_
                  refine WL.va rfl rfl rfl (X.assignB rfl) ?_
                  refine WL.nil ?_
                  refine thn_n ?_
                  refine WF.cond rfl (fun h8_17 => ?_) (fun h8_17 => ?_)
                  · have gh8_17 := (of_decide_eq_true h8_17)
                    refine WF.seq ?_
                    refine WF.region ?_
                    refine WL.va rfl rfl rfl (X.move rfl) ?_
                    refine WL.va rfl rfl rfl (X.nilCheck rfl) ?_
                    refine WL.va rfl rfl rfl (X.fieldAddrO (off := 10) rfl Try.underlying25 rfl rfl Try.sizeOf3) ?_
                    refine WL.va rfl rfl rfl (X.assign rfl) ?_
                    refine WL.nil ?_
                    refine thn_n ?_
                    refine WF.ret ?_
                    refine blk_r ?_
                    refine thn_r ?_
                    refine fin_r ?_
                    refine ⟨?_, (Ext.refl _)⟩
                    unfold nOff
                    first | (obtain rfl : c = 103 := (by omega); rfl) | (obtain rfl : c = 116 := (by omega); rfl) | (obtain rfl : c = 105 := (by omega); rfl) | (obtain rfl : c = 112 := (by omega); rfl) | (obtain rfl : c = 99 := (by omega); rfl) | (obtain rfl : c = 114 := (by omega); rfl) | (obtain rfl : c = 115 := (by omega); rfl) | (obtain rfl : c = 120 := (by omega); rfl) | (obtain rfl : c = 97 := (by omega); rfl) | (obtain rfl : c = 98 := (by omega); rfl) | (rw [if_neg (by omega), if_neg (by omega), if_neg (by omega), if_neg (by omega), if_neg (by omega), if_neg (by omega), if_neg (by omega), if_neg (by omega), if_neg (by omega), if_neg (by omega)] <;> rfl)
                  · have gh8_17 := (of_decide_eq_false h8_17)
                    refine WF.seq ?_
                    refine WF.region ?_
                    refine WL.va rfl rfl rfl (X.eql rfl rfl) ?_
                    refine WL.va rfl rfl rfl (X.assignB rfl) ?_
                    refine WL.nil ?_
                    refine thn_n ?_
                    refine WF.cond rfl (fun h9_19 => ?_) (fun h9_19 => ?_)
                    · have gh9_19 := (of_decide_eq_true h9_19)
                      refine WF.seq ?_
                      refine WF.region ?_
                      refine WL.va rfl rfl rfl (X.move rfl) ?_
                      refine WL.va rfl rfl rfl (X.nilCheck rfl) ?_
                      refine WL.va rfl rfl rfl (X.fieldAddrO (off := 11) rfl Try.underlying25 rfl rfl Try.sizeOf3) ?_
                      refine WL.va rfl rfl rfl (X.assign rfl) ?_
                      refine WL.nil ?_
                      refine thn_n ?_
                      refine WF.ret ?_
                      refine blk_r ?_
                      refine thn_r ?_
                      refine fin_r ?_
                      refine ⟨?_, (Ext.refl _)⟩
                      unfold nOff
                      first | (obtain rfl : c = 103 := (by omega); rfl) | (obtain rfl : c = 116 := (by omega); rfl) | (obtain rfl : c = 105 := (by omega); rfl) | (obtain rfl : c = 112 := (by omega); rfl) | (obtain rfl : c = 99 := (by omega); rfl) | (obtain rfl : c = 114 := (by omega); rfl) | (obtain rfl : c = 115 := (by omega); rfl) | (obtain rfl : c = 120 := (by omega); rfl) | (obtain rfl : c = 97 := (by omega); rfl) | (obtain rfl : c = 98 := (by omega); rfl) | (rw [if_neg (by omega), if_neg (by omega), if_neg (by omega), if_neg (by omega), if_neg (by omega), if_neg (by omega), if_neg (by omega), if_neg (by omega), if_neg (by omega), if_neg (by omega)] <;> rfl)
                    · have gh9_19 := (of_decide_eq_false h9_19)
                      refine WF.skip ?_
                      refine blk_n ?_
                      refine thn_n ?_
                      refine WF.seq ?_
                      refine WF.region ?_
                      refine WL.va rfl rfl rfl (X.move rfl) ?_
                      refine WL.va rfl rfl rfl (X.nilCheck rfl) ?_
                      refine WL.va rfl rfl rfl (X.fieldAddrO (off := 12) rfl Try.underlying25 rfl rfl Try.sizeOf3) ?_
                      refine WL.va rfl rfl rfl (X.assign rfl) ?_
                      refine WL.nil ?_
                      refine thn_n ?_
                      refine WF.ret ?_
                      refine fin_r ?_
                      refine ⟨?_, (Ext.refl _)⟩
                      unfold nOff
                      first | (obtain rfl : c = 103 := (by omega); rfl) | (obtain rfl : c = 116 := (by omega); rfl) | (obtain rfl : c = 105 := (by omega); rfl) | (obtain rfl : c = 112 := (by omega); rfl) | (obtain rfl : c = 99 := (by omega); rfl) | (obtain rfl : c = 114 := (by omega); rfl) | (obtain rfl : c = 115 := (by omega); rfl) | (obtain rfl : c = 120 := (by omega); rfl) | (obtain rfl : c = 97 := (by omega); rfl) | (obtain rfl : c = 98 := (by omega); rfl) | (rw [if_neg (by omega), if_neg (by omega), if_neg (by omega), if_neg (by omega), if_neg (by omega), if_neg (by omega), if_neg (by omega), if_neg (by omega), if_neg (by omega), if_neg (by omega)] <;> rfl)

end Go.Proofs.Ytccbpfbcaogcnaa
