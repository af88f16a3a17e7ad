/- The walks over lists of things. -/
import Derived.Test.YtlcgjeebgjiebaaPackT
import Derived.Test.YtlcgjeebgjiebaaThg
namespace Go.Proofs.Ytlcgjeebgjiebaa
open Go Go.RowKit Kf

theorem small_snoc {l : List Thing} {k : Nat} (hk : k < l.length) (h : ∀ t ∈ l.take k, t.p.length ≤ 1024 ∧ t.l.length ≤ 1024) (h1 : l[k].p.length ≤ 1024) (h2 : l[k].l.length ≤ 1024) : ∀ t ∈ l.take (k + 1), t.p.length ≤ 1024 ∧ t.l.length ≤ 1024 := by
  intro t ht
  rw [List.take_succ_eq_append_getElem hk, List.mem_append, List.mem_singleton] at ht
  rcases ht with ht | rfl
  · exact h t ht
  · exact ⟨h1, h2⟩
theorem bad_at {l : List Thing} {k : Nat} (hk : k < l.length) (h : 1024 < l[k].p.length ∨ 1024 < l[k].l.length) : ¬ Pk.laidOk l := fun e => by
  have := e.2 l[k] (List.getElem_mem hk); omega
theorem encT1 {t : Thing} (h : t.kind = 1) : Pk.encT t = Pk.blob t.p := if_pos h
theorem encT2 {t : Thing} (h : ¬ t.kind = 1) (h2 : t.kind = 2) : Pk.encT t = Pk.ints t.l := by unfold Pk.encT; rw [if_neg h, if_pos h2]
theorem encT3 {t : Thing} (h : ¬ t.kind = 1) (h2 : ¬ t.kind = 2) : Pk.encT t = Pk.enc t.v := by unfold Pk.encT; rw [if_neg h, if_neg h2]
theorem laid_ok (x : Value) (l : List Thing) (w : World) (hT0 : Things w x l) : FnOk Try.prog 30 [x] w (fun r w' => (∃ vb, r = .tuple #[vb, .bool (decide (Pk.laidOk l))] ∧ OwnB w' w.heap.size 5 vb (Pk.laidB l)) ∧ Ext w w') := by
  obtain ⟨cs, hr, hT⟩ := hT0
  have hlm : (l.length : Int) ≤ 9223372036854775807 := by obtain ⟨_, c, _, h1, h2, _⟩ := hr.shape; unfold maxLen at h2; omega
  refine FnOk.enter (rs := [2, 3]) Try.func30 rfl Try.ntmps30 Try.results30 rfl rfl ?_
  refine WF.seq ?_
  refine WF.region ?_
  refine WL.va rfl rfl rfl (X.assign rfl) ?_
  refine WL.va rfl rfl rfl (X.assignB rfl) ?_
  refine WL.nil ?_
  refine thn_n ?_
  refine WF.seq ?_
  refine WF.seq ?_
  refine WF.region ?_
  refine WL.va rfl rfl rfl (X.move rfl) ?_
  refine WL.va rfl rfl rfl (X.len hr rfl Try.underlying45) ?_
  refine WL.va rfl rfl rfl (X.gtr rfl rfl) ?_
  refine WL.nil ?_
  refine thn_n ?_
  refine WF.cond rfl (fun h0_2 => ?_) (fun h0_2 => ?_)
  · have gh0_2 := (of_decide_eq_true h0_2)
    refine WF.seq ?_
    refine WF.region ?_
    refine WL.va rfl rfl rfl (X.assign rfl) ?_
    refine WL.va rfl rfl rfl (X.assignB rfl) ?_
    refine WL.nil ?_
    refine thn_n ?_
    refine WF.ret ?_
    refine thn_r ?_
    refine fin_r ?_
    have e : ¬ Pk.laidOk l := fun e => by have := e.1; omega
    unfold Pk.laidB; rw [decide_eq_false e, if_neg e]; exact ⟨⟨_, rfl, OwnB.nil _ _ _⟩, (Ext.refl _)⟩
  · have gh0_2 := (of_decide_eq_false h0_2)
    refine WF.skip ?_
    refine thn_n ?_
    refine WF.seq ?_
    refine WF.region ?_
    refine WL.va rfl rfl rfl (X.assign rfl) ?_
    refine WL.nil ?_
    refine thn_n ?_
    refine WF.seq ?_
    refine WF.seq ?_
    refine WF.region ?_
    refine WL.va rfl rfl rfl (X.assignI rfl) ?_
    refine WL.nil ?_
    refine thn_n ?_
    refine WF.block ?_
    refine WF.named (fun F5 hF6 => ?_)
    refine WF.loopN (fun mL0 f' w' => ∃ (k : Nat) (vb : Value), mL0 = l.length - k ∧ f' 5 = .int .i64 (k : Int) ∧ f' 4 = vb ∧ Agree [0, 6, 7, 8] f' F5 ∧ Ext w w' ∧ k ≤ l.length ∧ (∀ t ∈ l.take k, t.p.length ≤ 1024 ∧ t.l.length ≤ 1024) ∧ OwnB w' w.heap.size 5 vb (Pk.encAll (l.take k))) ?_ ?_
    · exact ⟨_, 0, (.slice none 0 0), rfl, (congrFun hF6 5), (congrFun hF6 4), (Agree.refl _ _), (Ext.refl _), ⟨Nat.zero_le _, (fun t ht => by simp at ht), OwnB.nil _ _ _⟩⟩
    · rintro mL0 fL0 wL0 ⟨k, vb, hmL0, e5_L0, e4_L0, hAL0, hwL0, ⟨hk, hs, ho⟩⟩
      refine WF.seq ?_
      refine WF.seq ?_
      refine WF.region ?_
      refine WL.va rfl rfl rfl (X.moveI e5_L0) ?_
      refine WL.va rfl rfl rfl (X.move ((hAL0.eq 0).trans (congrFun hF6 0))) ?_
      refine WL.va rfl rfl rfl (X.len hr rfl Try.underlying45) ?_
      refine WL.va rfl rfl rfl (X.lss rfl rfl) ?_
      refine WL.nil ?_
      refine thn_n ?_
      refine WF.cond rfl (fun h1_7 => ?_) (fun h1_7 => ?_)
      · have gh1_7 := (of_decide_eq_true h1_7)
        have hkl : k < l.length := by omega
        obtain ⟨vp, vl, u0, u1, u2, u3, hvp, hvl, hv64, hi64⟩ := hT k hkl
        have hb := Bytes.of_own ho
        refine WF.skip ?_
        refine thn_n ?_
        refine WF.seq ?_
        refine WF.block ?_
        refine WF.seq ?_
        refine WF.seq ?_
        refine WF.region ?_
        refine WL.va rfl rfl rfl (X.move ((hAL0.eq 0).trans (congrFun hF6 0))) ?_
        refine WL.va rfl rfl rfl (X.moveI e5_L0) ?_
        refine WL.va rfl rfl rfl (X.idx hr rfl rfl (by omega) Try.underlying45 Try.sizeOf55) ?_
        refine WL.va rfl rfl rfl (X.fieldAddrA rfl Try.underlying55 rfl rfl Try.sizeOf22) ?_
        refine WL.va rfl rfl rfl (X.loadE hr hwL0 rfl (by omega) u2 Try.isAgg22) ?_
        refine WL.va rfl rfl rfl (X.len hvp rfl Try.underlying22) ?_
        refine WL.va rfl rfl rfl (X.gtr rfl rfl) ?_
        refine WL.va rfl rfl rfl (X.moveB rfl) ?_
        refine WL.split (j := 7) rfl (fun h10 => ?_) (fun h10 => ?_)
        · have gh10 := (of_decide_eq_true h10)
          refine WL.p rfl rfl rfl (congrArg some h10) ?_
          refine WL.p rfl rfl rfl (congrArg some h10) ?_
          refine WL.p rfl rfl rfl (congrArg some h10) ?_
          refine WL.p rfl rfl rfl (congrArg some h10) ?_
          refine WL.p rfl rfl rfl (congrArg some h10) ?_
          refine WL.p rfl rfl rfl (congrArg some h10) ?_
          refine WL.p rfl rfl rfl (congrArg some h10) ?_
          refine WL.va rfl rfl rfl (X.pickT rfl h10 rfl) ?_
          refine WL.nil ?_
          refine thn_n ?_
          refine WF.cond_t rfl ?_
          refine WF.seq ?_
          refine WF.region ?_
          refine WL.va rfl rfl rfl (X.assign rfl) ?_
          refine WL.va rfl rfl rfl (X.assignB rfl) ?_
          refine WL.nil ?_
          refine thn_n ?_
          refine WF.ret ?_
          refine thn_r ?_
          refine blk_r ?_
          refine thn_r ?_
          refine thn_r ?_
          refine blk_r ?_
          refine thn_r ?_
          refine fin_r ?_
          have e : ¬ Pk.laidOk l := bad_at hkl (by omega)
          unfold Pk.laidB; rw [decide_eq_false e, if_neg e]; exact ⟨⟨_, rfl, OwnB.nil _ _ _⟩, hwL0⟩
        · have gh10 := (of_decide_eq_false h10)
          refine WL.vg rfl (congrArg some h10) rfl rfl (X.move ((hAL0.eq 0).trans (congrFun hF6 0))) ?_
          refine WL.vg rfl (congrArg some h10) rfl rfl (X.moveI e5_L0) ?_
          refine WL.vg rfl (congrArg some h10) rfl rfl (X.idx hr rfl rfl (by omega) Try.underlying45 Try.sizeOf55) ?_
          refine WL.vg rfl (congrArg some h10) rfl rfl (X.fieldAddrA rfl Try.underlying55 rfl rfl Try.sizeOf23) ?_
          refine WL.vg rfl (congrArg some h10) rfl rfl (X.loadE hr hwL0 rfl (by omega) u3 Try.isAgg23) ?_
          refine WL.vg rfl (congrArg some h10) rfl rfl (X.len hvl rfl Try.underlying23) ?_
          refine WL.vg rfl (congrArg some h10) rfl rfl (X.gtr rfl rfl) ?_
          refine WL.va rfl rfl rfl (X.pickF rfl h10 rfl) ?_
          refine WL.nil ?_
          refine thn_n ?_
          refine WF.cond rfl (fun h2_13 => ?_) (fun h2_13 => ?_)
          · have gh2_13 := (of_decide_eq_true h2_13)
            refine WF.seq ?_
            refine WF.region ?_
            refine WL.va rfl rfl rfl (X.assign rfl) ?_
            refine WL.va rfl rfl rfl (X.assignB rfl) ?_
            refine WL.nil ?_
            refine thn_n ?_
            refine WF.ret ?_
            refine thn_r ?_
            refine blk_r ?_
            refine thn_r ?_
            refine thn_r ?_
            refine blk_r ?_
            refine thn_r ?_
            refine fin_r ?_
            have e : ¬ Pk.laidOk l := bad_at hkl (by omega)
            unfold Pk.laidB; rw [decide_eq_false e, if_neg e]; exact ⟨⟨_, rfl, OwnB.nil _ _ _⟩, hwL0⟩
          · have gh2_13 := (of_decide_eq_false h2_13)
            refine WF.skip ?_
            refine thn_n ?_
            refine WF.seq ?_
            refine WF.region ?_
            refine WL.va rfl rfl rfl (X.move ((hAL0.eq 0).trans (congrFun hF6 0))) ?_
            have hs2 := small_snoc hkl hs (by omega) (by omega)
            have hlen := Pk.encAll_len hs
            have htl : (l.take k).length ≤ 60 := by simp; omega
            refine WL.va rfl rfl rfl (X.moveI e5_L0) ?_
            refine WL.va rfl rfl rfl (X.idx hr rfl rfl (by omega) Try.underlying45 Try.sizeOf55) ?_
            refine WL.va rfl rfl rfl (X.fieldAddrA rfl Try.underlying55 rfl rfl Try.sizeOf3) ?_
            refine WL.va rfl rfl rfl (X.loadE hr hwL0 rfl (by omega) u0 Try.isAgg3) ?_
            refine WL.nil ?_
            refine thn_n ?_
            refine WF.block ?_
            refine WF.seq ?_
            refine WF.region ?_
            refine WL.va rfl rfl rfl (X.eql rfl rfl) ?_
            refine WL.va rfl rfl rfl (X.assignB rfl) ?_
            refine WL.nil ?_
            refine thn_n ?_
            refine WF.cond rfl (fun h3_16 => ?_) (fun h3_16 => ?_)
            · have gh3_16 := (of_decide_eq_true h3_16)
              have hen := encT1 gh3_16
              refine WF.region ?_
              refine WL.va rfl rfl rfl (X.move e4_L0) ?_
              refine WL.va rfl rfl rfl (X.move ((hAL0.eq 0).trans (congrFun hF6 0))) ?_
              refine WL.va rfl rfl rfl (X.moveI e5_L0) ?_
              refine WL.va rfl rfl rfl (X.idx hr rfl rfl (by omega) Try.underlying45 Try.sizeOf55) ?_
              refine WL.va rfl rfl rfl (X.fieldAddrA rfl Try.underlying55 rfl rfl Try.sizeOf22) ?_
              refine WL.va rfl rfl rfl (X.loadE hr hwL0 rfl (by omega) u2 Try.isAgg22) ?_
              refine WL.c rfl rfl rfl (X.call Try.call13 (evl_cons rfl (evl_cons rfl evl_nil))) (blob_ok _ _ _ _ _ hb (Row.ext hvp hwL0) (by omega)) ?_
              rintro v19 w18 ⟨o2, hx20⟩
              have o2 := own_mono o2 hwL0.size
              refine WL.va rfl rfl rfl (X.assign rfl) ?_
              refine WL.nil ?_
              refine blk_n ?_
              refine blk_n ?_
              refine thn_n ?_
              refine WF.region ?_
              refine WL.va rfl rfl rfl (X.moveI e5_L0) ?_
              refine WL.va rfl rfl rfl (X.add rfl rfl (w64 (by omega))) ?_
              refine WL.va rfl rfl rfl (X.assignI rfl) ?_
              refine WL.nil ?_
              exact thn_n ⟨_, (by omega), k + 1, _, rfl, rfl, rfl, (by repeat (first | exact hAL0 | refine Agree.put ?_ rfl | refine Agree.named hF6 ?_)), (Ext.trans hwL0 hx20), ⟨by omega, hs2, by rw [Pk.encAll_take hkl, hen]; exact o2⟩⟩
            · have gh3_16 := (of_decide_eq_false h3_16)
              have hk1 := gh3_16
              refine WF.seq ?_
              refine WF.region ?_
              refine WL.va rfl rfl rfl (X.eql rfl rfl) ?_
              refine WL.va rfl rfl rfl (X.assignB rfl) ?_
              refine WL.nil ?_
              refine thn_n ?_
              refine WF.cond rfl (fun h4_21 => ?_) (fun h4_21 => ?_)
              · have gh4_21 := (of_decide_eq_true h4_21)
                have hen := encT2 hk1 gh4_21
                refine WF.region ?_
                refine WL.va rfl rfl rfl (X.move e4_L0) ?_
                refine WL.va rfl rfl rfl (X.move ((hAL0.eq 0).trans (congrFun hF6 0))) ?_
                refine WL.va rfl rfl rfl (X.moveI e5_L0) ?_
                refine WL.va rfl rfl rfl (X.idx hr rfl rfl (by omega) Try.underlying45 Try.sizeOf55) ?_
                refine WL.va rfl rfl rfl (X.fieldAddrA rfl Try.underlying55 rfl rfl Try.sizeOf23) ?_
                refine WL.va rfl rfl rfl (X.loadE hr hwL0 rfl (by omega) u3 Try.isAgg23) ?_
                refine WL.c rfl rfl rfl (X.call Try.call14 (evl_cons rfl (evl_cons rfl evl_nil))) (ints_ok _ _ _ _ _ hb (Row.ext hvl hwL0) (by omega)) ?_
                rintro v24 w23 ⟨o2, hx25⟩
                have o2 := own_mono o2 hwL0.size
                refine WL.va rfl rfl rfl (X.assign rfl) ?_
                refine WL.nil ?_
                refine blk_n ?_
                refine blk_n ?_
                refine thn_n ?_
                refine WF.region ?_
                refine WL.va rfl rfl rfl (X.moveI e5_L0) ?_
                refine WL.va rfl rfl rfl (X.add rfl rfl (w64 (by omega))) ?_
                refine WL.va rfl rfl rfl (X.assignI rfl) ?_
                refine WL.nil ?_
                exact thn_n ⟨_, (by omega), k + 1, _, rfl, rfl, rfl, (by repeat (first | exact hAL0 | refine Agree.put ?_ rfl | refine Agree.named hF6 ?_)), (Ext.trans hwL0 hx25), ⟨by omega, hs2, by rw [Pk.encAll_take hkl, hen]; exact o2⟩⟩
              · have gh4_21 := (of_decide_eq_false h4_21)
                have hen := encT3 hk1 gh4_21
                refine WF.region ?_
                refine WL.va rfl rfl rfl (X.move e4_L0) ?_
                refine WL.va rfl rfl rfl (X.move ((hAL0.eq 0).trans (congrFun hF6 0))) ?_
                refine WL.va rfl rfl rfl (X.moveI e5_L0) ?_
                refine WL.va rfl rfl rfl (X.idx hr rfl rfl (by omega) Try.underlying45 Try.sizeOf55) ?_
                refine WL.va rfl rfl rfl (X.fieldAddrA rfl Try.underlying55 rfl rfl Try.sizeOf3) ?_
                refine WL.va rfl rfl rfl (X.loadE hr hwL0 rfl (by omega) u1 Try.isAgg3) ?_
                refine WL.c rfl rfl rfl (X.call Try.call12 (evl_cons rfl (evl_cons rfl evl_nil))) (int_ok _ _ _ _ hb (by omega)) ?_
                rintro v27 w26 ⟨o2, hx28⟩
                have o2 := own_mono o2 hwL0.size
                refine WL.va rfl rfl rfl (X.assign rfl) ?_
                refine WL.nil ?_
                refine blk_n ?_
                refine blk_n ?_
                refine thn_n ?_
                refine WF.region ?_
                refine WL.va rfl rfl rfl (X.moveI e5_L0) ?_
                refine WL.va rfl rfl rfl (X.add rfl rfl (w64 (by omega))) ?_
                refine WL.va rfl rfl rfl (X.assignI rfl) ?_
                refine WL.nil ?_
                exact thn_n ⟨_, (by omega), k + 1, _, rfl, rfl, rfl, (by repeat (first | exact hAL0 | refine Agree.put ?_ rfl | refine Agree.named hF6 ?_)), (Ext.trans hwL0 hx28), ⟨by omega, hs2, by rw [Pk.encAll_take hkl, hen]; exact o2⟩⟩
      · have gh1_7 := (of_decide_eq_false h1_7)
        refine WF.exit ?_
        refine thn_x ?_
        refine thn_x ?_
        refine blk_eq ?_
        refine thn_n ?_
        refine WF.seq ?_
        refine WF.region ?_
        refine WL.va rfl rfl rfl (X.move e4_L0) ?_
        refine WL.va rfl rfl rfl (X.assign rfl) ?_
        refine WL.va rfl rfl rfl (X.assignB rfl) ?_
        refine WL.nil ?_
        refine thn_n ?_
        refine WF.ret ?_
        refine fin_r ?_
        rw [List.take_of_length_le (show l.length ≤ k by omega)] at ho hs
        have e : Pk.laidOk l := ⟨by omega, hs⟩
        unfold Pk.laidB; rw [decide_eq_true e, if_pos e]; exact ⟨⟨_, rfl, ho⟩, hwL0⟩

/-- one thing read: is it this one? -/
def stepT (s : Pk.RS) (t : Thing) : Bool × Pk.RS :=
  if t.kind = 1 then (decide (s.blob.1 = t.p), s.blob.2) else if t.kind = 2 then (decide (s.ints.1 = t.l), s.ints.2) else (decide (s.int.1 = t.v), s.int.2)
def readAll (s : Pk.RS) : List Thing → Bool × Pk.RS
  | [] => (true, s)
  | t :: l => if (stepT s t).1 = true then readAll (stepT s t).2 l else (false, (stepT s t).2)
theorem readAll_drop {s : Pk.RS} {l : List Thing} {k : Nat} (hk : k < l.length) : readAll s (l.drop k) = if (stepT s l[k]).1 = true then readAll (stepT s l[k]).2 (l.drop (k + 1)) else (false, (stepT s l[k]).2) := by
  rw [List.drop_eq_getElem_cons hk]; rfl
theorem stepT1 {s : Pk.RS} {t : Thing} (h : t.kind = 1) : stepT s t = (decide (s.blob.1 = t.p), s.blob.2) := if_pos h
theorem stepT2 {s : Pk.RS} {t : Thing} (h : ¬ t.kind = 1) (h2 : t.kind = 2) : stepT s t = (decide (s.ints.1 = t.l), s.ints.2) := by unfold stepT; rw [if_neg h, if_pos h2]
theorem stepT3 {s : Pk.RS} {t : Thing} (h : ¬ t.kind = 1) (h2 : ¬ t.kind = 2) : stepT s t = (decide (s.int.1 = t.v), s.int.2) := by unfold stepT; rw [if_neg h, if_neg h2]
theorem readT_ok (r D left x : Value) (L : List UInt8) (a : Nat) (s0 : Pk.RS) (l : List Thing) (w0 w : World) (B : Nat) (h0 : PR w B r D L a s0 left) (hT0 : Things w0 x l) (hx0 : Ext w0 w) (hB : w0.heap.size ≤ B) : FnOk Try.prog 32 [r, x] w (fun v w' => v = .bool (readAll s0 l).1 ∧ (∃ a' left', PR w' B r D L a' (readAll s0 l).2 left') ∧ Ext w0 w') := by
  obtain ⟨cs, hr, hT⟩ := hT0
  have hlm : (l.length : Int) ≤ 9223372036854775807 := by obtain ⟨_, c, _, h1, h2, _⟩ := hr.shape; unfold maxLen at h2; omega
  refine FnOk.enter (rs := [4]) Try.func32 rfl Try.ntmps32 Try.results32 rfl rfl ?_
  refine WF.seq ?_
  refine WF.region ?_
  refine WL.va rfl rfl rfl (X.assignB rfl) ?_
  refine WL.nil ?_
  refine thn_n ?_
  refine WF.seq ?_
  refine WF.seq ?_
  refine WF.region ?_
  refine WL.va rfl rfl rfl (X.assignI rfl) ?_
  refine WL.nil ?_
  refine thn_n ?_
  refine WF.block ?_
  refine WF.named (fun F2 hF3 => ?_)
  refine WF.loopN (fun mL0 f' w' => ∃ (k : Nat) (a1 : Nat) (left1 : Value) (s : Pk.RS), mL0 = l.length - k ∧ f' 5 = .int .i64 (k : Int) ∧ Agree [0, 1] f' F2 ∧ Ext w0 w' ∧ k ≤ l.length ∧ PR w' B r D L a1 s left1 ∧ readAll s0 l = readAll s (l.drop k)) ?_ ?_
  · exact ⟨_, 0, _, _, _, rfl, (congrFun hF3 5), (Agree.refl _ _), hx0, ⟨Nat.zero_le _, h0, rfl⟩⟩
  · rintro mL0 fL0 wL0 ⟨k, a1, left1, s, hmL0, e5_L0, hAL0, hwL0, ⟨hk, h, he⟩⟩
    refine WF.seq ?_
    refine WF.seq ?_
    refine WF.region ?_
    refine WL.va rfl rfl rfl (X.moveI e5_L0) ?_
    refine WL.va rfl rfl rfl (X.move ((hAL0.eq 1).trans (congrFun hF3 1))) ?_
    refine WL.va rfl rfl rfl (X.len hr rfl Try.underlying45) ?_
    refine WL.va rfl rfl rfl (X.lss rfl rfl) ?_
    refine WL.nil ?_
    refine thn_n ?_
    refine WF.cond rfl (fun h0_4 => ?_) (fun h0_4 => ?_)
    · have gh0_4 := (of_decide_eq_true h0_4)
      have hkl : k < l.length := by omega
      obtain ⟨vp, vl, u0, u1, u2, u3, hvp, hvl, hv64, hi64⟩ := hT k hkl
      refine WF.skip ?_
      refine thn_n ?_
      refine WF.seq ?_
      refine WF.block ?_
      refine WF.seq ?_
      refine WF.region ?_
      refine WL.va rfl rfl rfl (X.assignB rfl) ?_
      refine WL.nil ?_
      refine thn_n ?_
      refine WF.seq ?_
      refine WF.seq ?_
      refine WF.region ?_
      refine WL.va rfl rfl rfl (X.move ((hAL0.eq 1).trans (congrFun hF3 1))) ?_
      refine WL.va rfl rfl rfl (X.moveI e5_L0) ?_
      refine WL.va rfl rfl rfl (X.idx hr rfl rfl (by omega) Try.underlying45 Try.sizeOf55) ?_
      refine WL.va rfl rfl rfl (X.fieldAddrA rfl Try.underlying55 rfl rfl Try.sizeOf3) ?_
      refine WL.va rfl rfl rfl (X.loadE hr hwL0 rfl (by omega) u0 Try.isAgg3) ?_
      refine WL.nil ?_
      refine thn_n ?_
      refine WF.block ?_
      refine WF.seq ?_
      refine WF.region ?_
      refine WL.va rfl rfl rfl (X.eql rfl rfl) ?_
      refine WL.va rfl rfl rfl (X.assignB rfl) ?_
      refine WL.nil ?_
      refine thn_n ?_
      refine WF.cond rfl (fun h1_7 => ?_) (fun h1_7 => ?_)
      · have gh1_7 := (of_decide_eq_true h1_7)
        have hst := stepT1 (s := s) gh1_7
        refine WF.drawn (.q 0 (.q 2 (.q 3 (.q 4 (.q 5 (.q 6 (.l 1 (.l 7 (.q 8 .nil))))))))) (fun w' => Ext w0 w') 9 (by kernel_rfl) (by kernel_rfl) (Ext.trans hwL0 (Ext.drew _)) ?_
        refine WO.q rfl rfl rfl rfl (fun w' hE9 => (X.move ((hAL0.eq 0).trans (congrFun hF3 0)))) ?_
        refine WO.q rfl rfl rfl rfl (fun w' hE9 => (X.move ((hAL0.eq 1).trans (congrFun hF3 1)))) ?_
        refine WO.q rfl rfl rfl rfl (fun w' hE9 => (X.moveI e5_L0)) ?_
        refine WO.q rfl rfl rfl rfl (fun w' hE9 => (X.idx hr rfl rfl (by omega) Try.underlying45 Try.sizeOf55)) ?_
        refine WO.q rfl rfl rfl rfl (fun w' hE9 => (X.fieldAddrA rfl Try.underlying55 rfl rfl Try.sizeOf22)) ?_
        refine WO.q rfl rfl rfl rfl (fun w' hE9 => (X.loadE hr hE9 rfl (by omega) u2 Try.isAgg22)) ?_
        refine WO.l ?_
        refine LO.go rfl rfl (OW.enter rfl (by decide) (X.call Try.call37 (evl_cons rfl evl_nil)) (rBlob_ok r _ _ _ _ _ _ _ (h.ext (Ext.drew _))) ?_)
        rintro v11 w10 ⟨⟨b1, a3, left3, _, f1, h1⟩, hx12⟩
        refine ⟨(Ext.own (Ext.trans hwL0 (Ext.drew _)) (h.ext (Ext.drew _)).var.row hB hx12), ?_⟩
        refine WO.l ?_
        refine LO.go rfl rfl (OW.enter rfl (by decide) (X.call Try.call15 (evl_cons rfl (evl_cons rfl evl_nil))) (sameBytes_ok _ _ _ _ _ f1 (Row.ext hvp (Ext.own (Ext.trans hwL0 (Ext.drew _)) (h.ext (Ext.drew _)).var.row hB hx12))) ?_)
        rintro v14 w13 ⟨rfl, hx15⟩
        refine ⟨(Ext.trans (Ext.own (Ext.trans hwL0 (Ext.drew _)) (h.ext (Ext.drew _)).var.row hB hx12) hx15), ?_⟩
        have h2 := h1.ext hx15
        refine WO.q rfl rfl rfl rfl (fun w' hE9 => (X.assignB rfl)) ?_
        refine WO.nil ?_
        refine WL.nil ?_
        refine blk_n ?_
        refine thn_n ?_
        refine WF.seq ?_
        refine WF.region ?_
        refine WL.va rfl rfl rfl (X.moveB rfl) ?_
        refine WL.va rfl rfl rfl (X.not rfl) ?_
        refine WL.nil ?_
        refine thn_n ?_
        refine WF.cond rfl (fun h3_17 => ?_) (fun h3_17 => ?_)
        · have gh3_17 := (of_decide_eq_false (nt h3_17))
          have hno := gh3_17
          refine WF.seq ?_
          refine WF.region ?_
          refine WL.va rfl rfl rfl (X.assignB rfl) ?_
          refine WL.nil ?_
          refine thn_n ?_
          refine WF.ret ?_
          refine blk_r ?_
          refine thn_r ?_
          refine thn_r ?_
          refine blk_r ?_
          refine thn_r ?_
          refine fin_r ?_
          rw [he, readAll_drop hkl, hst, if_neg (fun e => hno (of_decide_eq_true e))]; exact ⟨rfl, ⟨_, _, h2⟩, (Ext.trans (Ext.own (Ext.trans hwL0 (Ext.drew _)) (h.ext (Ext.drew _)).var.row hB hx12) hx15)⟩
        · have gh3_17 := (of_decide_eq_true (nf h3_17))
          have hdec := decide_eq_true gh3_17
          refine WF.skip ?_
          refine blk_n ?_
          refine thn_n ?_
          refine WF.region ?_
          refine WL.va rfl rfl rfl (X.moveI e5_L0) ?_
          refine WL.va rfl rfl rfl (X.add rfl rfl (w64 (by omega))) ?_
          refine WL.va rfl rfl rfl (X.assignI rfl) ?_
          refine WL.nil ?_
          exact thn_n ⟨_, (by omega), k + 1, _, _, _, rfl, rfl, (by repeat (first | exact hAL0 | refine Agree.put ?_ rfl | refine Agree.named hF3 ?_)), (Ext.trans (Ext.own (Ext.trans hwL0 (Ext.drew _)) (h.ext (Ext.drew _)).var.row hB hx12) hx15), ⟨by omega, h2, by rw [he, readAll_drop hkl, hst, if_pos hdec]⟩⟩
      · have gh1_7 := (of_decide_eq_false h1_7)
        have hk1 := gh1_7
        refine WF.seq ?_
        refine WF.region ?_
        refine WL.va rfl rfl rfl (X.eql rfl rfl) ?_
        refine WL.va rfl rfl rfl (X.assignB rfl) ?_
        refine WL.nil ?_
        refine thn_n ?_
        refine WF.cond rfl (fun h2_20 => ?_) (fun h2_20 => ?_)
        · have gh2_20 := (of_decide_eq_true h2_20)
          have hst := stepT2 (s := s) hk1 gh2_20
          refine WF.drawn (.q 0 (.q 2 (.q 3 (.q 4 (.q 5 (.q 6 (.l 1 (.l 7 (.q 8 .nil))))))))) (fun w' => Ext w0 w') 9 (by kernel_rfl) (by kernel_rfl) (Ext.trans hwL0 (Ext.drew _)) ?_
          refine WO.q rfl rfl rfl rfl (fun w' hE22 => (X.move ((hAL0.eq 0).trans (congrFun hF3 0)))) ?_
          refine WO.q rfl rfl rfl rfl (fun w' hE22 => (X.move ((hAL0.eq 1).trans (congrFun hF3 1)))) ?_
          refine WO.q rfl rfl rfl rfl (fun w' hE22 => (X.moveI e5_L0)) ?_
          refine WO.q rfl rfl rfl rfl (fun w' hE22 => (X.idx hr rfl rfl (by omega) Try.underlying45 Try.sizeOf55)) ?_
          refine WO.q rfl rfl rfl rfl (fun w' hE22 => (X.fieldAddrA rfl Try.underlying55 rfl rfl Try.sizeOf23)) ?_
          refine WO.q rfl rfl rfl rfl (fun w' hE22 => (X.loadE hr hE22 rfl (by omega) u3 Try.isAgg23)) ?_
          refine WO.l ?_
          refine LO.go rfl rfl (OW.enter rfl (by decide) (X.call Try.call44 (evl_cons rfl evl_nil)) (rInts_ok r _ _ _ _ _ _ _ (h.ext (Ext.drew _))) ?_)
          rintro v24 w23 ⟨⟨a3, left3, oi, h1⟩, hx25⟩
          refine ⟨(Ext.own (Ext.trans hwL0 (Ext.drew _)) (h.ext (Ext.drew _)).var.row hB hx25), ?_⟩
          refine WO.l ?_
          refine LO.go rfl rfl (OW.enter rfl (by decide) (X.call Try.call40 (evl_cons rfl (evl_cons rfl evl_nil))) (sameInts_ok _ _ _ _ _ (Ints.of_own oi) (Row.ext hvl (Ext.own (Ext.trans hwL0 (Ext.drew _)) (h.ext (Ext.drew _)).var.row hB hx25))) ?_)
          rintro v27 w26 ⟨rfl, hx28⟩
          refine ⟨(Ext.trans (Ext.own (Ext.trans hwL0 (Ext.drew _)) (h.ext (Ext.drew _)).var.row hB hx25) hx28), ?_⟩
          have h2 := h1.ext hx28
          refine WO.q rfl rfl rfl rfl (fun w' hE22 => (X.assignB rfl)) ?_
          refine WO.nil ?_
          refine WL.nil ?_
          refine blk_n ?_
          refine thn_n ?_
          refine WF.seq ?_
          refine WF.region ?_
          refine WL.va rfl rfl rfl (X.moveB rfl) ?_
          refine WL.va rfl rfl rfl (X.not rfl) ?_
          refine WL.nil ?_
          refine thn_n ?_
          refine WF.cond rfl (fun h3_30 => ?_) (fun h3_30 => ?_)
          · have gh3_30 := (of_decide_eq_false (nt h3_30))
            have hno := gh3_30
            refine WF.seq ?_
            refine WF.region ?_
            refine WL.va rfl rfl rfl (X.assignB rfl) ?_
            refine WL.nil ?_
            refine thn_n ?_
            refine WF.ret ?_
            refine blk_r ?_
            refine thn_r ?_
            refine thn_r ?_
            refine blk_r ?_
            refine thn_r ?_
            refine fin_r ?_
            rw [he, readAll_drop hkl, hst, if_neg (fun e => hno (of_decide_eq_true e))]; exact ⟨rfl, ⟨_, _, h2⟩, (Ext.trans (Ext.own (Ext.trans hwL0 (Ext.drew _)) (h.ext (Ext.drew _)).var.row hB hx25) hx28)⟩
          · have gh3_30 := (of_decide_eq_true (nf h3_30))
            have hdec := decide_eq_true gh3_30
            refine WF.skip ?_
            refine blk_n ?_
            refine thn_n ?_
            refine WF.region ?_
            refine WL.va rfl rfl rfl (X.moveI e5_L0) ?_
            refine WL.va rfl rfl rfl (X.add rfl rfl (w64 (by omega))) ?_
            refine WL.va rfl rfl rfl (X.assignI rfl) ?_
            refine WL.nil ?_
            exact thn_n ⟨_, (by omega), k + 1, _, _, _, rfl, rfl, (by repeat (first | exact hAL0 | refine Agree.put ?_ rfl | refine Agree.named hF3 ?_)), (Ext.trans (Ext.own (Ext.trans hwL0 (Ext.drew _)) (h.ext (Ext.drew _)).var.row hB hx25) hx28), ⟨by omega, h2, by rw [he, readAll_drop hkl, hst, if_pos hdec]⟩⟩
        · have gh2_20 := (of_decide_eq_false h2_20)
          have hst := stepT3 (s := s) hk1 gh2_20
          refine WF.drawn (.q 0 (.q 2 (.q 3 (.q 4 (.q 5 (.q 6 (.l 1 (.q 7 (.q 8 .nil))))))))) (fun w' => Ext w0 w') 9 (by kernel_rfl) (by kernel_rfl) (Ext.trans hwL0 (Ext.drew _)) ?_
          refine WO.q rfl rfl rfl rfl (fun w' hE33 => (X.move ((hAL0.eq 0).trans (congrFun hF3 0)))) ?_
          refine WO.q rfl rfl rfl rfl (fun w' hE33 => (X.move ((hAL0.eq 1).trans (congrFun hF3 1)))) ?_
          refine WO.q rfl rfl rfl rfl (fun w' hE33 => (X.moveI e5_L0)) ?_
          refine WO.q rfl rfl rfl rfl (fun w' hE33 => (X.idx hr rfl rfl (by omega) Try.underlying45 Try.sizeOf55)) ?_
          refine WO.q rfl rfl rfl rfl (fun w' hE33 => (X.fieldAddrA rfl Try.underlying55 rfl rfl Try.sizeOf3)) ?_
          refine WO.q rfl rfl rfl rfl (fun w' hE33 => (X.loadE hr hE33 rfl (by omega) u1 Try.isAgg3)) ?_
          refine WO.l ?_
          refine LO.go rfl rfl (OW.enter rfl (by decide) (X.call Try.call35 (evl_cons rfl evl_nil)) (rInt_ok r _ _ _ _ _ _ _ (h.ext (Ext.drew _))) ?_)
          rintro v35 w34 ⟨rfl, ⟨a3, left3, h2⟩, hx36⟩
          refine ⟨(Ext.own (Ext.trans hwL0 (Ext.drew _)) (h.ext (Ext.drew _)).var.row hB hx36), ?_⟩
          refine WO.q rfl rfl rfl rfl (fun w' hE33 => (X.eql rfl rfl)) ?_
          refine WO.q rfl rfl rfl rfl (fun w' hE33 => (X.assignB rfl)) ?_
          refine WO.nil ?_
          refine WL.nil ?_
          refine blk_n ?_
          refine thn_n ?_
          refine WF.seq ?_
          refine WF.region ?_
          refine WL.va rfl rfl rfl (X.moveB rfl) ?_
          refine WL.va rfl rfl rfl (X.not rfl) ?_
          refine WL.nil ?_
          refine thn_n ?_
          refine WF.cond rfl (fun h3_38 => ?_) (fun h3_38 => ?_)
          · have gh3_38 := (of_decide_eq_false (nt h3_38))
            have hno := gh3_38
            refine WF.seq ?_
            refine WF.region ?_
            refine WL.va rfl rfl rfl (X.assignB rfl) ?_
            refine WL.nil ?_
            refine thn_n ?_
            refine WF.ret ?_
            refine blk_r ?_
            refine thn_r ?_
            refine thn_r ?_
            refine blk_r ?_
            refine thn_r ?_
            refine fin_r ?_
            rw [he, readAll_drop hkl, hst, if_neg (fun e => hno (of_decide_eq_true e))]; exact ⟨rfl, ⟨_, _, h2⟩, (Ext.own (Ext.trans hwL0 (Ext.drew _)) (h.ext (Ext.drew _)).var.row hB hx36)⟩
          · have gh3_38 := (of_decide_eq_true (nf h3_38))
            have hdec := decide_eq_true gh3_38
            refine WF.skip ?_
            refine blk_n ?_
            refine thn_n ?_
            refine WF.region ?_
            refine WL.va rfl rfl rfl (X.moveI e5_L0) ?_
            refine WL.va rfl rfl rfl (X.add rfl rfl (w64 (by omega))) ?_
            refine WL.va rfl rfl rfl (X.assignI rfl) ?_
            refine WL.nil ?_
            exact thn_n ⟨_, (by omega), k + 1, _, _, _, rfl, rfl, (by repeat (first | exact hAL0 | refine Agree.put ?_ rfl | refine Agree.named hF3 ?_)), (Ext.own (Ext.trans hwL0 (Ext.drew _)) (h.ext (Ext.drew _)).var.row hB hx36), ⟨by omega, h2, by rw [he, readAll_drop hkl, hst, if_pos hdec]⟩⟩
    · have gh0_4 := (of_decide_eq_false h0_4)
      refine WF.exit ?_
      refine thn_x ?_
      refine thn_x ?_
      refine blk_eq ?_
      refine thn_n ?_
      refine WF.seq ?_
      refine WF.region ?_
      refine WL.va rfl rfl rfl (X.assignB rfl) ?_
      refine WL.nil ?_
      refine thn_n ?_
      refine WF.ret ?_
      refine fin_r ?_
      have e : readAll s0 l = (true, s) := by rw [he, List.drop_of_length_le (by omega)]; rfl
      rw [e]; exact ⟨rfl, ⟨_, _, h⟩, hwL0⟩

end Go.Proofs.Ytlcgjeebgjiebaa
