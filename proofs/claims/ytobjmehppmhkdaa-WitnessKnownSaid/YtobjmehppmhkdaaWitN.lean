/- The walk of Check. -/
import Derived.Test.YtobjmehppmhkdaaWitM
import Derived.Test.YtobjmehppmhkdaaMet
namespace Go.Proofs.Ytobjmehppmhkdaa
open Go Go.RowKit Kf
set_option maxRecDepth 20000

def checks (l : List Ev) : List (Bool × Int) := [(formB l, 4), (twiceB l, 7), (deniedB l, 24), (earlyB l, 6), (lateB l, 15), (wrongB l, 12), (snapsB l, 23)]
def firstG : List (Bool × Int) → Int
  | [] => 0
  | p :: s => if p.1 then p.2 else firstG s
/-- what layer 30 says of a history -/
def checkL (l : List Ev) : Int := firstG (checks l)
theorem firstG_at : ∀ {s : List (Bool × Int)} {k : Nat} (hk : k < s.length), (s[k]).1 = true → (∀ j (hj : j < s.length), j < k → (s[j]).1 = false) → firstG s = (s[k]).2
  | [], _, hk, _, _ => by simp at hk
  | p :: s, 0, _, h, _ => by
    have h : p.1 = true := h
    unfold firstG; rw [if_pos h]; rfl
  | p :: s, k + 1, hk, h, hno => by
    have h0 : p.1 = false := hno 0 (by simp) (by omega)
    unfold firstG
    rw [if_neg (by rw [h0]; simp)]
    exact firstG_at (s := s) (k := k) (by simpa using hk) h (fun j hj hjk => hno (j + 1) (by simpa using hj) (by omega))
theorem firstG_no : ∀ {s : List (Bool × Int)}, (∀ j (hj : j < s.length), (s[j]).1 = false) → firstG s = 0
  | [], _ => rfl
  | p :: s, h => by
    have h0 : p.1 = false := h 0 (by simp)
    unfold firstG
    rw [if_neg (by rw [h0]; simp)]
    exact firstG_no (s := s) (fun j hj => h (j + 1) (by simpa using hj))
def chkF : List (Nat × Int) := [(28, 4), (29, 7), (30, 24), (31, 6), (32, 15), (33, 12), (34, 23)]
def chkV (g : Nat) (p : Nat × Int) : List Value := [.func (.func p.1) (List.toArray [at_ g]) #[], i64 p.2]
theorem chk_len (g : Nat) (p : Nat × Int) : (chkV g p).length = 2 := rfl
theorem chk_met {g : Nat} {l : List Ev} {w : World} {k : Nat} (h : HAt w g l) (hl : l.length ≤ 1000000) (hk : k < chkF.length) (hk2 : k < (checks l).length) : MetOk Try.prog (.func (.func (chkF[k]).1) (List.toArray [at_ g]) #[]) w (fun r w' => r = .bool ((checks l)[k]).1 ∧ Ext w w') := by
  match k, hk, hk2 with
  | 0, _, _ => exact ⟨28, [at_ g], rfl, Try.call28, form_ok g l w h hl⟩
  | 1, _, _ => exact ⟨29, [at_ g], rfl, Try.call29, twice_ok g l w h hl⟩
  | 2, _, _ => exact ⟨30, [at_ g], rfl, Try.call30, denied_ok g l w h⟩
  | 3, _, _ => exact ⟨31, [at_ g], rfl, Try.call31, early_ok g l w h hl⟩
  | 4, _, _ => exact ⟨32, [at_ g], rfl, Try.call32, late_ok g l w h hl⟩
  | 5, _, _ => exact ⟨33, [at_ g], rfl, Try.call33, wrong_ok g l w h hl⟩
  | 6, _, _ => exact ⟨34, [at_ g], rfl, Try.call34, snaps_ok g l w h hl⟩
  | k + 7, hk, _ => exact absurd hk (by simp [chkF])
theorem chk_code {l : List Ev} {k : Nat} (hk : k < chkF.length) (hk2 : k < (checks l).length) : (chkF[k]).2 = ((checks l)[k]).2 := by
  match k, hk, hk2 with
  | 0, _, _ => rfl
  | 1, _, _ => rfl
  | 2, _, _ => rfl
  | 3, _, _ => rfl
  | 4, _, _ => rfl
  | 5, _, _ => rfl
  | 6, _, _ => rfl
  | k + 7, hk, _ => exact absurd hk (by simp [chkF])
def NoC (l : List Ev) (k : Nat) : Prop := ∀ j (hj : j < (checks l).length), j < k → ((checks l)[j]).1 = false
set_option maxHeartbeats 8000000 in
theorem check_ok (v : Value) (l : List Ev) (w : World) (hv : Evs w v l) (hl : l.length ≤ 1000000) : FnOk Try.prog 9 [v] w (fun r w' => r = i64 (checkL l) ∧ Ext w w') := by
  refine FnOk.enter (rs := [2]) Try.func9 rfl Try.ntmps9 Try.results9 rfl rfl ?_
  refine WF.seq ?_
  refine WF.region ?_
  refine WL.va rfl rfl rfl (X.assignI rfl) ?_
  refine WL.nil ?_
  refine thn_n ?_
  refine WF.seq ?_
  refine WF.region ?_
  refine WL.va rfl rfl rfl (X.move rfl) ?_
  refine WL.c rfl rfl rfl (X.call Try.call27 (evl_cons rfl evl_nil)) (historyOf_ok _ l _ (hv.ext (Ext.refl w)) hl) ?_
  rintro v1 wH ⟨⟨g, rfl, hH, hge⟩, hx2⟩
  refine WL.va rfl rfl rfl (X.assign rfl) ?_
  refine WL.nil ?_
  refine thn_n ?_
  refine WF.seq ?_
  refine WF.seq ?_
  refine WF.region ?_
  refine WL.va rfl rfl rfl (X.move rfl) ?_
  refine WL.va rfl rfl rfl (X.makeFuncM (evl_cons rfl evl_nil)) ?_
  refine WL.va rfl rfl rfl (X.build (evp_cons rfl (evp_cons rfl evp_nil)) Try.type60 Try.underlying60 rfl rfl ⟨rfl, rfl, trivial⟩ rfl) ?_
  refine WL.va rfl rfl rfl (X.move rfl) ?_
  refine WL.va rfl rfl rfl (X.makeFuncM (evl_cons rfl evl_nil)) ?_
  refine WL.va rfl rfl rfl (X.build (evp_cons rfl (evp_cons rfl evp_nil)) Try.type60 Try.underlying60 rfl rfl ⟨rfl, rfl, trivial⟩ rfl) ?_
  refine WL.va rfl rfl rfl (X.move rfl) ?_
  refine WL.va rfl rfl rfl (X.makeFuncM (evl_cons rfl evl_nil)) ?_
  refine WL.va rfl rfl rfl (X.build (evp_cons rfl (evp_cons rfl evp_nil)) Try.type60 Try.underlying60 rfl rfl ⟨rfl, rfl, trivial⟩ rfl) ?_
  refine WL.va rfl rfl rfl (X.move rfl) ?_
  refine WL.va rfl rfl rfl (X.makeFuncM (evl_cons rfl evl_nil)) ?_
  refine WL.va rfl rfl rfl (X.build (evp_cons rfl (evp_cons rfl evp_nil)) Try.type60 Try.underlying60 rfl rfl ⟨rfl, rfl, trivial⟩ rfl) ?_
  refine WL.va rfl rfl rfl (X.move rfl) ?_
  refine WL.va rfl rfl rfl (X.makeFuncM (evl_cons rfl evl_nil)) ?_
  refine WL.va rfl rfl rfl (X.build (evp_cons rfl (evp_cons rfl evp_nil)) Try.type60 Try.underlying60 rfl rfl ⟨rfl, rfl, trivial⟩ rfl) ?_
  refine WL.va rfl rfl rfl (X.move rfl) ?_
  refine WL.va rfl rfl rfl (X.makeFuncM (evl_cons rfl evl_nil)) ?_
  refine WL.va rfl rfl rfl (X.build (evp_cons rfl (evp_cons rfl evp_nil)) Try.type60 Try.underlying60 rfl rfl ⟨rfl, rfl, trivial⟩ rfl) ?_
  refine WL.va rfl rfl rfl (X.move rfl) ?_
  refine WL.va rfl rfl rfl (X.makeFuncM (evl_cons rfl evl_nil)) ?_
  refine WL.va rfl rfl rfl (X.build (evp_cons rfl (evp_cons rfl evp_nil)) Try.type60 Try.underlying60 rfl rfl ⟨rfl, rfl, trivial⟩ rfl) ?_
  refine WL.op rfl (OW.lits (vs := [agg (chkV g (28, 4)), agg (chkV g (29, 7)), agg (chkV g (30, 24)), agg (chkV g (31, 6)), agg (chkV g (32, 15)), agg (chkV g (33, 12)), agg (chkV g (34, 23))]) (evp_cons rfl (evp_cons rfl (evp_cons rfl (evp_cons rfl (evp_cons rfl (evp_cons rfl (evp_cons rfl evp_nil))))))) Try.underlying61 Try.sizeOf60 Try.zeroValue60 ⟨rfl, rfl, rfl, rfl, rfl, rfl, rfl, trivial⟩ rfl rfl rfl ?_ (by decide))
  intro v3 wL ho5 hx4
  have oL : World.ownsRow wL _ 60 2 v3 7 (chkF.flatMap (chkV g)) := ho5
  refine WL.va rfl rfl rfl (X.len (show Row _ _ 7 2 (chkF.flatMap (chkV g)) from Row.of_own ho5) rfl Try.underlying61) ?_
  refine WL.va rfl rfl rfl (X.moveI rfl) ?_
  refine WL.nil ?_
  refine thn_n ?_
  refine WF.block ?_
  refine WF.named (fun F6 hF7 => ?_)
  refine WF.loopN (fun mL0 f' w' => ∃ (k : Nat), mL0 = 7 - k ∧ f' 31 = .int .i64 (k : Int) ∧ Agree [0, 3, 6, 7, 8, 9, 10, 11, 12, 13, 14, 15, 16, 17, 18, 19, 20, 21, 22, 23, 24, 25, 26, 27, 28, 29, 30] f' F6 ∧ Ext wL w' ∧ k ≤ 7 ∧ NoC l k) ?_ ?_
  · exact ⟨_, 0, rfl, (congrFun hF7 31), (Agree.refl _ _), (Ext.refl _), ⟨Nat.zero_le _, fun j _ h => absurd h (by omega)⟩⟩
  · rintro mL0 fL0 wL0 ⟨k, hmL0, e31_L0, hAL0, hwL0, ⟨hk0, hno⟩⟩
    refine WF.seq ?_
    refine WF.region ?_
    refine WL.va rfl rfl rfl (X.lss e31_L0 ((hAL0.eq 30).trans (congrFun hF7 30))) ?_
    refine WL.nil ?_
    refine thn_n ?_
    refine WF.seq ?_
    refine WF.cond rfl (fun h0_8 => ?_) (fun h0_8 => ?_)
    · have gh0_8 := (of_decide_eq_true h0_8)
      have hk : k < 7 := by have := gh0_8; omega
      have hkc : k < chkF.length := hk
      have hkl : k < (checks l).length := hk
      refine WF.skip ?_
      refine thn_n ?_
      refine WF.seq ?_
      refine WF.block ?_
      refine WF.seq ?_
      refine WF.region ?_
      refine WL.va rfl rfl rfl (X.idx (show Row _ _ 7 2 (chkF.flatMap (chkV g)) from Row.of_own ho5) ((hAL0.eq 29).trans (congrFun hF7 29)) e31_L0 hk Try.underlying61 Try.sizeOf60) ?_
      refine WL.va rfl rfl rfl (X.loadEl (show Row _ _ 7 2 (chkF.flatMap (chkV g)) from Row.of_own ho5) hwL0 rfl hk (flat_el (chk_len g) hkc) Try.isAgg60 Try.sizeOf60) ?_
      refine WL.op rfl (OW.allocO (cs := [.nilFunc, i64 0]) Try.zeroValue60 rfl ?_ (by decide))
      intro g5 w10 heg5 hlg5 hO5 hx12
      have := World.grownBy.size hx12
      refine WL.op rfl (OW.storeOA hO5 rfl rfl rfl (by intro u hu; simp only [chkV, List.mem_cons, List.not_mem_nil, or_false] at hu; rcases hu with rfl | rfl <;> rfl) Try.sizeOf60 ?_)
      intro w14 hO5 hx16
      have := World.grownBy.size hx16
      replace hO5 : Blk _ _ _ (chkV g (chkF[k]'hkc)) := hO5
      refine WL.nil ?_
      refine thn_n ?_
      refine WF.seq ?_
      refine WF.region ?_
      refine WL.va rfl rfl rfl (X.fieldAddrO (off := 0) rfl Try.underlying60 rfl rfl Try.sizeOf25) ?_
      refine WL.va rfl rfl rfl (X.loadO hO5 (Ext.refl _) rfl rfl Try.isAgg25) ?_
      refine WL.op rfl (OW.callM rfl (chk_met (hH.ext (show Ext wH w14 from (Ext.trans (Ext.trans hx4 hwL0) (Ext.store hx12 hx16 (by omega))))) hl hkc hkl) ?_ (by decide))
      rintro v19 w18 ⟨rfl, hx20⟩
      have := World.grownBy.size hx20
      refine WL.nil ?_
      refine thn_n ?_
      refine WF.cond rfl (fun h1_21 => ?_) (fun h1_21 => ?_)
      · have gh1_21 := h1_21
        have hy : ((checks l)[k]'hkl).1 = true := gh1_21
        refine WF.seq ?_
        refine WF.region ?_
        refine WL.va rfl rfl rfl (X.fieldAddrO (off := 1) rfl Try.underlying60 rfl rfl Try.sizeOf29) ?_
        refine WL.va rfl rfl rfl (X.loadO hO5 hx20 rfl rfl Try.isAgg29) ?_
        refine WL.va rfl rfl rfl (X.assignI rfl) ?_
        refine WL.nil ?_
        refine thn_n ?_
        refine WF.ret ?_
        refine blk_r ?_
        refine thn_r ?_
        refine thn_r ?_
        refine blk_r ?_
        refine thn_r ?_
        refine fin_r ?_
        exact ⟨congrArg i64 ((chk_code hkc hkl).trans (firstG_at hkl hy hno).symm), (Ext.trans (Ext.trans (Ext.trans (Ext.trans hx2 hx4) hwL0) (Ext.store hx12 hx16 (by omega))) hx20)⟩
      · have gh1_21 := h1_21
        have hy : ((checks l)[k]'hkl).1 = false := gh1_21
        refine WF.skip ?_
        refine blk_n ?_
        refine thn_n ?_
        refine WF.region ?_
        refine WL.va rfl rfl rfl (X.add e31_L0 rfl (w64 (by omega))) ?_
        refine WL.va rfl rfl rfl (X.moveI rfl) ?_
        refine WL.nil ?_
        exact thn_n ⟨_, (by omega), k + 1, rfl, rfl, (by repeat (first | exact hAL0 | refine Agree.put ?_ rfl | refine Agree.named hF7 ?_)), (Ext.trans (Ext.trans hwL0 (Ext.store hx12 hx16 (by omega))) hx20), ⟨by omega, fun j hj h => by by_cases q : j = k; (subst q; exact hy); exact hno j hj (by omega)⟩⟩
    · have gh0_8 := (of_decide_eq_false h0_8)
      have hk : 7 ≤ k := by have := gh0_8; omega
      refine WF.exit ?_
      refine thn_x ?_
      refine thn_x ?_
      refine blk_eq ?_
      refine thn_n ?_
      refine WF.seq ?_
      refine WF.region ?_
      refine WL.va rfl rfl rfl (X.assignI rfl) ?_
      refine WL.nil ?_
      refine thn_n ?_
      refine WF.ret ?_
      refine fin_r ?_
      exact ⟨congrArg i64 (firstG_no fun j hj => hno j hj (by have : j < 7 := hj; omega)).symm, (Ext.trans (Ext.trans hx2 hx4) hwL0)⟩

end Go.Proofs.Ytobjmehppmhkdaa
