/- The walk of Put. -/
import Derived.Test.YtpimnlgfhpnjnaaRnW
import Derived.Test.YtpimnlgfhpnjnaaRnQk
namespace Go.Proofs.Ytpimnlgfhpnjnaa
open Go Go.RowKit Kf
set_option maxRecDepth 20000

def sesB (s : Se.Ses) : List UInt8 := Pk.enc s.Client ++ Pk.enc s.Seq ++ Pk.enc s.Code ++ Pk.blob s.Data
/-- the bytes of a directory, as far as its first k sessions -/
def dsB (d : Dr) (k : Nat) : List UInt8 := mpB d.m ++ Pk.enc d.S.length ++ (d.S.take k).flatMap sesB
def drB (d : Dr) : List UInt8 := dsB d d.S.length
theorem sesB_len (s : Se.Ses) : (sesB s).length = 32 + s.Data.length := by
  unfold sesB Pk.blob
  simp only [List.length_append, Pk.enc_len]; omega
theorem dsB_succ {d : Dr} {k : Nat} (hk : k < d.S.length) : dsB d (k + 1) = dsB d k ++ sesB d.S[k] := by
  unfold dsB
  rw [List.take_succ_eq_append_getElem hk, List.flatMap_append]
  simp
theorem dsB_len {d : Dr} (hR : d.m.R.length ≤ 1000000) (hS : d.S.length ≤ 100000) (hD : ∀ s ∈ d.S, s.Data.length ≤ 1000000) (k : Nat) (hk : k ≤ d.S.length) : (dsB d k).length ≤ 64000064 + 1000032 * k := by
  induction k with
  | zero => unfold dsB; simp only [List.take_zero, List.flatMap_nil, List.length_append, List.length_nil, mpB_len, Pk.enc_len]; omega
  | succ k ih =>
    rw [dsB_succ (by omega), List.length_append, sesB_len]
    have := ih (by omega)
    have := hD _ (List.getElem_mem (show k < d.S.length by omega))
    omega
theorem sesB_3 (s : Se.Ses) (l : List UInt8) : l ++ [s.Client, s.Seq, s.Code].flatMap Pk.enc ++ Pk.blob s.Data = l ++ sesB s := by
  simp [sesB]
set_option maxHeartbeats 4000000 in
theorem putDir_ok (d : Dr) (v u : Value) (w : World) (h : DAt w v u d) (hR : d.m.R.length ≤ 1000000) (hS : d.S.length ≤ 100000) (hD : ∀ s ∈ d.S, s.Data.length ≤ 1000000) : FnOk Try.prog 39 [agg (d.c v u)] w (fun r w' => OwnB w' w.heap.size 5 r (drB d) ∧ Ext w w') := by
  obtain ⟨E, hE, re, de⟩ := h.S
  have hEl : E.length = d.S.length := by rw [← hE]; simp
  have hdk : ∀ k (hk : k < E.length), d.S[k]'(by omega) = (E[k]'hk).1 := fun k hk => by simp only [← hE, List.getElem_map]
  have hlenk := dsB_len hR hS hD
  have hw0 := Ext.refl w
  refine FnOk.enter (rs := [2]) Try.func39 rfl Try.ntmps39 Try.results39 rfl rfl ?_
  refine WF.seq ?_
  refine WF.region ?_
  refine WL.op rfl (OW.boxA (cs := (d.c v u)) rfl ?_ (by decide))
  intro g1 w1 heg1 hlg1 hO1 hx3
  have := World.grownBy.size hx3
  refine WL.va rfl rfl rfl (X.assign rfl) ?_
  refine WL.nil ?_
  refine thn_n ?_
  refine WF.seq ?_
  refine WF.drawn (.q 0 (.q 1 (.q 3 (.q 4 (.q 5 (.l 2 (.l 6 (.q 7 .nil)))))))) (fun w' => Ext w1 w') 8 (by kernel_rfl) (by kernel_rfl) (Ext.drew _) ?_
  have := World.grownBy.size (Ext.drew w1)
  refine WO.q rfl rfl rfl rfl (fun w' hE5 => (X.fieldAddrO (off := 0) rfl Try.underlying51 rfl rfl Try.sizeOf26)) ?_
  refine WO.q rfl rfl rfl rfl (fun w' hE5 => (X.loadOP hO1 hE5 rfl rfl rfl Try.isAgg26 Try.sizeOf26)) ?_
  refine WO.q rfl rfl rfl rfl (fun w' hE5 => (X.fieldAddrO (off := 7) rfl Try.underlying51 rfl rfl Try.sizeOf49)) ?_
  refine WO.q rfl rfl rfl rfl (fun w' hE5 => (X.loadO hO1 hE5 rfl rfl Try.isAgg49)) ?_
  refine WO.q rfl rfl rfl rfl (fun w' hE5 => (X.len re rfl Try.underlying49)) ?_
  refine WO.l ?_
  have hzA := ((show Ext w w1.drew from (Ext.trans hx3 (Ext.drew _)))).size
  refine LO.go rfl rfl (OW.enter rfl (by decide) (X.call Try.call28 (evl_cons rfl evl_nil)) (putMap_ok d.m v _ (Row.ext h.R (Ext.trans hx3 (Ext.drew _))) hR) ?_)
  rintro vm w6 ⟨om, hx7⟩
  have := World.grownBy.size hx7
  refine ⟨(Ext.trans (Ext.drew _) hx7), ?_⟩
  refine WO.l ?_
  have hzB := ((show Ext w w6 from (Ext.trans (Ext.trans hx3 (Ext.drew _)) hx7))).size
  refine LO.go rfl rfl (OW.enter rfl (by decide) (X.call Try.call62 (evl_cons rfl (evl_cons rfl evl_nil))) (int_ok vm _ (E.length : Int) _ (Bytes.of_own om) (by rw [mpB_len]; omega)) ?_)
  rintro vb0 w8 ⟨ob0, hx9⟩
  have := World.grownBy.size hx9
  refine ⟨(Ext.trans (Ext.trans (Ext.drew _) hx7) hx9), ?_⟩
  replace ob0 : OwnB w8 w.heap.size 5 vb0 (mpB d.m ++ Pk.enc (d.S.length : Int)) := by rw [← hEl]; exact own_mono ob0 (by omega)
  refine WO.q rfl rfl rfl rfl (fun w' hE5 => (X.assign rfl)) ?_
  refine WO.nil ?_
  refine WL.nil ?_
  refine thn_n ?_
  refine WF.seq ?_
  refine WF.seq ?_
  refine WF.region ?_
  refine WL.va rfl rfl rfl (X.fieldAddrO (off := 7) rfl Try.underlying51 rfl rfl Try.sizeOf49) ?_
  refine WL.va rfl rfl rfl (X.loadO hO1 (Ext.trans (Ext.trans (Ext.drew _) hx7) hx9) rfl rfl Try.isAgg49) ?_
  refine WL.va rfl rfl rfl (X.len re rfl Try.underlying49) ?_
  refine WL.va rfl rfl rfl (X.moveI rfl) ?_
  refine WL.nil ?_
  refine thn_n ?_
  refine WF.block ?_
  refine WF.named (fun F10 hF11 => ?_)
  refine WF.loopN (fun mL0 f' w' => ∃ (k : Nat) (vo : Value), mL0 = E.length - k ∧ f' 16 = .int .i64 (k : Int) ∧ f' 3 = vo ∧ Agree [0, 1, 2, 6, 7, 8, 9, 10, 11, 12, 13, 14, 15] f' F10 ∧ Ext w w' ∧ k ≤ E.length ∧ OwnB w' w.heap.size 5 vo (dsB d k)) ?_ ?_
  · exact ⟨_, 0, vb0, rfl, (congrFun hF11 16), (congrFun hF11 3), (Agree.refl _ _), (Ext.trans (Ext.trans (Ext.trans hx3 (Ext.drew _)) hx7) hx9), ⟨Nat.zero_le _, (by unfold dsB; simpa using ob0)⟩⟩
  · rintro mL0 fL0 wL0 ⟨k, vo, hmL0, e16_L0, e3_L0, hAL0, hwL0, ⟨hk0, ho⟩⟩
    have := World.grownBy.size hwL0
    have hlk := hlenk k (by omega)
    have hbo := Bytes.of_own ho
    refine WF.seq ?_
    refine WF.region ?_
    refine WL.va rfl rfl rfl (X.lss e16_L0 ((hAL0.eq 15).trans (congrFun hF11 15))) ?_
    refine WL.nil ?_
    refine thn_n ?_
    refine WF.seq ?_
    refine WF.cond rfl (fun h0_12 => ?_) (fun h0_12 => ?_)
    · have gh0_12 := (of_decide_eq_true h0_12)
      have hk : k < E.length := by have := gh0_12; omega
      refine WF.skip ?_
      refine thn_n ?_
      refine WF.seq ?_
      refine WF.block ?_
      refine WF.seq ?_
      refine WF.region ?_
      refine WL.va rfl rfl rfl (X.idx re ((hAL0.eq 14).trans (congrFun hF11 14)) e16_L0 (by omega) Try.underlying49 Try.sizeOf55) ?_
      refine WL.va rfl rfl rfl (X.loadEl re hwL0 rfl (by omega) (Se.SRow.el hk) Try.isAgg55 Try.sizeOf55) ?_
      refine WL.op rfl (OW.allocO (cs := [i64 0, i64 0, i64 0, .slice none 0 0]) Try.zeroValue55 rfl ?_ (by decide))
      intro g5 w14 heg5 hlg5 hO5 hx16
      have := World.grownBy.size hx16
      refine WL.op rfl (OW.storeOA hO5 rfl rfl rfl (Se.SV.c_one (de _ (List.getElem_mem hk))) Try.sizeOf55 ?_)
      intro w18 hO5 hx20
      have := World.grownBy.size hx20
      replace hO5 : Blk _ _ _ (Se.SV.c (E[k]'hk)) := hO5
      refine WL.nil ?_
      refine thn_n ?_
      refine WF.drawn (.q 0 (.q 1 (.q 2 (.q 3 (.q 4 (.q 5 (.q 6 (.q 7 (.q 10 (.q 11 (.q 12 (.l 8 (.l 9 (.l 13 (.q 14 .nil))))))))))))))) (fun w' => Ext w18 w') 15 (by kernel_rfl) (by kernel_rfl) (Ext.drew _) ?_
      have := World.grownBy.size (Ext.drew w18)
      refine WO.q rfl rfl rfl rfl (fun w' hE22 => (X.move e3_L0)) ?_
      refine WO.q rfl rfl rfl rfl (fun w' hE22 => (X.fieldAddrO (off := 0) rfl Try.underlying55 rfl rfl Try.sizeOf3)) ?_
      refine WO.q rfl rfl rfl rfl (fun w' hE22 => (X.loadO hO5 hE22 rfl rfl Try.isAgg3)) ?_
      refine WO.q rfl rfl rfl rfl (fun w' hE22 => (X.fieldAddrO (off := 1) rfl Try.underlying55 rfl rfl Try.sizeOf3)) ?_
      refine WO.q rfl rfl rfl rfl (fun w' hE22 => (X.loadO hO5 hE22 rfl rfl Try.isAgg3)) ?_
      refine WO.q rfl rfl rfl rfl (fun w' hE22 => (X.fieldAddrO (off := 2) rfl Try.underlying55 rfl rfl Try.sizeOf53)) ?_
      refine WO.q rfl rfl rfl rfl (fun w' hE22 => (X.fieldAddrP (off := 0) rfl Try.underlying53 rfl rfl Try.sizeOf28)) ?_
      refine WO.q rfl rfl rfl rfl (fun w' hE22 => (X.loadO hO5 hE22 rfl rfl Try.isAgg28)) ?_
      refine WO.q rfl rfl rfl rfl (fun w' hE22 => (X.fieldAddrO (off := 2) rfl Try.underlying55 rfl rfl Try.sizeOf53)) ?_
      refine WO.q rfl rfl rfl rfl (fun w' hE22 => (X.fieldAddrP (off := 1) rfl Try.underlying53 rfl rfl Try.sizeOf46)) ?_
      refine WO.q rfl rfl rfl rfl (fun w' hE22 => (X.loadO hO5 hE22 rfl rfl Try.isAgg46)) ?_
      refine WO.l ?_
      refine LO.go rfl rfl (OW.lits (vs := [i64 (E[k]'hk).1.Client, i64 (E[k]'hk).1.Seq, i64 (E[k]'hk).1.Code]) (evp_cons rfl (evp_cons rfl (evp_cons rfl evp_nil))) Try.underlying69 Try.sizeOf3 Try.zeroValue3 ⟨rfl, rfl, rfl, trivial⟩ rfl rfl rfl ?_ (by decide))
      intro v24 w23 ho26 hx25
      have := World.grownBy.size hx25
      have hi3 : Ints w23 v24 [(E[k]'hk).1.Client, (E[k]'hk).1.Seq, (E[k]'hk).1.Code] := Row.of_own ho26
      refine ⟨(Ext.trans (Ext.drew _) hx25), ?_⟩
      refine WO.l ?_
      have hzC := ((show Ext w w23 from (Ext.trans (Ext.trans (Ext.trans hwL0 (Ext.store hx16 hx20 (by omega))) (Ext.drew _)) hx25))).size
      refine LO.go rfl rfl (OW.enter rfl (by decide) (X.call Try.call63 (evl_cons rfl (evl_cons rfl evl_nil))) (rints_ok vo _ _ [(E[k]'hk).1.Client, (E[k]'hk).1.Seq, (E[k]'hk).1.Code] _ (hbo.ext (Ext.trans (Ext.trans (Ext.store hx16 hx20 (by omega)) (Ext.drew _)) hx25)) hi3 (by simp; omega) (by simp)) ?_)
      rintro vb1 w27 ⟨ob1, hx28⟩
      have := World.grownBy.size hx28
      refine ⟨(Ext.trans (Ext.trans (Ext.drew _) hx25) hx28), ?_⟩
      refine WO.l ?_
      have hzD := ((show Ext w w27 from (Ext.trans (Ext.trans (Ext.trans (Ext.trans hwL0 (Ext.store hx16 hx20 (by omega))) (Ext.drew _)) hx25) hx28))).size
      refine LO.go rfl rfl (OW.enter rfl (by decide) (X.call Try.call80 (evl_cons rfl (evl_cons rfl evl_nil))) (blob_ok vb1 _ (E[k]'hk).2 (E[k]'hk).1.Data _ (Bytes.of_own ob1) (Row.ext (de _ (List.getElem_mem hk)) (Ext.trans (Ext.trans (Ext.trans (Ext.trans hwL0 (Ext.store hx16 hx20 (by omega))) (Ext.drew _)) hx25) hx28)) (by have := hD _ (List.getElem_mem (show k < d.S.length by omega)); rw [hdk k hk] at this; simp [Pk.enc_len]; omega)) ?_)
      rintro vb2 w29 ⟨ob2, hx30⟩
      have := World.grownBy.size hx30
      refine ⟨(Ext.trans (Ext.trans (Ext.trans (Ext.drew _) hx25) hx28) hx30), ?_⟩
      replace ob2 : OwnB w29 w.heap.size 5 vb2 (dsB d (k + 1)) := by rw [dsB_succ (by omega), hdk k hk, ← sesB_3]; exact own_mono ob2 (by omega)
      refine WO.q rfl rfl rfl rfl (fun w' hE22 => (X.assign rfl)) ?_
      refine WO.nil ?_
      refine WL.nil ?_
      refine blk_n ?_
      refine thn_n ?_
      refine WF.region ?_
      refine WL.va rfl rfl rfl (X.add e16_L0 rfl (w64 (by omega))) ?_
      refine WL.va rfl rfl rfl (X.moveI rfl) ?_
      refine WL.nil ?_
      exact thn_n ⟨_, (by omega), k + 1, vb2, rfl, rfl, rfl, (by repeat (first | exact hAL0 | refine Agree.put ?_ rfl | refine Agree.named hF11 ?_)), (Ext.trans (Ext.trans (Ext.trans (Ext.trans (Ext.trans hwL0 (Ext.store hx16 hx20 (by omega))) (Ext.drew _)) hx25) hx28) hx30), ⟨by omega, ob2⟩⟩
    · have gh0_12 := (of_decide_eq_false h0_12)
      refine WF.exit ?_
      refine thn_x ?_
      refine thn_x ?_
      refine blk_eq ?_
      refine thn_n ?_
      refine WF.seq ?_
      refine WF.region ?_
      refine WL.va rfl rfl rfl (X.move e3_L0) ?_
      refine WL.va rfl rfl rfl (X.assign rfl) ?_
      refine WL.nil ?_
      refine thn_n ?_
      refine WF.ret ?_
      refine fin_r ?_
      have hkk : k = d.S.length := by omega
      subst hkk
      exact ⟨ho, hwL0⟩

end Go.Proofs.Ytpimnlgfhpnjnaa
