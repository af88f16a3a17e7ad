/- The walks of the statements about operations. -/
import Derived.Test.YthaojdpeimlngaaOpM
import Derived.Test.YthaojdpeimlngaaLaw
namespace Go.Proofs.Ythaojdpeimlngaa
open Go Go.RowKit Kf
set_option maxRecDepth 20000

open Pk in
theorem gotR_back {c : Int} {D : List UInt8} (hc : -9223372036854775808 ≤ c ∧ c ≤ 9223372036854775807) (hD : D.length ≤ 1000000) : gotR (rbytes c D) = ((c, D), 0) := by
  have e1 : (⟨rbytes c D, false⟩ : RS).int = (c, ⟨blob D ++ [], false⟩) := by rw [List.append_nil]; exact read_enc hc _
  have e2 := read_blob hD []
  rw [gotR_ok (by rw [e1]; simp only; rw [e2]; simp [RS.err]), e1]
  simp only
  rw [e2]
open Pk in
theorem gotR_bad {l : List UInt8} (h : (gotR l).2 ≠ 0) : (gotR l).1 = (0, []) := by
  by_cases he : (⟨l, false⟩ : RS).int.2.blob.2.err = 0
  · rw [gotR_ok he] at h; exact absurd rfl h
  · rw [gotR_err he]
open Pk in
theorem gotR_only {l : List UInt8} (h : (gotR l).2 = 0) : rbytes (gotR l).1.1 (gotR l).1.2 = l := by
  by_cases he : (⟨l, false⟩ : RS).int.2.blob.2.err = 0
  · rw [gotR_ok he]
    have hb : (⟨l, false⟩ : RS).int.2.blob.2.bad = false := by
      cases hq : (⟨l, false⟩ : RS).int.2.blob.2.bad with
      | false => rfl
      | true => simp [RS.err, hq] at he
    have hl : (⟨l, false⟩ : RS).int.2.blob.2.left = [] := by
      have : ¬ 0 < (⟨l, false⟩ : RS).int.2.blob.2.left.length := fun q => by simp [RS.err, hb, q] at he
      exact List.eq_nil_of_length_eq_zero (by omega)
    have p1 := int_parts (s := ⟨l, false⟩) (Pk.int_good (blob_good hb)).1
    have p2 := blob_parts hb
    rw [hl, List.append_nil] at p2
    rw [p2] at p1
    exact p1.symm
  · rw [gotR_err he] at h; exact absurd h he
open Pk in
theorem gotR_len (l : List UInt8) : (gotR l).1.2.length ≤ l.length := by
  by_cases he : (⟨l, false⟩ : RS).int.2.blob.2.err = 0
  · rw [gotR_ok he]
    have h1 := (blob_le (⟨l, false⟩ : RS).int.2).1
    have h2 := int_le (⟨l, false⟩ : RS)
    exact Nat.le_trans h1 h2
  · rw [gotR_err he]; exact Nat.zero_le _
open Pk in
theorem gotR_cut {c : Int} {D : List UInt8} (hc : -9223372036854775808 ≤ c ∧ c ≤ 9223372036854775807) (hD : D.length ≤ 1000000) {k : Nat} (hk : k < (rbytes c D).length) : gotR ((rbytes c D).take k) = ((0, []), 4) := by
  cases hb : (⟨(rbytes c D).take k, false⟩ : RS).int.2.blob.2.bad with
  | true =>
    have he : (⟨(rbytes c D).take k, false⟩ : RS).int.2.blob.2.err = 4 := if_pos hb
    rw [gotR_err (by rw [he]; decide), he]
  | false =>
    have e1 := int_more (s := ⟨(rbytes c D).take k, false⟩) ((rbytes c D).drop k) (Pk.int_good (blob_good hb)).1
    have e2 := blob_more ((rbytes c D).drop k) hb
    have e0 : (⟨(rbytes c D).take k, false⟩ : RS).more ((rbytes c D).drop k) = ⟨rbytes c D, false⟩ := by unfold RS.more; rw [List.take_append_drop]
    have f1 : (⟨rbytes c D, false⟩ : RS).int = (c, ⟨blob D ++ [], false⟩) := by rw [List.append_nil]; exact read_enc hc _
    have f2 := read_blob hD []
    rw [e0, f1] at e1
    injection e1 with _ e1
    rw [← e1, f2] at e2
    injection e2 with _ e2
    have := congrArg (fun s => s.left.length) e2
    simp only [RS.more, List.length_append, List.length_drop, List.length_nil] at this
    omega
theorem obytes_len {o : Od} (hc : chk o = 0) : 24 ≤ (obytes o).length ∧ (obytes o).length ≤ 40000 := by
  obtain ⟨c0, c1, ⟨cP, cR, cW⟩, cD, c4, c5, c6⟩ := chk_ok hc
  have h1 := headN_len o
  have h2 := lists2_len o
  have h3 := flatW_len c5
  have h4 : 24 ≤ (headN o).length := by unfold headN; rw [List.length_append, head0_len]; omega
  unfold obytes
  split
  · simp only [List.length_append]; omega
  · split
    · simp only [List.length_append, Pk.blob, Pk.enc_len]; omega
    · simp only [List.length_append, List.length_nil]; omega
theorem small_of {o : Od} (hc : chk o = 0) : o.small := by
  obtain ⟨c0, c1, ⟨cP, cR, cW⟩, cD, c4, c5, c6⟩ := chk_ok hc
  exact ⟨by omega, by omega, by omega, by omega, fun x hx => by have := c5 x hx; omega⟩
/-- what is told of an operation's bytes -/
def pb (o : Od) : List UInt8 := if chk o = 0 then obytes o else []
section
variable {w : World} {vP vR vW vD : Value} {o : Od}
theorem put_pb (h : OpAt w vP vR vW vD o) (hm : o.small) : FnOk Try.prog 12 [agg (oc o.n vP vR vW vD)] w (fun r w' => (∃ v, r = .tuple #[v, i64 (chk o)] ∧ Bytes w' v (pb o)) ∧ Ext w w') :=
  (put_ok _ _ _ _ o w h hm).mono fun r w' ⟨⟨v, h1, h2, h3⟩, h4⟩ => ⟨⟨v, h1, by
    unfold pb; split
    · exact Bytes.of_own (h2 ‹_›)
    · rw [h3 ‹_›]; exact Bytes.nil _⟩, h4⟩
theorem putR_pb (h : OpAt w vP vR vW vD o) (hm : o.small) : FnOk Try.prog 13 [agg (oc o.n vP vR vW vD)] w (fun r w' => (∃ v, r = .tuple #[v, i64 (chk o)] ∧ Bytes w' v (pb o)) ∧ Ext w w') :=
  (putR_ok _ _ _ _ o w h hm).mono fun r w' ⟨⟨v, h1, h2, h3⟩, h4⟩ => ⟨⟨v, h1, by
    unfold pb; split
    · exact Bytes.of_own (h2 ‹_›)
    · rw [h3 ‹_›]; exact Bytes.nil _⟩, h4⟩
theorem put_z (h : OpAt w vP vR vW vD o) (hc : chk o = 0) : FnOk Try.prog 12 [agg (oc o.n vP vR vW vD)] w (fun r w' => (∃ v, r = .tuple #[v, i64 0] ∧ OwnB w' w.heap.size 5 v (obytes o)) ∧ Ext w w') := by
  have := put_ok _ _ _ _ o w h (small_of hc)
  rw [hc] at this
  exact this.mono fun r w' ⟨⟨v, h1, h2, _⟩, h3⟩ => ⟨⟨v, h1, h2 rfl⟩, h3⟩
theorem check_z (h : OpAt w vP vR vW vD o) (hc : chk o = 0) : FnOk Try.prog 14 [agg (oc o.n vP vR vW vD)] w (fun r w' => r = i64 0 ∧ Ext w w') := by
  have := check_ok _ _ _ _ o w h (small_of hc)
  rwa [hc] at this
theorem sameBytes_self {va vb : Value} {l m : List UInt8} (h1 : Bytes w va l) (h2 : Bytes w vb m) (e : l = m) : FnOk Try.prog 16 [va, vb] w (fun r w' => r = .bool true ∧ Ext w w') := by
  have := sameBytes_ok va vb l m w h1 h2
  rwa [decide_eq_true e] at this
theorem sameOp_eq {a1 a2 a3 a4 b1 b2 b3 b4 : Value} {a b : Od} (ha : OpAt w a1 a2 a3 a4 a) (hb : OpAt w b1 b2 b3 b4 b) (e : a = b) : FnOk Try.prog 17 [agg (oc a.n a1 a2 a3 a4), agg (oc b.n b1 b2 b3 b4)] w (fun r w' => r = .bool true ∧ Ext w w') := by
  have := sameOp_ok _ _ _ _ _ _ _ _ a b w ha hb
  rwa [decide_eq_true e] at this
theorem sameRes_eq {c d : Int} {v u : Value} {l m : List UInt8} (hv : Bytes w v l) (hu : Bytes w u m) (e : c = d ∧ l = m) : FnOk Try.prog 25 [agg [i64 c, v], agg [i64 d, u]] w (fun r w' => r = .bool true ∧ Ext w w') := by
  have := sameRes_ok c d v u l m w hv hu
  rwa [decide_eq_true e] at this
theorem kept_self {va vl : Value} {l : List UInt8} (ha : Bytes w va (l ++ List.replicate 5 0xA5)) (hb : Bytes w vl l) (hm : l.length ≤ 281474976710651) : FnOk Try.prog 28 [va, vl] w (fun r w' => r = .bool true ∧ Ext w w') := by
  have := keptBytes_ok va vl _ l w ha hb hm
  rwa [decide_eq_true rfl] at this
theorem get_to {v : Value} {l : List UInt8} {o : Od} {e : Int} (hb : Bytes w v l) (hl : l.length ≤ 1000000) (h : got l = (o, e)) : FnOk Try.prog 18 [v] w (fun r w' => (∃ vP vR vW vD, r = .tuple #[agg (oc o.n vP vR vW vD), i64 e] ∧ OpG w' w.heap.size vP vR vW vD o) ∧ Ext w w') := by
  have := get_ok v l w hb hl
  rwa [h] at this
theorem getRes_to {v : Value} {l : List UInt8} {c : Int} {D : List UInt8} {e : Int} (hb : Bytes w v l) (hl : l.length ≤ 1000000) (h : gotR l = ((c, D), e)) : FnOk Try.prog 23 [v] w (fun r w' => (∃ vD, r = .tuple #[agg [i64 c, vD], i64 e] ∧ PartG w' w.heap.size vD D) ∧ Ext w w') := by
  have := getRes_ok v l w hb hl
  rwa [h] at this
theorem OpG.keptW {w' : World} {B b : Nat} (h : OpG w B vP vR vW vD o) (g : w.grownBy w' (some b)) (hb : b < B) : OpG w' B vP vR vW vD o := h.keptO g hb (Nat.le_refl _)
end
set_option maxHeartbeats 2000000 in
theorem opPuts_walk (vP vR vW vD : Value) (o : Od) (w : World) (h : OpAt w vP vR vW vD o) : FnOk Try.prog 3 [agg (oc o.n vP vR vW vD)] w (fun r w' => r = .bool true ∧ Ext w w') := by
  refine FnOk.enter (rs := [2]) Try.func3 rfl Try.ntmps3 Try.results3 rfl rfl ?_
  refine WF.seq ?_
  refine WF.region ?_
  refine WL.op rfl (OW.boxA (cs := (oc o.n vP vR vW vD)) rfl ?_ (by decide))
  intro g1 w1 heg1 hlg1 hO1 hx3
  have := World.grownBy.size hx3
  refine WL.va rfl rfl rfl (X.assignB rfl) ?_
  refine WL.nil ?_
  refine thn_n ?_
  refine WF.seq ?_
  refine WF.seq ?_
  refine WF.region ?_
  refine WL.va rfl rfl rfl (X.loadOA hO1 (Ext.refl _) rfl rfl Try.isAgg26 Try.sizeOf26) ?_
  refine WL.c rfl rfl rfl (X.call Try.call9 (evl_cons rfl (evl_cons rfl (evl_cons rfl evl_nil)))) (bigOp_ok vP vR vW vD o _ (h.ext hx3)) ?_
  rintro v7 w6 ⟨⟨bb, rfl, hbb⟩, hx8⟩
  have := World.grownBy.size hx8
  refine WL.nil ?_
  refine thn_n ?_
  refine WF.cond rfl (fun h0_9 => ?_) (fun h0_9 => ?_)
  · have gh0_9 := h0_9
    refine WF.seq ?_
    refine WF.region ?_
    refine WL.c rfl rfl rfl (X.call Try.call10 evl_nil) (known_ok _) ?_
    rintro v12 w11 ⟨rfl, hx13⟩
    have := World.grownBy.size hx13
    refine WL.va rfl rfl rfl (X.assignB rfl) ?_
    refine WL.nil ?_
    refine thn_n ?_
    refine WF.ret ?_
    refine thn_r ?_
    refine fin_r ?_
    exact ⟨rfl, (Ext.trans (Ext.trans hx3 hx8) hx13)⟩
  · have gh0_9 := h0_9
    have hbf := hbb gh0_9
    have hsm : o.small := ⟨by omega, by omega, by omega, by omega, fun x hx => by have := hbf.2.2.2.2 x hx; omega⟩
    refine WF.skip ?_
    refine thn_n ?_
    refine WF.seq ?_
    refine WF.region ?_
    refine WL.va rfl rfl rfl (X.loadOA hO1 hx8 rfl rfl Try.isAgg26 Try.sizeOf26) ?_
    refine WL.c rfl rfl rfl (X.call Try.call11 (evl_cons rfl evl_nil)) (copyOp_ok vP vR vW vD o _ (h.ext (Ext.trans hx3 hx8)) hsm) ?_
    rintro v15 wA ⟨⟨p1, p2, p3, p4, rfl, hA⟩, hx16⟩
    have := World.grownBy.size hx16
    refine WL.op rfl (OW.allocO (cs := [i64 0, i64 0, i64 0, i64 0, i64 0, i64 0, i64 0, i64 0, i64 0, i64 0, i64 0, i64 0, i64 0, .slice none 0 0, .slice none 0 0, .slice none 0 0, .slice none 0 0]) Try.zeroValue26 rfl ?_ (by decide))
    intro g3 w17 heg3 hlg3 hO3 hx19
    have := World.grownBy.size hx19
    refine WL.op rfl (OW.storeOA hO3 rfl rfl rfl (hA.ones _) Try.sizeOf26 ?_)
    intro w21 hO3 hx23
    have := World.grownBy.size hx23
    replace hO1 := (hO1.ext (Ext.trans (Ext.trans hx8 hx16) hx19)).keptO hx23 (by omega)
    refine WL.nil ?_
    refine thn_n ?_
    refine WF.seq ?_
    refine WF.region ?_
    refine WL.va rfl rfl rfl (X.loadOA hO3 (Ext.refl _) rfl rfl Try.isAgg26 Try.sizeOf26) ?_
    refine WL.c rfl rfl rfl (X.call Try.call12 (evl_cons rfl evl_nil)) (put_pb (hA.ext (Ext.store hx19 hx23 (by omega))) hsm) ?_
    rintro v25 wb ⟨⟨vb, rfl, hb⟩, hx26⟩
    have := World.grownBy.size hx26
    refine WL.va rfl rfl rfl (X.move rfl) ?_
    refine WL.va rfl rfl rfl (X.extract rfl rfl) ?_
    refine WL.va rfl rfl rfl (X.extract rfl rfl) ?_
    refine WL.va rfl rfl rfl (X.assign rfl) ?_
    refine WL.va rfl rfl rfl (X.assignI rfl) ?_
    refine WL.nil ?_
    refine thn_n ?_
    refine WF.seq ?_
    refine WF.region ?_
    refine WL.va rfl rfl rfl (X.loadOA hO1 hx26 rfl rfl Try.isAgg26 Try.sizeOf26) ?_
    refine WL.c rfl rfl rfl (X.call Try.call13 (evl_cons rfl evl_nil)) (putR_pb (h.ext (Ext.trans (Ext.trans (Ext.trans (Ext.trans hx3 hx8) hx16) (Ext.store hx19 hx23 (by omega))) hx26)) hsm) ?_
    rintro v27 wc ⟨⟨vc, rfl, hc⟩, hx28⟩
    have := World.grownBy.size hx28
    refine WL.va rfl rfl rfl (X.move rfl) ?_
    refine WL.va rfl rfl rfl (X.extract rfl rfl) ?_
    refine WL.va rfl rfl rfl (X.extract rfl rfl) ?_
    refine WL.va rfl rfl rfl (X.assign rfl) ?_
    refine WL.va rfl rfl rfl (X.assignI rfl) ?_
    refine WL.nil ?_
    refine thn_n ?_
    refine WF.seq ?_
    refine WF.drawn (.q 0 (.q 2 (.l 1 (.l 3 (.q 4 (.q 5 (.q 6 (.q 7 (.q 8 (.q 9 (.q 10 (.q 11 (.q 12 (.l 13 (.q 14 (.q 15 (.q 16 (.q 17 (.l 18 (.q 19 (.q 20 .nil))))))))))))))))))))) (fun w' => Ext wc w') 21 (by kernel_rfl) (by kernel_rfl) (Ext.drew _) ?_
    have := World.grownBy.size (Ext.drew wc)
    refine WO.q rfl rfl rfl rfl (fun w' hE29 => (X.loadOA hO3 (Ext.trans (Ext.trans hx26 hx28) hE29) rfl rfl Try.isAgg26 Try.sizeOf26)) ?_
    refine WO.q rfl rfl rfl rfl (fun w' hE29 => (X.loadOA hO1 (Ext.trans (Ext.trans hx26 hx28) hE29) rfl rfl Try.isAgg26 Try.sizeOf26)) ?_
    refine WO.l ?_
    refine LO.go rfl rfl (OW.enter rfl (by decide) (X.call Try.call14 (evl_cons rfl evl_nil)) (check_ok _ _ _ _ o _ (hA.ext (Ext.trans (Ext.trans (Ext.trans (Ext.store hx19 hx23 (by omega)) hx26) hx28) (Ext.drew _))) hsm) ?_)
    rintro v31 w30 ⟨rfl, hx32⟩
    have := World.grownBy.size hx32
    refine ⟨(Ext.trans (Ext.drew _) hx32), ?_⟩
    refine WO.l ?_
    refine LO.go rfl rfl (OW.enter rfl (by decide) (X.call Try.call15 (evl_cons rfl evl_nil)) (checkR_ok _ _ _ _ o _ (h.ext (Ext.trans (Ext.trans (Ext.trans (Ext.trans (Ext.trans (Ext.trans (Ext.trans hx3 hx8) hx16) (Ext.store hx19 hx23 (by omega))) hx26) hx28) (Ext.drew _)) hx32)) hsm) ?_)
    rintro v34 w33 ⟨rfl, hx35⟩
    have := World.grownBy.size hx35
    refine ⟨(Ext.trans (Ext.trans (Ext.drew _) hx32) hx35), ?_⟩
    refine WO.q rfl rfl rfl rfl (fun w' hE29 => (X.eql rfl rfl)) ?_
    refine WO.q rfl rfl rfl rfl (fun w' hE29 => (X.moveB rfl)) ?_
    refine WO.split (j := 5) rfl (fun h37 => ?_) (fun h37 => ?_)
    · have gh37 := (of_decide_eq_true h37)
      refine WO.qg rfl rfl (congrArg some h37) rfl rfl (fun w' hE29 => (X.moveI rfl)) ?_
      refine WO.qg rfl rfl (congrArg some h37) rfl rfl (fun w' hE29 => (X.moveI rfl)) ?_
      refine WO.qg rfl rfl (congrArg some h37) rfl rfl (fun w' hE29 => (X.eql rfl rfl)) ?_
      refine WO.q rfl rfl rfl rfl (fun w' hE29 => (X.pickT rfl h37 rfl)) ?_
      refine WO.q rfl rfl rfl rfl (fun w' hE29 => (X.moveB rfl)) ?_
      refine WO.split (j := 10) rfl (fun h39 => ?_) (fun h39 => ?_)
      · have gh39 := (of_decide_eq_true h39)
        refine WO.qg rfl rfl (congrArg some h39) rfl rfl (fun w' hE29 => (X.move rfl)) ?_
        refine WO.qg rfl rfl (congrArg some h39) rfl rfl (fun w' hE29 => (X.move rfl)) ?_
        refine WO.l ?_
        refine LO.gog rfl rfl (congrArg some h39) (OW.enter rfl (by decide) (X.call Try.call16 (evl_cons rfl (evl_cons rfl evl_nil))) (sameBytes_self (Row.ext hb (Ext.trans (Ext.trans (Ext.trans hx28 (Ext.drew _)) hx32) hx35)) (Row.ext hc (Ext.trans (Ext.trans (Ext.drew _) hx32) hx35)) rfl) ?_)
        rintro v41 w40 ⟨rfl, hx42⟩
        have := World.grownBy.size hx42
        refine ⟨(Ext.trans (Ext.trans (Ext.trans (Ext.drew _) hx32) hx35) hx42), ?_⟩
        refine WO.q rfl rfl rfl rfl (fun w' hE29 => (X.pickT rfl h39 rfl)) ?_
        refine WO.q rfl rfl rfl rfl (fun w' hE29 => (X.moveB rfl)) ?_
        refine WO.qg rfl rfl rfl rfl rfl (fun w' hE29 => (X.loadOA hO3 (Ext.trans (Ext.trans hx26 hx28) hE29) rfl rfl Try.isAgg26 Try.sizeOf26)) ?_
        refine WO.qg rfl rfl rfl rfl rfl (fun w' hE29 => (X.loadOA hO1 (Ext.trans (Ext.trans hx26 hx28) hE29) rfl rfl Try.isAgg26 Try.sizeOf26)) ?_
        refine WO.l ?_
        refine LO.gog rfl rfl rfl (OW.enter rfl (by decide) (X.call Try.call17 (evl_cons rfl (evl_cons rfl evl_nil))) (sameOp_eq (hA.ext (Ext.trans (Ext.trans (Ext.trans (Ext.trans (Ext.trans (Ext.trans (Ext.store hx19 hx23 (by omega)) hx26) hx28) (Ext.drew _)) hx32) hx35) hx42)) (h.ext (Ext.trans (Ext.trans (Ext.trans (Ext.trans (Ext.trans (Ext.trans (Ext.trans (Ext.trans (Ext.trans hx3 hx8) hx16) (Ext.store hx19 hx23 (by omega))) hx26) hx28) (Ext.drew _)) hx32) hx35) hx42)) rfl) ?_)
        rintro v45 w44 ⟨rfl, hx46⟩
        have := World.grownBy.size hx46
        refine ⟨(Ext.trans (Ext.trans (Ext.trans (Ext.trans (Ext.drew _) hx32) hx35) hx42) hx46), ?_⟩
        refine WO.q rfl rfl rfl rfl (fun w' hE29 => (X.pickT rfl rfl rfl)) ?_
        refine WO.q rfl rfl rfl rfl (fun w' hE29 => (X.assignB rfl)) ?_
        refine WO.nil ?_
        refine WL.nil ?_
        refine thn_n ?_
        refine WF.ret ?_
        refine fin_r ?_
        exact ⟨rfl, (Ext.trans (Ext.trans (Ext.trans (Ext.trans (Ext.trans (Ext.trans (Ext.trans (Ext.trans (Ext.trans (Ext.trans hx3 hx8) hx16) (Ext.store hx19 hx23 (by omega))) hx26) hx28) (Ext.drew _)) hx32) hx35) hx42) hx46)⟩
      · have gh39 := (of_decide_eq_false h39)
        exact absurd rfl gh39
    · have gh37 := (of_decide_eq_false h37)
      exact absurd rfl gh37

set_option maxHeartbeats 2000000 in
theorem opBack_walk (vP vR vW vD : Value) (o : Od) (cut : Int) (w : World) (h : OpAt w vP vR vW vD o) (hcut : -9223372036854775808 ≤ cut ∧ cut ≤ 9223372036854775807) : FnOk Try.prog 4 [agg (oc o.n vP vR vW vD), i64 cut] w (fun r w' => r = .bool true ∧ Ext w w') := by
  refine FnOk.enter (rs := [4]) Try.func4 rfl Try.ntmps4 Try.results4 rfl rfl ?_
  refine WF.seq ?_
  refine WF.region ?_
  refine WL.op rfl (OW.boxA (cs := (oc o.n vP vR vW vD)) rfl ?_ (by decide))
  intro g2 w1 heg2 hlg2 hO2 hx3
  have := World.grownBy.size hx3
  refine WL.va rfl rfl rfl (X.assignB rfl) ?_
  refine WL.nil ?_
  refine thn_n ?_
  refine WF.seq ?_
  refine WF.seq ?_
  refine WF.region ?_
  refine WL.va rfl rfl rfl (X.loadOA hO2 (Ext.refl _) rfl rfl Try.isAgg26 Try.sizeOf26) ?_
  refine WL.c rfl rfl rfl (X.call Try.call9 (evl_cons rfl (evl_cons rfl (evl_cons rfl evl_nil)))) (bigOp_ok vP vR vW vD o _ (h.ext hx3)) ?_
  rintro v7 w6 ⟨⟨bb, rfl, hbb⟩, hx8⟩
  have := World.grownBy.size hx8
  refine WL.nil ?_
  refine thn_n ?_
  refine WF.cond rfl (fun h0_9 => ?_) (fun h0_9 => ?_)
  · have gh0_9 := h0_9
    refine WF.seq ?_
    refine WF.region ?_
    refine WL.c rfl rfl rfl (X.call Try.call10 evl_nil) (known_ok _) ?_
    rintro v12 w11 ⟨rfl, hx13⟩
    have := World.grownBy.size hx13
    refine WL.va rfl rfl rfl (X.assignB rfl) ?_
    refine WL.nil ?_
    refine thn_n ?_
    refine WF.ret ?_
    refine thn_r ?_
    refine fin_r ?_
    exact ⟨rfl, (Ext.trans (Ext.trans hx3 hx8) hx13)⟩
  · have gh0_9 := h0_9
    have hbf := hbb gh0_9
    have hsm : o.small := ⟨by omega, by omega, by omega, by omega, fun x hx => by have := hbf.2.2.2.2 x hx; omega⟩
    refine WF.skip ?_
    refine thn_n ?_
    refine WF.seq ?_
    refine WF.region ?_
    refine WL.va rfl rfl rfl (X.loadOA hO2 hx8 rfl rfl Try.isAgg26 Try.sizeOf26) ?_
    refine WL.c rfl rfl rfl (X.call Try.call12 (evl_cons rfl evl_nil)) (put_ok vP vR vW vD o _ (h.ext (Ext.trans hx3 hx8)) hsm) ?_
    rintro v15 wb ⟨⟨vb, rfl, hb0, hbn⟩, hx16⟩
    have := World.grownBy.size hx16
    refine WL.va rfl rfl rfl (X.move rfl) ?_
    refine WL.va rfl rfl rfl (X.extract rfl rfl) ?_
    refine WL.va rfl rfl rfl (X.extract rfl rfl) ?_
    refine WL.va rfl rfl rfl (X.assign rfl) ?_
    refine WL.va rfl rfl rfl (X.assignI rfl) ?_
    refine WL.nil ?_
    refine thn_n ?_
    refine WF.seq ?_
    refine WF.seq ?_
    refine WF.region ?_
    refine WL.va rfl rfl rfl (X.moveI rfl) ?_
    refine WL.va rfl rfl rfl (X.neq rfl rfl) ?_
    refine WL.nil ?_
    refine thn_n ?_
    refine WF.cond rfl (fun h1_17 => ?_) (fun h1_17 => ?_)
    · have gh1_17 := (of_decide_eq_true h1_17)
      have fb : Bytes wb vb [] := by rw [hbn gh1_17]; exact Bytes.nil _
      refine WF.seq ?_
      refine WF.region ?_
      refine WL.va rfl rfl rfl (X.move rfl) ?_
      refine WL.va rfl rfl rfl (X.len fb rfl Try.underlying24) ?_
      refine WL.va rfl rfl rfl (X.eql rfl rfl) ?_
      refine WL.va rfl rfl rfl (X.moveB rfl) ?_
      refine WL.vg rfl rfl rfl rfl (X.loadOA hO2 (Ext.trans hx8 hx16) rfl rfl Try.isAgg26 Try.sizeOf26) ?_
      refine WL.cg rfl rfl rfl rfl (X.call Try.call14 (evl_cons rfl evl_nil)) (check_ok _ _ _ _ o _ (h.ext (Ext.trans (Ext.trans hx3 hx8) hx16)) hsm) ?_
      rintro v21 w20 ⟨rfl, hx22⟩
      have := World.grownBy.size hx22
      refine WL.vg rfl rfl rfl rfl (X.moveI rfl) ?_
      refine WL.vg rfl rfl rfl rfl (X.eql rfl rfl) ?_
      refine WL.va rfl rfl rfl (X.pickT rfl rfl rfl) ?_
      refine WL.va rfl rfl rfl (X.moveB rfl) ?_
      refine WL.split (j := 9) rfl (fun h24 => ?_) (fun h24 => ?_)
      · have gh24 := (of_decide_eq_true h24)
        refine WL.cg rfl (congrArg some h24) rfl rfl (X.call Try.call10 evl_nil) (known_ok _) ?_
        rintro v26 w25 ⟨rfl, hx27⟩
        have := World.grownBy.size hx27
        refine WL.va rfl rfl rfl (X.pickT rfl h24 rfl) ?_
        refine WL.va rfl rfl rfl (X.assignB rfl) ?_
        refine WL.nil ?_
        refine thn_n ?_
        refine WF.ret ?_
        refine thn_r ?_
        refine fin_r ?_
        exact ⟨rfl, (Ext.trans (Ext.trans (Ext.trans (Ext.trans hx3 hx8) hx16) hx22) hx27)⟩
      · have gh24 := (of_decide_eq_false h24)
        exact absurd rfl gh24
    · have gh1_17 := (Decidable.of_not_not (of_decide_eq_false h1_17))
      have hc0 : chk o = 0 := gh1_17
      have ob := hb0 hc0
      have fb := Bytes.of_own ob
      have hol := obytes_len hc0
      refine WF.skip ?_
      refine thn_n ?_
      refine WF.seq ?_
      refine WF.region ?_
      refine WL.va rfl rfl rfl (X.move rfl) ?_
      refine WL.c rfl rfl rfl (X.call Try.call18 (evl_cons rfl evl_nil)) (get_to fb (by omega) (got_back h.len h.inn hc0)) ?_
      rintro v29 wG ⟨⟨p1, p2, p3, p4, rfl, hG⟩, hx30⟩
      have := World.grownBy.size hx30
      refine WL.va rfl rfl rfl (X.move rfl) ?_
      refine WL.va rfl rfl rfl (X.extract rfl rfl) ?_
      refine WL.va rfl rfl rfl (X.extract rfl rfl) ?_
      refine WL.op rfl (OW.allocO (cs := [i64 0, i64 0, i64 0, i64 0, i64 0, i64 0, i64 0, i64 0, i64 0, i64 0, i64 0, i64 0, i64 0, .slice none 0 0, .slice none 0 0, .slice none 0 0, .slice none 0 0]) Try.zeroValue26 rfl ?_ (by decide))
      intro g7 w31 heg7 hlg7 hO7 hx33
      have := World.grownBy.size hx33
      refine WL.op rfl (OW.storeOA hO7 rfl rfl rfl (hG.at.ones _) Try.sizeOf26 ?_)
      intro w35 hO7 hx37
      have := World.grownBy.size hx37
      replace hO2 := (hO2.ext (Ext.trans (Ext.trans (Ext.trans hx8 hx16) hx30) hx33)).keptO hx37 (by omega)
      refine WL.va rfl rfl rfl (X.assignI rfl) ?_
      refine WL.nil ?_
      refine thn_n ?_
      refine WF.seq ?_
      refine WF.region ?_
      refine WL.va rfl rfl rfl (X.move rfl) ?_
      refine WL.va rfl rfl rfl (X.moveI rfl) ?_
      refine WL.va rfl rfl rfl (X.move rfl) ?_
      refine WL.va rfl rfl rfl (X.len fb rfl Try.underlying24) ?_
      refine WL.c rfl rfl rfl (X.call Try.call19 (evl_cons rfl (evl_cons rfl evl_nil))) (pick_ok _ _ _ hcut (by omega)) ?_
      rintro v40 w39 ⟨⟨q0, rfl, hp0, hp1⟩, rfl⟩
      have hq := hp1 (by omega)
      obtain ⟨q, rfl⟩ := Int.eq_ofNat_of_zero_le hq.1
      refine WL.va rfl rfl rfl (X.slH fb rfl rfl (by omega) Try.underlying24 Try.sizeOf5) ?_
      refine WL.c rfl rfl rfl (X.call Try.call18 (evl_cons rfl evl_nil)) (get_to (l := (obytes o).take q) (by have := Bytes.part (Row.ext fb (Ext.trans hx30 (Ext.store hx33 hx37 (by omega)))) 0 q (Nat.zero_le _) (by omega); exact this) (by simp; omega) (got_cut h.len h.inn hc0 (by omega))) ?_
      rintro v43 w42 ⟨⟨p5, p6, p7, p8, rfl, hG2⟩, hx44⟩
      have := World.grownBy.size hx44
      refine WL.va rfl rfl rfl (X.move rfl) ?_
      refine WL.va rfl rfl rfl (X.extract rfl rfl) ?_
      refine WL.va rfl rfl rfl (X.extract rfl rfl) ?_
      refine WL.op rfl (OW.allocO (cs := [i64 0, i64 0, i64 0, i64 0, i64 0, i64 0, i64 0, i64 0, i64 0, i64 0, i64 0, i64 0, i64 0, .slice none 0 0, .slice none 0 0, .slice none 0 0, .slice none 0 0]) Try.zeroValue26 rfl ?_ (by decide))
      intro g9 w45 heg9 hlg9 hO9 hx47
      have := World.grownBy.size hx47
      refine WL.op rfl (OW.storeOA hO9 rfl rfl rfl (hG2.at.ones _) Try.sizeOf26 ?_)
      intro wK hO9 hx50
      have := World.grownBy.size hx50
      replace hO2 := (hO2.ext (Ext.trans hx44 hx47)).keptO hx50 (by omega)
      replace hO7 := (hO7.ext (Ext.trans hx44 hx47)).keptO hx50 (by omega)
      refine WL.va rfl rfl rfl (X.assignI rfl) ?_
      refine WL.nil ?_
      refine thn_n ?_
      refine WF.seq ?_
      refine WF.region ?_
      refine WL.va rfl rfl rfl (X.move rfl) ?_
      refine WL.c rfl rfl rfl (X.call Try.call20 (evl_cons rfl evl_nil)) (copyBytes_ok _ _ _ (Row.ext fb (Ext.trans (Ext.trans (Ext.trans hx30 (Ext.store hx33 hx37 (by omega))) hx44) (Ext.store hx47 hx50 (by omega)))) (by omega)) ?_
      rintro v53 w52 ⟨oC, hx54⟩
      have := World.grownBy.size hx54
      refine WL.op rfl (OW.lits (vs := [u8 7]) (evp_cons rfl evp_nil) Try.underlying24 Try.sizeOf5 Try.zeroValue5 ⟨rfl, trivial⟩ rfl rfl rfl ?_ (by decide))
      intro v56 w55 ho58 hx57
      have := World.grownBy.size hx57
      have oC1 := oC.ext hx57
      refine WL.op rfl (OW.appendB oC1 (show Bytes _ _ [7] from Row.of_own ho58) rfl rfl Try.underlying24 Try.type5 rfl rfl rfl rfl (by simp; omega) (World.grownBy.size (Ext.trans hx54 hx57)) ?_ (by decide))
      intro v60 w59 ho62 hx61 hmvhx61
      have fc := Bytes.of_own ho62
      have := World.grownBy.size hx61
      refine WL.c rfl rfl rfl (X.call Try.call18 (evl_cons rfl evl_nil)) (get_to fc (by simp; omega) (got_long h.len h.inn hc0 7)) ?_
      rintro v65 w63 ⟨⟨p9, p10, p11, p12, rfl, hG3⟩, hx66⟩
      have := World.grownBy.size hx66
      refine WL.va rfl rfl rfl (X.move rfl) ?_
      refine WL.va rfl rfl rfl (X.extract rfl rfl) ?_
      refine WL.va rfl rfl rfl (X.extract rfl rfl) ?_
      refine WL.op rfl (OW.allocO (cs := [i64 0, i64 0, i64 0, i64 0, i64 0, i64 0, i64 0, i64 0, i64 0, i64 0, i64 0, i64 0, i64 0, .slice none 0 0, .slice none 0 0, .slice none 0 0, .slice none 0 0]) Try.zeroValue26 rfl ?_ (by decide))
      intro g11 w67 heg11 hlg11 hO11 hx69
      have := World.grownBy.size hx69
      refine WL.op rfl (OW.storeOA hO11 rfl rfl rfl (hG3.at.ones _) Try.sizeOf26 ?_)
      intro w71 hO11 hx73
      have := World.grownBy.size hx73
      replace hO2 := (hO2.ext (Ext.trans (Ext.trans (Ext.own (Ext.trans hx54 hx57) oC1 (Nat.le_refl _) hx61) hx66) hx69)).keptO hx73 (by omega)
      replace hO7 := (hO7.ext (Ext.trans (Ext.trans (Ext.own (Ext.trans hx54 hx57) oC1 (Nat.le_refl _) hx61) hx66) hx69)).keptO hx73 (by omega)
      replace hO9 := (hO9.ext (Ext.trans (Ext.trans (Ext.own (Ext.trans hx54 hx57) oC1 (Nat.le_refl _) hx61) hx66) hx69)).keptO hx73 (by omega)
      refine WL.va rfl rfl rfl (X.assignI rfl) ?_
      refine WL.nil ?_
      refine thn_n ?_
      refine WF.seq ?_
      refine WF.region ?_
      refine WL.va rfl rfl rfl (X.moveI rfl) ?_
      refine WL.va rfl rfl rfl (X.eql rfl rfl) ?_
      refine WL.va rfl rfl rfl (X.moveB rfl) ?_
      refine WL.vg rfl rfl rfl rfl (X.loadOA hO7 (Ext.refl _) rfl rfl Try.isAgg26 Try.sizeOf26) ?_
      refine WL.vg rfl rfl rfl rfl (X.loadOA hO2 (Ext.refl _) rfl rfl Try.isAgg26 Try.sizeOf26) ?_
      refine WL.cg rfl rfl rfl rfl (X.call Try.call17 (evl_cons rfl (evl_cons rfl evl_nil))) (sameOp_eq (hG.at.ext (Ext.trans (Ext.trans (Ext.trans (Ext.trans (Ext.trans (Ext.store hx33 hx37 (by omega)) hx44) (Ext.store hx47 hx50 (by omega))) (Ext.own (Ext.trans hx54 hx57) oC1 (Nat.le_refl _) hx61)) hx66) (Ext.store hx69 hx73 (by omega)))) (h.ext (Ext.trans (Ext.trans (Ext.trans (Ext.trans (Ext.trans (Ext.trans (Ext.trans (Ext.trans (Ext.trans hx3 hx8) hx16) hx30) (Ext.store hx33 hx37 (by omega))) hx44) (Ext.store hx47 hx50 (by omega))) (Ext.own (Ext.trans hx54 hx57) oC1 (Nat.le_refl _) hx61)) hx66) (Ext.store hx69 hx73 (by omega)))) rfl) ?_
      rintro v77 w76 ⟨rfl, hx78⟩
      have := World.grownBy.size hx78
      refine WL.va rfl rfl rfl (X.pickT rfl rfl rfl) ?_
      refine WL.va rfl rfl rfl (X.moveB rfl) ?_
      refine WL.vg rfl rfl rfl rfl (X.moveI rfl) ?_
      refine WL.vg rfl rfl rfl rfl (X.eql rfl rfl) ?_
      refine WL.va rfl rfl rfl (X.pickT rfl rfl rfl) ?_
      refine WL.va rfl rfl rfl (X.moveB rfl) ?_
      refine WL.vg rfl rfl rfl rfl (X.moveI rfl) ?_
      refine WL.vg rfl rfl rfl rfl (X.eql rfl rfl) ?_
      refine WL.va rfl rfl rfl (X.pickT rfl rfl rfl) ?_
      refine WL.va rfl rfl rfl (X.moveB rfl) ?_
      refine WL.vg rfl rfl rfl rfl (X.loadOA hO2 hx78 rfl rfl Try.isAgg26 Try.sizeOf26) ?_
      refine WL.cg rfl rfl rfl rfl (X.call Try.call14 (evl_cons rfl evl_nil)) (check_z (h.ext (Ext.trans (Ext.trans (Ext.trans (Ext.trans (Ext.trans (Ext.trans (Ext.trans (Ext.trans (Ext.trans (Ext.trans hx3 hx8) hx16) hx30) (Ext.store hx33 hx37 (by omega))) hx44) (Ext.store hx47 hx50 (by omega))) (Ext.own (Ext.trans hx54 hx57) oC1 (Nat.le_refl _) hx61)) hx66) (Ext.store hx69 hx73 (by omega))) hx78)) hc0) ?_
      rintro v83 w82 ⟨rfl, hx84⟩
      have := World.grownBy.size hx84
      refine WL.vg rfl rfl rfl rfl (X.eql rfl rfl) ?_
      refine WL.va rfl rfl rfl (X.pickT rfl rfl rfl) ?_
      refine WL.va rfl rfl rfl (X.moveB rfl) ?_
      refine WL.cg rfl rfl rfl rfl (X.call Try.call10 evl_nil) (known_ok _) ?_
      rintro v87 w86 ⟨rfl, hx88⟩
      have := World.grownBy.size hx88
      refine WL.va rfl rfl rfl (X.pickT rfl rfl rfl) ?_
      refine WL.va rfl rfl rfl (X.assignB rfl) ?_
      refine WL.nil ?_
      refine thn_n ?_
      refine WF.ret ?_
      refine fin_r ?_
      exact ⟨rfl, (Ext.trans (Ext.trans (Ext.trans (Ext.trans (Ext.trans (Ext.trans (Ext.trans (Ext.trans (Ext.trans (Ext.trans (Ext.trans (Ext.trans hx3 hx8) hx16) hx30) (Ext.store hx33 hx37 (by omega))) hx44) (Ext.store hx47 hx50 (by omega))) (Ext.own (Ext.trans hx54 hx57) oC1 (Nat.le_refl _) hx61)) hx66) (Ext.store hx69 hx73 (by omega))) hx78) hx84) hx88)⟩

set_option maxHeartbeats 2000000 in
theorem opOnly_walk (v : Value) (l : List UInt8) (w : World) (hb : Bytes w v l) (_hz : l.length ≤ 140737488351232) : FnOk Try.prog 5 [v] w (fun r w' => r = .bool true ∧ Ext w w') := by
  refine FnOk.enter (rs := [2]) Try.func5 rfl Try.ntmps5 Try.results5 rfl rfl ?_
  refine WF.seq ?_
  refine WF.region ?_
  refine WL.va rfl rfl rfl (X.assignB rfl) ?_
  refine WL.nil ?_
  refine thn_n ?_
  refine WF.seq ?_
  refine WF.seq ?_
  refine WF.region ?_
  refine WL.va rfl rfl rfl (X.move rfl) ?_
  refine WL.va rfl rfl rfl (X.len hb rfl Try.underlying24) ?_
  refine WL.va rfl rfl rfl (X.gtr rfl rfl) ?_
  refine WL.nil ?_
  refine thn_n ?_
  refine WF.cond rfl (fun h0_2 => ?_) (fun h0_2 => ?_)
  · have gh0_2 := (of_decide_eq_true h0_2)
    refine WF.seq ?_
    refine WF.region ?_
    refine WL.c rfl rfl rfl (X.call Try.call10 evl_nil) (known_ok _) ?_
    rintro v5 w4 ⟨rfl, hx6⟩
    refine WL.va rfl rfl rfl (X.assignB rfl) ?_
    refine WL.nil ?_
    refine thn_n ?_
    refine WF.ret ?_
    refine thn_r ?_
    refine fin_r ?_
    exact ⟨rfl, hx6⟩
  · have gh0_2 := (of_decide_eq_false h0_2)
    refine WF.skip ?_
    refine thn_n ?_
    refine WF.seq ?_
    refine WF.region ?_
    refine WL.va rfl rfl rfl (X.move rfl) ?_
    refine WL.c rfl rfl rfl (X.call Try.call18 (evl_cons rfl evl_nil)) (get_ok v l _ (Row.ext hb (Ext.refl w)) (by omega)) ?_
    rintro v8 wG ⟨⟨p1, p2, p3, p4, rfl, hG⟩, hx9⟩
    refine WL.va rfl rfl rfl (X.move rfl) ?_
    refine WL.va rfl rfl rfl (X.extract rfl rfl) ?_
    refine WL.va rfl rfl rfl (X.extract rfl rfl) ?_
    refine WL.op rfl (OW.allocO (cs := [i64 0, i64 0, i64 0, i64 0, i64 0, i64 0, i64 0, i64 0, i64 0, i64 0, i64 0, i64 0, i64 0, .slice none 0 0, .slice none 0 0, .slice none 0 0, .slice none 0 0]) Try.zeroValue26 rfl ?_ (by decide))
    intro g3 w10 heg3 hlg3 hO3 hx12
    have := World.grownBy.size hx12
    refine WL.op rfl (OW.storeOA hO3 rfl rfl rfl (hG.at.ones _) Try.sizeOf26 ?_)
    intro w14 hO3 hx16
    have := World.grownBy.size hx16
    refine WL.va rfl rfl rfl (X.assignI rfl) ?_
    refine WL.nil ?_
    refine thn_n ?_
    refine WF.seq ?_
    refine WF.seq ?_
    refine WF.region ?_
    refine WL.va rfl rfl rfl (X.moveI rfl) ?_
    refine WL.va rfl rfl rfl (X.neq rfl rfl) ?_
    refine WL.nil ?_
    refine thn_n ?_
    refine WF.cond rfl (fun h1_18 => ?_) (fun h1_18 => ?_)
    · have gh1_18 := (of_decide_eq_true h1_18)
      have hno := got_bad (l := l) gh1_18
      refine WF.seq ?_
      refine WF.region ?_
      refine WL.va rfl rfl rfl (X.loadOA hO3 (Ext.refl _) rfl rfl Try.isAgg26 Try.sizeOf26) ?_
      refine WL.va rfl rfl rfl (X.buildT (P := Try.prog) (t := 26) (cs := (oc noOp.n (.slice none 0 0) (.slice none 0 0) (.slice none 0 0) (.slice none 0 0))) (zs := [i64 0, i64 0, i64 0, i64 0, i64 0, i64 0, i64 0, i64 0, i64 0, i64 0, i64 0, i64 0, i64 0, .slice none 0 0, .slice none 0 0, .slice none 0 0, .slice none 0 0]) (places := [(0, 1), (1, 1), (2, 1), (3, 1), (4, 1), (5, 1), (6, 1), (7, 1), (8, 1), (9, 1), (10, 1), (11, 1), (12, 1), (13, 1), (14, 1), (15, 1), (16, 1)]) (n := 17) evp_nil Try.type26 Try.underlying26 rfl rfl trivial rfl rfl rfl) ?_
      refine WL.c rfl rfl rfl (X.call Try.call17 (evl_cons rfl (evl_cons rfl evl_nil))) (sameOp_eq (hG.at.ext (Ext.store hx12 hx16 (by omega))) (noOp_own _ 0).at hno) ?_
      rintro v21 w20 ⟨rfl, hx22⟩
      have := World.grownBy.size hx22
      refine WL.va rfl rfl rfl (X.moveB rfl) ?_
      refine WL.cg rfl rfl rfl rfl (X.call Try.call10 evl_nil) (known_ok _) ?_
      rintro v25 w24 ⟨rfl, hx26⟩
      have := World.grownBy.size hx26
      refine WL.va rfl rfl rfl (X.pickT rfl rfl rfl) ?_
      refine WL.va rfl rfl rfl (X.assignB rfl) ?_
      refine WL.nil ?_
      refine thn_n ?_
      refine WF.ret ?_
      refine thn_r ?_
      refine fin_r ?_
      exact ⟨rfl, (Ext.trans (Ext.trans (Ext.trans hx9 (Ext.store hx12 hx16 (by omega))) hx22) hx26)⟩
    · have gh1_18 := (Decidable.of_not_not (of_decide_eq_false h1_18))
      have hon := got_only (l := l) gh1_18
      refine WF.skip ?_
      refine thn_n ?_
      refine WF.seq ?_
      refine WF.region ?_
      refine WL.va rfl rfl rfl (X.loadOA hO3 (Ext.refl _) rfl rfl Try.isAgg26 Try.sizeOf26) ?_
      refine WL.c rfl rfl rfl (X.call Try.call12 (evl_cons rfl evl_nil)) (put_z (hG.at.ext (Ext.store hx12 hx16 (by omega))) hon.1) ?_
      rintro v28 wc ⟨⟨vc, rfl, oc1⟩, hx29⟩
      have := World.grownBy.size hx29
      refine WL.va rfl rfl rfl (X.move rfl) ?_
      refine WL.va rfl rfl rfl (X.extract rfl rfl) ?_
      refine WL.va rfl rfl rfl (X.extract rfl rfl) ?_
      refine WL.va rfl rfl rfl (X.assign rfl) ?_
      refine WL.va rfl rfl rfl (X.assignI rfl) ?_
      refine WL.nil ?_
      refine thn_n ?_
      refine WF.seq ?_
      refine WF.region ?_
      refine WL.va rfl rfl rfl (X.moveI rfl) ?_
      refine WL.va rfl rfl rfl (X.eql rfl rfl) ?_
      refine WL.va rfl rfl rfl (X.moveB rfl) ?_
      refine WL.vg rfl rfl rfl rfl (X.move rfl) ?_
      refine WL.vg rfl rfl rfl rfl (X.move rfl) ?_
      refine WL.cg rfl rfl rfl rfl (X.call Try.call16 (evl_cons rfl (evl_cons rfl evl_nil))) (sameBytes_self (Row.ext (Bytes.of_own oc1) (Ext.refl wc)) (Row.ext hb (Ext.trans (Ext.trans hx9 (Ext.store hx12 hx16 (by omega))) hx29)) hon.2) ?_
      rintro v32 w31 ⟨rfl, hx33⟩
      have := World.grownBy.size hx33
      refine WL.va rfl rfl rfl (X.pickT rfl rfl rfl) ?_
      refine WL.va rfl rfl rfl (X.moveB rfl) ?_
      refine WL.cg rfl rfl rfl rfl (X.call Try.call10 evl_nil) (known_ok _) ?_
      rintro v36 w35 ⟨rfl, hx37⟩
      have := World.grownBy.size hx37
      refine WL.va rfl rfl rfl (X.pickT rfl rfl rfl) ?_
      refine WL.va rfl rfl rfl (X.assignB rfl) ?_
      refine WL.nil ?_
      refine thn_n ?_
      refine WF.ret ?_
      refine fin_r ?_
      exact ⟨rfl, (Ext.trans (Ext.trans (Ext.trans (Ext.trans hx9 (Ext.store hx12 hx16 (by omega))) hx29) hx33) hx37)⟩

set_option maxHeartbeats 4000000 in
theorem opGets_walk (v : Value) (l : List UInt8) (w : World) (hb : Bytes w v l) (_hz : l.length ≤ 140737488351232) : FnOk Try.prog 6 [v] w (fun r w' => r = .bool true ∧ Ext w w') := by
  refine FnOk.enter (rs := [2]) Try.func6 rfl Try.ntmps6 Try.results6 rfl rfl ?_
  refine WF.seq ?_
  refine WF.region ?_
  refine WL.va rfl rfl rfl (X.assignB rfl) ?_
  refine WL.nil ?_
  refine thn_n ?_
  refine WF.seq ?_
  refine WF.seq ?_
  refine WF.region ?_
  refine WL.va rfl rfl rfl (X.move rfl) ?_
  refine WL.va rfl rfl rfl (X.len hb rfl Try.underlying24) ?_
  refine WL.va rfl rfl rfl (X.gtr rfl rfl) ?_
  refine WL.nil ?_
  refine thn_n ?_
  refine WF.cond rfl (fun h0_2 => ?_) (fun h0_2 => ?_)
  · have gh0_2 := (of_decide_eq_true h0_2)
    refine WF.seq ?_
    refine WF.region ?_
    refine WL.c rfl rfl rfl (X.call Try.call10 evl_nil) (known_ok _) ?_
    rintro v5 w4 ⟨rfl, hx6⟩
    refine WL.va rfl rfl rfl (X.assignB rfl) ?_
    refine WL.nil ?_
    refine thn_n ?_
    refine WF.ret ?_
    refine thn_r ?_
    refine fin_r ?_
    exact ⟨rfl, hx6⟩
  · have gh0_2 := (of_decide_eq_false h0_2)
    refine WF.skip ?_
    refine thn_n ?_
    refine WF.seq ?_
    refine WF.region ?_
    refine WL.va rfl rfl rfl (X.move rfl) ?_
    refine WL.c rfl rfl rfl (X.call Try.call21 (evl_cons rfl evl_nil)) (lentBytes_ok v l _ (Row.ext hb (Ext.refl w)) (by omega)) ?_
    rintro va wa ⟨oa, hx8⟩
    have := World.grownBy.size hx8
    refine WL.va rfl rfl rfl (X.assign rfl) ?_
    refine WL.nil ?_
    refine thn_n ?_
    refine WF.seq ?_
    refine WF.region ?_
    refine WL.va rfl rfl rfl (X.move rfl) ?_
    refine WL.va rfl rfl rfl (X.move rfl) ?_
    refine WL.va rfl rfl rfl (X.len hb rfl Try.underlying24) ?_
    refine WL.va rfl rfl rfl (X.slH (Bytes.of_own oa) rfl rfl (by simp) Try.underlying24 Try.sizeOf5) ?_
    refine WL.va rfl rfl rfl (X.assign rfl) ?_
    refine WL.nil ?_
    refine thn_n ?_
    refine WF.seq ?_
    refine WF.region ?_
    refine WL.va rfl rfl rfl (X.move rfl) ?_
    refine WL.c rfl rfl rfl (X.call Try.call18 (evl_cons rfl evl_nil)) (get_ok _ l _ (Row.ext (lent_part oa) (Ext.refl wa)) (by omega)) ?_
    rintro v9 wG ⟨⟨p1, p2, p3, p4, rfl, hG⟩, hx10⟩
    have := World.grownBy.size hx10
    refine WL.va rfl rfl rfl (X.move rfl) ?_
    refine WL.va rfl rfl rfl (X.extract rfl rfl) ?_
    refine WL.va rfl rfl rfl (X.extract rfl rfl) ?_
    refine WL.op rfl (OW.allocO (cs := [i64 0, i64 0, i64 0, i64 0, i64 0, i64 0, i64 0, i64 0, i64 0, i64 0, i64 0, i64 0, i64 0, .slice none 0 0, .slice none 0 0, .slice none 0 0, .slice none 0 0]) Try.zeroValue26 rfl ?_ (by decide))
    intro g5 w11 heg5 hlg5 hO5 hx13
    have := World.grownBy.size hx13
    refine WL.op rfl (OW.storeOA hO5 rfl rfl rfl (hG.at.ones _) Try.sizeOf26 ?_)
    intro w15 hO5 hx17
    have := World.grownBy.size hx17
    refine WL.va rfl rfl rfl (X.assignI rfl) ?_
    refine WL.nil ?_
    refine thn_n ?_
    refine WF.seq ?_
    refine WF.region ?_
    refine WL.va rfl rfl rfl (X.move rfl) ?_
    refine WL.c rfl rfl rfl (X.call Try.call22 (evl_cons rfl evl_nil)) (getR_ok _ l _ (Row.ext hb (Ext.trans (Ext.trans hx8 hx10) (Ext.store hx13 hx17 (by omega)))) (by omega)) ?_
    rintro v19 wR ⟨⟨q1, q2, q3, q4, rfl, hR⟩, hx20⟩
    have := World.grownBy.size hx20
    refine WL.va rfl rfl rfl (X.move rfl) ?_
    refine WL.va rfl rfl rfl (X.extract rfl rfl) ?_
    refine WL.va rfl rfl rfl (X.extract rfl rfl) ?_
    refine WL.op rfl (OW.allocO (cs := [i64 0, i64 0, i64 0, i64 0, i64 0, i64 0, i64 0, i64 0, i64 0, i64 0, i64 0, i64 0, i64 0, .slice none 0 0, .slice none 0 0, .slice none 0 0, .slice none 0 0]) Try.zeroValue26 rfl ?_ (by decide))
    intro g7 w21 heg7 hlg7 hO7 hx23
    have := World.grownBy.size hx23
    refine WL.op rfl (OW.storeOA hO7 rfl rfl rfl (hR.ones _) Try.sizeOf26 ?_)
    intro w25 hO7 hx27
    have := World.grownBy.size hx27
    replace hO5 := (hO5.ext (Ext.trans hx20 hx23)).keptO hx27 (by omega)
    refine WL.va rfl rfl rfl (X.assignI rfl) ?_
    refine WL.nil ?_
    refine thn_n ?_
    refine WF.seq ?_
    refine WF.region ?_
    refine WL.va rfl rfl rfl (X.move rfl) ?_
    refine WL.c rfl rfl rfl (X.call Try.call23 (evl_cons rfl evl_nil)) (getRes_ok _ l _ (Row.ext (lent_part oa) (Ext.trans (Ext.trans (Ext.trans hx10 (Ext.store hx13 hx17 (by omega))) hx20) (Ext.store hx23 hx27 (by omega)))) (by omega)) ?_
    rintro v29 wX ⟨⟨vX, rfl, hX⟩, hx30⟩
    have := World.grownBy.size hx30
    refine WL.va rfl rfl rfl (X.move rfl) ?_
    refine WL.va rfl rfl rfl (X.extract rfl rfl) ?_
    refine WL.va rfl rfl rfl (X.extract rfl rfl) ?_
    refine WL.op rfl (OW.allocO (cs := [i64 0, .slice none 0 0]) Try.zeroValue44 rfl ?_ (by decide))
    intro g9 w31 heg9 hlg9 hO9 hx33
    have := World.grownBy.size hx33
    refine WL.op rfl (OW.storeOA hO9 rfl rfl rfl (one2 (Row.one hX.at)) Try.sizeOf44 ?_)
    intro w35 hO9 hx37
    have := World.grownBy.size hx37
    replace hO5 := (hO5.ext (Ext.trans hx30 hx33)).keptO hx37 (by omega)
    replace hO7 := (hO7.ext (Ext.trans hx30 hx33)).keptO hx37 (by omega)
    refine WL.va rfl rfl rfl (X.assignI rfl) ?_
    refine WL.nil ?_
    refine thn_n ?_
    refine WF.seq ?_
    refine WF.region ?_
    refine WL.va rfl rfl rfl (X.move rfl) ?_
    refine WL.c rfl rfl rfl (X.call Try.call24 (evl_cons rfl evl_nil)) (getResR_ok _ l _ (Row.ext hb (Ext.trans (Ext.trans (Ext.trans (Ext.trans (Ext.trans (Ext.trans hx8 hx10) (Ext.store hx13 hx17 (by omega))) hx20) (Ext.store hx23 hx27 (by omega))) hx30) (Ext.store hx33 hx37 (by omega)))) (by omega)) ?_
    rintro v39 wY ⟨⟨vY, rfl, hY⟩, hx40⟩
    have := World.grownBy.size hx40
    refine WL.va rfl rfl rfl (X.move rfl) ?_
    refine WL.va rfl rfl rfl (X.extract rfl rfl) ?_
    refine WL.va rfl rfl rfl (X.extract rfl rfl) ?_
    refine WL.op rfl (OW.allocO (cs := [i64 0, .slice none 0 0]) Try.zeroValue44 rfl ?_ (by decide))
    intro g11 w41 heg11 hlg11 hO11 hx43
    have := World.grownBy.size hx43
    refine WL.op rfl (OW.storeOA hO11 rfl rfl rfl (one2 (Row.one hY)) Try.sizeOf44 ?_)
    intro w45 hO11 hx47
    have := World.grownBy.size hx47
    replace hO5 := (hO5.ext (Ext.trans hx40 hx43)).keptO hx47 (by omega)
    replace hO7 := (hO7.ext (Ext.trans hx40 hx43)).keptO hx47 (by omega)
    replace hO9 := (hO9.ext (Ext.trans hx40 hx43)).keptO hx47 (by omega)
    refine WL.va rfl rfl rfl (X.assignI rfl) ?_
    refine WL.nil ?_
    refine thn_n ?_
    refine WF.seq ?_
    refine WF.region ?_
    refine WL.va rfl rfl rfl (X.moveI rfl) ?_
    refine WL.va rfl rfl rfl (X.moveI rfl) ?_
    refine WL.va rfl rfl rfl (X.eql rfl rfl) ?_
    refine WL.va rfl rfl rfl (X.moveB rfl) ?_
    refine WL.split (j := 3) rfl (fun h50 => ?_) (fun h50 => ?_)
    · have gh50 := (of_decide_eq_true h50)
      refine WL.vg rfl (congrArg some h50) rfl rfl (X.moveI rfl) ?_
      refine WL.vg rfl (congrArg some h50) rfl rfl (X.moveI rfl) ?_
      refine WL.vg rfl (congrArg some h50) rfl rfl (X.eql rfl rfl) ?_
      refine WL.va rfl rfl rfl (X.pickT rfl h50 rfl) ?_
      refine WL.va rfl rfl rfl (X.moveB rfl) ?_
      refine WL.split (j := 8) rfl (fun h52 => ?_) (fun h52 => ?_)
      · have gh52 := (of_decide_eq_true h52)
        refine WL.vg rfl (congrArg some h52) rfl rfl (X.loadOA hO5 (Ext.refl _) rfl rfl Try.isAgg26 Try.sizeOf26) ?_
        refine WL.vg rfl (congrArg some h52) rfl rfl (X.loadOA hO7 (Ext.refl _) rfl rfl Try.isAgg26 Try.sizeOf26) ?_
        refine WL.cg rfl (congrArg some h52) rfl rfl (X.call Try.call17 (evl_cons rfl (evl_cons rfl evl_nil))) (sameOp_eq (hG.at.ext (Ext.trans (Ext.trans (Ext.trans (Ext.trans (Ext.trans (Ext.trans (Ext.store hx13 hx17 (by omega)) hx20) (Ext.store hx23 hx27 (by omega))) hx30) (Ext.store hx33 hx37 (by omega))) hx40) (Ext.store hx43 hx47 (by omega)))) (hR.ext (Ext.trans (Ext.trans (Ext.trans (Ext.trans (Ext.store hx23 hx27 (by omega)) hx30) (Ext.store hx33 hx37 (by omega))) hx40) (Ext.store hx43 hx47 (by omega)))) rfl) ?_
        rintro v54 w53 ⟨rfl, hx55⟩
        have := World.grownBy.size hx55
        refine WL.va rfl rfl rfl (X.pickT rfl h52 rfl) ?_
        refine WL.va rfl rfl rfl (X.moveB rfl) ?_
        refine WL.vg rfl rfl rfl rfl (X.loadOA hO9 hx55 rfl rfl Try.isAgg44 Try.sizeOf44) ?_
        refine WL.vg rfl rfl rfl rfl (X.loadOA hO11 hx55 rfl rfl Try.isAgg44 Try.sizeOf44) ?_
        refine WL.cg rfl rfl rfl rfl (X.call Try.call25 (evl_cons rfl (evl_cons rfl evl_nil))) (sameRes_eq (hX.at.ext (Ext.trans (Ext.trans (Ext.trans (Ext.store hx33 hx37 (by omega)) hx40) (Ext.store hx43 hx47 (by omega))) hx55)) (Row.ext hY (Ext.trans (Ext.store hx43 hx47 (by omega)) hx55)) ⟨rfl, rfl⟩) ?_
        rintro v58 w57 ⟨rfl, hx59⟩
        have := World.grownBy.size hx59
        refine WL.va rfl rfl rfl (X.pickT rfl rfl rfl) ?_
        refine WL.va rfl rfl rfl (X.assignB rfl) ?_
        refine WL.nil ?_
        refine thn_n ?_
        refine WF.seq ?_
        refine WF.region ?_
        refine WL.va rfl rfl rfl (X.loadOA hO5 (Ext.trans hx55 hx59) rfl rfl Try.isAgg26 Try.sizeOf26) ?_
        have hO9b := (hO9.ext (Ext.trans hx55 hx59))
        have oAb := own_ext oa (Ext.trans (Ext.trans (Ext.trans (Ext.trans (Ext.trans (Ext.trans (Ext.trans (Ext.trans (Ext.trans hx10 (Ext.store hx13 hx17 (by omega))) hx20) (Ext.store hx23 hx27 (by omega))) hx30) (Ext.store hx33 hx37 (by omega))) hx40) (Ext.store hx43 hx47 (by omega))) hx55) hx59)
        obtain ⟨Dx, Lx, oDx0, lo, hi, hx1, hx2, hx3⟩ := hX
        have oDx := own_ext oDx0 (Ext.trans (Ext.trans (Ext.trans (Ext.trans (Ext.store hx33 hx37 (by omega)) hx40) (Ext.store hx43 hx47 (by omega))) hx55) hx59)
        have hzG := World.grownBy.size (show Ext wG w57 from (Ext.trans (Ext.trans (Ext.trans (Ext.trans (Ext.trans (Ext.trans (Ext.trans (Ext.trans (Ext.store hx13 hx17 (by omega)) hx20) (Ext.store hx23 hx27 (by omega))) hx30) (Ext.store hx33 hx37 (by omega))) hx40) (Ext.store hx43 hx47 (by omega))) hx55) hx59))
        have hza0 := World.grownBy.size (show Ext wa w57 from (Ext.trans (Ext.trans (Ext.trans (Ext.trans (Ext.trans (Ext.trans (Ext.trans (Ext.trans (Ext.trans hx10 (Ext.store hx13 hx17 (by omega))) hx20) (Ext.store hx23 hx27 (by omega))) hx30) (Ext.store hx33 hx37 (by omega))) hx40) (Ext.store hx43 hx47 (by omega))) hx55) hx59))
        refine WL.c rfl rfl rfl (X.call Try.call26 (evl_cons rfl evl_nil)) (spoilOp_ok _ _ _ _ _ wG _ _ hG (Ext.trans (Ext.trans (Ext.trans (Ext.trans (Ext.trans (Ext.trans (Ext.trans (Ext.trans (Ext.store hx13 hx17 (by omega)) hx20) (Ext.store hx23 hx27 (by omega))) hx30) (Ext.store hx33 hx37 (by omega))) hx40) (Ext.store hx43 hx47 (by omega))) hx55) hx59)) ?_
        rintro v61 wS hcS
        have := hcS.size
        have hO9 := hO9b.chg hcS (.inr (by omega))
        have oA2 := own_chg oAb hcS (fun b hb => .inl (by have := (oa.lt b hb).2; omega))
        have oD2 := own_chg oDx hcS (fun b hb => .inr (by have := (oDx.lt b hb).1; omega))
        refine WL.nil ?_
        refine thn_n ?_
        refine WF.seq ?_
        refine WF.region ?_
        refine WL.va rfl rfl rfl (X.fieldAddrO (off := 1) rfl Try.underlying44 rfl rfl Try.sizeOf24) ?_
        refine WL.va rfl rfl rfl (X.loadO hO9 (Ext.refl _) rfl rfl Try.isAgg24) ?_
        refine WL.c rfl rfl rfl (X.call Try.call27 (evl_cons rfl evl_nil)) (spoilSeg_ok Dx vX Lx lo hi _ _ oD2 hx1 hx2) ?_
        rintro v65 w63 ⟨_, hx66⟩
        have := World.grownBy.size hx66
        replace hO9 := hO9.keptR hx66 (fun b hb => by have := (oDx0.lt b hb).2; omega)
        have oA3 := oA2.kept hx66 (ne_of (fun b hb => (oa.lt b hb).2) (fun b hb => by have := (oD2.lt b hb).1; omega))
        refine WL.nil ?_
        refine thn_n ?_
        refine WF.seq ?_
        refine WF.region ?_
        refine WL.va rfl rfl rfl (X.moveB rfl) ?_
        refine WL.va rfl rfl rfl (X.moveB rfl) ?_
        refine WL.vg rfl rfl rfl rfl (X.move rfl) ?_
        refine WL.vg rfl rfl rfl rfl (X.move rfl) ?_
        refine WL.cg rfl rfl rfl rfl (X.call Try.call28 (evl_cons rfl (evl_cons rfl evl_nil))) (kept_self (Bytes.of_own oA3) (Row.ext hb (grown_trans (Chg.ext (Ext.trans (Ext.trans (Ext.trans (Ext.trans (Ext.trans (Ext.trans (Ext.trans (Ext.trans (Ext.trans (Ext.trans hx8 hx10) (Ext.store hx13 hx17 (by omega))) hx20) (Ext.store hx23 hx27 (by omega))) hx30) (Ext.store hx33 hx37 (by omega))) hx40) (Ext.store hx43 hx47 (by omega))) hx55) hx59) hcS (by omega)) hx66 (fun i hi => by have := (oD2.lt i hi).1; omega))) (by omega)) ?_
        rintro v68 w67 ⟨rfl, hx69⟩
        have := World.grownBy.size hx69
        refine WL.va rfl rfl rfl (X.pickT rfl rfl rfl) ?_
        refine WL.va rfl rfl rfl (X.assignB rfl) ?_
        refine WL.nil ?_
        refine thn_n ?_
        refine WF.ret ?_
        refine fin_r ?_
        exact ⟨rfl, (Ext.trans (grown_trans (Chg.ext (Ext.trans (Ext.trans (Ext.trans (Ext.trans (Ext.trans (Ext.trans (Ext.trans (Ext.trans (Ext.trans (Ext.trans hx8 hx10) (Ext.store hx13 hx17 (by omega))) hx20) (Ext.store hx23 hx27 (by omega))) hx30) (Ext.store hx33 hx37 (by omega))) hx40) (Ext.store hx43 hx47 (by omega))) hx55) hx59) hcS (by omega)) hx66 (fun i hi => by have := (oD2.lt i hi).1; omega)) hx69)⟩
      · have gh52 := (of_decide_eq_false h52)
        exact absurd rfl gh52
    · have gh50 := (of_decide_eq_false h50)
      exact absurd rfl gh50

set_option maxHeartbeats 4000000 in
theorem opResults_walk (c : Int) (vD : Value) (D : List UInt8) (v : Value) (l : List UInt8) (cut : Int) (w : World) (hc : -9223372036854775808 ≤ c ∧ c ≤ 9223372036854775807) (hD : Bytes w vD D) (hb : Bytes w v l) (_hz : l.length ≤ 140737488351232) (hcut : -9223372036854775808 ≤ cut ∧ cut ≤ 9223372036854775807) : FnOk Try.prog 8 [agg [i64 c, vD], v, i64 cut] w (fun r w' => r = .bool true ∧ Ext w w') := by
  have lD := Bytes.le64 hD
  have lL := Bytes.le64 hb
  have hrl := rbytes_len c D
  have hgl := gotR_len l
  refine FnOk.enter (rs := [6]) Try.func8 rfl Try.ntmps8 Try.results8 rfl rfl ?_
  refine WF.seq ?_
  refine WF.region ?_
  refine WL.op rfl (OW.boxA (cs := [i64 c, vD]) rfl ?_ (by decide))
  intro g3 w1 heg3 hlg3 hO3 hx3
  have := World.grownBy.size hx3
  refine WL.va rfl rfl rfl (X.assignB rfl) ?_
  refine WL.nil ?_
  refine thn_n ?_
  refine WF.seq ?_
  refine WF.seq ?_
  refine WF.region ?_
  refine WL.va rfl rfl rfl (X.fieldAddrO (off := 1) rfl Try.underlying44 rfl rfl Try.sizeOf24) ?_
  refine WL.va rfl rfl rfl (X.loadO hO3 (Ext.refl _) rfl rfl Try.isAgg24) ?_
  refine WL.va rfl rfl rfl (X.len hD rfl Try.underlying24) ?_
  refine WL.va rfl rfl rfl (X.gtr rfl rfl) ?_
  refine WL.va rfl rfl rfl (X.moveB rfl) ?_
  refine WL.split (j := 4) rfl (fun h7 => ?_) (fun h7 => ?_)
  · have gh7 := (of_decide_eq_true h7)
    refine WL.p rfl rfl rfl (congrArg some h7) ?_
    refine WL.p rfl rfl rfl (congrArg some h7) ?_
    refine WL.p rfl rfl rfl (congrArg some h7) ?_
    refine WL.va rfl rfl rfl (X.pickT rfl h7 rfl) ?_
    refine WL.nil ?_
    refine thn_n ?_
    refine WF.cond_t rfl ?_
    refine WF.seq ?_
    refine WF.region ?_
    refine WL.c rfl rfl rfl (X.call Try.call10 evl_nil) (known_ok _) ?_
    rintro v10 w9 ⟨rfl, hx11⟩
    have := World.grownBy.size hx11
    refine WL.va rfl rfl rfl (X.assignB rfl) ?_
    refine WL.nil ?_
    refine thn_n ?_
    refine WF.ret ?_
    refine thn_r ?_
    refine fin_r ?_
    exact ⟨rfl, (Ext.trans hx3 hx11)⟩
  · have gh7 := (of_decide_eq_false h7)
    refine WL.vg rfl (congrArg some h7) rfl rfl (X.move rfl) ?_
    refine WL.vg rfl (congrArg some h7) rfl rfl (X.len hb rfl Try.underlying24) ?_
    refine WL.vg rfl (congrArg some h7) rfl rfl (X.gtr rfl rfl) ?_
    refine WL.va rfl rfl rfl (X.pickF rfl h7 rfl) ?_
    refine WL.nil ?_
    refine thn_n ?_
    refine WF.cond rfl (fun h0_13 => ?_) (fun h0_13 => ?_)
    · have gh0_13 := (of_decide_eq_true h0_13)
      refine WF.seq ?_
      refine WF.region ?_
      refine WL.c rfl rfl rfl (X.call Try.call10 evl_nil) (known_ok _) ?_
      rintro v16 w15 ⟨rfl, hx17⟩
      have := World.grownBy.size hx17
      refine WL.va rfl rfl rfl (X.assignB rfl) ?_
      refine WL.nil ?_
      refine thn_n ?_
      refine WF.ret ?_
      refine thn_r ?_
      refine fin_r ?_
      exact ⟨rfl, (Ext.trans hx3 hx17)⟩
    · have gh0_13 := (of_decide_eq_false h0_13)
      refine WF.skip ?_
      refine thn_n ?_
      refine WF.seq ?_
      refine WF.region ?_
      refine WL.va rfl rfl rfl (X.loadOA hO3 (Ext.refl _) rfl rfl Try.isAgg44 Try.sizeOf44) ?_
      refine WL.c rfl rfl rfl (X.call Try.call30 (evl_cons rfl evl_nil)) (putRes_ok c vD D _ (Row.ext hD hx3) (by omega)) ?_
      rintro vb wb ⟨ob, hx19⟩
      have := World.grownBy.size hx19
      have fb := Bytes.of_own ob
      refine WL.va rfl rfl rfl (X.assign rfl) ?_
      refine WL.nil ?_
      refine thn_n ?_
      refine WF.seq ?_
      refine WF.region ?_
      refine WL.va rfl rfl rfl (X.move rfl) ?_
      refine WL.c rfl rfl rfl (X.call Try.call23 (evl_cons rfl evl_nil)) (getRes_to (Row.ext fb (Ext.refl wb)) (by omega) (gotR_back hc (by omega))) ?_
      rintro v20 wX ⟨⟨vX, rfl, hX⟩, hx21⟩
      have := World.grownBy.size hx21
      refine WL.va rfl rfl rfl (X.move rfl) ?_
      refine WL.va rfl rfl rfl (X.extract rfl rfl) ?_
      refine WL.va rfl rfl rfl (X.extract rfl rfl) ?_
      refine WL.op rfl (OW.allocO (cs := [i64 0, .slice none 0 0]) Try.zeroValue44 rfl ?_ (by decide))
      intro g8 w22 heg8 hlg8 hO8 hx24
      have := World.grownBy.size hx24
      refine WL.op rfl (OW.storeOA hO8 rfl rfl rfl (one2 (Row.one hX.at)) Try.sizeOf44 ?_)
      intro w26 hO8 hx28
      have := World.grownBy.size hx28
      replace hO3 := (hO3.ext (Ext.trans (Ext.trans hx19 hx21) hx24)).keptO hx28 (by omega)
      refine WL.va rfl rfl rfl (X.assignI rfl) ?_
      refine WL.nil ?_
      refine thn_n ?_
      refine WF.seq ?_
      refine WF.region ?_
      refine WL.va rfl rfl rfl (X.move rfl) ?_
      refine WL.va rfl rfl rfl (X.moveI rfl) ?_
      refine WL.va rfl rfl rfl (X.move rfl) ?_
      refine WL.va rfl rfl rfl (X.len fb rfl Try.underlying24) ?_
      refine WL.c rfl rfl rfl (X.call Try.call19 (evl_cons rfl (evl_cons rfl evl_nil))) (pick_ok _ _ _ hcut (by omega)) ?_
      rintro v31 w30 ⟨⟨q0, rfl, hp0, hp1⟩, rfl⟩
      have hq := hp1 (by omega)
      obtain ⟨q, rfl⟩ := Int.eq_ofNat_of_zero_le hq.1
      refine WL.va rfl rfl rfl (X.slH fb rfl rfl (by omega) Try.underlying24 Try.sizeOf5) ?_
      refine WL.c rfl rfl rfl (X.call Try.call23 (evl_cons rfl evl_nil)) (getRes_to (l := (rbytes c D).take q) (by have := Bytes.part (Row.ext fb (Ext.trans hx21 (Ext.store hx24 hx28 (by omega)))) 0 q (Nat.zero_le _) (by omega); exact this) (by simp; omega) (gotR_cut hc (by omega) (by omega))) ?_
      rintro v34 w33 ⟨⟨vY, rfl, hY⟩, hx35⟩
      have := World.grownBy.size hx35
      refine WL.va rfl rfl rfl (X.move rfl) ?_
      refine WL.va rfl rfl rfl (X.extract rfl rfl) ?_
      refine WL.va rfl rfl rfl (X.extract rfl rfl) ?_
      refine WL.op rfl (OW.allocO (cs := [i64 0, .slice none 0 0]) Try.zeroValue44 rfl ?_ (by decide))
      intro g10 w36 heg10 hlg10 hO10 hx38
      have := World.grownBy.size hx38
      refine WL.op rfl (OW.storeOA hO10 rfl rfl rfl (one2 (Row.one hY.at)) Try.sizeOf44 ?_)
      intro w40 hO10 hx42
      have := World.grownBy.size hx42
      replace hO3 := (hO3.ext (Ext.trans hx35 hx38)).keptO hx42 (by omega)
      replace hO8 := (hO8.ext (Ext.trans hx35 hx38)).keptO hx42 (by omega)
      refine WL.va rfl rfl rfl (X.assignI rfl) ?_
      refine WL.nil ?_
      refine thn_n ?_
      refine WF.seq ?_
      refine WF.region ?_
      refine WL.va rfl rfl rfl (X.move rfl) ?_
      refine WL.c rfl rfl rfl (X.call Try.call23 (evl_cons rfl evl_nil)) (getRes_ok v l _ (Row.ext hb (Ext.trans (Ext.trans (Ext.trans (Ext.trans (Ext.trans hx3 hx19) hx21) (Ext.store hx24 hx28 (by omega))) hx35) (Ext.store hx38 hx42 (by omega)))) (by omega)) ?_
      rintro v44 wZ ⟨⟨vZ, rfl, hZ⟩, hx45⟩
      have := World.grownBy.size hx45
      refine WL.va rfl rfl rfl (X.move rfl) ?_
      refine WL.va rfl rfl rfl (X.extract rfl rfl) ?_
      refine WL.va rfl rfl rfl (X.extract rfl rfl) ?_
      refine WL.op rfl (OW.allocO (cs := [i64 0, .slice none 0 0]) Try.zeroValue44 rfl ?_ (by decide))
      intro g12 w46 heg12 hlg12 hO12 hx48
      have := World.grownBy.size hx48
      refine WL.op rfl (OW.storeOA hO12 rfl rfl rfl (one2 (Row.one hZ.at)) Try.sizeOf44 ?_)
      intro w50 hO12 hx52
      have := World.grownBy.size hx52
      replace hO3 := (hO3.ext (Ext.trans hx45 hx48)).keptO hx52 (by omega)
      replace hO8 := (hO8.ext (Ext.trans hx45 hx48)).keptO hx52 (by omega)
      replace hO10 := (hO10.ext (Ext.trans hx45 hx48)).keptO hx52 (by omega)
      refine WL.va rfl rfl rfl (X.assignI rfl) ?_
      refine WL.nil ?_
      refine thn_n ?_
      refine WF.seq ?_
      refine WF.seq ?_
      refine WF.region ?_
      refine WL.va rfl rfl rfl (X.moveI rfl) ?_
      refine WL.va rfl rfl rfl (X.eql rfl rfl) ?_
      refine WL.va rfl rfl rfl (X.moveB rfl) ?_
      refine WL.split (j := 2) rfl (fun h55 => ?_) (fun h55 => ?_)
      · have gh55 := (of_decide_eq_true h55)
        have hz : (gotR l).2 = 0 := gh55
        have hon := gotR_only hz
        refine WL.vg rfl (congrArg some h55) rfl rfl (X.loadOA hO12 (Ext.refl _) rfl rfl Try.isAgg44 Try.sizeOf44) ?_
        refine WL.cg rfl (congrArg some h55) rfl rfl (X.call Try.call30 (evl_cons rfl evl_nil)) (putRes_ok _ vZ _ _ (hZ.at.ext (Ext.store hx48 hx52 (by omega))) (by omega)) ?_
        rintro vq wq ⟨oq, hx56⟩
        have := World.grownBy.size hx56
        refine WL.vg rfl (congrArg some h55) rfl rfl (X.move rfl) ?_
        refine WL.cg rfl (congrArg some h55) rfl rfl (X.call Try.call16 (evl_cons rfl (evl_cons rfl evl_nil))) (sameBytes_self (Row.ext (Bytes.of_own oq) (Ext.refl wq)) (Row.ext hb (Ext.trans (Ext.trans (Ext.trans (Ext.trans (Ext.trans (Ext.trans (Ext.trans (Ext.trans hx3 hx19) hx21) (Ext.store hx24 hx28 (by omega))) hx35) (Ext.store hx38 hx42 (by omega))) hx45) (Ext.store hx48 hx52 (by omega))) hx56)) hon) ?_
        rintro v58 w57 ⟨rfl, hx59⟩
        have := World.grownBy.size hx59
        refine WL.vg rfl (congrArg some h55) rfl rfl (X.not rfl) ?_
        refine WL.va rfl rfl rfl (X.pickT rfl h55 rfl) ?_
        refine WL.va rfl rfl rfl (X.moveB rfl) ?_
        refine WL.vg rfl rfl rfl rfl (X.moveI rfl) ?_
        refine WL.vg rfl rfl rfl rfl (X.neq rfl rfl) ?_
        refine WL.vg rfl rfl rfl rfl (X.moveB rfl) ?_
        refine WL.split (j := 12) rfl (fun h63 => ?_) (fun h63 => ?_)
        · have gh63 := (of_decide_eq_true h63)
          exact absurd hz gh63
        · have gh63 := (Decidable.of_not_not (of_decide_eq_false h63))
          refine WL.p rfl rfl rfl (congrArg some h63) ?_
          refine WL.p rfl rfl rfl (congrArg some h63) ?_
          refine WL.p rfl rfl rfl (congrArg some h63) ?_
          refine WL.p rfl rfl rfl (congrArg some h63) ?_
          refine WL.pn rfl rfl rfl rfl ?_
          refine WL.pn rfl rfl rfl rfl ?_
          refine WL.pn rfl rfl rfl rfl ?_
          refine WL.pn rfl rfl rfl rfl ?_
          refine WL.p rfl rfl rfl (congrArg some h63) ?_
          refine WL.vg rfl rfl rfl rfl (X.pickF rfl h63 rfl) ?_
          refine WL.va rfl rfl rfl (X.pickF rfl rfl rfl) ?_
          refine WL.nil ?_
          refine thn_n ?_
          refine WF.cond_f rfl ?_
          refine WF.skip ?_
          refine thn_n ?_
          refine WF.seq ?_
          refine WF.region ?_
          refine WL.va rfl rfl rfl (X.moveI rfl) ?_
          refine WL.va rfl rfl rfl (X.eql rfl rfl) ?_
          refine WL.va rfl rfl rfl (X.moveB rfl) ?_
          refine WL.vg rfl rfl rfl rfl (X.loadOA hO3 (Ext.trans hx56 hx59) rfl rfl Try.isAgg44 Try.sizeOf44) ?_
          refine WL.vg rfl rfl rfl rfl (X.loadOA hO8 (Ext.trans hx56 hx59) rfl rfl Try.isAgg44 Try.sizeOf44) ?_
          refine WL.cg rfl rfl rfl rfl (X.call Try.call25 (evl_cons rfl (evl_cons rfl evl_nil))) (sameRes_eq (Row.ext hD (Ext.trans (Ext.trans (Ext.trans (Ext.trans (Ext.trans (Ext.trans (Ext.trans (Ext.trans (Ext.trans hx3 hx19) hx21) (Ext.store hx24 hx28 (by omega))) hx35) (Ext.store hx38 hx42 (by omega))) hx45) (Ext.store hx48 hx52 (by omega))) hx56) hx59)) (hX.at.ext (Ext.trans (Ext.trans (Ext.trans (Ext.trans (Ext.trans (Ext.trans (Ext.store hx24 hx28 (by omega)) hx35) (Ext.store hx38 hx42 (by omega))) hx45) (Ext.store hx48 hx52 (by omega))) hx56) hx59)) ⟨rfl, rfl⟩) ?_
          rintro v68 w67 ⟨rfl, hx69⟩
          have := World.grownBy.size hx69
          refine WL.va rfl rfl rfl (X.pickT rfl rfl rfl) ?_
          refine WL.va rfl rfl rfl (X.moveB rfl) ?_
          refine WL.vg rfl rfl rfl rfl (X.moveI rfl) ?_
          refine WL.vg rfl rfl rfl rfl (X.eql rfl rfl) ?_
          refine WL.va rfl rfl rfl (X.pickT rfl rfl rfl) ?_
          refine WL.va rfl rfl rfl (X.moveB rfl) ?_
          refine WL.vg rfl rfl rfl rfl (X.move rfl) ?_
          refine WL.vg rfl rfl rfl rfl (X.len fb rfl Try.underlying24) ?_
          refine WL.vg rfl rfl rfl rfl (X.fieldAddrO (off := 1) rfl Try.underlying44 rfl rfl Try.sizeOf24) ?_
          refine WL.vg rfl rfl rfl rfl (X.loadO hO3 (Ext.trans (Ext.trans hx56 hx59) hx69) rfl rfl Try.isAgg24) ?_
          refine WL.vg rfl rfl rfl rfl (X.len hD rfl Try.underlying24) ?_
          refine WL.vg rfl rfl rfl rfl (X.add rfl rfl (w64 (by omega))) ?_
          refine WL.vg rfl rfl rfl rfl (X.eql rfl rfl) ?_
          refine WL.va rfl rfl rfl (X.pickT rfl rfl rfl) ?_
          refine WL.va rfl rfl rfl (X.moveB rfl) ?_
          refine WL.split (j := 20) rfl (fun h73 => ?_) (fun h73 => ?_)
          · have gh73 := (of_decide_eq_true h73)
            refine WL.cg rfl (congrArg some h73) rfl rfl (X.call Try.call10 evl_nil) (known_ok _) ?_
            rintro v75 w74 ⟨rfl, hx76⟩
            have := World.grownBy.size hx76
            refine WL.va rfl rfl rfl (X.pickT rfl h73 rfl) ?_
            refine WL.va rfl rfl rfl (X.assignB rfl) ?_
            refine WL.nil ?_
            refine thn_n ?_
            refine WF.ret ?_
            refine fin_r ?_
            exact ⟨rfl, (Ext.trans (Ext.trans (Ext.trans (Ext.trans (Ext.trans (Ext.trans (Ext.trans (Ext.trans (Ext.trans (Ext.trans (Ext.trans hx3 hx19) hx21) (Ext.store hx24 hx28 (by omega))) hx35) (Ext.store hx38 hx42 (by omega))) hx45) (Ext.store hx48 hx52 (by omega))) hx56) hx59) hx69) hx76)⟩
          · have gh73 := (of_decide_eq_false h73)
            exact absurd (by omega) gh73
      · have gh55 := (of_decide_eq_false h55)
        have hz : ¬ (gotR l).2 = 0 := gh55
        have hno := gotR_bad hz
        refine WL.p rfl rfl rfl (congrArg some h55) ?_
        refine WL.p rfl rfl rfl (congrArg some h55) ?_
        refine WL.p rfl rfl rfl (congrArg some h55) ?_
        refine WL.p rfl rfl rfl (congrArg some h55) ?_
        refine WL.p rfl rfl rfl (congrArg some h55) ?_
        refine WL.va rfl rfl rfl (X.pickF rfl h55 rfl) ?_
        refine WL.va rfl rfl rfl (X.moveB rfl) ?_
        refine WL.vg rfl rfl rfl rfl (X.moveI rfl) ?_
        refine WL.vg rfl rfl rfl rfl (X.neq rfl rfl) ?_
        refine WL.vg rfl rfl rfl rfl (X.moveB rfl) ?_
        refine WL.split (j := 12) rfl (fun h80 => ?_) (fun h80 => ?_)
        · have gh80 := (of_decide_eq_true h80)
          refine WL.vg rfl (congrArg some h80) rfl rfl (X.fieldAddrO (off := 0) rfl Try.underlying44 rfl rfl Try.sizeOf30) ?_
          refine WL.vg rfl (congrArg some h80) rfl rfl (X.loadO hO12 (Ext.refl _) rfl rfl Try.isAgg30) ?_
          refine WL.vg rfl (congrArg some h80) rfl rfl (X.neq rfl rfl) ?_
          refine WL.vg rfl (congrArg some h80) rfl rfl (X.moveB rfl) ?_
          refine WL.split (j := 16) rfl (fun h82 => ?_) (fun h82 => ?_)
          · have gh82 := (of_decide_eq_true h82)
            exact absurd (by rw [hno]) gh82
          · have gh82 := (Decidable.of_not_not (of_decide_eq_false h82))
            refine WL.vg rfl (congrArg some h82) rfl rfl (X.fieldAddrO (off := 1) rfl Try.underlying44 rfl rfl Try.sizeOf24) ?_
            refine WL.vg rfl (congrArg some h82) rfl rfl (X.loadO hO12 (Ext.refl _) rfl rfl Try.isAgg24) ?_
            refine WL.vg rfl (congrArg some h82) rfl rfl (X.len hZ.at rfl Try.underlying24) ?_
            refine WL.vg rfl (congrArg some h82) rfl rfl (X.gtr rfl rfl) ?_
            refine WL.vg rfl (congrArg some h80) rfl rfl (X.pickF rfl h82 rfl) ?_
            refine WL.vg rfl rfl rfl rfl (X.pickT rfl h80 rfl) ?_
            refine WL.va rfl rfl rfl (X.pickF rfl rfl rfl) ?_
            refine WL.nil ?_
            refine thn_n ?_
            refine WF.cond rfl (fun h1_83 => ?_) (fun h1_83 => ?_)
            · have gh1_83 := (of_decide_eq_true h1_83)
              exact absurd gh1_83 (by rw [hno]; decide)
            · have gh1_83 := (of_decide_eq_false h1_83)
              refine WF.skip ?_
              refine thn_n ?_
              refine WF.seq ?_
              refine WF.region ?_
              refine WL.va rfl rfl rfl (X.moveI rfl) ?_
              refine WL.va rfl rfl rfl (X.eql rfl rfl) ?_
              refine WL.va rfl rfl rfl (X.moveB rfl) ?_
              refine WL.vg rfl rfl rfl rfl (X.loadOA hO3 (Ext.refl _) rfl rfl Try.isAgg44 Try.sizeOf44) ?_
              refine WL.vg rfl rfl rfl rfl (X.loadOA hO8 (Ext.refl _) rfl rfl Try.isAgg44 Try.sizeOf44) ?_
              refine WL.cg rfl rfl rfl rfl (X.call Try.call25 (evl_cons rfl (evl_cons rfl evl_nil))) (sameRes_eq (Row.ext hD (Ext.trans (Ext.trans (Ext.trans (Ext.trans (Ext.trans (Ext.trans (Ext.trans hx3 hx19) hx21) (Ext.store hx24 hx28 (by omega))) hx35) (Ext.store hx38 hx42 (by omega))) hx45) (Ext.store hx48 hx52 (by omega)))) (hX.at.ext (Ext.trans (Ext.trans (Ext.trans (Ext.trans (Ext.store hx24 hx28 (by omega)) hx35) (Ext.store hx38 hx42 (by omega))) hx45) (Ext.store hx48 hx52 (by omega)))) ⟨rfl, rfl⟩) ?_
              rintro v87 w86 ⟨rfl, hx88⟩
              have := World.grownBy.size hx88
              refine WL.va rfl rfl rfl (X.pickT rfl rfl rfl) ?_
              refine WL.va rfl rfl rfl (X.moveB rfl) ?_
              refine WL.vg rfl rfl rfl rfl (X.moveI rfl) ?_
              refine WL.vg rfl rfl rfl rfl (X.eql rfl rfl) ?_
              refine WL.va rfl rfl rfl (X.pickT rfl rfl rfl) ?_
              refine WL.va rfl rfl rfl (X.moveB rfl) ?_
              refine WL.vg rfl rfl rfl rfl (X.move rfl) ?_
              refine WL.vg rfl rfl rfl rfl (X.len fb rfl Try.underlying24) ?_
              refine WL.vg rfl rfl rfl rfl (X.fieldAddrO (off := 1) rfl Try.underlying44 rfl rfl Try.sizeOf24) ?_
              refine WL.vg rfl rfl rfl rfl (X.loadO hO3 hx88 rfl rfl Try.isAgg24) ?_
              refine WL.vg rfl rfl rfl rfl (X.len hD rfl Try.underlying24) ?_
              refine WL.vg rfl rfl rfl rfl (X.add rfl rfl (w64 (by omega))) ?_
              refine WL.vg rfl rfl rfl rfl (X.eql rfl rfl) ?_
              refine WL.va rfl rfl rfl (X.pickT rfl rfl rfl) ?_
              refine WL.va rfl rfl rfl (X.moveB rfl) ?_
              refine WL.split (j := 20) rfl (fun h92 => ?_) (fun h92 => ?_)
              · have gh92 := (of_decide_eq_true h92)
                refine WL.cg rfl (congrArg some h92) rfl rfl (X.call Try.call10 evl_nil) (known_ok _) ?_
                rintro v94 w93 ⟨rfl, hx95⟩
                have := World.grownBy.size hx95
                refine WL.va rfl rfl rfl (X.pickT rfl h92 rfl) ?_
                refine WL.va rfl rfl rfl (X.assignB rfl) ?_
                refine WL.nil ?_
                refine thn_n ?_
                refine WF.ret ?_
                refine fin_r ?_
                exact ⟨rfl, (Ext.trans (Ext.trans (Ext.trans (Ext.trans (Ext.trans (Ext.trans (Ext.trans (Ext.trans (Ext.trans hx3 hx19) hx21) (Ext.store hx24 hx28 (by omega))) hx35) (Ext.store hx38 hx42 (by omega))) hx45) (Ext.store hx48 hx52 (by omega))) hx88) hx95)⟩
              · have gh92 := (of_decide_eq_false h92)
                exact absurd (by omega) gh92
        · have gh80 := (Decidable.of_not_not (of_decide_eq_false h80))
          exact absurd gh80 hz

end Go.Proofs.Ythaojdpeimlngaa
