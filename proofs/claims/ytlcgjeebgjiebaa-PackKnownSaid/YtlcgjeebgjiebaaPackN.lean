/- The chapter's examples. -/
import Derived.Test.YtlcgjeebgjiebaaPackU
import Derived.Test.YtlcgjeebgjiebaaPackX
namespace Go.Proofs.Ytlcgjeebgjiebaa
open Go Go.RowKit Kf

/-- the bytes of glebekit.Row -/
def rowB (n : Nat) : List UInt8 := (List.range n).map fun i => UInt8.ofNat (i * 7 + 1)
theorem rowB_len (n : Nat) : (rowB n).length = n := by simp [rowB]
theorem rowB_step {n k : Nat} {L : List UInt8} (hk : k < n) (hL : L.length = n) (h : L.take k = (rowB n).take k) : (L.set k (UInt8.ofNat (k * 7 + 1))).take (k + 1) = (rowB n).take (k + 1) := by
  rw [take_set_succ _ _ _ (by omega), h, List.take_succ_eq_append_getElem (by rw [rowB_len]; omega)]
  simp [rowB]
theorem rowB_u8 (k : Nat) : IntKind.u8.wrap ((k : Int) * 7 + 1) = ((UInt8.ofNat (k * 7 + 1)).toNat : Int) := by
  rw [IntKind.wrap_u8, UInt8.toNat_ofNat']; omega
theorem max0 (n : Int) : max 0 n = (n.toNat : Int) := by omega
theorem row_ok (n : Int) (w : World) (hn : n ≤ 281474976710651) : FnOk Try.prog 36 [i64 n] w (fun r w' => OwnB w' w.heap.size 5 r (rowB n.toNat) ∧ Ext w w') := by
  refine FnOk.enter (rs := [2]) Try.func36 rfl Try.ntmps36 Try.results36 rfl rfl ?_
  refine WF.seq ?_
  refine WF.region ?_
  refine WL.va rfl rfl rfl (X.assign rfl) ?_
  refine WL.nil ?_
  refine thn_n ?_
  refine WF.seq ?_
  refine WF.region ?_
  refine WL.va rfl rfl rfl (X.moveI rfl) ?_
  refine WL.va rfl rfl rfl ((X.max2 rfl rfl).trans (by rw [max0])) ?_
  refine WL.op rfl (OW.makeB (n := n.toNat) rfl rfl Try.underlying22 Try.type5 rfl rfl rfl (by omega) ?_ (by decide))
  intro v2 w1 ho4 hx3
  have hmk := ho4
  obtain ⟨vm, hvm⟩ : ∃ vm, vm = v2 := ⟨_, rfl⟩
  subst hvm
  refine WL.va rfl rfl rfl (X.assign rfl) ?_
  refine WL.nil ?_
  refine thn_n ?_
  refine WF.seq ?_
  refine WF.seq ?_
  refine WF.region ?_
  refine WL.va rfl rfl rfl (X.assignI rfl) ?_
  refine WL.nil ?_
  refine thn_n ?_
  refine WF.block ?_
  refine WF.named (fun F5 hF6 => ?_)
  refine WF.loopN (fun mL0 f' w' => ∃ (k : Nat) (L : List UInt8), mL0 = n.toNat - k ∧ f' 4 = .int .i64 (k : Int) ∧ Agree [0, 2, 3, 5, 6, 7] f' F5 ∧ Ext w w' ∧ k ≤ n.toNat ∧ L.length = n.toNat ∧ L.take k = (rowB n.toNat).take k ∧ OwnB w' w.heap.size 5 vm L) ?_ ?_
  · exact ⟨_, 0, List.replicate n.toNat 0, rfl, (congrFun hF6 4), (Agree.refl _ _), hx3, ⟨Nat.zero_le _, by simp, by simp, hmk⟩⟩
  · rintro mL0 fL0 wL0 ⟨k, L, hmL0, e4_L0, hAL0, hwL0, ⟨hk, hL, hLk, ho⟩⟩
    refine WF.seq ?_
    refine WF.seq ?_
    refine WF.region ?_
    refine WL.va rfl rfl rfl (X.moveI e4_L0) ?_
    refine WL.va rfl rfl rfl (X.move ((hAL0.eq 3).trans (congrFun hF6 3))) ?_
    refine WL.va rfl rfl rfl (X.len (Bytes.of_own ho) rfl Try.underlying22) ?_
    refine WL.va rfl rfl rfl (X.lss rfl rfl) ?_
    refine WL.nil ?_
    refine thn_n ?_
    refine WF.cond rfl (fun h0_7 => ?_) (fun h0_7 => ?_)
    · have gh0_7 := (of_decide_eq_true h0_7)
      refine WF.skip ?_
      refine thn_n ?_
      refine WF.seq ?_
      refine WF.block ?_
      refine WF.region ?_
      refine WL.va rfl rfl rfl (X.move ((hAL0.eq 3).trans (congrFun hF6 3))) ?_
      refine WL.va rfl rfl rfl (X.moveI e4_L0) ?_
      refine WL.va rfl rfl rfl (X.moveI e4_L0) ?_
      refine WL.va rfl rfl rfl (X.mul rfl rfl (w64 (by omega))) ?_
      refine WL.va rfl rfl rfl (X.add rfl rfl (w64 (by omega))) ?_
      refine WL.va rfl rfl rfl (X.conv rfl (congrArg Option.isSome Try.underlying3) Try.underlying5 (rowB_u8 k)) ?_
      refine WL.va rfl rfl rfl (X.idx (Bytes.of_own ho) rfl rfl (by omega) Try.underlying22 Try.sizeOf5) ?_
      refine WL.op rfl (OW.storeB (c := UInt8.ofNat (k * 7 + 1)) ho (by omega) rfl rfl Try.sizeOf5 ?_)
      intro w9 ho12 hx11
      have ho1 := ho12
      refine WL.nil ?_
      refine blk_n ?_
      refine thn_n ?_
      refine WF.region ?_
      refine WL.va rfl rfl rfl (X.moveI e4_L0) ?_
      refine WL.va rfl rfl rfl (X.add rfl rfl (w64 (by omega))) ?_
      refine WL.va rfl rfl rfl (X.assignI rfl) ?_
      refine WL.nil ?_
      exact thn_n ⟨_, (by omega), k + 1, _, rfl, rfl, (by repeat (first | exact hAL0 | refine Agree.put ?_ rfl | refine Agree.named hF6 ?_)), (Ext.own hwL0 ho (Nat.le_refl _) hx11), ⟨by omega, by simp [hL], rowB_step (by omega) hL hLk, ho1⟩⟩
    · have gh0_7 := (of_decide_eq_false h0_7)
      refine WF.exit ?_
      refine thn_x ?_
      refine thn_x ?_
      refine blk_eq ?_
      refine thn_n ?_
      refine WF.seq ?_
      refine WF.region ?_
      refine WL.va rfl rfl rfl (X.move ((hAL0.eq 3).trans (congrFun hF6 3))) ?_
      refine WL.va rfl rfl rfl (X.assign rfl) ?_
      refine WL.nil ?_
      refine thn_n ?_
      refine WF.ret ?_
      refine fin_r ?_
      exact ⟨by rw [show L = rowB n.toNat from by rw [List.take_of_length_le (by omega), List.take_of_length_le (by rw [rowB_len]; omega)] at hLk; exact hLk] at ho; exact ho, hwL0⟩

def NL : List Int := [-9223372036854775808, -1, 0, 1, 2, 7, 8, 9, 255, 256, 1099511627776, 1152921504606846975, 1152921504606846976, 2305843009213693951, 2305843009213693952, 9223372036854775807]
theorem NL_in : In64 NL := by unfold In64 NL; decide
theorem in3 {a b c : Int} (h : -9223372036854775808 ≤ a ∧ a ≤ 9223372036854775807 ∧ -9223372036854775808 ≤ b ∧ b ≤ 9223372036854775807 ∧ -9223372036854775808 ≤ c ∧ c ≤ 9223372036854775807) : In64 [a, b, c] := by
  intro x hx
  simp only [List.mem_cons, List.not_mem_nil, or_false] at hx
  omega
theorem in64_nil : In64 [] := fun x h => by cases h
theorem things3 {w : World} {v p1 l1 p2 l2 p3 l3 : Value} {t1 t2 t3 : Thing} {B : Nat} {e : TypeId} (ho : w.ownsRow B e 4 v 3 [i64 t1.kind, i64 t1.v, p1, l1, i64 t2.kind, i64 t2.v, p2, l2, i64 t3.kind, i64 t3.v, p3, l3])
    (h1 : Bytes w p1 t1.p ∧ Ints w l1 t1.l ∧ (-9223372036854775808 ≤ t1.v ∧ t1.v ≤ 9223372036854775807) ∧ In64 t1.l)
    (h2 : Bytes w p2 t2.p ∧ Ints w l2 t2.l ∧ (-9223372036854775808 ≤ t2.v ∧ t2.v ≤ 9223372036854775807) ∧ In64 t2.l)
    (h3 : Bytes w p3 t3.p ∧ Ints w l3 t3.l ∧ (-9223372036854775808 ≤ t3.v ∧ t3.v ≤ 9223372036854775807) ∧ In64 t3.l) : Things w v [t1, t2, t3] := by
  refine ⟨_, Row.of_own ho, fun k hk => ?_⟩
  match k, hk with
  | 0, _ => exact ⟨p1, l1, rfl, rfl, rfl, rfl, h1⟩
  | 1, _ => exact ⟨p2, l2, rfl, rfl, rfl, rfl, h2⟩
  | 2, _ => exact ⟨p3, l3, rfl, rfl, rfl, rfl, h3⟩
theorem zero64 : -9223372036854775808 ≤ (0 : Int) ∧ (0 : Int) ≤ 9223372036854775807 := by decide
theorem things0 (w : World) : Things w (.slice none 0 0) [] := ⟨[], Row.nil w 4, fun k hk => by cases hk⟩
theorem int_m1 : (⟨[] ++ Pk.enc (-1), false⟩ : Pk.RS).int.1 = -1 := by decide +kernel
set_option maxHeartbeats 4000000 in
theorem packKnown_walk (w : World) : FnOk Try.prog 8 [] w (fun r w' => r = .bool true ∧ Ext w w') := by
  refine FnOk.enter (rs := [0]) Try.func8 rfl Try.ntmps8 Try.results8 rfl rfl ?_
  refine WF.seq ?_
  refine WF.region ?_
  refine WL.va rfl rfl rfl (X.assignB rfl) ?_
  refine WL.nil ?_
  refine thn_n ?_
  refine WF.seq ?_
  refine WF.region ?_
  refine WL.op rfl (OW.lits (vs := [_, _, _, _, _, _, _, _, _, _, _, _, _, _, _, _]) (evp_cons rfl (evp_cons rfl (evp_cons rfl (evp_cons rfl (evp_cons rfl (evp_cons rfl (evp_cons rfl (evp_cons rfl (evp_cons rfl (evp_cons rfl (evp_cons rfl (evp_cons rfl (evp_cons rfl (evp_cons rfl (evp_cons rfl (evp_cons rfl evp_nil)))))))))))))))) Try.underlying23 Try.sizeOf3 Try.zeroValue3 ⟨rfl, rfl, rfl, rfl, rfl, rfl, rfl, rfl, rfl, rfl, rfl, rfl, rfl, rfl, rfl, rfl, trivial⟩ rfl rfl rfl ?_ (by decide))
  intro vn wn ho3 hx2
  have n1 := Row.one (show Ints _ vn NL from Row.of_own ho3)
  refine WL.va rfl rfl rfl (X.assign rfl) ?_
  refine WL.nil ?_
  refine thn_n ?_
  refine WF.seq ?_
  refine WF.seq ?_
  refine WF.region ?_
  refine WL.va rfl rfl rfl (X.assignI rfl) ?_
  refine WL.nil ?_
  refine thn_n ?_
  refine WF.block ?_
  refine WF.named (fun F4 hF5 => ?_)
  refine WF.loopN (fun mL0 f' w' => ∃ (k : Nat), mL0 = 16 - k ∧ f' 2 = .int .i64 (k : Int) ∧ Agree [1, 7] f' F4 ∧ Ext wn w' ∧ k ≤ 16) ?_ ?_
  · exact ⟨_, 0, rfl, (congrFun hF5 2), (Agree.refl _ _), (Ext.refl _), (by decide)⟩
  · rintro mL0 fL0 wL0 ⟨k, hmL0, e2_L0, hAL0, hwL0, hiL0⟩
    have hNL : NL.length = 16 := rfl
    refine WF.seq ?_
    refine WF.seq ?_
    refine WF.region ?_
    refine WL.va rfl rfl rfl (X.moveI e2_L0) ?_
    refine WL.va rfl rfl rfl (X.move ((hAL0.eq 1).trans (congrFun hF5 1))) ?_
    refine WL.va rfl rfl rfl (X.len (show Ints _ vn NL from Row.of_own ho3) rfl Try.underlying23) ?_
    refine WL.va rfl rfl rfl (X.lss rfl rfl) ?_
    refine WL.nil ?_
    refine thn_n ?_
    refine WF.cond rfl (fun h0_6 => ?_) (fun h0_6 => ?_)
    · have gh0_6 := (of_decide_eq_true h0_6)
      have hk16 : k < NL.length := by omega
      have hk64 := NL_in.at hk16
      refine WF.skip ?_
      refine thn_n ?_
      refine WF.seq ?_
      refine WF.block ?_
      refine WF.seq ?_
      refine WF.region ?_
      refine WL.va rfl rfl rfl (X.move ((hAL0.eq 1).trans (congrFun hF5 1))) ?_
      refine WL.va rfl rfl rfl (X.moveI e2_L0) ?_
      refine WL.va rfl rfl rfl (X.idx (show Ints _ vn NL from Row.of_own ho3) rfl rfl (by omega) Try.underlying23 Try.sizeOf3) ?_
      refine WL.va rfl rfl rfl (X.loadI (show Ints _ vn NL from Row.of_own ho3) hwL0 rfl (by omega) Try.isAgg3) ?_
      refine WL.c rfl rfl rfl (X.call Try.call12 (evl_cons rfl (evl_cons rfl evl_nil))) (int_ok (.slice none 0 0) [] _ _ (Bytes.nil _) (by decide)) ?_
      rintro vb wb ⟨ob, hx8⟩
      have fb := Bytes.of_own ob
      refine WL.va rfl rfl rfl (X.assign rfl) ?_
      refine WL.nil ?_
      refine thn_n ?_
      refine WF.seq ?_
      refine WF.seq ?_
      refine WF.region ?_
      refine WL.va rfl rfl rfl (X.assignI rfl) ?_
      refine WL.nil ?_
      refine thn_n ?_
      refine WF.block ?_
      refine WF.named (fun F9 hF10 => ?_)
      refine WF.loopN (fun mL1 f' w' => ∃ (j : Nat), mL1 = 6 - j ∧ f' 4 = .int .i64 (5 * (j : Int)) ∧ Agree [1, 2, 3, 7, 8, 9, 10, 11, 14, 15, 16, 17, 18] f' F9 ∧ Ext wb w' ∧ j ≤ 6) ?_ ?_
      · exact ⟨_, 0, rfl, (congrFun hF10 4), (Agree.refl _ _), (Ext.refl _), (by decide)⟩
      · rintro mL1 fL1 wL1 ⟨j, hmL1, e4_L1, hAL1, hwL1, hiL1⟩
        refine WF.seq ?_
        refine WF.seq ?_
        refine WF.region ?_
        refine WL.va rfl rfl rfl (X.moveI e4_L1) ?_
        refine WL.va rfl rfl rfl (X.lss rfl rfl) ?_
        refine WL.nil ?_
        refine thn_n ?_
        refine WF.cond rfl (fun h1_11 => ?_) (fun h1_11 => ?_)
        · have gh1_11 := (of_decide_eq_true h1_11)
          refine WF.skip ?_
          refine thn_n ?_
          refine WF.seq ?_
          refine WF.block ?_
          refine WF.seq ?_
          refine WF.region ?_
          refine WL.va rfl rfl rfl (X.move ((hAL1.eq 3).trans (congrFun hF10 3))) ?_
          have szb := World.grownBy.size hwL1
          refine WL.c rfl rfl rfl (X.call Try.call33 (evl_cons rfl evl_nil)) (copyBytes_ok _ _ _ (Row.ext fb hwL1) (by simp [Pk.enc_len])) ?_
          rintro v14 w13 ⟨oc, hx15⟩
          have oc : OwnB _ _ _ _ _ := own_mono oc szb
          have szb := Nat.le_trans szb (World.grownBy.size hx15)
          refine WL.va rfl rfl rfl (X.moveI e4_L1) ?_
          refine WL.c rfl rfl rfl (X.call Try.call36 (evl_cons rfl evl_nil)) (row_ok _ _ (by omega)) ?_
          rintro v17 w16 ⟨orow, hx18⟩
          have oc := oc.ext hx18
          have szb := Nat.le_trans szb (World.grownBy.size hx18)
          refine WL.op rfl (OW.appendB oc (Bytes.of_own orow) rfl rfl Try.underlying22 Try.type5 rfl rfl rfl rfl (by rw [rowB_len]; simp [Pk.enc_len]; omega) szb ?_ (by decide))
          intro v20 w19 ho22 hx21 hmvhx21
          have fc := Bytes.of_own ho22
          have hlc : ([] ++ Pk.enc (NL.getD k 0) ++ rowB (5 * (j : Int)).toNat).length = 8 + 5 * j := by simp [rowB_len, Pk.enc_len]; omega
          refine WL.va rfl rfl rfl (X.assign rfl) ?_
          refine WL.nil ?_
          refine thn_n ?_
          refine WF.seq ?_
          refine WF.region ?_
          refine WL.va rfl rfl rfl (X.move rfl) ?_
          refine WL.op rfl (OW.lits (vs := [_, _, _]) (evp_cons rfl (evp_cons rfl (evp_cons rfl evp_nil))) Try.underlying23 Try.sizeOf3 Try.zeroValue3 ⟨rfl, rfl, rfl, trivial⟩ rfl rfl rfl ?_ (by decide))
          intro v24 w23 ho26 hx25
          refine WL.c rfl rfl rfl (X.call Try.call4 (evl_cons rfl (evl_cons rfl evl_nil))) (packReads_walk _ _ _ _ _ (Row.ext fc hx25) (by rw [hlc]; omega) (show Ints _ _ [0, 0, 0] from Row.of_own ho26) (in3 (by omega)) (by decide)) ?_
          rintro v28 w27 ⟨rfl, hx29⟩
          refine WL.va rfl rfl rfl (X.not rfl) ?_
          refine WL.va rfl rfl rfl (X.moveB rfl) ?_
          refine WL.vg rfl rfl rfl rfl (X.move rfl) ?_
          refine WL.opg rfl rfl (OW.lits (vs := [_, _]) (evp_cons rfl (evp_cons rfl evp_nil)) Try.underlying23 Try.sizeOf3 Try.zeroValue3 ⟨rfl, rfl, trivial⟩ rfl rfl rfl ?_ (by decide))
          intro v33 w32 ho35 hx34
          refine WL.cg rfl rfl rfl rfl (X.call Try.call4 (evl_cons rfl (evl_cons rfl evl_nil))) (packReads_walk _ _ _ _ _ (Row.ext fc (Ext.trans (Ext.trans hx25 hx29) hx34)) (by rw [hlc]; omega) (show Ints _ _ [1, 0] from Row.of_own ho35) (by unfold In64; decide) (by decide)) ?_
          rintro v37 w36 ⟨rfl, hx38⟩
          refine WL.vg rfl rfl rfl rfl (X.not rfl) ?_
          refine WL.va rfl rfl rfl (X.pickF rfl rfl rfl) ?_
          refine WL.va rfl rfl rfl (X.moveB rfl) ?_
          refine WL.vg rfl rfl rfl rfl (X.move rfl) ?_
          refine WL.opg rfl rfl (OW.lits (vs := [_, _, _]) (evp_cons rfl (evp_cons rfl (evp_cons rfl evp_nil))) Try.underlying23 Try.sizeOf3 Try.zeroValue3 ⟨rfl, rfl, rfl, trivial⟩ rfl rfl rfl ?_ (by decide))
          intro v42 w41 ho44 hx43
          refine WL.cg rfl rfl rfl rfl (X.call Try.call4 (evl_cons rfl (evl_cons rfl evl_nil))) (packReads_walk _ _ _ _ _ (Row.ext fc (Ext.trans (Ext.trans (Ext.trans (Ext.trans hx25 hx29) hx34) hx38) hx43)) (by rw [hlc]; omega) (show Ints _ _ [2, 2, 1] from Row.of_own ho44) (in3 (by omega)) (by decide)) ?_
          rintro v46 w45 ⟨rfl, hx47⟩
          refine WL.vg rfl rfl rfl rfl (X.not rfl) ?_
          refine WL.va rfl rfl rfl (X.pickF rfl rfl rfl) ?_
          refine WL.va rfl rfl rfl (X.moveB rfl) ?_
          refine WL.vg rfl rfl rfl rfl (X.move rfl) ?_
          refine WL.vg rfl rfl rfl rfl (X.moveI e4_L1) ?_
          refine WL.vg rfl rfl rfl rfl (X.rem rfl rfl (by omega) (show (5 * (j : Int)).tmod 8 = ((5 * j % 8 : Nat) : Int) from by rw [Int.tmod_eq_emod_of_nonneg (by omega)]; omega)) ?_
          refine WL.vg rfl rfl rfl rfl (X.slH fc rfl rfl (by rw [hlc]; omega) Try.underlying22 Try.sizeOf5) ?_
          refine WL.opg rfl rfl (OW.lits (vs := [_]) (evp_cons rfl evp_nil) Try.underlying23 Try.sizeOf3 Try.zeroValue3 ⟨rfl, trivial⟩ rfl rfl rfl ?_ (by decide))
          intro v51 w50 ho53 hx52
          refine WL.cg rfl rfl rfl rfl (X.call Try.call4 (evl_cons rfl (evl_cons rfl evl_nil))) (packReads_walk _ _ _ _ _ (Row.ext (Bytes.part (Row.ext fc (Ext.trans (Ext.trans (Ext.trans (Ext.trans (Ext.trans hx25 hx29) hx34) hx38) hx43) hx47)) 0 (5 * j % 8) (Nat.zero_le _) (by rw [hlc]; omega)) hx52) (by simp; omega) (show Ints _ _ [2] from Row.of_own ho53) (by unfold In64; decide) (by decide)) ?_
          rintro v55 w54 ⟨rfl, hx56⟩
          refine WL.vg rfl rfl rfl rfl (X.not rfl) ?_
          refine WL.va rfl rfl rfl (X.pickF rfl rfl rfl) ?_
          refine WL.nil ?_
          refine thn_n ?_
          refine WF.cond_f rfl ?_
          refine WF.skip ?_
          refine blk_n ?_
          refine thn_n ?_
          refine WF.region ?_
          refine WL.va rfl rfl rfl (X.moveI e4_L1) ?_
          refine WL.va rfl rfl rfl (X.add rfl rfl (w64 (by omega))) ?_
          refine WL.va rfl rfl rfl (X.assignI rfl) ?_
          refine WL.nil ?_
          exact thn_n ⟨_, (by omega), j + 1, rfl, (show Value.int .i64 (5 * (j : Int) + 5) = .int .i64 (5 * ((j + 1 : Nat) : Int)) from congrArg _ (by omega)), (by repeat (first | exact hAL1 | refine Agree.put ?_ rfl | refine Agree.sub hAL0 rfl ?_ | refine Agree.named hF10 ?_ | refine Agree.named hF5 ?_)), (Ext.trans (Ext.trans (Ext.trans (Ext.trans (Ext.trans (Ext.trans (Ext.trans (Ext.trans (Ext.own (Ext.trans (Ext.trans hwL1 hx15) hx18) oc (Nat.le_refl _) hx21) hx25) hx29) hx34) hx38) hx43) hx47) hx52) hx56), (by omega)⟩
        · have gh1_11 := (of_decide_eq_false h1_11)
          refine WF.exit ?_
          refine thn_x ?_
          refine thn_x ?_
          refine blk_eq ?_
          refine thn_n ?_
          refine WF.seq ?_
          refine WF.drawn (.q 0 (.q 1 (.q 2 (.q 3 (.q 4 (.q 5 (.q 6 (.l 7 (.q 8 (.q 9 (.q 10 (.q 11 (.q 12 (.q 13 (.q 14 (.q 15 (.q 16 (.q 17 (.q 18 (.l 19 (.l 20 (.q 21 (.q 22 (.q 23 (.q 24 (.q 25 (.q 26 (.q 27 (.q 28 (.q 29 (.q 30 (.q 31 (.q 33 (.q 34 (.q 35 (.q 36 (.q 37 (.l 32 (.l 38 (.q 39 (.q 40 .nil))))))))))))))))))))))))))))))))))))))))) (fun w' => Ext wL1 w') 41 (by kernel_rfl) (by kernel_rfl) (Ext.drew _) ?_
          refine WO.q rfl rfl rfl rfl (fun w' hE59 => (X.move ((hAL1.eq 3).trans (congrFun hF10 3)))) ?_
          refine WO.q rfl rfl rfl rfl (fun w' hE59 => (X.move ((hAL1.eq 3).trans (congrFun hF10 3)))) ?_
          refine WO.q rfl rfl rfl rfl (fun w' hE59 => (X.move ((hAL1.eq 1).trans ((congrFun hF10 1).trans ((hAL0.eq 1).trans (congrFun hF5 1)))))) ?_
          refine WO.q rfl rfl rfl rfl (fun w' hE59 => (X.moveI ((hAL1.eq 2).trans ((congrFun hF10 2).trans e2_L0)))) ?_
          refine WO.q rfl rfl rfl rfl (fun w' hE59 => (X.idx (show Ints _ vn NL from Row.of_own ho3) rfl rfl (by omega) Try.underlying23 Try.sizeOf3)) ?_
          refine WO.q rfl rfl rfl rfl (fun w' hE59 => (X.loadI (show Ints _ vn NL from Row.of_own ho3) (Ext.trans (Ext.trans (Ext.trans hwL0 hx8) hwL1) hE59) rfl (by omega) Try.isAgg3)) ?_
          refine WO.q rfl rfl rfl rfl (fun w' hE59 => (X.move ((hAL1.eq 1).trans ((congrFun hF10 1).trans ((hAL0.eq 1).trans (congrFun hF5 1)))))) ?_
          refine WO.l ?_
          refine LO.go rfl rfl (OW.enter rfl (by decide) (X.call Try.call3 (evl_cons rfl (evl_cons rfl (evl_cons rfl (evl_cons rfl evl_nil))))) (packPuts_walk _ _ _ _ _ _ _ _ (Row.ext fb (Ext.trans hwL1 (Ext.drew _))) (by simp [Pk.enc_len]) (Row.ext fb (Ext.trans hwL1 (Ext.drew _))) (by simp [Pk.enc_len]) hk64 (Row.ext (show Ints _ vn NL from Row.of_own ho3) (Ext.trans (Ext.trans (Ext.trans hwL0 hx8) hwL1) (Ext.drew _))) NL_in (by decide)) ?_)
          rintro v61 w60 ⟨rfl, hx62⟩
          refine ⟨(Ext.trans (Ext.drew _) hx62), ?_⟩
          refine WO.q rfl rfl rfl rfl (fun w' hE59 => (X.not rfl)) ?_
          refine WO.q rfl rfl rfl rfl (fun w' hE59 => (X.moveB rfl)) ?_
          refine WO.qg rfl rfl rfl rfl rfl (fun w' hE59 => (X.move ((hAL1.eq 1).trans ((congrFun hF10 1).trans ((hAL0.eq 1).trans (congrFun hF5 1)))))) ?_
          refine WO.qg rfl rfl rfl rfl rfl (fun w' hE59 => (X.moveI ((hAL1.eq 2).trans ((congrFun hF10 2).trans e2_L0)))) ?_
          refine WO.qg rfl rfl rfl rfl rfl (fun w' hE59 => (X.idx (show Ints _ vn NL from Row.of_own ho3) rfl rfl (by omega) Try.underlying23 Try.sizeOf3)) ?_
          refine WO.qg rfl rfl rfl rfl rfl (fun w' hE59 => (X.loadI (show Ints _ vn NL from Row.of_own ho3) (Ext.trans (Ext.trans (Ext.trans hwL0 hx8) hwL1) hE59) rfl (by omega) Try.isAgg3)) ?_
          refine WO.qg rfl rfl rfl rfl rfl (fun w' hE59 => (X.build (evp_cons rfl evp_nil) Try.type55 Try.underlying55 rfl rfl ⟨rfl, trivial⟩ rfl)) ?_
          refine WO.qg rfl rfl rfl rfl rfl (fun w' hE59 => (X.move ((hAL1.eq 3).trans (congrFun hF10 3)))) ?_
          refine WO.qg rfl rfl rfl rfl rfl (fun w' hE59 => (X.build (evp_cons rfl (evp_cons rfl evp_nil)) Try.type55 Try.underlying55 rfl rfl ⟨rfl, fb.one, trivial⟩ rfl)) ?_
          refine WO.qg rfl rfl rfl rfl rfl (fun w' hE59 => (X.move ((hAL1.eq 1).trans ((congrFun hF10 1).trans ((hAL0.eq 1).trans (congrFun hF5 1)))))) ?_
          refine WO.qg rfl rfl rfl rfl rfl (fun w' hE59 => (X.build (evp_cons rfl (evp_cons rfl evp_nil)) Try.type55 Try.underlying55 rfl rfl ⟨rfl, n1, trivial⟩ rfl)) ?_
          refine WO.l ?_
          refine LO.gog rfl rfl rfl (OW.lits (vs := [_, _, _]) (evp_cons rfl (evp_cons rfl (evp_cons rfl evp_nil))) Try.underlying45 Try.sizeOf55 Try.zeroValue55 ⟨rfl, rfl, rfl, trivial⟩ rfl rfl rfl ?_ (by decide))
          intro v66 w65 ho68 hx67
          have th1 := things3 (t1 := ⟨0, NL.getD k 0, [], []⟩) (t2 := ⟨1, 0, [] ++ Pk.enc (NL.getD k 0), []⟩) (t3 := ⟨2, 0, [], NL⟩) ho68 ⟨Bytes.nil _, Ints.nil _, hk64, in64_nil⟩ ⟨(Row.ext fb (Ext.trans (Ext.trans (Ext.trans hwL1 (Ext.drew _)) hx62) hx67)), Ints.nil _, zero64, in64_nil⟩ ⟨Bytes.nil _, (Row.ext (show Ints _ vn NL from Row.of_own ho3) (Ext.trans (Ext.trans (Ext.trans (Ext.trans (Ext.trans hwL0 hx8) hwL1) (Ext.drew _)) hx62) hx67)), zero64, NL_in⟩
          refine ⟨(Ext.trans (Ext.trans (Ext.drew _) hx62) hx67), ?_⟩
          refine WO.l ?_
          refine LO.gog rfl rfl rfl (OW.enter rfl (by decide) (X.call Try.call6 (evl_cons rfl evl_nil)) (packBack_walk _ _ _ th1) ?_)
          rintro v70 w69 ⟨rfl, hx71⟩
          refine ⟨(Ext.trans (Ext.trans (Ext.trans (Ext.drew _) hx62) hx67) hx71), ?_⟩
          refine WO.qg rfl rfl rfl rfl rfl (fun w' hE59 => (X.not rfl)) ?_
          refine WO.q rfl rfl rfl rfl (fun w' hE59 => (X.pickF rfl rfl rfl)) ?_
          refine WO.q rfl rfl rfl rfl (fun w' hE59 => (X.moveB rfl)) ?_
          refine WO.qg rfl rfl rfl rfl rfl (fun w' hE59 => (X.move ((hAL1.eq 1).trans ((congrFun hF10 1).trans ((hAL0.eq 1).trans (congrFun hF5 1)))))) ?_
          refine WO.qg rfl rfl rfl rfl rfl (fun w' hE59 => (X.build (evp_cons rfl (evp_cons rfl evp_nil)) Try.type55 Try.underlying55 rfl rfl ⟨rfl, n1, trivial⟩ rfl)) ?_
          refine WO.qg rfl rfl rfl rfl rfl (fun w' hE59 => (X.move ((hAL1.eq 1).trans ((congrFun hF10 1).trans ((hAL0.eq 1).trans (congrFun hF5 1)))))) ?_
          refine WO.qg rfl rfl rfl rfl rfl (fun w' hE59 => (X.moveI ((hAL1.eq 2).trans ((congrFun hF10 2).trans e2_L0)))) ?_
          refine WO.qg rfl rfl rfl rfl rfl (fun w' hE59 => (X.idx (show Ints _ vn NL from Row.of_own ho3) rfl rfl (by omega) Try.underlying23 Try.sizeOf3)) ?_
          refine WO.qg rfl rfl rfl rfl rfl (fun w' hE59 => (X.loadI (show Ints _ vn NL from Row.of_own ho3) (Ext.trans (Ext.trans (Ext.trans hwL0 hx8) hwL1) hE59) rfl (by omega) Try.isAgg3)) ?_
          refine WO.qg rfl rfl rfl rfl rfl (fun w' hE59 => (X.build (evp_cons rfl evp_nil) Try.type55 Try.underlying55 rfl rfl ⟨rfl, trivial⟩ rfl)) ?_
          refine WO.qg rfl rfl rfl rfl rfl (fun w' hE59 => (X.build (evp_cons rfl evp_nil) Try.type55 Try.underlying55 rfl rfl ⟨rfl, trivial⟩ rfl)) ?_
          refine WO.qg rfl rfl rfl rfl rfl (fun w' hE59 => (X.move ((hAL1.eq 1).trans ((congrFun hF10 1).trans ((hAL0.eq 1).trans (congrFun hF5 1)))))) ?_
          refine WO.qg rfl rfl rfl rfl rfl (fun w' hE59 => (X.moveI ((hAL1.eq 2).trans ((congrFun hF10 2).trans e2_L0)))) ?_
          refine WO.qg rfl rfl rfl rfl rfl (fun w' hE59 => (X.idx (show Ints _ vn NL from Row.of_own ho3) rfl rfl (by omega) Try.underlying23 Try.sizeOf3)) ?_
          refine WO.qg rfl rfl rfl rfl rfl (fun w' hE59 => (X.loadI (show Ints _ vn NL from Row.of_own ho3) (Ext.trans (Ext.trans (Ext.trans hwL0 hx8) hwL1) hE59) rfl (by omega) Try.isAgg3)) ?_
          refine WO.qg rfl rfl rfl rfl rfl (fun w' hE59 => (X.move ((hAL1.eq 3).trans (congrFun hF10 3)))) ?_
          refine WO.l ?_
          refine LO.gog rfl rfl rfl (OW.lits (vs := [_, _, _]) (evp_cons rfl (evp_cons rfl (evp_cons rfl evp_nil))) Try.underlying45 Try.sizeOf55 Try.zeroValue55 ⟨rfl, rfl, rfl, trivial⟩ rfl rfl rfl ?_ (by decide))
          intro v75 w74 ho77 hx76
          have th2 := things3 (t1 := ⟨2, 0, [], NL⟩) (t2 := ⟨0, NL.getD k 0, [], []⟩) (t3 := ⟨1, 0, [], []⟩) ho77 ⟨Bytes.nil _, (Row.ext (show Ints _ vn NL from Row.of_own ho3) (Ext.trans (Ext.trans (Ext.trans (Ext.trans (Ext.trans (Ext.trans (Ext.trans hwL0 hx8) hwL1) (Ext.drew _)) hx62) hx67) hx71) hx76)), zero64, NL_in⟩ ⟨Bytes.nil _, Ints.nil _, hk64, in64_nil⟩ ⟨Bytes.nil _, Ints.nil _, zero64, in64_nil⟩
          refine ⟨(Ext.trans (Ext.trans (Ext.trans (Ext.trans (Ext.drew _) hx62) hx67) hx71) hx76), ?_⟩
          refine WO.l ?_
          refine LO.gog rfl rfl rfl (OW.enter rfl (by decide) (X.call Try.call7 (evl_cons rfl (evl_cons rfl (evl_cons rfl evl_nil)))) (packCut_walk _ _ _ _ _ _ th2 hk64 (Row.ext fb (Ext.trans (Ext.trans (Ext.trans (Ext.trans (Ext.trans hwL1 (Ext.drew _)) hx62) hx67) hx71) hx76)) (by simp [Pk.enc_len])) ?_)
          rintro v79 w78 ⟨rfl, hx80⟩
          refine ⟨(Ext.trans (Ext.trans (Ext.trans (Ext.trans (Ext.trans (Ext.drew _) hx62) hx67) hx71) hx76) hx80), ?_⟩
          refine WO.qg rfl rfl rfl rfl rfl (fun w' hE59 => (X.not rfl)) ?_
          refine WO.q rfl rfl rfl rfl (fun w' hE59 => (X.pickF rfl rfl rfl)) ?_
          refine WO.nil ?_
          refine WL.nil ?_
          refine thn_n ?_
          refine WF.cond_f rfl ?_
          refine WF.skip ?_
          refine blk_n ?_
          refine thn_n ?_
          refine WF.region ?_
          refine WL.va rfl rfl rfl (X.moveI ((hAL1.eq 2).trans ((congrFun hF10 2).trans e2_L0))) ?_
          refine WL.va rfl rfl rfl (X.add rfl rfl (w64 (by omega))) ?_
          refine WL.va rfl rfl rfl (X.assignI rfl) ?_
          refine WL.nil ?_
          exact thn_n ⟨_, (by omega), k + 1, rfl, rfl, (by repeat (first | exact hAL0 | refine Agree.put ?_ rfl | refine Agree.sub hAL1 rfl ?_ | refine Agree.named hF10 ?_ | refine Agree.named hF5 ?_)), (Ext.trans (Ext.trans (Ext.trans (Ext.trans (Ext.trans (Ext.trans (Ext.trans (Ext.trans hwL0 hx8) hwL1) (Ext.drew _)) hx62) hx67) hx71) hx76) hx80), (by omega)⟩
    · have gh0_6 := (of_decide_eq_false h0_6)
      refine WF.exit ?_
      refine thn_x ?_
      refine thn_x ?_
      refine blk_eq ?_
      refine thn_n ?_
      refine WF.seq ?_
      refine WF.region ?_
      refine WL.c rfl rfl rfl (X.call Try.call12 (evl_cons rfl (evl_cons rfl evl_nil))) (int_ok (.slice none 0 0) [] (-1) _ (Bytes.nil _) (by decide)) ?_
      rintro v84 w83 ⟨o6, hx85⟩
      have f6 := Bytes.of_own o6
      have szr := World.grownBy.size (Ext.trans hwL0 hx85)
      refine WL.c rfl rfl rfl (X.call Try.call22 (evl_cons rfl evl_nil)) (read_ok _ _ _ f6 (by decide)) ?_
      rintro vr w86 ⟨⟨D, left, p0⟩, hx87⟩
      refine WL.va rfl rfl rfl (X.assign rfl) ?_
      refine WL.nil ?_
      refine thn_n ?_
      refine WF.seq ?_
      refine WF.region ?_
      refine WL.va rfl rfl rfl (X.move rfl) ?_
      refine WL.c rfl rfl rfl (X.call Try.call35 (evl_cons rfl evl_nil)) (rInt_ok vr _ _ _ _ _ _ _ p0) ?_
      rintro v89 w88 ⟨hv, _, hx90⟩
      have e1 := int_m1
      rw [e1] at hv
      subst hv
      refine WL.va rfl rfl rfl (X.eql rfl rfl) ?_
      refine WL.va rfl rfl rfl (X.moveB rfl) ?_
      refine WL.split (j := 3) rfl (fun h92 => ?_) (fun h92 => ?_)
      · have gh92 := (of_decide_eq_true h92)
        refine WL.cg rfl (congrArg some h92) rfl rfl (X.call Try.call3 (evl_cons rfl (evl_cons rfl (evl_cons rfl (evl_cons rfl evl_nil))))) (packPuts_walk _ _ _ _ 258 _ _ _ (Bytes.nil _) (by decide) (Bytes.nil _) (by decide) (by decide) (Ints.nil _) in64_nil (by decide)) ?_
        rintro v94 w93 ⟨rfl, hx95⟩
        refine WL.va rfl rfl rfl (X.pickT rfl h92 rfl) ?_
        refine WL.va rfl rfl rfl (X.moveB rfl) ?_
        refine WL.opg rfl rfl (OW.lits (vs := [_, _, _, _]) (evp_cons rfl (evp_cons rfl (evp_cons rfl (evp_cons rfl evp_nil)))) Try.underlying23 Try.sizeOf3 Try.zeroValue3 ⟨rfl, rfl, rfl, rfl, trivial⟩ rfl rfl rfl ?_ (by decide))
        intro v98 w97 ho100 hx99
        refine WL.cg rfl rfl rfl rfl (X.call Try.call4 (evl_cons rfl (evl_cons rfl evl_nil))) (packReads_walk _ _ _ _ _ (Bytes.nil _) (by decide) (show Ints _ _ [0, 1, 2, 3] from Row.of_own ho100) (by unfold In64; decide) (by decide)) ?_
        rintro v102 w101 ⟨rfl, hx103⟩
        refine WL.va rfl rfl rfl (X.pickT rfl rfl rfl) ?_
        refine WL.va rfl rfl rfl (X.moveB rfl) ?_
        refine WL.cg rfl rfl rfl rfl (X.call Try.call6 (evl_cons rfl evl_nil)) (packBack_walk _ _ _ (things0 _)) ?_
        rintro v106 w105 ⟨rfl, hx107⟩
        refine WL.va rfl rfl rfl (X.pickT rfl rfl rfl) ?_
        refine WL.va rfl rfl rfl (X.moveB rfl) ?_
        refine WL.cg rfl rfl rfl rfl (X.call Try.call9 evl_nil) (works_ok _) ?_
        rintro v110 w109 ⟨rfl, hx111⟩
        refine WL.va rfl rfl rfl (X.pickT rfl rfl rfl) ?_
        refine WL.va rfl rfl rfl (X.assignB rfl) ?_
        refine WL.nil ?_
        refine thn_n ?_
        refine WF.ret ?_
        refine fin_r ?_
        exact ⟨rfl, (Ext.trans (Ext.trans (Ext.trans (Ext.trans (Ext.trans (Ext.trans hx2 (Ext.own (Ext.trans (Ext.trans hwL0 hx85) hx87) p0.var.row szr hx90)) hx95) hx99) hx103) hx107) hx111)⟩
      · have gh92 := (of_decide_eq_false h92)
        exact absurd rfl gh92

end Go.Proofs.Ytlcgjeebgjiebaa
