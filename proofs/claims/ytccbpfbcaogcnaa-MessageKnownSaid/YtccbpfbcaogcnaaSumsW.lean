/- The walks of the check sums: each function comes to what Crc says. -/
import Derived.Test.YtccbpfbcaogcnaaProg
import Derived.Test.YtccbpfbcaogcnaaBits
import Derived.Test.YtccbpfbcaogcnaaCrc
import Derived.Test.YtccbpfbcaogcnaaPackQ
namespace Go.Proofs.Ytccbpfbcaogcnaa
open Go Go.RowKit Kf

theorem more_ok (s : BitVec 32) (v : Value) (l : List UInt8) (w : World) (hb : Bytes w v l) : FnOk Try.prog 84 [u32 s, v] w (fun r w' => r = u32 (Crc.more s l) ∧ w = w') := by
  have hl := hb.le64
  refine FnOk.enter (rs := [4]) Try.func84 rfl Try.ntmps84 Try.results84 rfl rfl ?_
  refine WF.seq ?_
  refine WF.region ?_
  refine WL.va rfl rfl rfl (X.assignI rfl) ?_
  refine WL.nil ?_
  refine thn_n ?_
  refine WF.seq ?_
  refine WF.region ?_
  refine WL.va rfl rfl rfl (X.moveI rfl) ?_
  refine WL.va rfl rfl rfl (X.compl rfl (compl32 _)) ?_
  refine WL.va rfl rfl rfl (X.assignI rfl) ?_
  refine WL.nil ?_
  refine thn_n ?_
  refine WF.seq ?_
  refine WF.seq ?_
  refine WF.region ?_
  refine WL.va rfl rfl rfl (X.move rfl) ?_
  refine WL.va rfl rfl rfl (X.len hb rfl Try.underlying23) ?_
  refine WL.va rfl rfl rfl (X.moveI rfl) ?_
  refine WL.nil ?_
  refine thn_n ?_
  refine WF.block ?_
  refine WF.named (fun F1 hF2 => ?_)
  refine WF.loopN (fun mL0 f' w' => ∃ (k : Nat), mL0 = l.length - k ∧ f' 13 = .int .i64 (k : Int) ∧ f' 5 = u32 (Crc.raw (~~~ s) (l.take k)) ∧ Agree [0, 1, 4, 9, 10, 11, 12] f' F1 ∧ w = w' ∧ k ≤ l.length) ?_ ?_
  · exact ⟨_, 0, rfl, (congrFun hF2 13), (congrFun hF2 5), (Agree.refl _ _), rfl, Nat.zero_le _⟩
  · rintro mL0 fL0 wL0 ⟨k, hmL0, e13_L0, e5_L0, hAL0, rfl, hiL0⟩
    refine WF.seq ?_
    refine WF.region ?_
    refine WL.va rfl rfl rfl (X.lss e13_L0 ((hAL0.eq 12).trans (congrFun hF2 12))) ?_
    refine WL.nil ?_
    refine thn_n ?_
    refine WF.seq ?_
    refine WF.cond rfl (fun h0_3 => ?_) (fun h0_3 => ?_)
    · have gh0_3 := (of_decide_eq_true h0_3)
      refine WF.skip ?_
      refine thn_n ?_
      refine WF.seq ?_
      refine WF.block ?_
      refine WF.seq ?_
      refine WF.region ?_
      refine WL.va rfl rfl rfl (X.idx hb ((hAL0.eq 11).trans (congrFun hF2 11)) e13_L0 (by omega) Try.underlying23 Try.sizeOf5) ?_
      refine WL.va rfl rfl rfl (X.loadB hb (Ext.refl _) rfl (by omega) Try.isAgg5) ?_
      refine WL.va rfl rfl rfl (X.assignI rfl) ?_
      refine WL.nil ?_
      refine thn_n ?_
      refine WF.seq ?_
      refine WF.region ?_
      refine WL.va rfl rfl rfl (X.moveI e5_L0) ?_
      refine WL.va rfl rfl rfl (X.moveI rfl) ?_
      refine WL.va rfl rfl rfl (X.conv rfl (congrArg Option.isSome Try.underlying5) Try.underlying84 (conv8 _)) ?_
      refine WL.va rfl rfl rfl (X.xor rfl rfl (xor32 _ _)) ?_
      refine WL.va rfl rfl rfl (X.assignI rfl) ?_
      refine WL.nil ?_
      refine thn_n ?_
      refine WF.seq ?_
      refine WF.region ?_
      refine WL.va rfl rfl rfl (X.moveI rfl) ?_
      refine WL.nil ?_
      refine thn_n ?_
      refine WF.block ?_
      refine WF.named (fun F5 hF6 => ?_)
      refine WF.loopN (fun mL1 f' w' => ∃ (j : Nat), mL1 = 8 - j ∧ f' 21 = .int .i64 (j : Int) ∧ f' 5 = u32 (Crc.steps j (Crc.raw (~~~ s) (l.take k) ^^^ (l.getD k 0).toBitVec.setWidth 32)) ∧ Agree [0, 1, 4, 7, 9, 10, 11, 12, 13, 14, 15, 16, 17, 18, 19, 20] f' F5 ∧ w = w' ∧ j ≤ 8) ?_ ?_
      · exact ⟨_, 0, rfl, (congrFun hF6 21), (congrFun hF6 5), (Agree.refl _ _), rfl, (by omega)⟩
      · rintro mL1 fL1 wL1 ⟨j, hmL1, e21_L1, e5_L1, hAL1, rfl, hiL1⟩
        refine WF.seq ?_
        refine WF.region ?_
        refine WL.va rfl rfl rfl (X.lss e21_L1 rfl) ?_
        refine WL.nil ?_
        refine thn_n ?_
        refine WF.seq ?_
        refine WF.cond rfl (fun h1_7 => ?_) (fun h1_7 => ?_)
        · have gh1_7 := (of_decide_eq_true h1_7)
          refine WF.skip ?_
          refine thn_n ?_
          refine WF.seq ?_
          refine WF.block ?_
          refine WF.seq ?_
          refine WF.region ?_
          refine WL.va rfl rfl rfl (X.moveI e5_L1) ?_
          refine WL.va rfl rfl rfl (X.and rfl rfl (and32 _ 1#32)) ?_
          refine WL.va rfl rfl rfl (X.assignI rfl) ?_
          refine WL.nil ?_
          refine thn_n ?_
          refine WF.seq ?_
          refine WF.region ?_
          refine WL.va rfl rfl rfl (X.moveI e5_L1) ?_
          refine WL.va rfl rfl rfl (X.shr rfl rfl (by omega) (shr32 _)) ?_
          refine WL.va rfl rfl rfl (X.assignI rfl) ?_
          refine WL.nil ?_
          refine thn_n ?_
          refine WF.seq ?_
          refine WF.region ?_
          refine WL.va rfl rfl rfl (X.moveI rfl) ?_
          refine WL.va rfl rfl rfl (X.eql rfl rfl) ?_
          refine WL.nil ?_
          refine thn_n ?_
          refine WF.cond rfl (fun h2_9 => ?_) (fun h2_9 => ?_)
          · have gh2_9 := (of_decide_eq_true h2_9)
            have hlow := gh2_9
            refine WF.region ?_
            refine WL.va rfl rfl rfl (X.moveI rfl) ?_
            refine WL.va rfl rfl rfl (X.xor rfl rfl (xor32 _ 0x82F63B78#32)) ?_
            refine WL.va rfl rfl rfl (X.assignI rfl) ?_
            refine WL.nil ?_
            refine blk_n ?_
            refine thn_n ?_
            refine WF.region ?_
            refine WL.va rfl rfl rfl (X.add e21_L1 rfl (w64 (by omega))) ?_
            refine WL.va rfl rfl rfl (X.moveI rfl) ?_
            refine WL.nil ?_
            exact thn_n ⟨_, (by omega), j + 1, rfl, rfl, (by rw [Crc.steps_succ]; first | exact congrArg u32 (Crc.step_one hlow) | exact congrArg u32 (Crc.step_zero hlow)), (by repeat (first | exact hAL1 | refine Agree.put ?_ rfl | refine Agree.sub hAL0 rfl ?_ | refine Agree.named hF6 ?_ | refine Agree.named hF2 ?_)), rfl, (by omega)⟩
          · have gh2_9 := (of_decide_eq_false h2_9)
            have hlow := gh2_9
            refine WF.skip ?_
            refine blk_n ?_
            refine thn_n ?_
            refine WF.region ?_
            refine WL.va rfl rfl rfl (X.add e21_L1 rfl (w64 (by omega))) ?_
            refine WL.va rfl rfl rfl (X.moveI rfl) ?_
            refine WL.nil ?_
            exact thn_n ⟨_, (by omega), j + 1, rfl, rfl, (by rw [Crc.steps_succ]; first | exact congrArg u32 (Crc.step_one hlow) | exact congrArg u32 (Crc.step_zero hlow)), (by repeat (first | exact hAL1 | refine Agree.put ?_ rfl | refine Agree.sub hAL0 rfl ?_ | refine Agree.named hF6 ?_ | refine Agree.named hF2 ?_)), rfl, (by omega)⟩
        · have gh1_7 := (of_decide_eq_false h1_7)
          refine WF.exit ?_
          refine thn_x ?_
          refine thn_x ?_
          refine blk_eq ?_
          refine blk_n ?_
          refine thn_n ?_
          refine WF.region ?_
          refine WL.va rfl rfl rfl (X.add ((hAL1.eq 13).trans ((congrFun hF6 13).trans e13_L0)) rfl (w64 (by omega))) ?_
          refine WL.va rfl rfl rfl (X.moveI rfl) ?_
          refine WL.nil ?_
          exact thn_n ⟨_, (by omega), k + 1, rfl, rfl, (by obtain rfl : j = 8 := (by omega); rw [Crc.raw_take (~~~ s) l k (by omega)]; exact e5_L1), (by repeat (first | exact hAL0 | refine Agree.put ?_ rfl | refine Agree.sub hAL1 rfl ?_ | refine Agree.named hF6 ?_ | refine Agree.named hF2 ?_)), rfl, (by omega)⟩
    · have gh0_3 := (of_decide_eq_false h0_3)
      refine WF.exit ?_
      refine thn_x ?_
      refine thn_x ?_
      refine blk_eq ?_
      refine thn_n ?_
      refine WF.seq ?_
      refine WF.region ?_
      refine WL.va rfl rfl rfl (X.moveI e5_L0) ?_
      refine WL.va rfl rfl rfl (X.compl rfl (compl32 _)) ?_
      refine WL.va rfl rfl rfl (X.assignI rfl) ?_
      refine WL.nil ?_
      refine thn_n ?_
      refine WF.ret ?_
      refine fin_r ?_
      exact ⟨by rw [show l.take k = l from List.take_of_length_le (by omega)]; rfl, rfl⟩

theorem refMore_ok (s : BitVec 32) (v : Value) (l : List UInt8) (w : World) (hb : Bytes w v l) : FnOk Try.prog 70 [u32 s, v] w (fun r w' => r = u32 (Crc.more s l) ∧ w = w') := by
  have hl := hb.le64
  refine FnOk.enter (rs := [4]) Try.func70 rfl Try.ntmps70 Try.results70 rfl rfl ?_
  refine WF.seq ?_
  refine WF.region ?_
  refine WL.va rfl rfl rfl (X.assignI rfl) ?_
  refine WL.nil ?_
  refine thn_n ?_
  refine WF.seq ?_
  refine WF.region ?_
  refine WL.va rfl rfl rfl (X.moveI rfl) ?_
  refine WL.va rfl rfl rfl (X.compl rfl (compl32 _)) ?_
  refine WL.va rfl rfl rfl (X.assignI rfl) ?_
  refine WL.nil ?_
  refine thn_n ?_
  refine WF.seq ?_
  refine WF.seq ?_
  refine WF.region ?_
  refine WL.va rfl rfl rfl (X.assignI rfl) ?_
  refine WL.nil ?_
  refine thn_n ?_
  refine WF.block ?_
  refine WF.named (fun F1 hF2 => ?_)
  refine WF.loopN (fun mL0 f' w' => ∃ (k : Nat), mL0 = l.length - k ∧ f' 6 = .int .i64 (k : Int) ∧ f' 5 = u32 (Crc.raw (~~~ s) (l.take k)) ∧ Agree [0, 1, 4, 9, 10] f' F1 ∧ w = w' ∧ k ≤ l.length) ?_ ?_
  · exact ⟨_, 0, rfl, (congrFun hF2 6), (congrFun hF2 5), (Agree.refl _ _), rfl, Nat.zero_le _⟩
  · rintro mL0 fL0 wL0 ⟨k, hmL0, e6_L0, e5_L0, hAL0, rfl, hiL0⟩
    refine WF.seq ?_
    refine WF.seq ?_
    refine WF.region ?_
    refine WL.va rfl rfl rfl (X.moveI e6_L0) ?_
    refine WL.va rfl rfl rfl (X.move ((hAL0.eq 1).trans (congrFun hF2 1))) ?_
    refine WL.va rfl rfl rfl (X.len hb rfl Try.underlying23) ?_
    refine WL.va rfl rfl rfl (X.lss rfl rfl) ?_
    refine WL.nil ?_
    refine thn_n ?_
    refine WF.cond rfl (fun h0_3 => ?_) (fun h0_3 => ?_)
    · have gh0_3 := (of_decide_eq_true h0_3)
      refine WF.skip ?_
      refine thn_n ?_
      refine WF.seq ?_
      refine WF.block ?_
      refine WF.seq ?_
      refine WF.region ?_
      refine WL.va rfl rfl rfl (X.moveI e5_L0) ?_
      refine WL.va rfl rfl rfl (X.move ((hAL0.eq 1).trans (congrFun hF2 1))) ?_
      refine WL.va rfl rfl rfl (X.moveI e6_L0) ?_
      refine WL.va rfl rfl rfl (X.idx hb rfl rfl (by omega) Try.underlying23 Try.sizeOf5) ?_
      refine WL.va rfl rfl rfl (X.loadB hb (Ext.refl _) rfl (by omega) Try.isAgg5) ?_
      refine WL.va rfl rfl rfl (X.conv rfl (congrArg Option.isSome Try.underlying5) Try.underlying84 (conv8 _)) ?_
      refine WL.va rfl rfl rfl (X.xor rfl rfl (xor32 _ _)) ?_
      refine WL.va rfl rfl rfl (X.assignI rfl) ?_
      refine WL.nil ?_
      refine thn_n ?_
      refine WF.seq ?_
      refine WF.region ?_
      refine WL.va rfl rfl rfl (X.assignI rfl) ?_
      refine WL.nil ?_
      refine thn_n ?_
      refine WF.block ?_
      refine WF.named (fun F5 hF6 => ?_)
      refine WF.loopN (fun mL1 f' w' => ∃ (j : Nat), mL1 = 8 - j ∧ f' 7 = .int .i64 (j : Int) ∧ f' 5 = u32 (Crc.steps j (Crc.raw (~~~ s) (l.take k) ^^^ (l.getD k 0).toBitVec.setWidth 32)) ∧ Agree [0, 1, 4, 6, 9, 10, 11, 12, 13, 14, 17, 18, 19, 20, 21, 22, 23] f' F5 ∧ w = w' ∧ j ≤ 8) ?_ ?_
      · exact ⟨_, 0, rfl, (congrFun hF6 7), (congrFun hF6 5), (Agree.refl _ _), rfl, (by omega)⟩
      · rintro mL1 fL1 wL1 ⟨j, hmL1, e7_L1, e5_L1, hAL1, rfl, hiL1⟩
        refine WF.seq ?_
        refine WF.seq ?_
        refine WF.region ?_
        refine WL.va rfl rfl rfl (X.moveI e7_L1) ?_
        refine WL.va rfl rfl rfl (X.lss rfl rfl) ?_
        refine WL.nil ?_
        refine thn_n ?_
        refine WF.cond rfl (fun h1_7 => ?_) (fun h1_7 => ?_)
        · have gh1_7 := (of_decide_eq_true h1_7)
          refine WF.skip ?_
          refine thn_n ?_
          refine WF.seq ?_
          refine WF.block ?_
          refine WF.seq ?_
          refine WF.region ?_
          refine WL.va rfl rfl rfl (X.moveI e5_L1) ?_
          refine WL.va rfl rfl rfl (X.rem rfl rfl (by omega) (rem32 _)) ?_
          refine WL.va rfl rfl rfl (X.assignI rfl) ?_
          refine WL.nil ?_
          refine thn_n ?_
          refine WF.seq ?_
          refine WF.region ?_
          refine WL.va rfl rfl rfl (X.moveI e5_L1) ?_
          refine WL.va rfl rfl rfl (X.quo rfl rfl (by omega) (quo32 _)) ?_
          refine WL.va rfl rfl rfl (X.assignI rfl) ?_
          refine WL.nil ?_
          refine thn_n ?_
          refine WF.seq ?_
          refine WF.region ?_
          refine WL.va rfl rfl rfl (X.moveI rfl) ?_
          refine WL.va rfl rfl rfl (X.eql rfl rfl) ?_
          refine WL.nil ?_
          refine thn_n ?_
          refine WF.cond rfl (fun h2_9 => ?_) (fun h2_9 => ?_)
          · have gh2_9 := (of_decide_eq_true h2_9)
            have hlow := gh2_9
            refine WF.region ?_
            refine WL.va rfl rfl rfl (X.moveI rfl) ?_
            refine WL.va rfl rfl rfl (X.xor rfl rfl (xor32 _ 0x82F63B78#32)) ?_
            refine WL.va rfl rfl rfl (X.assignI rfl) ?_
            refine WL.nil ?_
            refine blk_n ?_
            refine thn_n ?_
            refine WF.region ?_
            refine WL.va rfl rfl rfl (X.moveI e7_L1) ?_
            refine WL.va rfl rfl rfl (X.add rfl rfl (w64 (by omega))) ?_
            refine WL.va rfl rfl rfl (X.assignI rfl) ?_
            refine WL.nil ?_
            exact thn_n ⟨_, (by omega), j + 1, rfl, rfl, (by rw [Crc.steps_succ]; first | exact congrArg u32 (Crc.step_one hlow) | exact congrArg u32 (Crc.step_zero hlow)), (by repeat (first | exact hAL1 | refine Agree.put ?_ rfl | refine Agree.sub hAL0 rfl ?_ | refine Agree.named hF6 ?_ | refine Agree.named hF2 ?_)), rfl, (by omega)⟩
          · have gh2_9 := (of_decide_eq_false h2_9)
            have hlow := gh2_9
            refine WF.skip ?_
            refine blk_n ?_
            refine thn_n ?_
            refine WF.region ?_
            refine WL.va rfl rfl rfl (X.moveI e7_L1) ?_
            refine WL.va rfl rfl rfl (X.add rfl rfl (w64 (by omega))) ?_
            refine WL.va rfl rfl rfl (X.assignI rfl) ?_
            refine WL.nil ?_
            exact thn_n ⟨_, (by omega), j + 1, rfl, rfl, (by rw [Crc.steps_succ]; first | exact congrArg u32 (Crc.step_one hlow) | exact congrArg u32 (Crc.step_zero hlow)), (by repeat (first | exact hAL1 | refine Agree.put ?_ rfl | refine Agree.sub hAL0 rfl ?_ | refine Agree.named hF6 ?_ | refine Agree.named hF2 ?_)), rfl, (by omega)⟩
        · have gh1_7 := (of_decide_eq_false h1_7)
          refine WF.exit ?_
          refine thn_x ?_
          refine thn_x ?_
          refine blk_eq ?_
          refine blk_n ?_
          refine thn_n ?_
          refine WF.region ?_
          refine WL.va rfl rfl rfl (X.moveI ((hAL1.eq 6).trans ((congrFun hF6 6).trans e6_L0))) ?_
          refine WL.va rfl rfl rfl (X.add rfl rfl (w64 (by omega))) ?_
          refine WL.va rfl rfl rfl (X.assignI rfl) ?_
          refine WL.nil ?_
          exact thn_n ⟨_, (by omega), k + 1, rfl, rfl, (by obtain rfl : j = 8 := (by omega); rw [Crc.raw_take (~~~ s) l k (by omega)]; exact e5_L1), (by repeat (first | exact hAL0 | refine Agree.put ?_ rfl | refine Agree.sub hAL1 rfl ?_ | refine Agree.named hF6 ?_ | refine Agree.named hF2 ?_)), rfl, (by omega)⟩
    · have gh0_3 := (of_decide_eq_false h0_3)
      refine WF.exit ?_
      refine thn_x ?_
      refine thn_x ?_
      refine blk_eq ?_
      refine thn_n ?_
      refine WF.seq ?_
      refine WF.region ?_
      refine WL.va rfl rfl rfl (X.moveI e5_L0) ?_
      refine WL.va rfl rfl rfl (X.compl rfl (compl32 _)) ?_
      refine WL.va rfl rfl rfl (X.assignI rfl) ?_
      refine WL.nil ?_
      refine thn_n ?_
      refine WF.ret ?_
      refine fin_r ?_
      exact ⟨by rw [show l.take k = l from List.take_of_length_le (by omega)]; rfl, rfl⟩

theorem of_ok (v : Value) (l : List UInt8) (w : World) (hb : Bytes w v l) : FnOk Try.prog 85 [v] w (fun r w' => r = u32 (Crc.of l) ∧ w = w') := by
  refine FnOk.enter (rs := [2]) Try.func85 rfl Try.ntmps85 Try.results85 rfl rfl ?_
  refine WF.seq ?_
  refine WF.region ?_
  refine WL.va rfl rfl rfl (X.assignI rfl) ?_
  refine WL.nil ?_
  refine thn_n ?_
  refine WF.seq ?_
  refine WF.region ?_
  refine WL.va rfl rfl rfl (X.move rfl) ?_
  refine WL.c rfl rfl rfl (X.call Try.call84 (evl_cons rfl (evl_cons rfl evl_nil))) (more_ok 0 _ _ _ hb) ?_
  rintro v2 w1 ⟨rfl, rfl⟩
  refine WL.va rfl rfl rfl (X.assignI rfl) ?_
  refine WL.nil ?_
  refine thn_n ?_
  refine WF.ret ?_
  refine fin_r ?_
  exact ⟨rfl, rfl⟩

theorem refOf_ok (v : Value) (l : List UInt8) (w : World) (hb : Bytes w v l) : FnOk Try.prog 71 [v] w (fun r w' => r = u32 (Crc.of l) ∧ w = w') := by
  refine FnOk.enter (rs := [2]) Try.func71 rfl Try.ntmps71 Try.results71 rfl rfl ?_
  refine WF.seq ?_
  refine WF.region ?_
  refine WL.va rfl rfl rfl (X.assignI rfl) ?_
  refine WL.nil ?_
  refine thn_n ?_
  refine WF.seq ?_
  refine WF.region ?_
  refine WL.va rfl rfl rfl (X.move rfl) ?_
  refine WL.c rfl rfl rfl (X.call Try.call70 (evl_cons rfl (evl_cons rfl evl_nil))) (refMore_ok 0 _ _ _ hb) ?_
  rintro v2 w1 ⟨rfl, rfl⟩
  refine WL.va rfl rfl rfl (X.assignI rfl) ?_
  refine WL.nil ?_
  refine thn_n ?_
  refine WF.ret ?_
  refine fin_r ?_
  exact ⟨rfl, rfl⟩

theorem low_div (m : BitVec 32) (i : Nat) (hi : i < 32) : ((m.toNat : Int).fdiv (2 ^ (min ((i : Int)).toNat IntKind.u32.bits))).tmod 2 = if m.getLsbD i then 1 else 0 := by
  have e : min ((i : Int)).toNat IntKind.u32.bits = i := by
    show min ((i : Int)).toNat 32 = i
    simp; omega
  rw [e, Int.fdiv_eq_ediv_of_nonneg _ (Int.le_of_lt (Int.pow_pos (by decide)))]
  have e2 : (m.toNat : Int) / 2 ^ i = ((m.toNat / 2 ^ i : Nat) : Int) := by rw [Int.natCast_ediv, Int.natCast_pow]; rfl
  rw [e2, Int.tmod_eq_emod_of_nonneg (Int.natCast_nonneg _)]
  have e3 : m.getLsbD i = decide (m.toNat / 2 ^ i % 2 = 1) := by
    simp only [BitVec.getLsbD, Nat.testBit_eq_decide_div_mod_eq]
  rw [e3]
  have : m.toNat / 2 ^ i % 2 = 0 ∨ m.toNat / 2 ^ i % 2 = 1 := by omega
  rcases this with h | h
  · simp [h]; omega
  · simp [h]; omega
/-- 1 << j as a byte -/
def one8 (j : Nat) : UInt8 := UInt8.ofBitVec (1#8 <<< j)
theorem one8_bit (p j : Nat) (hj : j < 8) : (one8 (p % 8)).toBitVec.getLsbD j = decide (j = p % 8) := by
  have hp : p % 8 < 8 := Nat.mod_lt _ (by decide)
  show (1#8 <<< (p % 8)).getLsbD j = _
  revert hj hp
  generalize p % 8 = q
  intro hj hq
  have : ∀ q : Fin 8, ∀ j : Fin 8, (1#8 <<< q.val).getLsbD j.val = decide (j.val = q.val) := by decide +kernel
  exact this ⟨q, hq⟩ ⟨j, hj⟩
theorem shl8 (n : Int) (h0 : 0 ≤ n) (h8 : n < 8) : IntKind.u8.wrap (1 * 2 ^ (min n.toNat IntKind.u8.bits)) = ((one8 n.toNat).toNat : Int) := by
  obtain ⟨q, rfl⟩ := Int.eq_ofNat_of_zero_le h0
  have : ∀ q : Fin 8, IntKind.u8.wrap (1 * 2 ^ (min ((q.val : Int)).toNat IntKind.u8.bits)) = ((one8 ((q.val : Int)).toNat).toNat : Int) := by decide +kernel
  exact this ⟨q, by omega⟩
/-- what is turned when the first i bits of the mask have been gone through -/
def tog (at_ : Nat) (m : BitVec 32) (len i k : Nat) : Bool := decide (at_ ≤ k) && decide (k < at_ + i) && m.getLsbD (k - at_) && decide (k / 8 < len)
theorem tog_succ (at_ : Nat) (m : BitVec 32) (len i k : Nat) : tog at_ m len (i + 1) k = (tog at_ m len i k ^^ (decide (k = at_ + i) && (m.getLsbD i && decide ((at_ + i) / 8 < len)))) := by
  unfold tog
  by_cases h : k = at_ + i
  · subst h
    have e1 : decide (at_ ≤ at_ + i) = true := decide_eq_true (by omega)
    have e2 : decide (at_ + i < at_ + (i + 1)) = true := decide_eq_true (by omega)
    have e3 : decide (at_ + i < at_ + i) = false := decide_eq_false (by omega)
    have e4 : at_ + i - at_ = i := by omega
    rw [e1, e2, e3, e4]
    simp
  · have e1 : decide (k = at_ + i) = false := by simpa using h
    rw [e1, Bool.false_and, Bool.xor_false]
    by_cases h2 : k < at_ + i
    · have e2 : decide (k < at_ + (i + 1)) = true := decide_eq_true (by omega)
      have e3 : decide (k < at_ + i) = true := by simpa using h2
      rw [e2, e3]
    · have e2 : decide (k < at_ + (i + 1)) = false := decide_eq_false (by omega)
      have e3 : decide (k < at_ + i) = false := by simpa using h2
      rw [e2, e3]
/-- the state of the loop behind i rounds -/
structure Turned (b C : List UInt8) (at_ : Nat) (m : BitVec 32) (i : Nat) (n : Nat) : Prop where
  len : C.length = b.length
  bits : ∀ k, Crc.bit C k = (Crc.bit b k ^^ tog at_ m b.length i k)
  zero : n = 0 ↔ ∀ k, tog at_ m b.length i k = false
  le : n ≤ i
theorem Turned.start (b : List UInt8) (at_ : Nat) (m : BitVec 32) : Turned b b at_ m 0 0 := by
  have h : ∀ k, tog at_ m b.length 0 k = false := fun k => by
    unfold tog
    by_cases h : at_ ≤ k
    · have : decide (k < at_ + 0) = false := decide_eq_false (by omega)
      rw [this]; simp
    · have : decide (at_ ≤ k) = false := by simpa using h
      rw [this]; simp
  exact ⟨rfl, fun k => by rw [h]; simp, by simp [h], Nat.le_refl _⟩
theorem Turned.skip {b C : List UInt8} {at_ : Nat} {m : BitVec 32} {i n : Nat} (h : Turned b C at_ m i n) (hs : (m.getLsbD i && decide ((at_ + i) / 8 < b.length)) = false) : Turned b C at_ m (i + 1) n := by
  have e : ∀ k, tog at_ m b.length (i + 1) k = tog at_ m b.length i k := fun k => by rw [tog_succ, hs]; simp
  exact ⟨h.len, fun k => by rw [e]; exact h.bits k, by simp only [e]; exact h.zero, by have := h.le; omega⟩
theorem Turned.turn {b C : List UInt8} {at_ : Nat} {m : BitVec 32} {i n : Nat} (h : Turned b C at_ m i n) (h1 : m.getLsbD i = true) (h2 : (at_ + i) / 8 < b.length) :
    Turned b (C.set ((at_ + i) / 8) (C.getD ((at_ + i) / 8) 0 ^^^ one8 ((at_ + i) % 8))) at_ m (i + 1) (n + 1) := by
  have hs : (m.getLsbD i && decide ((at_ + i) / 8 < b.length)) = true := by rw [h1]; simpa using h2
  refine ⟨by simp [h.len], fun k => ?_, ?_, by have := h.le; omega⟩
  · rw [Crc.bit_turn C (at_ + i) (one8 ((at_ + i) % 8)) (by rw [h.len]; exact h2) (fun j hj => one8_bit _ _ hj), h.bits, tog_succ, hs, Bool.and_true, Bool.xor_assoc]
  · constructor
    · intro hn; omega
    · intro hall
      exfalso
      have := hall (at_ + i)
      have h0 : tog at_ m b.length i (at_ + i) = false := by
        unfold tog
        have : decide (at_ + i < at_ + i) = false := by simp
        rw [this]; simp
      rw [tog_succ, hs, h0] at this
      simp at this
theorem k8 {q i : Nat} (h : q + i ≤ 4611686018427387904) : IntKind.i64.wrap (((q : Int) + (i : Int)).tdiv 8) = (((q + i) / 8 : Nat) : Int) := by
  rw [Int.tdiv_eq_ediv_of_nonneg (by omega)]
  rw [w64 (by omega)]; omega
theorem k8m (q i : Nat) : ((q : Int) + (i : Int)).tmod 8 = (((q + i) % 8 : Nat) : Int) := by
  rw [Int.tmod_eq_emod_of_nonneg (by omega)]; omega
theorem lay_at {a b : List UInt8} {N k : Nat} (h : k < N) (ha : N ≤ a.length) (hb : N ≤ b.length) : [a.getD k 0 ^^^ b.getD k 0] = [(Crc.lay ((a.drop 0).take (N - 0)) ((b.drop 0).take (N - 0))).getD k 0] := by
  simp only [Crc.lay, List.getD_eq_getElem?_getD, List.drop_zero, Nat.sub_zero, List.getElem?_zipWith, List.getElem?_take, if_pos h]
  rw [List.getElem?_eq_getElem (show k < a.length by omega), List.getElem?_eq_getElem (show k < b.length by omega)]
  rfl
theorem Turned.sum {b C : List UInt8} {at_ : Nat} {m : BitVec 32} {n : Nat} (h : Turned b C at_ m 32 n) : (Crc.of C = Crc.of b) ↔ n = 0 := by
  rw [h.zero]
  refine Crc.seen (at_ := at_) h.len h.bits fun i hi => ?_
  unfold tog at hi
  simp only [Bool.and_eq_true, decide_eq_true_eq] at hi
  omega
theorem Turned.bool {b C : List UInt8} {at_ : Nat} {m : BitVec 32} {n : Nat} (h : Turned b C at_ m 32 n) : (decide (((Crc.of C).toNat : Int) = ((Crc.of b).toNat : Int)) == decide ((n : Int) = 0)) = true := by
  have e := h.sum
  have e1 : (((Crc.of C).toNat : Int) = ((Crc.of b).toNat : Int)) ↔ (Crc.of C = Crc.of b) := ⟨fun h => BitVec.eq_of_toNat_eq (by omega), fun h => by rw [h]⟩
  have e2 : ((n : Int) = 0) ↔ n = 0 := by omega
  rw [beq_iff_eq]
  exact decide_eq_decide.2 (by rw [e1, e2]; exact e)
theorem bit_of1 {c : Bool} (h : (if c then (1 : Int) else 0) = 1) : c = true := by cases c <;> simp_all
theorem bit_of0 {c : Bool} (h : ¬ (if c then (1 : Int) else 0) = 1) : c = false := by cases c <;> simp_all
end Go.Proofs.Ytccbpfbcaogcnaa
