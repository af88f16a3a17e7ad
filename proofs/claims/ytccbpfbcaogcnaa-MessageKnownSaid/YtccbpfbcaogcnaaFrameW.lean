/- The walks of frames: each function comes to what Frm says. -/
import Derived.Test.YtccbpfbcaogcnaaSumsW
import Derived.Test.YtccbpfbcaogcnaaFrm
namespace Go.Proofs.Ytccbpfbcaogcnaa
open Go Go.RowKit Kf
set_option maxRecDepth 20000

theorem four_ok (n : BitVec 32) (w : World) : FnOk Try.prog 69 [u32 n] w (fun r w' => OwnB w' w.heap.size 5 r (Frm.four n.toNat) ∧ Ext w w') := by
  refine FnOk.enter (rs := [2]) Try.func69 rfl Try.ntmps69 Try.results69 rfl rfl ?_
  refine WF.seq ?_
  refine WF.region ?_
  refine WL.va rfl rfl rfl (X.assign rfl) ?_
  refine WL.nil ?_
  refine thn_n ?_
  refine WF.seq ?_
  refine WF.region ?_
  refine WL.va rfl rfl rfl (X.moveI rfl) ?_
  refine WL.va rfl rfl rfl (X.shr rfl rfl (by omega) rfl) ?_
  refine WL.va rfl rfl rfl (X.conv rfl (congrArg Option.isSome Try.underlying84) Try.underlying5 (Frm.byteShr _ _ 24 (by decide))) ?_
  refine WL.va rfl rfl rfl (X.moveI rfl) ?_
  refine WL.va rfl rfl rfl (X.shr rfl rfl (by omega) rfl) ?_
  refine WL.va rfl rfl rfl (X.conv rfl (congrArg Option.isSome Try.underlying84) Try.underlying5 (Frm.byteShr _ _ 16 (by decide))) ?_
  refine WL.va rfl rfl rfl (X.moveI rfl) ?_
  refine WL.va rfl rfl rfl (X.shr rfl rfl (by omega) rfl) ?_
  refine WL.va rfl rfl rfl (X.conv rfl (congrArg Option.isSome Try.underlying84) Try.underlying5 (Frm.byteShr _ _ 8 (by decide))) ?_
  refine WL.va rfl rfl rfl (X.moveI rfl) ?_
  refine WL.va rfl rfl rfl (X.conv rfl (congrArg Option.isSome Try.underlying84) Try.underlying5 (Frm.byteLow _)) ?_
  refine WL.op rfl (OW.lits (vs := [u8 _, u8 _, u8 _, u8 _]) (evp_cons rfl (evp_cons rfl (evp_cons rfl (evp_cons rfl evp_nil)))) Try.underlying23 Try.sizeOf5 Try.zeroValue5 ⟨rfl, rfl, rfl, rfl, trivial⟩ rfl rfl rfl ?_ (by decide))
  intro v2 w1 ho4 hx3
  have hf : OwnB w1 _ _ _ (Frm.four n.toNat) := ho4
  refine WL.va rfl rfl rfl (X.assign rfl) ?_
  refine WL.nil ?_
  refine thn_n ?_
  refine WF.ret ?_
  refine fin_r ?_
  exact ⟨hf, hx3⟩

theorem head_ok (v : Value) (p : List UInt8) (w : World) (hb : Bytes w v p) : FnOk Try.prog 68 [v] w (fun r w' => OwnB w' w.heap.size 5 r (Frm.head p) ∧ Ext w w') := by
  have hl := hb.le64
  refine FnOk.enter (rs := [2]) Try.func68 rfl Try.ntmps68 Try.results68 rfl rfl ?_
  refine WF.seq ?_
  refine WF.region ?_
  refine WL.va rfl rfl rfl (X.assign rfl) ?_
  refine WL.nil ?_
  refine thn_n ?_
  refine WF.seq ?_
  refine WF.region ?_
  refine WL.va rfl rfl rfl (X.move rfl) ?_
  refine WL.va rfl rfl rfl (X.len hb rfl Try.underlying23) ?_
  refine WL.va rfl rfl rfl (X.assignI rfl) ?_
  refine WL.nil ?_
  refine thn_n ?_
  refine WF.seq ?_
  refine WF.region ?_
  refine WL.va rfl rfl rfl (X.moveI rfl) ?_
  refine WL.va rfl rfl rfl (X.shr rfl rfl (by omega) rfl) ?_
  refine WL.va rfl rfl rfl (X.conv rfl (congrArg Option.isSome Try.underlying3) Try.underlying5 (Frm.byteShr _ _ 24 (by decide))) ?_
  refine WL.va rfl rfl rfl (X.moveI rfl) ?_
  refine WL.va rfl rfl rfl (X.shr rfl rfl (by omega) rfl) ?_
  refine WL.va rfl rfl rfl (X.conv rfl (congrArg Option.isSome Try.underlying3) Try.underlying5 (Frm.byteShr _ _ 16 (by decide))) ?_
  refine WL.va rfl rfl rfl (X.moveI rfl) ?_
  refine WL.va rfl rfl rfl (X.shr rfl rfl (by omega) rfl) ?_
  refine WL.va rfl rfl rfl (X.conv rfl (congrArg Option.isSome Try.underlying3) Try.underlying5 (Frm.byteShr _ _ 8 (by decide))) ?_
  refine WL.va rfl rfl rfl (X.moveI rfl) ?_
  refine WL.va rfl rfl rfl (X.conv rfl (congrArg Option.isSome Try.underlying3) Try.underlying5 (Frm.byteLow _)) ?_
  refine WL.op rfl (OW.lits (vs := [u8 _, u8 _, u8 _, u8 _]) (evp_cons rfl (evp_cons rfl (evp_cons rfl (evp_cons rfl evp_nil)))) Try.underlying23 Try.sizeOf5 Try.zeroValue5 ⟨rfl, rfl, rfl, rfl, trivial⟩ rfl rfl rfl ?_ (by decide))
  intro v2 w1 ho4 hx3
  have hf : OwnB w1 _ _ _ (Frm.four p.length) := ho4
  refine WL.va rfl rfl rfl (X.assign rfl) ?_
  refine WL.nil ?_
  refine thn_n ?_
  refine WF.seq ?_
  refine WF.region ?_
  refine WL.va rfl rfl rfl (X.move rfl) ?_
  refine WL.c rfl rfl rfl (X.call Try.call85 (evl_cons rfl evl_nil)) (of_ok _ _ _ (Bytes.of_own hf)) ?_
  rintro v6 w5 ⟨rfl, rfl⟩
  refine WL.va rfl rfl rfl (X.move rfl) ?_
  refine WL.c rfl rfl rfl (X.call Try.call84 (evl_cons rfl (evl_cons rfl evl_nil))) (more_ok _ _ _ _ (hb.ext hx3)) ?_
  rintro v9 w8 ⟨rfl, rfl⟩
  refine WL.va rfl rfl rfl (X.assignI rfl) ?_
  refine WL.nil ?_
  refine thn_n ?_
  refine WF.seq ?_
  refine WF.region ?_
  refine WL.va rfl rfl rfl (X.move rfl) ?_
  refine WL.va rfl rfl rfl (X.moveI rfl) ?_
  refine WL.va rfl rfl rfl (X.shr rfl rfl (by omega) rfl) ?_
  refine WL.va rfl rfl rfl (X.conv rfl (congrArg Option.isSome Try.underlying84) Try.underlying5 (Frm.byteShr _ _ 24 (by decide))) ?_
  refine WL.va rfl rfl rfl (X.moveI rfl) ?_
  refine WL.va rfl rfl rfl (X.shr rfl rfl (by omega) rfl) ?_
  refine WL.va rfl rfl rfl (X.conv rfl (congrArg Option.isSome Try.underlying84) Try.underlying5 (Frm.byteShr _ _ 16 (by decide))) ?_
  refine WL.va rfl rfl rfl (X.moveI rfl) ?_
  refine WL.va rfl rfl rfl (X.shr rfl rfl (by omega) rfl) ?_
  refine WL.va rfl rfl rfl (X.conv rfl (congrArg Option.isSome Try.underlying84) Try.underlying5 (Frm.byteShr _ _ 8 (by decide))) ?_
  refine WL.va rfl rfl rfl (X.moveI rfl) ?_
  refine WL.va rfl rfl rfl (X.conv rfl (congrArg Option.isSome Try.underlying84) Try.underlying5 (Frm.byteLow _)) ?_
  refine WL.op rfl (OW.lits (vs := [u8 _, u8 _, u8 _, u8 _]) (evp_cons rfl (evp_cons rfl (evp_cons rfl (evp_cons rfl evp_nil)))) Try.underlying23 Try.sizeOf5 Try.zeroValue5 ⟨rfl, rfl, rfl, rfl, trivial⟩ rfl rfl rfl ?_ (by decide))
  intro v12 w11 ho14 hx13
  have hg : Bytes w11 _ (Frm.four (Frm.sumOf p).toNat) := Bytes.of_own (show OwnB w11 _ _ _ (Frm.four (Frm.sumOf p).toNat) from ho14)
  have hf1 := hf.ext hx13
  refine WL.op rfl (OW.appendB hf1 hg rfl rfl Try.underlying23 Try.type5 rfl rfl rfl rfl (by simp [Frm.four_len]) (World.grownBy.size (Ext.trans hx3 hx13)) ?_ (by decide))
  intro v16 w15 ho18 hx17 hmvhx17
  have hh := ho18
  refine WL.va rfl rfl rfl (X.assign rfl) ?_
  refine WL.nil ?_
  refine thn_n ?_
  refine WF.ret ?_
  refine fin_r ?_
  exact ⟨hh, (Ext.own (Ext.trans hx3 hx13) hf1 (Nat.le_refl _) hx17)⟩

theorem fput_ok (v : Value) (p : List UInt8) (w : World) (hb : Bytes w v p) : FnOk Try.prog 46 [v] w (fun r w' => (∃ x, r = .tuple #[x, i64 (Frm.put p).2] ∧ OwnB w' w.heap.size 5 x (Frm.put p).1) ∧ Ext w w') := by
  have hl := hb.le64
  refine FnOk.enter (rs := [2, 3]) Try.func46 rfl Try.ntmps46 Try.results46 rfl rfl ?_
  refine WF.seq ?_
  refine WF.region ?_
  refine WL.va rfl rfl rfl (X.assign rfl) ?_
  refine WL.va rfl rfl rfl (X.assignI rfl) ?_
  refine WL.nil ?_
  refine thn_n ?_
  refine WF.seq ?_
  refine WF.seq ?_
  refine WF.region ?_
  refine WL.va rfl rfl rfl (X.move rfl) ?_
  refine WL.va rfl rfl rfl (X.len hb rfl Try.underlying23) ?_
  refine WL.va rfl rfl rfl (X.gtr rfl rfl) ?_
  refine WL.nil ?_
  refine thn_n ?_
  refine WF.cond rfl (fun h0_1 => ?_) (fun h0_1 => ?_)
  · have gh0_1 := (of_decide_eq_true h0_1)
    refine WF.seq ?_
    refine WF.region ?_
    refine WL.va rfl rfl rfl (X.assign rfl) ?_
    refine WL.va rfl rfl rfl (X.assignI rfl) ?_
    refine WL.nil ?_
    refine thn_n ?_
    refine WF.ret ?_
    refine thn_r ?_
    refine fin_r ?_
    rw [Frm.put_long (by omega)]; exact ⟨⟨_, rfl, OwnB.nil _ _ _⟩, (Ext.refl _)⟩
  · have gh0_1 := (of_decide_eq_false h0_1)
    refine WF.skip ?_
    refine thn_n ?_
    refine WF.seq ?_
    refine WF.region ?_
    refine WL.va rfl rfl rfl (X.move rfl) ?_
    refine WL.c rfl rfl rfl (X.call Try.call68 (evl_cons rfl evl_nil)) (head_ok _ _ _ hb) ?_
    rintro v4 w3 ⟨hh, hx5⟩
    refine WL.va rfl rfl rfl (X.move rfl) ?_
    refine WL.op rfl (OW.appendB hh (hb.ext hx5) rfl rfl Try.underlying23 Try.type5 rfl rfl rfl rfl (by simp [Frm.head_len]; omega) (World.grownBy.size hx5) ?_ (by decide))
    intro v7 w6 ho9 hx8 hmvhx8
    have hp := ho9
    refine WL.va rfl rfl rfl (X.assign rfl) ?_
    refine WL.va rfl rfl rfl (X.assignI rfl) ?_
    refine WL.nil ?_
    refine thn_n ?_
    refine WF.ret ?_
    refine fin_r ?_
    rw [Frm.put_ok (by omega)]; exact ⟨⟨_, rfl, hp⟩, (Ext.own hx5 hh (Nat.le_refl _) hx8)⟩

theorem take4 {b : List UInt8} (h : ¬ b.length < 8) : b.take 4 = [b.getD 0 0, b.getD 1 0, b.getD 2 0, b.getD 3 0] := by
  match b, h with
  | x0 :: x1 :: x2 :: x3 :: _, _ => rfl
  | [], h | [_], h | [_, _], h | [_, _, _], h => simp at h
theorem num4 {b : List UInt8} (h : ¬ b.length < 8) : Frm.num (b.take 4) = (((b.getD 0 0).toNat * 2 ^ 24 + (b.getD 1 0).toNat * 2 ^ 16) + (b.getD 2 0).toNat * 2 ^ 8) + (b.getD 3 0).toNat := by
  rw [take4 h, Frm.num_four4]; omega
theorem orA (b : List UInt8) : IntKind.i64.wrap (BitVec.ofInt IntKind.i64.bits (((b.getD 0 0).toNat * 2 ^ 24 : Nat) : Int) ||| BitVec.ofInt IntKind.i64.bits (((b.getD 1 0).toNat * 2 ^ 16 : Nat) : Int)).toNat = (((b.getD 0 0).toNat * 2 ^ 24 + (b.getD 1 0).toNat * 2 ^ 16 : Nat) : Int) := by
  have h0 := (b.getD 0 0).toNat_lt
  have h1 := (b.getD 1 0).toNat_lt
  exact Frm.or64 _ _ 24 (by omega) (by omega)
theorem orB (b : List UInt8) : IntKind.i64.wrap (BitVec.ofInt IntKind.i64.bits (((b.getD 0 0).toNat * 2 ^ 24 + (b.getD 1 0).toNat * 2 ^ 16 : Nat) : Int) ||| BitVec.ofInt IntKind.i64.bits (((b.getD 2 0).toNat * 2 ^ 8 : Nat) : Int)).toNat = ((((b.getD 0 0).toNat * 2 ^ 24 + (b.getD 1 0).toNat * 2 ^ 16) + (b.getD 2 0).toNat * 2 ^ 8 : Nat) : Int) := by
  have h0 := (b.getD 0 0).toNat_lt
  have h1 := (b.getD 1 0).toNat_lt
  have h2 := (b.getD 2 0).toNat_lt
  rw [show (b.getD 0 0).toNat * 2 ^ 24 + (b.getD 1 0).toNat * 2 ^ 16 = ((b.getD 0 0).toNat * 256 + (b.getD 1 0).toNat) * 2 ^ 16 by omega]
  exact Frm.or64 _ _ 16 (by omega) (by omega)
theorem orC (b : List UInt8) : IntKind.i64.wrap (BitVec.ofInt IntKind.i64.bits ((((b.getD 0 0).toNat * 2 ^ 24 + (b.getD 1 0).toNat * 2 ^ 16) + (b.getD 2 0).toNat * 2 ^ 8 : Nat) : Int) ||| BitVec.ofInt IntKind.i64.bits ((b.getD 3 0).toNat : Int)).toNat = (((((b.getD 0 0).toNat * 2 ^ 24 + (b.getD 1 0).toNat * 2 ^ 16) + (b.getD 2 0).toNat * 2 ^ 8) + (b.getD 3 0).toNat : Nat) : Int) := by
  have h0 := (b.getD 0 0).toNat_lt
  have h1 := (b.getD 1 0).toNat_lt
  have h2 := (b.getD 2 0).toNat_lt
  have h3 := (b.getD 3 0).toNat_lt
  rw [show ((b.getD 0 0).toNat * 2 ^ 24 + (b.getD 1 0).toNat * 2 ^ 16) + (b.getD 2 0).toNat * 2 ^ 8 = (((b.getD 0 0).toNat * 256 + (b.getD 1 0).toNat) * 256 + (b.getD 2 0).toNat) * 2 ^ 8 by omega]
  exact Frm.or64 _ _ 8 (by omega) (by omega)
theorem orD {b : List UInt8} (h : ¬ b.length < 8) : IntKind.i64.wrap (BitVec.ofInt IntKind.i64.bits ((((b.getD 0 0).toNat * 2 ^ 24 + (b.getD 1 0).toNat * 2 ^ 16) + (b.getD 2 0).toNat * 2 ^ 8 : Nat) : Int) ||| BitVec.ofInt IntKind.i64.bits ((b.getD 3 0).toNat : Int)).toNat = ((Frm.num (b.take 4) : Nat) : Int) := by
  rw [num4 h]; exact orC b
theorem take_eq_of {a b : List UInt8} {n : Nat} (ha : a.length = n) (hb : n ≤ b.length) (h : ∀ i, i < n → b.getD i 0 = a.getD i 0) : a = b.take n := by
  apply List.ext_getElem (by simp; omega)
  intro i h1 h2
  have := h i (by omega)
  rw [List.getD_eq_getElem?_getD, List.getD_eq_getElem?_getD, List.getElem?_eq_getElem (by omega), List.getElem?_eq_getElem h1] at this
  simp at this
  simp [this]
theorem take_ne_of {a b : List UInt8} {n i : Nat} (hi : i < n) (h : ¬ ((b.getD i 0).toNat : Int) = ((a.getD i 0).toNat : Int)) : ¬ a = b.take n := fun e => by
  apply h
  rw [e]
  simp only [List.getD_eq_getElem?_getD, List.getElem?_take, if_pos hi]
theorem fget_ok (v : Value) (b : List UInt8) (w : World) (hb : Bytes w v b) : FnOk Try.prog 51 [v] w (fun r w' => (∃ x, r = .tuple #[x, i64 ((Frm.get b).2.1 : Nat), i64 (Frm.get b).2.2] ∧ OwnB w' w.heap.size 5 x (Frm.get b).1) ∧ Ext w w') := by
  have hl := hb.le64
  refine FnOk.enter (rs := [2, 3, 4]) Try.func51 rfl Try.ntmps51 Try.results51 rfl rfl ?_
  refine WF.seq ?_
  refine WF.region ?_
  refine WL.va rfl rfl rfl (X.assign rfl) ?_
  refine WL.va rfl rfl rfl (X.assignI rfl) ?_
  refine WL.va rfl rfl rfl (X.assignI rfl) ?_
  refine WL.nil ?_
  refine thn_n ?_
  refine WF.seq ?_
  refine WF.seq ?_
  refine WF.region ?_
  refine WL.va rfl rfl rfl (X.move rfl) ?_
  refine WL.va rfl rfl rfl (X.len hb rfl Try.underlying23) ?_
  refine WL.va rfl rfl rfl (X.lss rfl rfl) ?_
  refine WL.nil ?_
  refine thn_n ?_
  refine WF.cond rfl (fun h0_1 => ?_) (fun h0_1 => ?_)
  · have gh0_1 := (of_decide_eq_true h0_1)
    have h8 := gh0_1
    refine WF.seq ?_
    refine WF.region ?_
    refine WL.va rfl rfl rfl (X.assign rfl) ?_
    refine WL.va rfl rfl rfl (X.assignI rfl) ?_
    refine WL.va rfl rfl rfl (X.assignI rfl) ?_
    refine WL.nil ?_
    refine thn_n ?_
    refine WF.ret ?_
    refine thn_r ?_
    refine fin_r ?_
    rw [Frm.get_short (by omega)]; exact ⟨⟨_, rfl, OwnB.nil _ _ _⟩, (Ext.refl _)⟩
  · have gh0_1 := (of_decide_eq_false h0_1)
    have h8 := gh0_1
    refine WF.skip ?_
    refine thn_n ?_
    refine WF.seq ?_
    refine WF.drawn (.q 0 (.q 1 (.q 2 (.q 3 (.q 4 (.q 5 (.q 6 (.q 7 (.q 8 (.q 9 (.q 10 (.q 11 (.q 12 (.q 13 (.q 14 (.q 15 (.q 16 (.q 17 (.q 18 (.q 19 (.q 20 (.q 21 (.q 22 .nil))))))))))))))))))))))) (fun w' => Ext w w') 23 (by kernel_rfl) (by kernel_rfl) (Ext.drew _) ?_
    refine WO.q rfl rfl rfl rfl (fun w' hE3 => (X.move rfl)) ?_
    refine WO.q rfl rfl rfl rfl (fun w' hE3 => (X.idx (k := 0) hb rfl rfl (by omega) Try.underlying23 Try.sizeOf5)) ?_
    refine WO.q rfl rfl rfl rfl (fun w' hE3 => (X.loadB hb hE3 rfl (by omega) Try.isAgg5)) ?_
    refine WO.q rfl rfl rfl rfl (fun w' hE3 => (X.conv rfl (congrArg Option.isSome Try.underlying5) Try.underlying3 (Frm.conv64 _))) ?_
    refine WO.q rfl rfl rfl rfl (fun w' hE3 => (X.shl rfl rfl (by omega) (Frm.shl64 _ 24 (by decide)))) ?_
    refine WO.q rfl rfl rfl rfl (fun w' hE3 => (X.move rfl)) ?_
    refine WO.q rfl rfl rfl rfl (fun w' hE3 => (X.idx (k := 1) hb rfl rfl (by omega) Try.underlying23 Try.sizeOf5)) ?_
    refine WO.q rfl rfl rfl rfl (fun w' hE3 => (X.loadB hb hE3 rfl (by omega) Try.isAgg5)) ?_
    refine WO.q rfl rfl rfl rfl (fun w' hE3 => (X.conv rfl (congrArg Option.isSome Try.underlying5) Try.underlying3 (Frm.conv64 _))) ?_
    refine WO.q rfl rfl rfl rfl (fun w' hE3 => (X.shl rfl rfl (by omega) (Frm.shl64 _ 16 (by decide)))) ?_
    refine WO.q rfl rfl rfl rfl (fun w' hE3 => (X.or rfl rfl (orA b))) ?_
    refine WO.q rfl rfl rfl rfl (fun w' hE3 => (X.move rfl)) ?_
    refine WO.q rfl rfl rfl rfl (fun w' hE3 => (X.idx (k := 2) hb rfl rfl (by omega) Try.underlying23 Try.sizeOf5)) ?_
    refine WO.q rfl rfl rfl rfl (fun w' hE3 => (X.loadB hb hE3 rfl (by omega) Try.isAgg5)) ?_
    refine WO.q rfl rfl rfl rfl (fun w' hE3 => (X.conv rfl (congrArg Option.isSome Try.underlying5) Try.underlying3 (Frm.conv64 _))) ?_
    refine WO.q rfl rfl rfl rfl (fun w' hE3 => (X.shl rfl rfl (by omega) (Frm.shl64 _ 8 (by decide)))) ?_
    refine WO.q rfl rfl rfl rfl (fun w' hE3 => (X.or rfl rfl (orB b))) ?_
    refine WO.q rfl rfl rfl rfl (fun w' hE3 => (X.move rfl)) ?_
    refine WO.q rfl rfl rfl rfl (fun w' hE3 => (X.idx (k := 3) hb rfl rfl (by omega) Try.underlying23 Try.sizeOf5)) ?_
    refine WO.q rfl rfl rfl rfl (fun w' hE3 => (X.loadB hb hE3 rfl (by omega) Try.isAgg5)) ?_
    refine WO.q rfl rfl rfl rfl (fun w' hE3 => (X.conv rfl (congrArg Option.isSome Try.underlying5) Try.underlying3 (Frm.conv64 _))) ?_
    refine WO.q rfl rfl rfl rfl (fun w' hE3 => (X.or rfl rfl (orD (b := b) (by omega)))) ?_
    refine WO.q rfl rfl rfl rfl (fun w' hE3 => (X.assignI rfl)) ?_
    refine WO.nil ?_
    refine WL.nil ?_
    refine thn_n ?_
    refine WF.seq ?_
    refine WF.seq ?_
    refine WF.region ?_
    refine WL.va rfl rfl rfl (X.moveI rfl) ?_
    refine WL.va rfl rfl rfl (X.gtr rfl rfl) ?_
    refine WL.nil ?_
    refine thn_n ?_
    refine WF.cond rfl (fun h1_4 => ?_) (fun h1_4 => ?_)
    · have gh1_4 := (of_decide_eq_true h1_4)
      have hn := gh1_4
      refine WF.seq ?_
      refine WF.region ?_
      refine WL.va rfl rfl rfl (X.assign rfl) ?_
      refine WL.va rfl rfl rfl (X.assignI rfl) ?_
      refine WL.va rfl rfl rfl (X.assignI rfl) ?_
      refine WL.nil ?_
      refine thn_n ?_
      refine WF.ret ?_
      refine thn_r ?_
      refine fin_r ?_
      rw [Frm.get_long (by omega) (by omega)]; exact ⟨⟨_, rfl, OwnB.nil _ _ _⟩, (Ext.drew _)⟩
    · have gh1_4 := (of_decide_eq_false h1_4)
      have hn := gh1_4
      refine WF.skip ?_
      refine thn_n ?_
      refine WF.seq ?_
      refine WF.seq ?_
      refine WF.region ?_
      refine WL.va rfl rfl rfl (X.move rfl) ?_
      refine WL.va rfl rfl rfl (X.len hb rfl Try.underlying23) ?_
      refine WL.va rfl rfl rfl (X.moveI rfl) ?_
      refine WL.va rfl rfl rfl (X.add rfl rfl (w64 (by omega))) ?_
      refine WL.va rfl rfl rfl (X.lss rfl rfl) ?_
      refine WL.nil ?_
      refine thn_n ?_
      refine WF.cond rfl (fun h2_6 => ?_) (fun h2_6 => ?_)
      · have gh2_6 := (of_decide_eq_true h2_6)
        have hs := gh2_6
        refine WF.seq ?_
        refine WF.region ?_
        refine WL.va rfl rfl rfl (X.assign rfl) ?_
        refine WL.va rfl rfl rfl (X.assignI rfl) ?_
        refine WL.va rfl rfl rfl (X.assignI rfl) ?_
        refine WL.nil ?_
        refine thn_n ?_
        refine WF.ret ?_
        refine thn_r ?_
        refine fin_r ?_
        rw [Frm.get_short2 (by omega) (by omega) (by omega)]; exact ⟨⟨_, rfl, OwnB.nil _ _ _⟩, (Ext.drew _)⟩
      · have gh2_6 := (of_decide_eq_false h2_6)
        have hs := gh2_6
        refine WF.skip ?_
        refine thn_n ?_
        refine WF.seq ?_
        refine WF.region ?_
        refine WL.op rfl (OW.lit0 Try.underlying23 Try.sizeOf5 ?_ (by decide))
        intro v9 w8 ho11 hx10
        have he : OwnB w8 w.heap.size _ _ [] := ho11
        refine WL.va rfl rfl rfl (X.move rfl) ?_
        refine WL.va rfl rfl rfl (X.moveI rfl) ?_
        refine WL.va rfl rfl rfl (X.add rfl rfl (w64 (by omega))) ?_
        refine WL.va rfl rfl rfl (X.sl hb rfl rfl rfl (k := 8) (m := 8 + Frm.num (b.take 4)) (by omega) (by omega) Try.underlying23 Try.sizeOf5) ?_
        refine WL.op rfl (OW.appendB he ((Bytes.part hb 8 (8 + Frm.num (b.take 4)) (by omega) (by omega)).ext (Ext.trans (Ext.drew _) hx10)) rfl rfl Try.underlying23 Try.type5 rfl rfl rfl rfl (by simp; omega) (World.grownBy.size (Ext.trans (Ext.drew _) hx10)) ?_ (by decide))
        intro v13 w12 ho15 hx14 hmvhx14
        have hp : OwnB w12 w.heap.size _ _ ((b.drop 8).take (Frm.num (b.take 4))) := (by have := ho15; simpa using this)
        refine WL.va rfl rfl rfl (X.assign rfl) ?_
        refine WL.nil ?_
        refine thn_n ?_
        refine WF.seq ?_
        refine WF.seq ?_
        refine WF.region ?_
        refine WL.va rfl rfl rfl (X.move rfl) ?_
        refine WL.c rfl rfl rfl (X.call Try.call68 (evl_cons rfl evl_nil)) (head_ok _ _ _ (Bytes.of_own hp)) ?_
        rintro v17 w16 ⟨hh, hx18⟩
        have hp1 := hp.ext hx18
        refine WL.va rfl rfl rfl (X.len (Bytes.of_own hh) rfl Try.underlying23) ?_
        refine WL.va rfl rfl rfl (X.moveI rfl) ?_
        refine WL.nil ?_
        refine thn_n ?_
        refine WF.block ?_
        refine WF.named (fun F19 hF20 => ?_)
        refine WF.loopN (fun mL0 f' w' => ∃ (k : Nat), mL0 = 8 - k ∧ f' 50 = .int .i64 (k : Int) ∧ Agree [0, 5, 6, 9, 10, 11, 12, 13, 14, 15, 16, 17, 18, 19, 20, 21, 22, 23, 24, 25, 26, 27, 28, 29, 30, 31, 32, 33, 34, 35, 36, 37, 38, 39, 40, 41, 42, 43, 44, 45, 46, 47, 48, 49] f' F19 ∧ w16 = w' ∧ k ≤ 8 ∧ ∀ i, i < k → b.getD i 0 = (Frm.head ((b.drop 8).take (Frm.num (b.take 4)))).getD i 0) ?_ ?_
        · exact ⟨_, 0, rfl, (congrFun hF20 50), (Agree.refl _ _), rfl, ⟨by omega, fun i h => by omega⟩⟩
        · rintro mL0 fL0 wL0 ⟨k, hmL0, e50_L0, hAL0, rfl, ⟨hk, hkk⟩⟩
          have hlen := Frm.head_len ((b.drop 8).take (Frm.num (b.take 4)))
          refine WF.seq ?_
          refine WF.region ?_
          refine WL.va rfl rfl rfl (X.lss e50_L0 ((hAL0.eq 49).trans (congrFun hF20 49))) ?_
          refine WL.nil ?_
          refine thn_n ?_
          refine WF.seq ?_
          refine WF.cond rfl (fun h3_21 => ?_) (fun h3_21 => ?_)
          · have gh3_21 := (of_decide_eq_true h3_21)
            refine WF.skip ?_
            refine thn_n ?_
            refine WF.seq ?_
            refine WF.block ?_
            refine WF.seq ?_
            refine WF.region ?_
            refine WL.va rfl rfl rfl (X.moveI e50_L0) ?_
            refine WL.va rfl rfl rfl (X.idx (Bytes.of_own hh) ((hAL0.eq 48).trans (congrFun hF20 48)) e50_L0 (by omega) Try.underlying23 Try.sizeOf5) ?_
            refine WL.va rfl rfl rfl (X.loadB (Bytes.of_own hh) (Ext.refl _) rfl (by omega) Try.isAgg5) ?_
            refine WL.va rfl rfl rfl (X.assignI rfl) ?_
            refine WL.va rfl rfl rfl (X.assignI rfl) ?_
            refine WL.nil ?_
            refine thn_n ?_
            refine WF.seq ?_
            refine WF.region ?_
            refine WL.va rfl rfl rfl (X.move ((hAL0.eq 0).trans (congrFun hF20 0))) ?_
            refine WL.va rfl rfl rfl (X.moveI rfl) ?_
            refine WL.va rfl rfl rfl (X.idx hb rfl rfl (by omega) Try.underlying23 Try.sizeOf5) ?_
            refine WL.va rfl rfl rfl (X.loadB hb (Ext.trans (Ext.own (Ext.trans (Ext.drew _) hx10) he (Nat.le_refl _) hx14) hx18) rfl (by omega) Try.isAgg5) ?_
            refine WL.va rfl rfl rfl (X.moveI rfl) ?_
            refine WL.va rfl rfl rfl (X.neq rfl rfl) ?_
            refine WL.nil ?_
            refine thn_n ?_
            refine WF.cond rfl (fun h4_23 => ?_) (fun h4_23 => ?_)
            · have gh4_23 := (of_decide_eq_true h4_23)
              have hne := take_ne_of (n := 8) (by omega) gh4_23
              refine WF.seq ?_
              refine WF.region ?_
              refine WL.va rfl rfl rfl (X.assign rfl) ?_
              refine WL.va rfl rfl rfl (X.assignI rfl) ?_
              refine WL.va rfl rfl rfl (X.assignI rfl) ?_
              refine WL.nil ?_
              refine thn_n ?_
              refine WF.ret ?_
              refine blk_r ?_
              refine thn_r ?_
              refine thn_r ?_
              refine blk_r ?_
              refine thn_r ?_
              refine fin_r ?_
              rw [Frm.get_sum (by omega) (by omega) (by omega) hne]; exact ⟨⟨_, rfl, OwnB.nil _ _ _⟩, (Ext.trans (Ext.own (Ext.trans (Ext.drew _) hx10) he (Nat.le_refl _) hx14) hx18)⟩
            · have gh4_23 := (Decidable.of_not_not (of_decide_eq_false h4_23))
              have heq := gh4_23
              refine WF.skip ?_
              refine blk_n ?_
              refine thn_n ?_
              refine WF.region ?_
              refine WL.va rfl rfl rfl (X.add e50_L0 rfl (w64 (by omega))) ?_
              refine WL.va rfl rfl rfl (X.moveI rfl) ?_
              refine WL.nil ?_
              exact thn_n ⟨_, (by omega), k + 1, rfl, rfl, (by repeat (first | exact hAL0 | refine Agree.put ?_ rfl | refine Agree.named hF20 ?_)), rfl, ⟨by omega, fun i h => by rcases Nat.lt_succ_iff_lt_or_eq.1 h with h | rfl; exact hkk i h; exact byte_eq heq⟩⟩
          · have gh3_21 := (of_decide_eq_false h3_21)
            refine WF.exit ?_
            refine thn_x ?_
            refine thn_x ?_
            refine blk_eq ?_
            refine thn_n ?_
            refine WF.seq ?_
            refine WF.region ?_
            refine WL.va rfl rfl rfl (X.move ((hAL0.eq 6).trans (congrFun hF20 6))) ?_
            refine WL.va rfl rfl rfl (X.moveI ((hAL0.eq 5).trans (congrFun hF20 5))) ?_
            refine WL.va rfl rfl rfl (X.add rfl rfl (w64 (by omega))) ?_
            refine WL.va rfl rfl rfl (X.assign rfl) ?_
            refine WL.va rfl rfl rfl (X.assignI rfl) ?_
            refine WL.va rfl rfl rfl (X.assignI rfl) ?_
            refine WL.nil ?_
            refine thn_n ?_
            refine WF.ret ?_
            refine fin_r ?_
            rw [Frm.get_ok (by omega) (by omega) (by omega) (take_eq_of (Frm.head_len _) (by omega) (fun i h => hkk i (by omega)))]; exact ⟨⟨_, rfl, hp1⟩, (Ext.trans (Ext.own (Ext.trans (Ext.drew _) hx10) he (Nat.le_refl _) hx14) hx18)⟩

theorem num_snoc (l : List UInt8) (x : UInt8) : Frm.num (l ++ [x]) = Frm.num l * 256 + x.toNat := by simp [Frm.num]
theorem take_drop_step (b : List UInt8) (a k : Nat) (h : a + k < b.length) : (b.drop a).take (k + 1) = (b.drop a).take k ++ [b.getD (a + k) 0] := by
  rw [take_getD _ _ (by simp; omega)]
  simp only [List.getD_eq_getElem?_getD, List.getElem?_drop]
theorem fnum_step (b : List UInt8) (a k : Nat) (h : a + k < b.length) : ((Frm.num ((b.drop a).take (k + 1)) : Nat) : Int) = ((Frm.num ((b.drop a).take k) : Nat) : Int) * 256 + ((b.getD (a + k) 0).toNat : Int) := by
  rw [take_drop_step b a k h, num_snoc]; omega
theorem num_bound (b : List UInt8) (a : Nat) : ∀ k, k ≤ 4 → Frm.num ((b.drop a).take k) < 256 ^ k
  | 0, _ => by simp [Frm.num]
  | k + 1, h => by
    by_cases hk : a + k < b.length
    · have := num_bound b a k (by omega)
      have hx := (b.getD (a + k) 0).toNat_lt
      rw [take_drop_step b a k hk, num_snoc, Nat.pow_succ]
      omega
    · have := num_bound b a k (by omega)
      rw [List.take_of_length_le (by simp; omega)]
      rw [List.take_of_length_le (by simp; omega)] at this
      rw [Nat.pow_succ]; omega
theorem num_bound3 (b : List UInt8) (a k : Nat) (h : k ≤ 3) : Frm.num ((b.drop a).take k) < 16777216 :=
  Nat.lt_of_lt_of_le (num_bound b a k (by omega)) (Nat.pow_le_pow_right (by decide : 0 < 256) h)
theorem conv_len {n : Nat} (h : n ≤ 65536) : IntKind.u32.wrap (n : Int) = ((BitVec.ofNat 32 n).toNat : Int) := by
  rw [BitVec.toNat_ofNat, Nat.mod_eq_of_lt (by omega)]; exact wu32 (by omega)
theorem ofNat_len {n : Nat} (h : n ≤ 65536) : (BitVec.ofNat 32 n).toNat = n := by
  rw [BitVec.toNat_ofNat, Nat.mod_eq_of_lt (by omega)]
theorem fnumber_ok (v : Value) (b : List UInt8) (a : Nat) (w : World) (hb : Bytes w v b) (ha : a + 4 ≤ b.length) : FnOk Try.prog 78 [v, i64 (a : Int)] w (fun r w' => r = i64 ((Frm.num ((b.drop a).take 4) : Nat) : Int) ∧ w = w') := by
  have hl := hb.le64
  refine FnOk.enter (rs := [4]) Try.func78 rfl Try.ntmps78 Try.results78 rfl rfl ?_
  refine WF.seq ?_
  refine WF.region ?_
  refine WL.va rfl rfl rfl (X.assignI rfl) ?_
  refine WL.nil ?_
  refine thn_n ?_
  refine WF.seq ?_
  refine WF.region ?_
  refine WL.va rfl rfl rfl (X.assignI rfl) ?_
  refine WL.nil ?_
  refine thn_n ?_
  refine WF.seq ?_
  refine WF.seq ?_
  refine WF.region ?_
  refine WL.va rfl rfl rfl (X.assignI rfl) ?_
  refine WL.nil ?_
  refine thn_n ?_
  refine WF.block ?_
  refine WF.named (fun F1 hF2 => ?_)
  refine WF.loopN (fun mL0 f' w' => ∃ (k : Nat), mL0 = 4 - k ∧ f' 6 = .int .i64 (k : Int) ∧ f' 5 = .int .i64 ((Frm.num ((b.drop a).take k) : Nat) : Int) ∧ Agree [0, 1, 4] f' F1 ∧ w = w' ∧ k ≤ 4) ?_ ?_
  · exact ⟨_, 0, rfl, (congrFun hF2 6), (congrFun hF2 5), (Agree.refl _ _), rfl, Nat.zero_le _⟩
  · rintro mL0 fL0 wL0 ⟨k, hmL0, e6_L0, e5_L0, hAL0, rfl, hiL0⟩
    refine WF.seq ?_
    refine WF.seq ?_
    refine WF.region ?_
    refine WL.va rfl rfl rfl (X.moveI e6_L0) ?_
    refine WL.va rfl rfl rfl (X.lss rfl rfl) ?_
    refine WL.nil ?_
    refine thn_n ?_
    refine WF.cond rfl (fun h0_3 => ?_) (fun h0_3 => ?_)
    · have gh0_3 := (of_decide_eq_true h0_3)
      have hnb := num_bound3 b a k (by omega)
      refine WF.skip ?_
      refine thn_n ?_
      refine WF.seq ?_
      refine WF.block ?_
      refine WF.region ?_
      refine WL.va rfl rfl rfl (X.moveI e5_L0) ?_
      refine WL.va rfl rfl rfl (X.mul rfl rfl (w64 (by omega))) ?_
      refine WL.va rfl rfl rfl (X.move ((hAL0.eq 0).trans (congrFun hF2 0))) ?_
      refine WL.va rfl rfl rfl (X.moveI ((hAL0.eq 1).trans (congrFun hF2 1))) ?_
      refine WL.va rfl rfl rfl (X.moveI e6_L0) ?_
      refine WL.va rfl rfl rfl (X.add rfl rfl ((w64 (by omega)).trans (Int.natCast_add a k).symm)) ?_
      refine WL.va rfl rfl rfl (X.idx hb rfl rfl (k := a + k) (by omega) Try.underlying23 Try.sizeOf5) ?_
      refine WL.va rfl rfl rfl (X.loadB hb (Ext.refl _) rfl (k := a + k) (by omega) Try.isAgg5) ?_
      refine WL.va rfl rfl rfl (X.conv rfl (congrArg Option.isSome Try.underlying5) Try.underlying3 (Frm.conv64 _)) ?_
      refine WL.va rfl rfl rfl (X.add rfl rfl (w64 (by have := (b.getD (a + k) 0).toNat_lt; omega))) ?_
      refine WL.va rfl rfl rfl (X.assignI rfl) ?_
      refine WL.nil ?_
      refine blk_n ?_
      refine thn_n ?_
      refine WF.region ?_
      refine WL.va rfl rfl rfl (X.moveI e6_L0) ?_
      refine WL.va rfl rfl rfl (X.add rfl rfl (w64 (by omega))) ?_
      refine WL.va rfl rfl rfl (X.assignI rfl) ?_
      refine WL.nil ?_
      exact thn_n ⟨_, (by omega), k + 1, rfl, rfl, (congrArg i64 (fnum_step b a k (by omega)).symm), (by repeat (first | exact hAL0 | refine Agree.put ?_ rfl | refine Agree.named hF2 ?_)), rfl, (by omega)⟩
    · have gh0_3 := (of_decide_eq_false h0_3)
      refine WF.exit ?_
      refine thn_x ?_
      refine thn_x ?_
      refine blk_eq ?_
      refine thn_n ?_
      refine WF.seq ?_
      refine WF.region ?_
      refine WL.va rfl rfl rfl (X.moveI e5_L0) ?_
      refine WL.va rfl rfl rfl (X.assignI rfl) ?_
      refine WL.nil ?_
      refine thn_n ?_
      refine WF.ret ?_
      refine fin_r ?_
      obtain rfl : k = 4 := (by omega)
      exact ⟨rfl, rfl⟩

theorem frefPut_ok (v : Value) (p : List UInt8) (w : World) (hb : Bytes w v p) : FnOk Try.prog 49 [v] w (fun r w' => (∃ x, r = .tuple #[x, i64 (Frm.put p).2] ∧ OwnB w' w.heap.size 5 x (Frm.put p).1) ∧ Ext w w') := by
  have hl := hb.le64
  have hfl : (Frm.four (Frm.sumOf p).toNat).length = 4 := rfl
  refine FnOk.enter (rs := [2, 3]) Try.func49 rfl Try.ntmps49 Try.results49 rfl rfl ?_
  refine WF.seq ?_
  refine WF.region ?_
  refine WL.va rfl rfl rfl (X.assign rfl) ?_
  refine WL.va rfl rfl rfl (X.assignI rfl) ?_
  refine WL.nil ?_
  refine thn_n ?_
  refine WF.seq ?_
  refine WF.seq ?_
  refine WF.region ?_
  refine WL.va rfl rfl rfl (X.move rfl) ?_
  refine WL.va rfl rfl rfl (X.len hb rfl Try.underlying23) ?_
  refine WL.va rfl rfl rfl (X.gtr rfl rfl) ?_
  refine WL.nil ?_
  refine thn_n ?_
  refine WF.cond rfl (fun h0_1 => ?_) (fun h0_1 => ?_)
  · have gh0_1 := (of_decide_eq_true h0_1)
    refine WF.seq ?_
    refine WF.region ?_
    refine WL.va rfl rfl rfl (X.assign rfl) ?_
    refine WL.va rfl rfl rfl (X.assignI rfl) ?_
    refine WL.nil ?_
    refine thn_n ?_
    refine WF.ret ?_
    refine thn_r ?_
    refine fin_r ?_
    rw [Frm.put_long (by omega)]; exact ⟨⟨_, rfl, OwnB.nil _ _ _⟩, (Ext.refl _)⟩
  · have gh0_1 := (of_decide_eq_false h0_1)
    refine WF.skip ?_
    refine thn_n ?_
    refine WF.seq ?_
    refine WF.region ?_
    refine WL.va rfl rfl rfl (X.move rfl) ?_
    refine WL.va rfl rfl rfl (X.len hb rfl Try.underlying23) ?_
    refine WL.va rfl rfl rfl (X.conv rfl (congrArg Option.isSome Try.underlying3) Try.underlying84 (conv_len (by omega))) ?_
    refine WL.c rfl rfl rfl (X.call Try.call69 (evl_cons rfl evl_nil)) (four_ok (BitVec.ofNat 32 p.length) _) ?_
    rintro v4 w3 ⟨hf0, hx5⟩
    rw [ofNat_len (by omega)] at hf0
    refine WL.va rfl rfl rfl (X.assign rfl) ?_
    refine WL.nil ?_
    refine thn_n ?_
    refine WF.seq ?_
    refine WF.region ?_
    refine WL.va rfl rfl rfl (X.move rfl) ?_
    refine WL.c rfl rfl rfl (X.call Try.call71 (evl_cons rfl evl_nil)) (refOf_ok _ _ _ (Bytes.of_own hf0)) ?_
    rintro v7 w6 ⟨rfl, rfl⟩
    refine WL.va rfl rfl rfl (X.move rfl) ?_
    refine WL.c rfl rfl rfl (X.call Try.call70 (evl_cons rfl (evl_cons rfl evl_nil))) (refMore_ok _ _ _ _ (hb.ext hx5)) ?_
    rintro v10 w9 ⟨rfl, rfl⟩
    have hxw := hx5
    refine WL.c rfl rfl rfl (X.call Try.call69 (evl_cons rfl evl_nil)) (four_ok _ _) ?_
    rintro vs w12 ⟨hs0, hx13⟩
    have hf1 := hf0.ext hx13
    have hap0 : Apart vs _ := (own_apart hf0 hs0 (Nat.le_refl _)).symm
    refine WL.va rfl rfl rfl (X.assign rfl) ?_
    refine WL.nil ?_
    refine thn_n ?_
    refine WF.seq ?_
    refine WF.seq ?_
    refine WF.region ?_
    refine WL.va rfl rfl rfl (X.assignI rfl) ?_
    refine WL.nil ?_
    refine thn_n ?_
    refine WF.block ?_
    refine WF.named (fun F14 hF15 => ?_)
    refine WF.loopN (fun mL0 f' w' => ∃ (k : Nat) (vo : Value), mL0 = 4 - k ∧ f' 6 = .int .i64 (k : Int) ∧ f' 4 = vo ∧ Agree [0, 2, 3, 5, 8, 9, 10, 11, 12, 13, 14, 15, 16, 17, 18, 19] f' F14 ∧ Ext w w' ∧ k ≤ 4 ∧ OwnB w' w.heap.size 5 vo (Frm.four p.length ++ (Frm.four (Frm.sumOf p).toNat).take k) ∧ OwnB w' w.heap.size 5 vs (Frm.four (Frm.sumOf p).toNat) ∧ Apart vs vo) ?_ ?_
    · exact ⟨_, 0, _, rfl, (congrFun hF15 6), (congrFun hF15 4), (Agree.refl _ _), (Ext.trans hx5 hx13), ⟨Nat.zero_le _, hf1, own_mono hs0 (World.grownBy.size hxw), hap0⟩⟩
    · rintro mL0 fL0 wL0 ⟨k, vo, hmL0, e6_L0, e4_L0, hAL0, hwL0, ⟨hk, ho, hs, hap⟩⟩
      refine WF.seq ?_
      refine WF.seq ?_
      refine WF.region ?_
      refine WL.va rfl rfl rfl (X.moveI e6_L0) ?_
      refine WL.va rfl rfl rfl (X.lss rfl rfl) ?_
      refine WL.nil ?_
      refine thn_n ?_
      refine WF.cond rfl (fun h1_16 => ?_) (fun h1_16 => ?_)
      · have gh1_16 := (of_decide_eq_true h1_16)
        refine WF.skip ?_
        refine thn_n ?_
        refine WF.seq ?_
        refine WF.block ?_
        refine WF.region ?_
        refine WL.va rfl rfl rfl (X.move e4_L0) ?_
        refine WL.va rfl rfl rfl (X.move ((hAL0.eq 5).trans (congrFun hF15 5))) ?_
        refine WL.va rfl rfl rfl (X.moveI e6_L0) ?_
        refine WL.va rfl rfl rfl (X.idx (Bytes.of_own hs) rfl rfl (by omega) Try.underlying23 Try.sizeOf5) ?_
        refine WL.va rfl rfl rfl (X.loadB (Bytes.of_own hs) (Ext.refl _) rfl (by omega) Try.isAgg5) ?_
        refine WL.op rfl (OW.lits (vs := [u8 ((Frm.four (Frm.sumOf p).toNat).getD k 0)]) (evp_cons rfl evp_nil) Try.underlying23 Try.sizeOf5 Try.zeroValue5 ⟨rfl, trivial⟩ rfl rfl rfl ?_ (by decide))
        intro v19 w18 ho21 hx20
        have ho1 := ho.ext hx20
        have hs1 := hs.ext hx20
        refine WL.op rfl (OW.appendB ho1 (show Bytes _ _ [(Frm.four (Frm.sumOf p).toNat).getD k 0] from Row.of_own ho21) rfl rfl Try.underlying23 Try.type5 rfl rfl rfl rfl (by simp [Frm.four_len]; omega) (World.grownBy.size (Ext.trans hwL0 hx20)) ?_ (by decide))
        intro v23 w22 ho25 hx24 hmvhx24
        have ho2 := ho25
        have hs2 := World.ownsRow.kept hs1 hx24 hap.ne
        have hap2 := hap.moved hs1 hmvhx24
        refine WL.va rfl rfl rfl (X.assign rfl) ?_
        refine WL.nil ?_
        refine blk_n ?_
        refine thn_n ?_
        refine WF.region ?_
        refine WL.va rfl rfl rfl (X.moveI e6_L0) ?_
        refine WL.va rfl rfl rfl (X.add rfl rfl (w64 (by omega))) ?_
        refine WL.va rfl rfl rfl (X.assignI rfl) ?_
        refine WL.nil ?_
        exact thn_n ⟨_, (by omega), k + 1, _, rfl, rfl, rfl, (by repeat (first | exact hAL0 | refine Agree.put ?_ rfl | refine Agree.named hF15 ?_)), (Ext.own (Ext.trans hwL0 hx20) ho1 (Nat.le_refl _) hx24), ⟨by omega, by rw [take_getD _ _ (by show k < 4; omega), ← List.append_assoc]; exact ho2, hs2, hap2⟩⟩
      · have gh1_16 := (of_decide_eq_false h1_16)
        have hhd : OwnB _ _ _ _ (Frm.head p) := (by obtain rfl : k = 4 := (by omega); exact ho)
        refine WF.exit ?_
        refine thn_x ?_
        refine thn_x ?_
        refine blk_eq ?_
        refine thn_n ?_
        refine WF.seq ?_
        refine WF.seq ?_
        refine WF.region ?_
        refine WL.va rfl rfl rfl (X.assignI rfl) ?_
        refine WL.nil ?_
        refine thn_n ?_
        refine WF.block ?_
        refine WF.named (fun F26 hF27 => ?_)
        refine WF.loopN (fun mL1 f' w' => ∃ (j : Nat) (vp : Value), mL1 = p.length - j ∧ f' 7 = .int .i64 (j : Int) ∧ f' 4 = vp ∧ Agree [0, 2, 3, 5, 6, 8, 9, 10, 11, 12, 13, 14, 15, 16, 17, 18, 19, 20, 21] f' F26 ∧ Ext w w' ∧ j ≤ p.length ∧ OwnB w' w.heap.size 5 vp (Frm.head p ++ p.take j)) ?_ ?_
        · exact ⟨_, 0, _, rfl, (congrFun hF27 7), ((congrFun hF27 4).trans e4_L0), (Agree.refl _ _), hwL0, ⟨Nat.zero_le _, by rw [List.take_zero, List.append_nil]; exact hhd⟩⟩
        · rintro mL1 fL1 wL1 ⟨j, vp, hmL1, e7_L1, e4_L1, hAL1, hwL1, ⟨hj, hq⟩⟩
          refine WF.seq ?_
          refine WF.seq ?_
          refine WF.region ?_
          refine WL.va rfl rfl rfl (X.moveI e7_L1) ?_
          refine WL.va rfl rfl rfl (X.move ((hAL1.eq 0).trans ((congrFun hF27 0).trans ((hAL0.eq 0).trans (congrFun hF15 0))))) ?_
          refine WL.va rfl rfl rfl (X.len hb rfl Try.underlying23) ?_
          refine WL.va rfl rfl rfl (X.lss rfl rfl) ?_
          refine WL.nil ?_
          refine thn_n ?_
          refine WF.cond rfl (fun h2_28 => ?_) (fun h2_28 => ?_)
          · have gh2_28 := (of_decide_eq_true h2_28)
            refine WF.skip ?_
            refine thn_n ?_
            refine WF.seq ?_
            refine WF.block ?_
            refine WF.region ?_
            refine WL.va rfl rfl rfl (X.move e4_L1) ?_
            refine WL.va rfl rfl rfl (X.move ((hAL1.eq 0).trans ((congrFun hF27 0).trans ((hAL0.eq 0).trans (congrFun hF15 0))))) ?_
            refine WL.va rfl rfl rfl (X.moveI e7_L1) ?_
            refine WL.va rfl rfl rfl (X.idx hb rfl rfl (by omega) Try.underlying23 Try.sizeOf5) ?_
            refine WL.va rfl rfl rfl (X.loadB hb hwL1 rfl (by omega) Try.isAgg5) ?_
            refine WL.op rfl (OW.lits (vs := [u8 (p.getD j 0)]) (evp_cons rfl evp_nil) Try.underlying23 Try.sizeOf5 Try.zeroValue5 ⟨rfl, trivial⟩ rfl rfl rfl ?_ (by decide))
            intro v31 w30 ho33 hx32
            have hq1 := hq.ext hx32
            refine WL.op rfl (OW.appendB hq1 (show Bytes _ _ [p.getD j 0] from Row.of_own ho33) rfl rfl Try.underlying23 Try.type5 rfl rfl rfl rfl (by simp [Frm.head_len]; omega) (World.grownBy.size (Ext.trans hwL1 hx32)) ?_ (by decide))
            intro v35 w34 ho37 hx36 hmvhx36
            have ho3 := ho37
            refine WL.va rfl rfl rfl (X.assign rfl) ?_
            refine WL.nil ?_
            refine blk_n ?_
            refine thn_n ?_
            refine WF.region ?_
            refine WL.va rfl rfl rfl (X.moveI e7_L1) ?_
            refine WL.va rfl rfl rfl (X.add rfl rfl (w64 (by omega))) ?_
            refine WL.va rfl rfl rfl (X.assignI rfl) ?_
            refine WL.nil ?_
            exact thn_n ⟨_, (by omega), j + 1, _, rfl, rfl, rfl, (by repeat (first | exact hAL1 | refine Agree.put ?_ rfl | refine Agree.sub hAL0 rfl ?_ | refine Agree.named hF27 ?_ | refine Agree.named hF15 ?_)), (Ext.own (Ext.trans hwL1 hx32) hq1 (Nat.le_refl _) hx36), ⟨by omega, by rw [take_getD _ _ (by omega), ← List.append_assoc]; exact ho3⟩⟩
          · have gh2_28 := (of_decide_eq_false h2_28)
            refine WF.exit ?_
            refine thn_x ?_
            refine thn_x ?_
            refine blk_eq ?_
            refine thn_n ?_
            refine WF.seq ?_
            refine WF.region ?_
            refine WL.va rfl rfl rfl (X.move e4_L1) ?_
            refine WL.va rfl rfl rfl (X.assign rfl) ?_
            refine WL.va rfl rfl rfl (X.assignI rfl) ?_
            refine WL.nil ?_
            refine thn_n ?_
            refine WF.ret ?_
            refine fin_r ?_
            rw [Frm.put_ok (by omega)]; exact ⟨⟨_, rfl, by rw [List.take_of_length_le (by omega)] at hq; exact hq⟩, hwL1⟩

theorem number0_ok (v : Value) (b : List UInt8) (w : World) (hb : Bytes w v b) (ha : 4 ≤ b.length) : FnOk Try.prog 78 [v, i64 0] w (fun r w' => r = i64 ((Frm.num (b.take 4) : Nat) : Int) ∧ w = w') :=
  fnumber_ok v b 0 w hb (by omega)
theorem sum_eq {b p : List UInt8} (hl : 8 ≤ b.length) (hp : p.length = Frm.num (b.take 4)) : Crc.more (Crc.of ((b.drop 0).take (4 - 0))) p = Frm.sumOf p := by
  have : (b.drop 0).take (4 - 0) = Frm.four p.length := by rw [hp, Frm.four_num (by simp; omega)]; rfl
  rw [this]; rfl
theorem sum_num {b p : List UInt8} (hl : 8 ≤ b.length) (hp : p.length = Frm.num (b.take 4)) (h : Frm.head p = b.take 8) : ((Frm.num ((b.drop 4).take 4) : Nat) : Int) = ((Crc.more (Crc.of ((b.drop 0).take (4 - 0))) p).toNat : Int) := by
  rw [sum_eq hl hp, (Frm.head_eq hl hp).1 h]
theorem num_sum {b p : List UInt8} (hl : 8 ≤ b.length) (hp : p.length = Frm.num (b.take 4)) (h : ((Frm.num ((b.drop 4).take 4) : Nat) : Int) = ((Crc.more (Crc.of ((b.drop 0).take (4 - 0))) p).toNat : Int)) : Frm.head p = b.take 8 := by
  rw [sum_eq hl hp] at h
  exact (Frm.head_eq hl hp).2 (by omega)
theorem frefGet_ok (v : Value) (b : List UInt8) (w : World) (hb : Bytes w v b) : FnOk Try.prog 56 [v] w (fun r w' => (∃ x, r = .tuple #[x, i64 ((Frm.get b).2.1 : Nat), i64 (Frm.get b).2.2] ∧ OwnB w' w.heap.size 5 x (Frm.get b).1) ∧ Ext w w') := by
  have hl := hb.le64
  refine FnOk.enter (rs := [2, 3, 4]) Try.func56 rfl Try.ntmps56 Try.results56 rfl rfl ?_
  refine WF.seq ?_
  refine WF.region ?_
  refine WL.va rfl rfl rfl (X.assign rfl) ?_
  refine WL.va rfl rfl rfl (X.assignI rfl) ?_
  refine WL.va rfl rfl rfl (X.assignI rfl) ?_
  refine WL.nil ?_
  refine thn_n ?_
  refine WF.seq ?_
  refine WF.seq ?_
  refine WF.region ?_
  refine WL.va rfl rfl rfl (X.move rfl) ?_
  refine WL.va rfl rfl rfl (X.len hb rfl Try.underlying23) ?_
  refine WL.va rfl rfl rfl (X.lss rfl rfl) ?_
  refine WL.nil ?_
  refine thn_n ?_
  refine WF.cond rfl (fun h0_1 => ?_) (fun h0_1 => ?_)
  · have gh0_1 := (of_decide_eq_true h0_1)
    have h8 := gh0_1
    refine WF.seq ?_
    refine WF.region ?_
    refine WL.va rfl rfl rfl (X.assign rfl) ?_
    refine WL.va rfl rfl rfl (X.assignI rfl) ?_
    refine WL.va rfl rfl rfl (X.assignI rfl) ?_
    refine WL.nil ?_
    refine thn_n ?_
    refine WF.ret ?_
    refine thn_r ?_
    refine fin_r ?_
    rw [Frm.get_short (by omega)]; exact ⟨⟨_, rfl, OwnB.nil _ _ _⟩, (Ext.refl _)⟩
  · have gh0_1 := (of_decide_eq_false h0_1)
    have h8 := gh0_1
    refine WF.skip ?_
    refine thn_n ?_
    refine WF.seq ?_
    refine WF.region ?_
    refine WL.va rfl rfl rfl (X.move rfl) ?_
    refine WL.c rfl rfl rfl (X.call Try.call78 (evl_cons rfl (evl_cons rfl evl_nil))) (number0_ok _ _ _ hb (by omega)) ?_
    rintro v4 w3 ⟨rfl, rfl⟩
    refine WL.va rfl rfl rfl (X.assignI rfl) ?_
    refine WL.nil ?_
    refine thn_n ?_
    refine WF.seq ?_
    refine WF.seq ?_
    refine WF.region ?_
    refine WL.va rfl rfl rfl (X.moveI rfl) ?_
    refine WL.va rfl rfl rfl (X.gtr rfl rfl) ?_
    refine WL.nil ?_
    refine thn_n ?_
    refine WF.cond rfl (fun h1_6 => ?_) (fun h1_6 => ?_)
    · have gh1_6 := (of_decide_eq_true h1_6)
      have hn := gh1_6
      refine WF.seq ?_
      refine WF.region ?_
      refine WL.va rfl rfl rfl (X.assign rfl) ?_
      refine WL.va rfl rfl rfl (X.assignI rfl) ?_
      refine WL.va rfl rfl rfl (X.assignI rfl) ?_
      refine WL.nil ?_
      refine thn_n ?_
      refine WF.ret ?_
      refine thn_r ?_
      refine fin_r ?_
      rw [Frm.get_long (by omega) (by omega)]; exact ⟨⟨_, rfl, OwnB.nil _ _ _⟩, (Ext.refl _)⟩
    · have gh1_6 := (of_decide_eq_false h1_6)
      have hn := gh1_6
      refine WF.skip ?_
      refine thn_n ?_
      refine WF.seq ?_
      refine WF.seq ?_
      refine WF.region ?_
      refine WL.va rfl rfl rfl (X.move rfl) ?_
      refine WL.va rfl rfl rfl (X.len hb rfl Try.underlying23) ?_
      refine WL.va rfl rfl rfl (X.sub rfl rfl (w64 (by omega))) ?_
      refine WL.va rfl rfl rfl (X.moveI rfl) ?_
      refine WL.va rfl rfl rfl (X.lss rfl rfl) ?_
      refine WL.nil ?_
      refine thn_n ?_
      refine WF.cond rfl (fun h2_8 => ?_) (fun h2_8 => ?_)
      · have gh2_8 := (of_decide_eq_true h2_8)
        have hs := gh2_8
        refine WF.seq ?_
        refine WF.region ?_
        refine WL.va rfl rfl rfl (X.assign rfl) ?_
        refine WL.va rfl rfl rfl (X.assignI rfl) ?_
        refine WL.va rfl rfl rfl (X.assignI rfl) ?_
        refine WL.nil ?_
        refine thn_n ?_
        refine WF.ret ?_
        refine thn_r ?_
        refine fin_r ?_
        rw [Frm.get_short2 (by omega) (by omega) (by omega)]; exact ⟨⟨_, rfl, OwnB.nil _ _ _⟩, (Ext.refl _)⟩
      · have gh2_8 := (of_decide_eq_false h2_8)
        have hs := gh2_8
        refine WF.skip ?_
        refine thn_n ?_
        refine WF.seq ?_
        refine WF.region ?_
        refine WL.op rfl (OW.lit0 Try.underlying23 Try.sizeOf5 ?_ (by decide))
        intro v11 w10 ho13 hx12
        have he : OwnB w10 w.heap.size _ _ [] := ho13
        refine WL.va rfl rfl rfl (X.move rfl) ?_
        refine WL.va rfl rfl rfl (X.moveI rfl) ?_
        refine WL.va rfl rfl rfl (X.add rfl rfl (w64 (by omega))) ?_
        refine WL.va rfl rfl rfl (X.sl hb rfl rfl rfl (k := 8) (m := 8 + Frm.num (b.take 4)) (by omega) (by omega) Try.underlying23 Try.sizeOf5) ?_
        refine WL.op rfl (OW.appendB he ((Bytes.part hb 8 (8 + Frm.num (b.take 4)) (by omega) (by omega)).ext hx12) rfl rfl Try.underlying23 Try.type5 rfl rfl rfl rfl (by simp; omega) (World.grownBy.size hx12) ?_ (by decide))
        intro v15 w14 ho17 hx16 hmvhx16
        have hp : OwnB w14 w.heap.size _ _ ((b.drop 8).take (Frm.num (b.take 4))) := (by have := ho17; simpa using this)
        refine WL.va rfl rfl rfl (X.assign rfl) ?_
        refine WL.nil ?_
        refine thn_n ?_
        refine WF.seq ?_
        refine WF.seq ?_
        refine WF.drawn (.q 0 (.q 2 (.q 3 (.q 5 (.l 1 (.l 4 (.l 6 (.q 7 (.q 8 .nil))))))))) (fun w' => Ext w14 w') 9 (by kernel_rfl) (by kernel_rfl) (Ext.drew _) ?_
        refine WO.q rfl rfl rfl rfl (fun w' hE18 => (X.move rfl)) ?_
        refine WO.q rfl rfl rfl rfl (fun w' hE18 => (X.move rfl)) ?_
        refine WO.q rfl rfl rfl rfl (fun w' hE18 => (X.slH hb rfl rfl (m := 4) (by omega) Try.underlying23 Try.sizeOf5)) ?_
        refine WO.q rfl rfl rfl rfl (fun w' hE18 => (X.move rfl)) ?_
        refine WO.l ?_
        refine LO.go rfl rfl (OW.enter rfl (by decide) (X.call Try.call78 (evl_cons rfl (evl_cons rfl evl_nil))) (fnumber_ok _ _ 4 _ (hb.ext (Ext.trans (Ext.own hx12 he (Nat.le_refl _) hx16) (Ext.drew _))) (by omega)) ?_)
        rintro v20 w19 ⟨rfl, rfl⟩
        refine ⟨(Ext.drew _), ?_⟩
        refine WO.l ?_
        refine LO.go rfl rfl (OW.enter rfl (by decide) (X.call Try.call71 (evl_cons rfl evl_nil)) (refOf_ok _ _ _ ((Bytes.part hb 0 4 (by omega) (by omega)).ext (Ext.trans (Ext.own hx12 he (Nat.le_refl _) hx16) (Ext.drew _)))) ?_)
        rintro v23 w22 ⟨rfl, rfl⟩
        refine ⟨(Ext.drew _), ?_⟩
        refine WO.l ?_
        refine LO.go rfl rfl (OW.enter rfl (by decide) (X.call Try.call70 (evl_cons rfl (evl_cons rfl evl_nil))) (refMore_ok _ _ _ _ (Row.ext (Bytes.of_own hp) (Ext.drew _))) ?_)
        rintro v26 w25 ⟨rfl, rfl⟩
        refine ⟨(Ext.drew _), ?_⟩
        refine WO.q rfl rfl rfl rfl (fun w' hE18 => (X.conv rfl (congrArg Option.isSome Try.underlying84) Try.underlying3 (w64 (by have := (Crc.more (Crc.of ((b.drop 0).take (4 - 0))) ((b.drop 8).take (Frm.num (b.take 4)))).isLt; omega)))) ?_
        refine WO.q rfl rfl rfl rfl (fun w' hE18 => (X.neq rfl rfl)) ?_
        refine WO.nil ?_
        refine WL.nil ?_
        refine thn_n ?_
        refine WF.cond rfl (fun h3_28 => ?_) (fun h3_28 => ?_)
        · have gh3_28 := (of_decide_eq_true h3_28)
          have hq := gh3_28
          refine WF.seq ?_
          refine WF.region ?_
          refine WL.va rfl rfl rfl (X.assign rfl) ?_
          refine WL.va rfl rfl rfl (X.assignI rfl) ?_
          refine WL.va rfl rfl rfl (X.assignI rfl) ?_
          refine WL.nil ?_
          refine thn_n ?_
          refine WF.ret ?_
          refine thn_r ?_
          refine fin_r ?_
          rw [Frm.get_sum (by omega) (by omega) (by omega) (fun e => hq (sum_num (by omega) (by simp; omega) e))]; exact ⟨⟨_, rfl, OwnB.nil _ _ _⟩, (Ext.trans (Ext.own hx12 he (Nat.le_refl _) hx16) (Ext.drew _))⟩
        · have gh3_28 := (Decidable.of_not_not (of_decide_eq_false h3_28))
          have hq := gh3_28
          refine WF.skip ?_
          refine thn_n ?_
          refine WF.seq ?_
          refine WF.region ?_
          refine WL.va rfl rfl rfl (X.move rfl) ?_
          refine WL.va rfl rfl rfl (X.moveI rfl) ?_
          refine WL.va rfl rfl rfl (X.add rfl rfl (w64 (by omega))) ?_
          refine WL.va rfl rfl rfl (X.assign rfl) ?_
          refine WL.va rfl rfl rfl (X.assignI rfl) ?_
          refine WL.va rfl rfl rfl (X.assignI rfl) ?_
          refine WL.nil ?_
          refine thn_n ?_
          refine WF.ret ?_
          refine fin_r ?_
          rw [Frm.get_ok (by omega) (by omega) (by omega) (num_sum (by omega) (by simp; omega) hq)]; exact ⟨⟨_, rfl, hp⟩, (Ext.trans (Ext.own hx12 he (Nat.le_refl _) hx16) (Ext.drew _))⟩

end Go.Proofs.Ytccbpfbcaogcnaa
