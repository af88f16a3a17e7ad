/- The walks of frames: each function comes to what Frm says. -/
import Derived.Test.YtljlkljbemdedaaSumsW
import Derived.Test.YtljlkljbemdedaaFrm
namespace Go.Proofs.Ytljlkljbemdedaa
open Go Go.RowKit Kf

theorem four_ok (n : BitVec 32) (w : World) : FnOk Try.prog 31 [u32 n] w (fun r w' => OwnB w' w.heap.size 5 r (Frm.four n.toNat) ∧ Ext w w') := by
  refine FnOk.enter (rs := [2]) Try.func31 rfl Try.ntmps31 Try.results31 rfl rfl ?_
  refine WF.seq ?_
  refine WF.region ?_
  refine WL.va rfl rfl rfl (X.assign rfl) ?_
  refine WL.nil ?_
  refine thn_n ?_
  refine WF.seq ?_
  refine WF.region ?_
  refine WL.va rfl rfl rfl (X.moveI rfl) ?_
  refine WL.va rfl rfl rfl (X.shr rfl rfl (by omega) rfl) ?_
  refine WL.va rfl rfl rfl (X.conv rfl (congrArg Option.isSome Try.underlying23) Try.underlying5 (Frm.byteShr _ _ 24 (by decide))) ?_
  refine WL.va rfl rfl rfl (X.moveI rfl) ?_
  refine WL.va rfl rfl rfl (X.shr rfl rfl (by omega) rfl) ?_
  refine WL.va rfl rfl rfl (X.conv rfl (congrArg Option.isSome Try.underlying23) Try.underlying5 (Frm.byteShr _ _ 16 (by decide))) ?_
  refine WL.va rfl rfl rfl (X.moveI rfl) ?_
  refine WL.va rfl rfl rfl (X.shr rfl rfl (by omega) rfl) ?_
  refine WL.va rfl rfl rfl (X.conv rfl (congrArg Option.isSome Try.underlying23) Try.underlying5 (Frm.byteShr _ _ 8 (by decide))) ?_
  refine WL.va rfl rfl rfl (X.moveI rfl) ?_
  refine WL.va rfl rfl rfl (X.conv rfl (congrArg Option.isSome Try.underlying23) Try.underlying5 (Frm.byteLow _)) ?_
  refine WL.op rfl (OW.lits (vs := [u8 _, u8 _, u8 _, u8 _]) (evp_cons rfl (evp_cons rfl (evp_cons rfl (evp_cons rfl evp_nil)))) Try.underlying22 Try.sizeOf5 Try.zeroValue5 ⟨rfl, rfl, rfl, rfl, trivial⟩ rfl rfl rfl ?_ (by decide))
  intro v2 w1 ho4 hx3
  have hf : OwnB w1 _ _ _ (Frm.four n.toNat) := ho4
  refine WL.va rfl rfl rfl (X.assign rfl) ?_
  refine WL.nil ?_
  refine thn_n ?_
  refine WF.ret ?_
  refine fin_r ?_
  exact ⟨hf, hx3⟩

theorem head_ok (v : Value) (p : List UInt8) (w : World) (hb : Bytes w v p) : FnOk Try.prog 30 [v] w (fun r w' => OwnB w' w.heap.size 5 r (Frm.head p) ∧ Ext w w') := by
  have hl := hb.le64
  refine FnOk.enter (rs := [2]) Try.func30 rfl Try.ntmps30 Try.results30 rfl rfl ?_
  refine WF.seq ?_
  refine WF.region ?_
  refine WL.va rfl rfl rfl (X.assign rfl) ?_
  refine WL.nil ?_
  refine thn_n ?_
  refine WF.seq ?_
  refine WF.region ?_
  refine WL.va rfl rfl rfl (X.move rfl) ?_
  refine WL.va rfl rfl rfl (X.len hb rfl Try.underlying22) ?_
  refine WL.va rfl rfl rfl (X.assignI rfl) ?_
  refine WL.nil ?_
  refine thn_n ?_
  refine WF.seq ?_
  refine WF.region ?_
  refine WL.va rfl rfl rfl (X.moveI rfl) ?_
  refine WL.va rfl rfl rfl (X.shr rfl rfl (by omega) rfl) ?_
  refine WL.va rfl rfl rfl (X.conv rfl (congrArg Option.isSome Try.underlying3) Try.underlying5 (Frm.byteShr _ _ 24 (by decide))) ?_
  refine WL.va rfl rfl rfl (X.moveI rfl) ?_
  refine WL.va rfl rfl rfl (X.shr rfl rfl (by omega) rfl) ?_
  refine WL.va rfl rfl rfl (X.conv rfl (congrArg Option.isSome Try.underlying3) Try.underlying5 (Frm.byteShr _ _ 16 (by decide))) ?_
  refine WL.va rfl rfl rfl (X.moveI rfl) ?_
  refine WL.va rfl rfl rfl (X.shr rfl rfl (by omega) rfl) ?_
  refine WL.va rfl rfl rfl (X.conv rfl (congrArg Option.isSome Try.underlying3) Try.underlying5 (Frm.byteShr _ _ 8 (by decide))) ?_
  refine WL.va rfl rfl rfl (X.moveI rfl) ?_
  refine WL.va rfl rfl rfl (X.conv rfl (congrArg Option.isSome Try.underlying3) Try.underlying5 (Frm.byteLow _)) ?_
  refine WL.op rfl (OW.lits (vs := [u8 _, u8 _, u8 _, u8 _]) (evp_cons rfl (evp_cons rfl (evp_cons rfl (evp_cons rfl evp_nil)))) Try.underlying22 Try.sizeOf5 Try.zeroValue5 ⟨rfl, rfl, rfl, rfl, trivial⟩ rfl rfl rfl ?_ (by decide))
  intro v2 w1 ho4 hx3
  have hf : OwnB w1 _ _ _ (Frm.four p.length) := ho4
  refine WL.va rfl rfl rfl (X.assign rfl) ?_
  refine WL.nil ?_
  refine thn_n ?_
  refine WF.seq ?_
  refine WF.region ?_
  refine WL.va rfl rfl rfl (X.move rfl) ?_
  refine WL.c rfl rfl rfl (X.call Try.call15 (evl_cons rfl evl_nil)) (of_ok _ _ _ (Bytes.of_own hf)) ?_
  rintro v6 w5 ⟨rfl, rfl⟩
  refine WL.va rfl rfl rfl (X.move rfl) ?_
  refine WL.c rfl rfl rfl (X.call Try.call17 (evl_cons rfl (evl_cons rfl evl_nil))) (more_ok _ _ _ _ (hb.ext hx3)) ?_
  rintro v9 w8 ⟨rfl, rfl⟩
  refine WL.va rfl rfl rfl (X.assignI rfl) ?_
  refine WL.nil ?_
  refine thn_n ?_
  refine WF.seq ?_
  refine WF.region ?_
  refine WL.va rfl rfl rfl (X.move rfl) ?_
  refine WL.va rfl rfl rfl (X.moveI rfl) ?_
  refine WL.va rfl rfl rfl (X.shr rfl rfl (by omega) rfl) ?_
  refine WL.va rfl rfl rfl (X.conv rfl (congrArg Option.isSome Try.underlying23) Try.underlying5 (Frm.byteShr _ _ 24 (by decide))) ?_
  refine WL.va rfl rfl rfl (X.moveI rfl) ?_
  refine WL.va rfl rfl rfl (X.shr rfl rfl (by omega) rfl) ?_
  refine WL.va rfl rfl rfl (X.conv rfl (congrArg Option.isSome Try.underlying23) Try.underlying5 (Frm.byteShr _ _ 16 (by decide))) ?_
  refine WL.va rfl rfl rfl (X.moveI rfl) ?_
  refine WL.va rfl rfl rfl (X.shr rfl rfl (by omega) rfl) ?_
  refine WL.va rfl rfl rfl (X.conv rfl (congrArg Option.isSome Try.underlying23) Try.underlying5 (Frm.byteShr _ _ 8 (by decide))) ?_
  refine WL.va rfl rfl rfl (X.moveI rfl) ?_
  refine WL.va rfl rfl rfl (X.conv rfl (congrArg Option.isSome Try.underlying23) Try.underlying5 (Frm.byteLow _)) ?_
  refine WL.op rfl (OW.lits (vs := [u8 _, u8 _, u8 _, u8 _]) (evp_cons rfl (evp_cons rfl (evp_cons rfl (evp_cons rfl evp_nil)))) Try.underlying22 Try.sizeOf5 Try.zeroValue5 ⟨rfl, rfl, rfl, rfl, trivial⟩ rfl rfl rfl ?_ (by decide))
  intro v12 w11 ho14 hx13
  have hg : Bytes w11 _ (Frm.four (Frm.sumOf p).toNat) := Bytes.of_own (show OwnB w11 _ _ _ (Frm.four (Frm.sumOf p).toNat) from ho14)
  have hf1 := hf.ext hx13
  refine WL.op rfl (OW.appendB hf1 hg rfl rfl Try.underlying22 Try.type5 rfl rfl rfl rfl (by simp [Frm.four_len]) (World.grownBy.size (Ext.trans hx3 hx13)) ?_ (by decide))
  intro v16 w15 ho18 hx17 hmvhx17
  have hh := ho18
  refine WL.va rfl rfl rfl (X.assign rfl) ?_
  refine WL.nil ?_
  refine thn_n ?_
  refine WF.ret ?_
  refine fin_r ?_
  exact ⟨hh, (Ext.own (Ext.trans hx3 hx13) hf1 (Nat.le_refl _) hx17)⟩

theorem put_ok (v : Value) (p : List UInt8) (w : World) (hb : Bytes w v p) : FnOk Try.prog 23 [v] w (fun r w' => (∃ x, r = .tuple #[x, i64 (Frm.put p).2] ∧ OwnB w' w.heap.size 5 x (Frm.put p).1) ∧ Ext w w') := by
  have hl := hb.le64
  refine FnOk.enter (rs := [2, 3]) Try.func23 rfl Try.ntmps23 Try.results23 rfl rfl ?_
  refine WF.seq ?_
  refine WF.region ?_
  refine WL.va rfl rfl rfl (X.assign rfl) ?_
  refine WL.va rfl rfl rfl (X.assignI rfl) ?_
  refine WL.nil ?_
  refine thn_n ?_
  refine WF.seq ?_
  refine WF.seq ?_
  refine WF.region ?_
  refine WL.va rfl rfl rfl (X.move rfl) ?_
  refine WL.va rfl rfl rfl (X.len hb rfl Try.underlying22) ?_
  refine WL.va rfl rfl rfl (X.gtr rfl rfl) ?_
  refine WL.nil ?_
  refine thn_n ?_
  refine WF.cond rfl (fun h0_1 => ?_) (fun h0_1 => ?_)
  · have gh0_1 := (of_decide_eq_true h0_1)
    refine WF.seq ?_
    refine WF.region ?_
    refine WL.va rfl rfl rfl (X.assign rfl) ?_
    refine WL.va rfl rfl rfl (X.assignI rfl) ?_
    refine WL.nil ?_
    refine thn_n ?_
    refine WF.ret ?_
    refine thn_r ?_
    refine fin_r ?_
    rw [Frm.put_long (by omega)]; exact ⟨⟨_, rfl, OwnB.nil _ _ _⟩, (Ext.refl _)⟩
  · have gh0_1 := (of_decide_eq_false h0_1)
    refine WF.skip ?_
    refine thn_n ?_
    refine WF.seq ?_
    refine WF.region ?_
    refine WL.va rfl rfl rfl (X.move rfl) ?_
    refine WL.c rfl rfl rfl (X.call Try.call30 (evl_cons rfl evl_nil)) (head_ok _ _ _ hb) ?_
    rintro v4 w3 ⟨hh, hx5⟩
    refine WL.va rfl rfl rfl (X.move rfl) ?_
    refine WL.op rfl (OW.appendB hh (hb.ext hx5) rfl rfl Try.underlying22 Try.type5 rfl rfl rfl rfl (by simp [Frm.head_len]; omega) (World.grownBy.size hx5) ?_ (by decide))
    intro v7 w6 ho9 hx8 hmvhx8
    have hp := ho9
    refine WL.va rfl rfl rfl (X.assign rfl) ?_
    refine WL.va rfl rfl rfl (X.assignI rfl) ?_
    refine WL.nil ?_
    refine thn_n ?_
    refine WF.ret ?_
    refine fin_r ?_
    rw [Frm.put_ok (by omega)]; exact ⟨⟨_, rfl, hp⟩, (Ext.own hx5 hh (Nat.le_refl _) hx8)⟩

theorem take4 {b : List UInt8} (h : ¬ b.length < 8) : b.take 4 = [b.getD 0 0, b.getD 1 0, b.getD 2 0, b.getD 3 0] := by
  match b, h with
  | x0 :: x1 :: x2 :: x3 :: _, _ => rfl
  | [], h | [_], h | [_, _], h | [_, _, _], h => simp at h
theorem num4 {b : List UInt8} (h : ¬ b.length < 8) : Frm.num (b.take 4) = (((b.getD 0 0).toNat * 2 ^ 24 + (b.getD 1 0).toNat * 2 ^ 16) + (b.getD 2 0).toNat * 2 ^ 8) + (b.getD 3 0).toNat := by
  rw [take4 h, Frm.num_four4]; omega
theorem orA (b : List UInt8) : IntKind.i64.wrap (BitVec.ofInt IntKind.i64.bits (((b.getD 0 0).toNat * 2 ^ 24 : Nat) : Int) ||| BitVec.ofInt IntKind.i64.bits (((b.getD 1 0).toNat * 2 ^ 16 : Nat) : Int)).toNat = (((b.getD 0 0).toNat * 2 ^ 24 + (b.getD 1 0).toNat * 2 ^ 16 : Nat) : Int) := by
  have h0 := (b.getD 0 0).toNat_lt
  have h1 := (b.getD 1 0).toNat_lt
  exact Frm.or64 _ _ 24 (by omega) (by omega)
theorem orB (b : List UInt8) : IntKind.i64.wrap (BitVec.ofInt IntKind.i64.bits (((b.getD 0 0).toNat * 2 ^ 24 + (b.getD 1 0).toNat * 2 ^ 16 : Nat) : Int) ||| BitVec.ofInt IntKind.i64.bits (((b.getD 2 0).toNat * 2 ^ 8 : Nat) : Int)).toNat = ((((b.getD 0 0).toNat * 2 ^ 24 + (b.getD 1 0).toNat * 2 ^ 16) + (b.getD 2 0).toNat * 2 ^ 8 : Nat) : Int) := by
  have h0 := (b.getD 0 0).toNat_lt
  have h1 := (b.getD 1 0).toNat_lt
  have h2 := (b.getD 2 0).toNat_lt
  rw [show (b.getD 0 0).toNat * 2 ^ 24 + (b.getD 1 0).toNat * 2 ^ 16 = ((b.getD 0 0).toNat * 256 + (b.getD 1 0).toNat) * 2 ^ 16 by omega]
  exact Frm.or64 _ _ 16 (by omega) (by omega)
theorem orC (b : List UInt8) : IntKind.i64.wrap (BitVec.ofInt IntKind.i64.bits ((((b.getD 0 0).toNat * 2 ^ 24 + (b.getD 1 0).toNat * 2 ^ 16) + (b.getD 2 0).toNat * 2 ^ 8 : Nat) : Int) ||| BitVec.ofInt IntKind.i64.bits ((b.getD 3 0).toNat : Int)).toNat = (((((b.getD 0 0).toNat * 2 ^ 24 + (b.getD 1 0).toNat * 2 ^ 16) + (b.getD 2 0).toNat * 2 ^ 8) + (b.getD 3 0).toNat : Nat) : Int) := by
  have h0 := (b.getD 0 0).toNat_lt
  have h1 := (b.getD 1 0).toNat_lt
  have h2 := (b.getD 2 0).toNat_lt
  have h3 := (b.getD 3 0).toNat_lt
  rw [show ((b.getD 0 0).toNat * 2 ^ 24 + (b.getD 1 0).toNat * 2 ^ 16) + (b.getD 2 0).toNat * 2 ^ 8 = (((b.getD 0 0).toNat * 256 + (b.getD 1 0).toNat) * 256 + (b.getD 2 0).toNat) * 2 ^ 8 by omega]
  exact Frm.or64 _ _ 8 (by omega) (by omega)
theorem orD {b : List UInt8} (h : ¬ b.length < 8) : IntKind.i64.wrap (BitVec.ofInt IntKind.i64.bits ((((b.getD 0 0).toNat * 2 ^ 24 + (b.getD 1 0).toNat * 2 ^ 16) + (b.getD 2 0).toNat * 2 ^ 8 : Nat) : Int) ||| BitVec.ofInt IntKind.i64.bits ((b.getD 3 0).toNat : Int)).toNat = ((Frm.num (b.take 4) : Nat) : Int) := by
  rw [num4 h]; exact orC b
theorem take_eq_of {a b : List UInt8} {n : Nat} (ha : a.length = n) (hb : n ≤ b.length) (h : ∀ i, i < n → b.getD i 0 = a.getD i 0) : a = b.take n := by
  apply List.ext_getElem (by simp; omega)
  intro i h1 h2
  have := h i (by omega)
  rw [List.getD_eq_getElem?_getD, List.getD_eq_getElem?_getD, List.getElem?_eq_getElem (by omega), List.getElem?_eq_getElem h1] at this
  simp at this
  simp [this]
theorem take_ne_of {a b : List UInt8} {n i : Nat} (hi : i < n) (h : ¬ ((b.getD i 0).toNat : Int) = ((a.getD i 0).toNat : Int)) : ¬ a = b.take n := fun e => by
  apply h
  rw [e]
  simp only [List.getD_eq_getElem?_getD, List.getElem?_take, if_pos hi]
theorem get_ok (v : Value) (b : List UInt8) (w : World) (hb : Bytes w v b) : FnOk Try.prog 25 [v] w (fun r w' => (∃ x, r = .tuple #[x, i64 ((Frm.get b).2.1 : Nat), i64 (Frm.get b).2.2] ∧ OwnB w' w.heap.size 5 x (Frm.get b).1) ∧ Ext w w') := by
  have hl := hb.le64
  refine FnOk.enter (rs := [2, 3, 4]) Try.func25 rfl Try.ntmps25 Try.results25 rfl rfl ?_
  refine WF.seq ?_
  refine WF.region ?_
  refine WL.va rfl rfl rfl (X.assign rfl) ?_
  refine WL.va rfl rfl rfl (X.assignI rfl) ?_
  refine WL.va rfl rfl rfl (X.assignI rfl) ?_
  refine WL.nil ?_
  refine thn_n ?_
  refine WF.seq ?_
  refine WF.seq ?_
  refine WF.region ?_
  refine WL.va rfl rfl rfl (X.move rfl) ?_
  refine WL.va rfl rfl rfl (X.len hb rfl Try.underlying22) ?_
  refine WL.va rfl rfl rfl (X.lss rfl rfl) ?_
  refine WL.nil ?_
  refine thn_n ?_
  refine WF.cond rfl (fun h0_1 => ?_) (fun h0_1 => ?_)
  · have gh0_1 := (of_decide_eq_true h0_1)
    have h8 := gh0_1
    refine WF.seq ?_
    refine WF.region ?_
    refine WL.va rfl rfl rfl (X.assign rfl) ?_
    refine WL.va rfl rfl rfl (X.assignI rfl) ?_
    refine WL.va rfl rfl rfl (X.assignI rfl) ?_
    refine WL.nil ?_
    refine thn_n ?_
    refine WF.ret ?_
    refine thn_r ?_
    refine fin_r ?_
    rw [Frm.get_short (by omega)]; exact ⟨⟨_, rfl, OwnB.nil _ _ _⟩, (Ext.refl _)⟩
  · have gh0_1 := (of_decide_eq_false h0_1)
    have h8 := gh0_1
    refine WF.skip ?_
    refine thn_n ?_
    refine WF.seq ?_
    refine WF.drawn (.q 0 (.q 1 (.q 2 (.q 3 (.q 4 (.q 5 (.q 6 (.q 7 (.q 8 (.q 9 (.q 10 (.q 11 (.q 12 (.q 13 (.q 14 (.q 15 (.q 16 (.q 17 (.q 18 (.q 19 (.q 20 (.q 21 (.q 22 .nil))))))))))))))))))))))) (fun w' => Ext w w') 23 (by kernel_rfl) (by kernel_rfl) (Ext.drew _) ?_
    refine WO.q rfl rfl rfl rfl (fun w' hE3 => (X.move rfl)) ?_
    refine WO.q rfl rfl rfl rfl (fun w' hE3 => (X.idx hb rfl rfl (k := 0) (by omega) Try.underlying22 Try.sizeOf5)) ?_
    refine WO.q rfl rfl rfl rfl (fun w' hE3 => (X.loadB hb hE3 rfl (k := 0) (by omega) Try.isAgg5)) ?_
    refine WO.q rfl rfl rfl rfl (fun w' hE3 => (X.conv rfl (congrArg Option.isSome Try.underlying5) Try.underlying3 (Frm.conv64 _))) ?_
    refine WO.q rfl rfl rfl rfl (fun w' hE3 => (X.shl rfl rfl (by omega) (Frm.shl64 _ 24 (by decide)))) ?_
    refine WO.q rfl rfl rfl rfl (fun w' hE3 => (X.move rfl)) ?_
    refine WO.q rfl rfl rfl rfl (fun w' hE3 => (X.idx hb rfl rfl (k := 1) (by omega) Try.underlying22 Try.sizeOf5)) ?_
    refine WO.q rfl rfl rfl rfl (fun w' hE3 => (X.loadB hb hE3 rfl (k := 1) (by omega) Try.isAgg5)) ?_
    refine WO.q rfl rfl rfl rfl (fun w' hE3 => (X.conv rfl (congrArg Option.isSome Try.underlying5) Try.underlying3 (Frm.conv64 _))) ?_
    refine WO.q rfl rfl rfl rfl (fun w' hE3 => (X.shl rfl rfl (by omega) (Frm.shl64 _ 16 (by decide)))) ?_
    refine WO.q rfl rfl rfl rfl (fun w' hE3 => (X.or rfl rfl (orA b))) ?_
    refine WO.q rfl rfl rfl rfl (fun w' hE3 => (X.move rfl)) ?_
    refine WO.q rfl rfl rfl rfl (fun w' hE3 => (X.idx hb rfl rfl (k := 2) (by omega) Try.underlying22 Try.sizeOf5)) ?_
    refine WO.q rfl rfl rfl rfl (fun w' hE3 => (X.loadB hb hE3 rfl (k := 2) (by omega) Try.isAgg5)) ?_
    refine WO.q rfl rfl rfl rfl (fun w' hE3 => (X.conv rfl (congrArg Option.isSome Try.underlying5) Try.underlying3 (Frm.conv64 _))) ?_
    refine WO.q rfl rfl rfl rfl (fun w' hE3 => (X.shl rfl rfl (by omega) (Frm.shl64 _ 8 (by decide)))) ?_
    refine WO.q rfl rfl rfl rfl (fun w' hE3 => (X.or rfl rfl (orB b))) ?_
    refine WO.q rfl rfl rfl rfl (fun w' hE3 => (X.move rfl)) ?_
    refine WO.q rfl rfl rfl rfl (fun w' hE3 => (X.idx hb rfl rfl (k := 3) (by omega) Try.underlying22 Try.sizeOf5)) ?_
    refine WO.q rfl rfl rfl rfl (fun w' hE3 => (X.loadB hb hE3 rfl (k := 3) (by omega) Try.isAgg5)) ?_
    refine WO.q rfl rfl rfl rfl (fun w' hE3 => (X.conv rfl (congrArg Option.isSome Try.underlying5) Try.underlying3 (Frm.conv64 _))) ?_
    refine WO.q rfl rfl rfl rfl (fun w' hE3 => (X.or rfl rfl (orD (b := b) (by omega)))) ?_
    refine WO.q rfl rfl rfl rfl (fun w' hE3 => (X.assignI rfl)) ?_
    refine WO.nil ?_
    refine WL.nil ?_
    refine thn_n ?_
    refine WF.seq ?_
    refine WF.seq ?_
    refine WF.region ?_
    refine WL.va rfl rfl rfl (X.moveI rfl) ?_
    refine WL.va rfl rfl rfl (X.gtr rfl rfl) ?_
    refine WL.nil ?_
    refine thn_n ?_
    refine WF.cond rfl (fun h1_4 => ?_) (fun h1_4 => ?_)
    · have gh1_4 := (of_decide_eq_true h1_4)
      have hn := gh1_4
      refine WF.seq ?_
      refine WF.region ?_
      refine WL.va rfl rfl rfl (X.assign rfl) ?_
      refine WL.va rfl rfl rfl (X.assignI rfl) ?_
      refine WL.va rfl rfl rfl (X.assignI rfl) ?_
      refine WL.nil ?_
      refine thn_n ?_
      refine WF.ret ?_
      refine thn_r ?_
      refine fin_r ?_
      rw [Frm.get_long (by omega) (by omega)]; exact ⟨⟨_, rfl, OwnB.nil _ _ _⟩, (Ext.drew _)⟩
    · have gh1_4 := (of_decide_eq_false h1_4)
      have hn := gh1_4
      refine WF.skip ?_
      refine thn_n ?_
      refine WF.seq ?_
      refine WF.seq ?_
      refine WF.region ?_
      refine WL.va rfl rfl rfl (X.move rfl) ?_
      refine WL.va rfl rfl rfl (X.len hb rfl Try.underlying22) ?_
      refine WL.va rfl rfl rfl (X.moveI rfl) ?_
      refine WL.va rfl rfl rfl (X.add rfl rfl (w64 (by omega))) ?_
      refine WL.va rfl rfl rfl (X.lss rfl rfl) ?_
      refine WL.nil ?_
      refine thn_n ?_
      refine WF.cond rfl (fun h2_6 => ?_) (fun h2_6 => ?_)
      · have gh2_6 := (of_decide_eq_true h2_6)
        have hs := gh2_6
        refine WF.seq ?_
        refine WF.region ?_
        refine WL.va rfl rfl rfl (X.assign rfl) ?_
        refine WL.va rfl rfl rfl (X.assignI rfl) ?_
        refine WL.va rfl rfl rfl (X.assignI rfl) ?_
        refine WL.nil ?_
        refine thn_n ?_
        refine WF.ret ?_
        refine thn_r ?_
        refine fin_r ?_
        rw [Frm.get_short2 (by omega) (by omega) (by omega)]; exact ⟨⟨_, rfl, OwnB.nil _ _ _⟩, (Ext.drew _)⟩
      · have gh2_6 := (of_decide_eq_false h2_6)
        have hs := gh2_6
        refine WF.skip ?_
        refine thn_n ?_
        refine WF.seq ?_
        refine WF.region ?_
        refine WL.op rfl (OW.lit0 Try.underlying22 Try.sizeOf5 ?_ (by decide))
        intro v9 w8 ho11 hx10
        have he : OwnB w8 w.heap.size _ _ [] := ho11
        refine WL.va rfl rfl rfl (X.move rfl) ?_
        refine WL.va rfl rfl rfl (X.moveI rfl) ?_
        refine WL.va rfl rfl rfl (X.add rfl rfl (w64 (by omega))) ?_
        refine WL.va rfl rfl rfl (X.sl hb rfl rfl rfl (k := 8) (m := 8 + Frm.num (b.take 4)) (by omega) (by omega) Try.underlying22 Try.sizeOf5) ?_
        refine WL.op rfl (OW.appendB he ((Bytes.part hb 8 (8 + Frm.num (b.take 4)) (by omega) (by omega)).ext (Ext.trans (Ext.drew _) hx10)) rfl rfl Try.underlying22 Try.type5 rfl rfl rfl rfl (by simp; omega) (World.grownBy.size (Ext.trans (Ext.drew _) hx10)) ?_ (by decide))
        intro v13 w12 ho15 hx14 hmvhx14
        have hp : OwnB w12 w.heap.size _ _ ((b.drop 8).take (Frm.num (b.take 4))) := (by have := ho15; simpa using this)
        refine WL.va rfl rfl rfl (X.assign rfl) ?_
        refine WL.nil ?_
        refine thn_n ?_
        refine WF.seq ?_
        refine WF.seq ?_
        refine WF.region ?_
        refine WL.va rfl rfl rfl (X.move rfl) ?_
        refine WL.c rfl rfl rfl (X.call Try.call30 (evl_cons rfl evl_nil)) (head_ok _ _ _ (Bytes.of_own hp)) ?_
        rintro v17 w16 ⟨hh, hx18⟩
        have hp1 := hp.ext hx18
        refine WL.va rfl rfl rfl (X.len (Bytes.of_own hh) rfl Try.underlying22) ?_
        refine WL.va rfl rfl rfl (X.moveI rfl) ?_
        refine WL.nil ?_
        refine thn_n ?_
        refine WF.block ?_
        refine WF.named (fun F19 hF20 => ?_)
        refine WF.loopN (fun mL0 f' w' => ∃ (k : Nat), mL0 = 8 - k ∧ f' 50 = .int .i64 (k : Int) ∧ Agree [0, 5, 6, 9, 10, 11, 12, 13, 14, 15, 16, 17, 18, 19, 20, 21, 22, 23, 24, 25, 26, 27, 28, 29, 30, 31, 32, 33, 34, 35, 36, 37, 38, 39, 40, 41, 42, 43, 44, 45, 46, 47, 48, 49] f' F19 ∧ w16 = w' ∧ k ≤ 8 ∧ ∀ i, i < k → b.getD i 0 = (Frm.head ((b.drop 8).take (Frm.num (b.take 4)))).getD i 0) ?_ ?_
        · exact ⟨_, 0, rfl, (congrFun hF20 50), (Agree.refl _ _), rfl, ⟨by omega, fun i h => by omega⟩⟩
        · rintro mL0 fL0 wL0 ⟨k, hmL0, e50_L0, hAL0, rfl, ⟨hk, hkk⟩⟩
          have hlen := Frm.head_len ((b.drop 8).take (Frm.num (b.take 4)))
          refine WF.seq ?_
          refine WF.region ?_
          refine WL.va rfl rfl rfl (X.lss e50_L0 ((hAL0.eq 49).trans (congrFun hF20 49))) ?_
          refine WL.nil ?_
          refine thn_n ?_
          refine WF.seq ?_
          refine WF.cond rfl (fun h3_21 => ?_) (fun h3_21 => ?_)
          · have gh3_21 := (of_decide_eq_true h3_21)
            refine WF.skip ?_
            refine thn_n ?_
            refine WF.seq ?_
            refine WF.block ?_
            refine WF.seq ?_
            refine WF.region ?_
            refine WL.va rfl rfl rfl (X.moveI e50_L0) ?_
            refine WL.va rfl rfl rfl (X.idx (Bytes.of_own hh) ((hAL0.eq 48).trans (congrFun hF20 48)) e50_L0 (by omega) Try.underlying22 Try.sizeOf5) ?_
            refine WL.va rfl rfl rfl (X.loadB (Bytes.of_own hh) (Ext.refl _) rfl (by omega) Try.isAgg5) ?_
            refine WL.va rfl rfl rfl (X.assignI rfl) ?_
            refine WL.va rfl rfl rfl (X.assignI rfl) ?_
            refine WL.nil ?_
            refine thn_n ?_
            refine WF.seq ?_
            refine WF.region ?_
            refine WL.va rfl rfl rfl (X.move ((hAL0.eq 0).trans (congrFun hF20 0))) ?_
            refine WL.va rfl rfl rfl (X.moveI rfl) ?_
            refine WL.va rfl rfl rfl (X.idx hb rfl rfl (by omega) Try.underlying22 Try.sizeOf5) ?_
            refine WL.va rfl rfl rfl (X.loadB hb (Ext.trans (Ext.own (Ext.trans (Ext.drew _) hx10) he (Nat.le_refl _) hx14) hx18) rfl (by omega) Try.isAgg5) ?_
            refine WL.va rfl rfl rfl (X.moveI rfl) ?_
            refine WL.va rfl rfl rfl (X.neq rfl rfl) ?_
            refine WL.nil ?_
            refine thn_n ?_
            refine WF.cond rfl (fun h4_23 => ?_) (fun h4_23 => ?_)
            · have gh4_23 := (of_decide_eq_true h4_23)
              have hne := take_ne_of (n := 8) (by omega) gh4_23
              refine WF.seq ?_
              refine WF.region ?_
              refine WL.va rfl rfl rfl (X.assign rfl) ?_
              refine WL.va rfl rfl rfl (X.assignI rfl) ?_
              refine WL.va rfl rfl rfl (X.assignI rfl) ?_
              refine WL.nil ?_
              refine thn_n ?_
              refine WF.ret ?_
              refine blk_r ?_
              refine thn_r ?_
              refine thn_r ?_
              refine blk_r ?_
              refine thn_r ?_
              refine fin_r ?_
              rw [Frm.get_sum (by omega) (by omega) (by omega) hne]; exact ⟨⟨_, rfl, OwnB.nil _ _ _⟩, (Ext.trans (Ext.own (Ext.trans (Ext.drew _) hx10) he (Nat.le_refl _) hx14) hx18)⟩
            · have gh4_23 := (Decidable.of_not_not (of_decide_eq_false h4_23))
              have heq := gh4_23
              refine WF.skip ?_
              refine blk_n ?_
              refine thn_n ?_
              refine WF.region ?_
              refine WL.va rfl rfl rfl (X.add e50_L0 rfl (w64 (by omega))) ?_
              refine WL.va rfl rfl rfl (X.moveI rfl) ?_
              refine WL.nil ?_
              exact thn_n ⟨_, (by omega), k + 1, rfl, rfl, (by repeat (first | exact hAL0 | refine Agree.put ?_ rfl | refine Agree.named hF20 ?_)), rfl, ⟨by omega, fun i h => by rcases Nat.lt_succ_iff_lt_or_eq.1 h with h | rfl; exact hkk i h; exact byte_eq heq⟩⟩
          · have gh3_21 := (of_decide_eq_false h3_21)
            refine WF.exit ?_
            refine thn_x ?_
            refine thn_x ?_
            refine blk_eq ?_
            refine thn_n ?_
            refine WF.seq ?_
            refine WF.region ?_
            refine WL.va rfl rfl rfl (X.move ((hAL0.eq 6).trans (congrFun hF20 6))) ?_
            refine WL.va rfl rfl rfl (X.moveI ((hAL0.eq 5).trans (congrFun hF20 5))) ?_
            refine WL.va rfl rfl rfl (X.add rfl rfl (w64 (by omega))) ?_
            refine WL.va rfl rfl rfl (X.assign rfl) ?_
            refine WL.va rfl rfl rfl (X.assignI rfl) ?_
            refine WL.va rfl rfl rfl (X.assignI rfl) ?_
            refine WL.nil ?_
            refine thn_n ?_
            refine WF.ret ?_
            refine fin_r ?_
            rw [Frm.get_ok (by omega) (by omega) (by omega) (take_eq_of (Frm.head_len _) (by omega) (fun i h => hkk i (by omega)))]; exact ⟨⟨_, rfl, hp1⟩, (Ext.trans (Ext.own (Ext.trans (Ext.drew _) hx10) he (Nat.le_refl _) hx14) hx18)⟩

theorem num_snoc (l : List UInt8) (x : UInt8) : Frm.num (l ++ [x]) = Frm.num l * 256 + x.toNat := by simp [Frm.num]
theorem take_drop_step (b : List UInt8) (a k : Nat) (h : a + k < b.length) : (b.drop a).take (k + 1) = (b.drop a).take k ++ [b.getD (a + k) 0] := by
  rw [take_getD _ _ (by simp; omega)]
  simp only [List.getD_eq_getElem?_getD, List.getElem?_drop]
theorem num_step (b : List UInt8) (a k : Nat) (h : a + k < b.length) : ((Frm.num ((b.drop a).take (k + 1)) : Nat) : Int) = ((Frm.num ((b.drop a).take k) : Nat) : Int) * 256 + ((b.getD (a + k) 0).toNat : Int) := by
  rw [take_drop_step b a k h, num_snoc]; omega
theorem num_bound (b : List UInt8) (a : Nat) : ∀ k, k ≤ 4 → Frm.num ((b.drop a).take k) < 256 ^ k
  | 0, _ => by simp [Frm.num]
  | k + 1, h => by
    by_cases hk : a + k < b.length
    · have := num_bound b a k (by omega)
      have hx := (b.getD (a + k) 0).toNat_lt
      rw [take_drop_step b a k hk, num_snoc, Nat.pow_succ]
      omega
    · have := num_bound b a k (by omega)
      rw [List.take_of_length_le (by simp; omega)]
      rw [List.take_of_length_le (by simp; omega)] at this
      rw [Nat.pow_succ]; omega
theorem num_bound3 (b : List UInt8) (a k : Nat) (h : k ≤ 3) : Frm.num ((b.drop a).take k) < 16777216 :=
  Nat.lt_of_lt_of_le (num_bound b a k (by omega)) (Nat.pow_le_pow_right (by decide : 0 < 256) h)
theorem conv_len {n : Nat} (h : n ≤ 65536) : IntKind.u32.wrap (n : Int) = ((BitVec.ofNat 32 n).toNat : Int) := by
  rw [BitVec.toNat_ofNat, Nat.mod_eq_of_lt (by omega)]; exact wu32 (by omega)
theorem ofNat_len {n : Nat} (h : n ≤ 65536) : (BitVec.ofNat 32 n).toNat = n := by
  rw [BitVec.toNat_ofNat, Nat.mod_eq_of_lt (by omega)]
theorem number_ok (v : Value) (b : List UInt8) (a : Nat) (w : World) (hb : Bytes w v b) (ha : a + 4 ≤ b.length) : FnOk Try.prog 32 [v, i64 (a : Int)] w (fun r w' => r = i64 ((Frm.num ((b.drop a).take 4) : Nat) : Int) ∧ w = w') := by
  have hl := hb.le64
  refine FnOk.enter (rs := [4]) Try.func32 rfl Try.ntmps32 Try.results32 rfl rfl ?_
  refine WF.seq ?_
  refine WF.region ?_
  refine WL.va rfl rfl rfl (X.assignI rfl) ?_
  refine WL.nil ?_
  refine thn_n ?_
  refine WF.seq ?_
  refine WF.region ?_
  refine WL.va rfl rfl rfl (X.assignI rfl) ?_
  refine WL.nil ?_
  refine thn_n ?_
  refine WF.seq ?_
  refine WF.seq ?_
  refine WF.region ?_
  refine WL.va rfl rfl rfl (X.assignI rfl) ?_
  refine WL.nil ?_
  refine thn_n ?_
  refine WF.block ?_
  refine WF.named (fun F1 hF2 => ?_)
  refine WF.loopN (fun mL0 f' w' => ∃ (k : Nat), mL0 = 4 - k ∧ f' 6 = .int .i64 (k : Int) ∧ f' 5 = .int .i64 ((Frm.num ((b.drop a).take k) : Nat) : Int) ∧ Agree [0, 1, 4] f' F1 ∧ w = w' ∧ k ≤ 4) ?_ ?_
  · exact ⟨_, 0, rfl, (congrFun hF2 6), (congrFun hF2 5), (Agree.refl _ _), rfl, Nat.zero_le _⟩
  · rintro mL0 fL0 wL0 ⟨k, hmL0, e6_L0, e5_L0, hAL0, rfl, hiL0⟩
    refine WF.seq ?_
    refine WF.seq ?_
    refine WF.region ?_
    refine WL.va rfl rfl rfl (X.moveI e6_L0) ?_
    refine WL.va rfl rfl rfl (X.lss rfl rfl) ?_
    refine WL.nil ?_
    refine thn_n ?_
    refine WF.cond rfl (fun h0_3 => ?_) (fun h0_3 => ?_)
    · have gh0_3 := (of_decide_eq_true h0_3)
      have hnb := num_bound3 b a k (by omega)
      refine WF.skip ?_
      refine thn_n ?_
      refine WF.seq ?_
      refine WF.block ?_
      refine WF.region ?_
      refine WL.va rfl rfl rfl (X.moveI e5_L0) ?_
      refine WL.va rfl rfl rfl (X.mul rfl rfl (w64 (by omega))) ?_
      refine WL.va rfl rfl rfl (X.move ((hAL0.eq 0).trans (congrFun hF2 0))) ?_
      refine WL.va rfl rfl rfl (X.moveI ((hAL0.eq 1).trans (congrFun hF2 1))) ?_
      refine WL.va rfl rfl rfl (X.moveI e6_L0) ?_
      refine WL.va rfl rfl rfl (X.add rfl rfl ((w64 (by omega)).trans (Int.natCast_add a k).symm)) ?_
      refine WL.va rfl rfl rfl (X.idx hb rfl rfl (k := a + k) (by omega) Try.underlying22 Try.sizeOf5) ?_
      refine WL.va rfl rfl rfl (X.loadB hb (Ext.refl _) rfl (k := a + k) (by omega) Try.isAgg5) ?_
      refine WL.va rfl rfl rfl (X.conv rfl (congrArg Option.isSome Try.underlying5) Try.underlying3 (Frm.conv64 _)) ?_
      refine WL.va rfl rfl rfl (X.add rfl rfl (w64 (by have := (b.getD (a + k) 0).toNat_lt; omega))) ?_
      refine WL.va rfl rfl rfl (X.assignI rfl) ?_
      refine WL.nil ?_
      refine blk_n ?_
      refine thn_n ?_
      refine WF.region ?_
      refine WL.va rfl rfl rfl (X.moveI e6_L0) ?_
      refine WL.va rfl rfl rfl (X.add rfl rfl (w64 (by omega))) ?_
      refine WL.va rfl rfl rfl (X.assignI rfl) ?_
      refine WL.nil ?_
      exact thn_n ⟨_, (by omega), k + 1, rfl, rfl, (congrArg i64 (num_step b a k (by omega)).symm), (by repeat (first | exact hAL0 | refine Agree.put ?_ rfl | refine Agree.named hF2 ?_)), rfl, (by omega)⟩
    · have gh0_3 := (of_decide_eq_false h0_3)
      refine WF.exit ?_
      refine thn_x ?_
      refine thn_x ?_
      refine blk_eq ?_
      refine thn_n ?_
      refine WF.seq ?_
      refine WF.region ?_
      refine WL.va rfl rfl rfl (X.moveI e5_L0) ?_
      refine WL.va rfl rfl rfl (X.assignI rfl) ?_
      refine WL.nil ?_
      refine thn_n ?_
      refine WF.ret ?_
      refine fin_r ?_
      obtain rfl : k = 4 := (by omega)
      exact ⟨rfl, rfl⟩

theorem refPut_ok (v : Value) (p : List UInt8) (w : World) (hb : Bytes w v p) : FnOk Try.prog 24 [v] w (fun r w' => (∃ x, r = .tuple #[x, i64 (Frm.put p).2] ∧ OwnB w' w.heap.size 5 x (Frm.put p).1) ∧ Ext w w') := by
  have hl := hb.le64
  have hfl : (Frm.four (Frm.sumOf p).toNat).length = 4 := rfl
  refine FnOk.enter (rs := [2, 3]) Try.func24 rfl Try.ntmps24 Try.results24 rfl rfl ?_
  refine WF.seq ?_
  refine WF.region ?_
  refine WL.va rfl rfl rfl (X.assign rfl) ?_
  refine WL.va rfl rfl rfl (X.assignI rfl) ?_
  refine WL.nil ?_
  refine thn_n ?_
  refine WF.seq ?_
  refine WF.seq ?_
  refine WF.region ?_
  refine WL.va rfl rfl rfl (X.move rfl) ?_
  refine WL.va rfl rfl rfl (X.len hb rfl Try.underlying22) ?_
  refine WL.va rfl rfl rfl (X.gtr rfl rfl) ?_
  refine WL.nil ?_
  refine thn_n ?_
  refine WF.cond rfl (fun h0_1 => ?_) (fun h0_1 => ?_)
  · have gh0_1 := (of_decide_eq_true h0_1)
    refine WF.seq ?_
    refine WF.region ?_
    refine WL.va rfl rfl rfl (X.assign rfl) ?_
    refine WL.va rfl rfl rfl (X.assignI rfl) ?_
    refine WL.nil ?_
    refine thn_n ?_
    refine WF.ret ?_
    refine thn_r ?_
    refine fin_r ?_
    rw [Frm.put_long (by omega)]; exact ⟨⟨_, rfl, OwnB.nil _ _ _⟩, (Ext.refl _)⟩
  · have gh0_1 := (of_decide_eq_false h0_1)
    refine WF.skip ?_
    refine thn_n ?_
    refine WF.seq ?_
    refine WF.region ?_
    refine WL.va rfl rfl rfl (X.move rfl) ?_
    refine WL.va rfl rfl rfl (X.len hb rfl Try.underlying22) ?_
    refine WL.va rfl rfl rfl (X.conv rfl (congrArg Option.isSome Try.underlying3) Try.underlying23 (conv_len (by omega))) ?_
    refine WL.c rfl rfl rfl (X.call Try.call31 (evl_cons rfl evl_nil)) (four_ok (BitVec.ofNat 32 p.length) _) ?_
    rintro v4 w3 ⟨hf0, hx5⟩
    rw [ofNat_len (by omega)] at hf0
    refine WL.va rfl rfl rfl (X.assign rfl) ?_
    refine WL.nil ?_
    refine thn_n ?_
    refine WF.seq ?_
    refine WF.region ?_
    refine WL.va rfl rfl rfl (X.move rfl) ?_
    refine WL.c rfl rfl rfl (X.call Try.call16 (evl_cons rfl evl_nil)) (refOf_ok _ _ _ (Bytes.of_own hf0)) ?_
    rintro v7 w6 ⟨rfl, rfl⟩
    refine WL.va rfl rfl rfl (X.move rfl) ?_
    refine WL.c rfl rfl rfl (X.call Try.call18 (evl_cons rfl (evl_cons rfl evl_nil))) (refMore_ok _ _ _ _ (hb.ext hx5)) ?_
    rintro v10 w9 ⟨rfl, rfl⟩
    have hxw := hx5
    refine WL.c rfl rfl rfl (X.call Try.call31 (evl_cons rfl evl_nil)) (four_ok _ _) ?_
    rintro vs w12 ⟨hs0, hx13⟩
    have hf1 := hf0.ext hx13
    have hap0 : Apart vs _ := (own_apart hf0 hs0 (Nat.le_refl _)).symm
    refine WL.va rfl rfl rfl (X.assign rfl) ?_
    refine WL.nil ?_
    refine thn_n ?_
    refine WF.seq ?_
    refine WF.seq ?_
    refine WF.region ?_
    refine WL.va rfl rfl rfl (X.assignI rfl) ?_
    refine WL.nil ?_
    refine thn_n ?_
    refine WF.block ?_
    refine WF.named (fun F14 hF15 => ?_)
    refine WF.loopN (fun mL0 f' w' => ∃ (k : Nat) (vo : Value), mL0 = 4 - k ∧ f' 6 = .int .i64 (k : Int) ∧ f' 4 = vo ∧ Agree [0, 2, 3, 5, 8, 9, 10, 11, 12, 13, 14, 15, 16, 17, 18, 19] f' F14 ∧ Ext w w' ∧ k ≤ 4 ∧ OwnB w' w.heap.size 5 vo (Frm.four p.length ++ (Frm.four (Frm.sumOf p).toNat).take k) ∧ OwnB w' w.heap.size 5 vs (Frm.four (Frm.sumOf p).toNat) ∧ Apart vs vo) ?_ ?_
    · exact ⟨_, 0, _, rfl, (congrFun hF15 6), (congrFun hF15 4), (Agree.refl _ _), (Ext.trans hx5 hx13), ⟨Nat.zero_le _, hf1, own_mono hs0 (World.grownBy.size hxw), hap0⟩⟩
    · rintro mL0 fL0 wL0 ⟨k, vo, hmL0, e6_L0, e4_L0, hAL0, hwL0, ⟨hk, ho, hs, hap⟩⟩
      refine WF.seq ?_
      refine WF.seq ?_
      refine WF.region ?_
      refine WL.va rfl rfl rfl (X.moveI e6_L0) ?_
      refine WL.va rfl rfl rfl (X.lss rfl rfl) ?_
      refine WL.nil ?_
      refine thn_n ?_
      refine WF.cond rfl (fun h1_16 => ?_) (fun h1_16 => ?_)
      · have gh1_16 := (of_decide_eq_true h1_16)
        refine WF.skip ?_
        refine thn_n ?_
        refine WF.seq ?_
        refine WF.block ?_
        refine WF.region ?_
        refine WL.va rfl rfl rfl (X.move e4_L0) ?_
        refine WL.va rfl rfl rfl (X.move ((hAL0.eq 5).trans (congrFun hF15 5))) ?_
        refine WL.va rfl rfl rfl (X.moveI e6_L0) ?_
        refine WL.va rfl rfl rfl (X.idx (Bytes.of_own hs) rfl rfl (by omega) Try.underlying22 Try.sizeOf5) ?_
        refine WL.va rfl rfl rfl (X.loadB (Bytes.of_own hs) (Ext.refl _) rfl (by omega) Try.isAgg5) ?_
        refine WL.op rfl (OW.lits (vs := [u8 ((Frm.four (Frm.sumOf p).toNat).getD k 0)]) (evp_cons rfl evp_nil) Try.underlying22 Try.sizeOf5 Try.zeroValue5 ⟨rfl, trivial⟩ rfl rfl rfl ?_ (by decide))
        intro v19 w18 ho21 hx20
        have ho1 := ho.ext hx20
        have hs1 := hs.ext hx20
        refine WL.op rfl (OW.appendB ho1 (show Bytes _ _ [(Frm.four (Frm.sumOf p).toNat).getD k 0] from Row.of_own ho21) rfl rfl Try.underlying22 Try.type5 rfl rfl rfl rfl (by simp [Frm.four_len]; omega) (World.grownBy.size (Ext.trans hwL0 hx20)) ?_ (by decide))
        intro v23 w22 ho25 hx24 hmvhx24
        have ho2 := ho25
        have hs2 := World.ownsRow.kept hs1 hx24 hap.ne
        have hap2 := hap.moved hs1 hmvhx24
        refine WL.va rfl rfl rfl (X.assign rfl) ?_
        refine WL.nil ?_
        refine blk_n ?_
        refine thn_n ?_
        refine WF.region ?_
        refine WL.va rfl rfl rfl (X.moveI e6_L0) ?_
        refine WL.va rfl rfl rfl (X.add rfl rfl (w64 (by omega))) ?_
        refine WL.va rfl rfl rfl (X.assignI rfl) ?_
        refine WL.nil ?_
        exact thn_n ⟨_, (by omega), k + 1, _, rfl, rfl, rfl, (by repeat (first | exact hAL0 | refine Agree.put ?_ rfl | refine Agree.named hF15 ?_)), (Ext.own (Ext.trans hwL0 hx20) ho1 (Nat.le_refl _) hx24), ⟨by omega, by rw [take_getD _ _ (by show k < 4; omega), ← List.append_assoc]; exact ho2, hs2, hap2⟩⟩
      · have gh1_16 := (of_decide_eq_false h1_16)
        have hhd : OwnB _ _ _ _ (Frm.head p) := (by obtain rfl : k = 4 := (by omega); exact ho)
        refine WF.exit ?_
        refine thn_x ?_
        refine thn_x ?_
        refine blk_eq ?_
        refine thn_n ?_
        refine WF.seq ?_
        refine WF.seq ?_
        refine WF.region ?_
        refine WL.va rfl rfl rfl (X.assignI rfl) ?_
        refine WL.nil ?_
        refine thn_n ?_
        refine WF.block ?_
        refine WF.named (fun F26 hF27 => ?_)
        refine WF.loopN (fun mL1 f' w' => ∃ (j : Nat) (vp : Value), mL1 = p.length - j ∧ f' 7 = .int .i64 (j : Int) ∧ f' 4 = vp ∧ Agree [0, 2, 3, 5, 6, 8, 9, 10, 11, 12, 13, 14, 15, 16, 17, 18, 19, 20, 21] f' F26 ∧ Ext w w' ∧ j ≤ p.length ∧ OwnB w' w.heap.size 5 vp (Frm.head p ++ p.take j)) ?_ ?_
        · exact ⟨_, 0, _, rfl, (congrFun hF27 7), ((congrFun hF27 4).trans e4_L0), (Agree.refl _ _), hwL0, ⟨Nat.zero_le _, by rw [List.take_zero, List.append_nil]; exact hhd⟩⟩
        · rintro mL1 fL1 wL1 ⟨j, vp, hmL1, e7_L1, e4_L1, hAL1, hwL1, ⟨hj, hq⟩⟩
          refine WF.seq ?_
          refine WF.seq ?_
          refine WF.region ?_
          refine WL.va rfl rfl rfl (X.moveI e7_L1) ?_
          refine WL.va rfl rfl rfl (X.move ((hAL1.eq 0).trans ((congrFun hF27 0).trans ((hAL0.eq 0).trans (congrFun hF15 0))))) ?_
          refine WL.va rfl rfl rfl (X.len hb rfl Try.underlying22) ?_
          refine WL.va rfl rfl rfl (X.lss rfl rfl) ?_
          refine WL.nil ?_
          refine thn_n ?_
          refine WF.cond rfl (fun h2_28 => ?_) (fun h2_28 => ?_)
          · have gh2_28 := (of_decide_eq_true h2_28)
            refine WF.skip ?_
            refine thn_n ?_
            refine WF.seq ?_
            refine WF.block ?_
            refine WF.region ?_
            refine WL.va rfl rfl rfl (X.move e4_L1) ?_
            refine WL.va rfl rfl rfl (X.move ((hAL1.eq 0).trans ((congrFun hF27 0).trans ((hAL0.eq 0).trans (congrFun hF15 0))))) ?_
            refine WL.va rfl rfl rfl (X.moveI e7_L1) ?_
            refine WL.va rfl rfl rfl (X.idx hb rfl rfl (by omega) Try.underlying22 Try.sizeOf5) ?_
            refine WL.va rfl rfl rfl (X.loadB hb hwL1 rfl (by omega) Try.isAgg5) ?_
            refine WL.op rfl (OW.lits (vs := [u8 (p.getD j 0)]) (evp_cons rfl evp_nil) Try.underlying22 Try.sizeOf5 Try.zeroValue5 ⟨rfl, trivial⟩ rfl rfl rfl ?_ (by decide))
            intro v31 w30 ho33 hx32
            have hq1 := hq.ext hx32
            refine WL.op rfl (OW.appendB hq1 (show Bytes _ _ [p.getD j 0] from Row.of_own ho33) rfl rfl Try.underlying22 Try.type5 rfl rfl rfl rfl (by simp [Frm.head_len]; omega) (World.grownBy.size (Ext.trans hwL1 hx32)) ?_ (by decide))
            intro v35 w34 ho37 hx36 hmvhx36
            have ho3 := ho37
            refine WL.va rfl rfl rfl (X.assign rfl) ?_
            refine WL.nil ?_
            refine blk_n ?_
            refine thn_n ?_
            refine WF.region ?_
            refine WL.va rfl rfl rfl (X.moveI e7_L1) ?_
            refine WL.va rfl rfl rfl (X.add rfl rfl (w64 (by omega))) ?_
            refine WL.va rfl rfl rfl (X.assignI rfl) ?_
            refine WL.nil ?_
            exact thn_n ⟨_, (by omega), j + 1, _, rfl, rfl, rfl, (by repeat (first | exact hAL1 | refine Agree.put ?_ rfl | refine Agree.sub hAL0 rfl ?_ | refine Agree.named hF27 ?_ | refine Agree.named hF15 ?_)), (Ext.own (Ext.trans hwL1 hx32) hq1 (Nat.le_refl _) hx36), ⟨by omega, by rw [take_getD _ _ (by omega), ← List.append_assoc]; exact ho3⟩⟩
          · have gh2_28 := (of_decide_eq_false h2_28)
            refine WF.exit ?_
            refine thn_x ?_
            refine thn_x ?_
            refine blk_eq ?_
            refine thn_n ?_
            refine WF.seq ?_
            refine WF.region ?_
            refine WL.va rfl rfl rfl (X.move e4_L1) ?_
            refine WL.va rfl rfl rfl (X.assign rfl) ?_
            refine WL.va rfl rfl rfl (X.assignI rfl) ?_
            refine WL.nil ?_
            refine thn_n ?_
            refine WF.ret ?_
            refine fin_r ?_
            rw [Frm.put_ok (by omega)]; exact ⟨⟨_, rfl, by rw [List.take_of_length_le (by omega)] at hq; exact hq⟩, hwL1⟩

theorem number0_ok (v : Value) (b : List UInt8) (w : World) (hb : Bytes w v b) (ha : 4 ≤ b.length) : FnOk Try.prog 32 [v, i64 0] w (fun r w' => r = i64 ((Frm.num (b.take 4) : Nat) : Int) ∧ w = w') :=
  number_ok v b 0 w hb (by omega)
theorem sum_eq {b p : List UInt8} (hl : 8 ≤ b.length) (hp : p.length = Frm.num (b.take 4)) : Crc.more (Crc.of ((b.drop 0).take (4 - 0))) p = Frm.sumOf p := by
  have : (b.drop 0).take (4 - 0) = Frm.four p.length := by rw [hp, Frm.four_num (by simp; omega)]; rfl
  rw [this]; rfl
theorem sum_num {b p : List UInt8} (hl : 8 ≤ b.length) (hp : p.length = Frm.num (b.take 4)) (h : Frm.head p = b.take 8) : ((Frm.num ((b.drop 4).take 4) : Nat) : Int) = ((Crc.more (Crc.of ((b.drop 0).take (4 - 0))) p).toNat : Int) := by
  rw [sum_eq hl hp, (Frm.head_eq hl hp).1 h]
theorem num_sum {b p : List UInt8} (hl : 8 ≤ b.length) (hp : p.length = Frm.num (b.take 4)) (h : ((Frm.num ((b.drop 4).take 4) : Nat) : Int) = ((Crc.more (Crc.of ((b.drop 0).take (4 - 0))) p).toNat : Int)) : Frm.head p = b.take 8 := by
  rw [sum_eq hl hp] at h
  exact (Frm.head_eq hl hp).2 (by omega)
theorem refGet_ok (v : Value) (b : List UInt8) (w : World) (hb : Bytes w v b) : FnOk Try.prog 26 [v] w (fun r w' => (∃ x, r = .tuple #[x, i64 ((Frm.get b).2.1 : Nat), i64 (Frm.get b).2.2] ∧ OwnB w' w.heap.size 5 x (Frm.get b).1) ∧ Ext w w') := by
  have hl := hb.le64
  refine FnOk.enter (rs := [2, 3, 4]) Try.func26 rfl Try.ntmps26 Try.results26 rfl rfl ?_
  refine WF.seq ?_
  refine WF.region ?_
  refine WL.va rfl rfl rfl (X.assign rfl) ?_
  refine WL.va rfl rfl rfl (X.assignI rfl) ?_
  refine WL.va rfl rfl rfl (X.assignI rfl) ?_
  refine WL.nil ?_
  refine thn_n ?_
  refine WF.seq ?_
  refine WF.seq ?_
  refine WF.region ?_
  refine WL.va rfl rfl rfl (X.move rfl) ?_
  refine WL.va rfl rfl rfl (X.len hb rfl Try.underlying22) ?_
  refine WL.va rfl rfl rfl (X.lss rfl rfl) ?_
  refine WL.nil ?_
  refine thn_n ?_
  refine WF.cond rfl (fun h0_1 => ?_) (fun h0_1 => ?_)
  · have gh0_1 := (of_decide_eq_true h0_1)
    have h8 := gh0_1
    refine WF.seq ?_
    refine WF.region ?_
    refine WL.va rfl rfl rfl (X.assign rfl) ?_
    refine WL.va rfl rfl rfl (X.assignI rfl) ?_
    refine WL.va rfl rfl rfl (X.assignI rfl) ?_
    refine WL.nil ?_
    refine thn_n ?_
    refine WF.ret ?_
    refine thn_r ?_
    refine fin_r ?_
    rw [Frm.get_short (by omega)]; exact ⟨⟨_, rfl, OwnB.nil _ _ _⟩, (Ext.refl _)⟩
  · have gh0_1 := (of_decide_eq_false h0_1)
    have h8 := gh0_1
    refine WF.skip ?_
    refine thn_n ?_
    refine WF.seq ?_
    refine WF.region ?_
    refine WL.va rfl rfl rfl (X.move rfl) ?_
    refine WL.c rfl rfl rfl (X.call Try.call32 (evl_cons rfl (evl_cons rfl evl_nil))) (number0_ok _ _ _ hb (by omega)) ?_
    rintro v4 w3 ⟨rfl, rfl⟩
    refine WL.va rfl rfl rfl (X.assignI rfl) ?_
    refine WL.nil ?_
    refine thn_n ?_
    refine WF.seq ?_
    refine WF.seq ?_
    refine WF.region ?_
    refine WL.va rfl rfl rfl (X.moveI rfl) ?_
    refine WL.va rfl rfl rfl (X.gtr rfl rfl) ?_
    refine WL.nil ?_
    refine thn_n ?_
    refine WF.cond rfl (fun h1_6 => ?_) (fun h1_6 => ?_)
    · have gh1_6 := (of_decide_eq_true h1_6)
      have hn := gh1_6
      refine WF.seq ?_
      refine WF.region ?_
      refine WL.va rfl rfl rfl (X.assign rfl) ?_
      refine WL.va rfl rfl rfl (X.assignI rfl) ?_
      refine WL.va rfl rfl rfl (X.assignI rfl) ?_
      refine WL.nil ?_
      refine thn_n ?_
      refine WF.ret ?_
      refine thn_r ?_
      refine fin_r ?_
      rw [Frm.get_long (by omega) (by omega)]; exact ⟨⟨_, rfl, OwnB.nil _ _ _⟩, (Ext.refl _)⟩
    · have gh1_6 := (of_decide_eq_false h1_6)
      have hn := gh1_6
      refine WF.skip ?_
      refine thn_n ?_
      refine WF.seq ?_
      refine WF.seq ?_
      refine WF.region ?_
      refine WL.va rfl rfl rfl (X.move rfl) ?_
      refine WL.va rfl rfl rfl (X.len hb rfl Try.underlying22) ?_
      refine WL.va rfl rfl rfl (X.sub rfl rfl (w64 (by omega))) ?_
      refine WL.va rfl rfl rfl (X.moveI rfl) ?_
      refine WL.va rfl rfl rfl (X.lss rfl rfl) ?_
      refine WL.nil ?_
      refine thn_n ?_
      refine WF.cond rfl (fun h2_8 => ?_) (fun h2_8 => ?_)
      · have gh2_8 := (of_decide_eq_true h2_8)
        have hs := gh2_8
        refine WF.seq ?_
        refine WF.region ?_
        refine WL.va rfl rfl rfl (X.assign rfl) ?_
        refine WL.va rfl rfl rfl (X.assignI rfl) ?_
        refine WL.va rfl rfl rfl (X.assignI rfl) ?_
        refine WL.nil ?_
        refine thn_n ?_
        refine WF.ret ?_
        refine thn_r ?_
        refine fin_r ?_
        rw [Frm.get_short2 (by omega) (by omega) (by omega)]; exact ⟨⟨_, rfl, OwnB.nil _ _ _⟩, (Ext.refl _)⟩
      · have gh2_8 := (of_decide_eq_false h2_8)
        have hs := gh2_8
        refine WF.skip ?_
        refine thn_n ?_
        refine WF.seq ?_
        refine WF.region ?_
        refine WL.op rfl (OW.lit0 Try.underlying22 Try.sizeOf5 ?_ (by decide))
        intro v11 w10 ho13 hx12
        have he : OwnB w10 w.heap.size _ _ [] := ho13
        refine WL.va rfl rfl rfl (X.move rfl) ?_
        refine WL.va rfl rfl rfl (X.moveI rfl) ?_
        refine WL.va rfl rfl rfl (X.add rfl rfl (w64 (by omega))) ?_
        refine WL.va rfl rfl rfl (X.sl hb rfl rfl rfl (k := 8) (m := 8 + Frm.num (b.take 4)) (by omega) (by omega) Try.underlying22 Try.sizeOf5) ?_
        refine WL.op rfl (OW.appendB he ((Bytes.part hb 8 (8 + Frm.num (b.take 4)) (by omega) (by omega)).ext hx12) rfl rfl Try.underlying22 Try.type5 rfl rfl rfl rfl (by simp; omega) (World.grownBy.size hx12) ?_ (by decide))
        intro v15 w14 ho17 hx16 hmvhx16
        have hp : OwnB w14 w.heap.size _ _ ((b.drop 8).take (Frm.num (b.take 4))) := (by have := ho17; simpa using this)
        refine WL.va rfl rfl rfl (X.assign rfl) ?_
        refine WL.nil ?_
        refine thn_n ?_
        refine WF.seq ?_
        refine WF.seq ?_
        refine WF.drawn (.q 0 (.q 2 (.q 3 (.q 5 (.l 1 (.l 4 (.l 6 (.q 7 (.q 8 .nil))))))))) (fun w' => Ext w14 w') 9 (by kernel_rfl) (by kernel_rfl) (Ext.drew _) ?_
        refine WO.q rfl rfl rfl rfl (fun w' hE18 => (X.move rfl)) ?_
        refine WO.q rfl rfl rfl rfl (fun w' hE18 => (X.move rfl)) ?_
        refine WO.q rfl rfl rfl rfl (fun w' hE18 => (X.slH hb rfl rfl (m := 4) (by omega) Try.underlying22 Try.sizeOf5)) ?_
        refine WO.q rfl rfl rfl rfl (fun w' hE18 => (X.move rfl)) ?_
        refine WO.l ?_
        refine LO.go rfl rfl (OW.enter rfl (by decide) (X.call Try.call32 (evl_cons rfl (evl_cons rfl evl_nil))) (number_ok _ _ 4 _ (hb.ext (Ext.trans (Ext.own hx12 he (Nat.le_refl _) hx16) (Ext.drew _))) (by omega)) ?_)
        rintro v20 w19 ⟨rfl, rfl⟩
        refine ⟨(Ext.drew _), ?_⟩
        refine WO.l ?_
        refine LO.go rfl rfl (OW.enter rfl (by decide) (X.call Try.call16 (evl_cons rfl evl_nil)) (refOf_ok _ _ _ ((Bytes.part hb 0 4 (by omega) (by omega)).ext (Ext.trans (Ext.own hx12 he (Nat.le_refl _) hx16) (Ext.drew _)))) ?_)
        rintro v23 w22 ⟨rfl, rfl⟩
        refine ⟨(Ext.drew _), ?_⟩
        refine WO.l ?_
        refine LO.go rfl rfl (OW.enter rfl (by decide) (X.call Try.call18 (evl_cons rfl (evl_cons rfl evl_nil))) (refMore_ok _ _ _ _ (Row.ext (Bytes.of_own hp) (Ext.drew _))) ?_)
        rintro v26 w25 ⟨rfl, rfl⟩
        refine ⟨(Ext.drew _), ?_⟩
        refine WO.q rfl rfl rfl rfl (fun w' hE18 => (X.conv rfl (congrArg Option.isSome Try.underlying23) Try.underlying3 (w64 (by have := (Crc.more (Crc.of ((b.drop 0).take (4 - 0))) ((b.drop 8).take (Frm.num (b.take 4)))).isLt; omega)))) ?_
        refine WO.q rfl rfl rfl rfl (fun w' hE18 => (X.neq rfl rfl)) ?_
        refine WO.nil ?_
        refine WL.nil ?_
        refine thn_n ?_
        refine WF.cond rfl (fun h3_28 => ?_) (fun h3_28 => ?_)
        · have gh3_28 := (of_decide_eq_true h3_28)
          have hq := gh3_28
          refine WF.seq ?_
          refine WF.region ?_
          refine WL.va rfl rfl rfl (X.assign rfl) ?_
          refine WL.va rfl rfl rfl (X.assignI rfl) ?_
          refine WL.va rfl rfl rfl (X.assignI rfl) ?_
          refine WL.nil ?_
          refine thn_n ?_
          refine WF.ret ?_
          refine thn_r ?_
          refine fin_r ?_
          rw [Frm.get_sum (by omega) (by omega) (by omega) (fun e => hq (sum_num (by omega) (by simp; omega) e))]; exact ⟨⟨_, rfl, OwnB.nil _ _ _⟩, (Ext.trans (Ext.own hx12 he (Nat.le_refl _) hx16) (Ext.drew _))⟩
        · have gh3_28 := (Decidable.of_not_not (of_decide_eq_false h3_28))
          have hq := gh3_28
          refine WF.skip ?_
          refine thn_n ?_
          refine WF.seq ?_
          refine WF.region ?_
          refine WL.va rfl rfl rfl (X.move rfl) ?_
          refine WL.va rfl rfl rfl (X.moveI rfl) ?_
          refine WL.va rfl rfl rfl (X.add rfl rfl (w64 (by omega))) ?_
          refine WL.va rfl rfl rfl (X.assign rfl) ?_
          refine WL.va rfl rfl rfl (X.assignI rfl) ?_
          refine WL.va rfl rfl rfl (X.assignI rfl) ?_
          refine WL.nil ?_
          refine thn_n ?_
          refine WF.ret ?_
          refine fin_r ?_
          rw [Frm.get_ok (by omega) (by omega) (by omega) (num_sum (by omega) (by simp; omega) hq)]; exact ⟨⟨_, rfl, hp⟩, (Ext.trans (Ext.own hx12 he (Nat.le_refl _) hx16) (Ext.drew _))⟩

theorem put_abc : Frm.put [97, 98, 99] = (Frm.head [97, 98, 99] ++ [97, 98, 99], 0) := Frm.put_ok (by decide)
theorem get_abc : Frm.get (Frm.put [97, 98, 99]).1 = ([97, 98, 99], 11, 0) := by
  have := Frm.get_put (p := [97, 98, 99]) (by decide) []
  rw [List.append_nil] at this
  rw [put_abc]; exact this
theorem get_bad9 : (Frm.get [0, 0, 0, 1, 0, 0, 0, 0, 5]).2.2 = 5 := by decide +kernel
theorem known3_ok (w : World) : FnOk Try.prog 29 [] w (fun r w' => r = .bool true ∧ Ext w w') := by
  refine FnOk.enter (rs := [0]) Try.func29 rfl Try.ntmps29 Try.results29 rfl rfl ?_
  refine WF.seq ?_
  refine WF.region ?_
  refine WL.va rfl rfl rfl (X.assignB rfl) ?_
  refine WL.nil ?_
  refine thn_n ?_
  refine WF.seq ?_
  refine WF.region ?_
  refine WL.op rfl (OW.lits (vs := [u8 97, u8 98, u8 99]) (evp_cons rfl (evp_cons rfl (evp_cons rfl evp_nil))) Try.underlying22 Try.sizeOf5 Try.zeroValue5 ⟨rfl, rfl, rfl, trivial⟩ rfl rfl rfl ?_ (by decide))
  intro v3 w2 ho5 hx4
  refine WL.op rfl (OW.convB ho5 (by decide) rfl Try.underlying22 Try.underlying5 ?_ (by decide))
  intro w6 ho9 hx8
  refine WL.c rfl rfl rfl (X.call Try.call23 (evl_cons rfl evl_nil)) (put_ok _ _ _ (show Bytes _ _ [97, 98, 99] from ho9)) ?_
  rintro v11 w10 ⟨⟨x1, rfl, o1⟩, hx12⟩
  refine WL.va rfl rfl rfl (X.move rfl) ?_
  refine WL.va rfl rfl rfl (X.extract rfl rfl) ?_
  refine WL.va rfl rfl rfl (X.extract rfl rfl) ?_
  refine WL.va rfl rfl rfl (X.assign rfl) ?_
  refine WL.va rfl rfl rfl (X.assignI rfl) ?_
  refine WL.nil ?_
  refine thn_n ?_
  refine WF.seq ?_
  refine WF.region ?_
  refine WL.va rfl rfl rfl (X.move rfl) ?_
  refine WL.c rfl rfl rfl (X.call Try.call25 (evl_cons rfl evl_nil)) (get_ok _ _ _ (Bytes.of_own o1)) ?_
  rintro v14 w13 ⟨⟨x2, rfl, o2⟩, hx15⟩
  refine WL.va rfl rfl rfl (X.move rfl) ?_
  refine WL.va rfl rfl rfl (X.extract rfl rfl) ?_
  refine WL.va rfl rfl rfl (X.extract rfl rfl) ?_
  refine WL.va rfl rfl rfl (X.extract rfl rfl) ?_
  refine WL.va rfl rfl rfl (X.assign rfl) ?_
  refine WL.va rfl rfl rfl (X.assignI rfl) ?_
  refine WL.va rfl rfl rfl (X.assignI rfl) ?_
  refine WL.nil ?_
  refine thn_n ?_
  refine WF.seq ?_
  refine WF.region ?_
  refine WL.op rfl (OW.lits (vs := [u8 0, u8 0, u8 0, u8 1, u8 0, u8 0, u8 0, u8 0, u8 5]) (evp_cons rfl (evp_cons rfl (evp_cons rfl (evp_cons rfl (evp_cons rfl (evp_cons rfl (evp_cons rfl (evp_cons rfl (evp_cons rfl evp_nil))))))))) Try.underlying22 Try.sizeOf5 Try.zeroValue5 ⟨rfl, rfl, rfl, rfl, rfl, rfl, rfl, rfl, rfl, trivial⟩ rfl rfl rfl ?_ (by decide))
  intro v17 w16 ho19 hx18
  refine WL.c rfl rfl rfl (X.call Try.call25 (evl_cons rfl evl_nil)) (get_ok _ _ _ (show Bytes _ _ [0, 0, 0, 1, 0, 0, 0, 0, 5] from Row.of_own ho19)) ?_
  rintro v21 w20 ⟨⟨x3, rfl, o3⟩, hx22⟩
  refine WL.va rfl rfl rfl (X.move rfl) ?_
  refine WL.va rfl rfl rfl (X.extract rfl rfl) ?_
  refine WL.va rfl rfl rfl (X.extract rfl rfl) ?_
  refine WL.va rfl rfl rfl (X.extract rfl rfl) ?_
  refine WL.va rfl rfl rfl (X.assign rfl) ?_
  refine WL.va rfl rfl rfl (X.assignI rfl) ?_
  refine WL.va rfl rfl rfl (X.assignI rfl) ?_
  refine WL.nil ?_
  refine thn_n ?_
  refine WF.seq ?_
  refine WF.region ?_
  refine WL.va rfl rfl rfl (X.moveI rfl) ?_
  refine WL.va rfl rfl rfl (X.eql rfl rfl) ?_
  refine WL.va rfl rfl rfl (X.moveB rfl) ?_
  refine WL.split (j := 2) rfl (fun h24 => ?_) (fun h24 => ?_)
  · have gh24 := (of_decide_eq_true h24)
    refine WL.vg rfl (congrArg some h24) rfl rfl (X.moveI rfl) ?_
    refine WL.vg rfl (congrArg some h24) rfl rfl (X.eql rfl rfl) ?_
    refine WL.va rfl rfl rfl (X.pickT rfl h24 rfl) ?_
    refine WL.va rfl rfl rfl (X.moveB rfl) ?_
    refine WL.split (j := 6) rfl (fun h26 => ?_) (fun h26 => ?_)
    · have gh26 := (of_decide_eq_true h26)
      refine WL.vg rfl (congrArg some h26) rfl rfl (X.moveI rfl) ?_
      refine WL.vg rfl (congrArg some h26) rfl rfl (X.eql rfl rfl) ?_
      refine WL.va rfl rfl rfl (X.pickT rfl h26 rfl) ?_
      refine WL.va rfl rfl rfl (X.moveB rfl) ?_
      refine WL.split (j := 10) rfl (fun h28 => ?_) (fun h28 => ?_)
      · have gh28 := (of_decide_eq_true h28)
        refine WL.vg rfl (congrArg some h28) rfl rfl (X.move rfl) ?_
        refine WL.vg rfl (congrArg some h28) rfl rfl (X.len (Bytes.of_own o1) rfl Try.underlying22) ?_
        refine WL.vg rfl (congrArg some h28) rfl rfl (X.eql rfl rfl) ?_
        refine WL.va rfl rfl rfl (X.pickT rfl h28 rfl) ?_
        refine WL.va rfl rfl rfl (X.moveB rfl) ?_
        refine WL.split (j := 15) rfl (fun h30 => ?_) (fun h30 => ?_)
        · have gh30 := (of_decide_eq_true h30)
          refine WL.vg rfl (congrArg some h30) rfl rfl (X.move rfl) ?_
          refine WL.vg rfl (congrArg some h30) rfl rfl (X.idx (Bytes.of_own o1) rfl rfl (k := 3) (by decide) Try.underlying22 Try.sizeOf5) ?_
          refine WL.vg rfl (congrArg some h30) rfl rfl (X.loadB (Bytes.of_own o1) (Ext.trans (Ext.trans hx15 hx18) hx22) rfl (k := 3) (by decide) Try.isAgg5) ?_
          refine WL.vg rfl (congrArg some h30) rfl rfl (X.eql rfl rfl) ?_
          refine WL.va rfl rfl rfl (X.pickT rfl h30 rfl) ?_
          refine WL.va rfl rfl rfl (X.moveB rfl) ?_
          refine WL.split (j := 21) rfl (fun h32 => ?_) (fun h32 => ?_)
          · have gh32 := (of_decide_eq_true h32)
            refine WL.vg rfl (congrArg some h32) rfl rfl (X.move rfl) ?_
            refine WL.opg rfl (congrArg some h32) (OW.lits (vs := [u8 97, u8 98, u8 99]) (evp_cons rfl (evp_cons rfl (evp_cons rfl evp_nil))) Try.underlying22 Try.sizeOf5 Try.zeroValue5 ⟨rfl, rfl, rfl, trivial⟩ rfl rfl rfl ?_ (by decide))
            intro v34 w33 ho36 hx35
            refine WL.opg rfl (congrArg some h32) (OW.convB ho36 (by decide) rfl Try.underlying22 Try.underlying5 ?_ (by decide))
            intro w37 ho40 hx39
            refine WL.cg rfl (congrArg some h32) rfl rfl (X.call Try.call27 (evl_cons rfl (evl_cons rfl evl_nil))) (sameBytes_ok _ _ _ _ _ (Row.ext (Bytes.of_own o2) (Ext.trans (Ext.trans hx18 hx22) (Ext.own hx35 ho36 (Nat.le_refl _) hx39))) (show Bytes _ _ [97, 98, 99] from ho40)) ?_
            rintro v42 w41 ⟨rfl, hx43⟩
            refine WL.va rfl rfl rfl (X.pickT rfl h32 rfl) ?_
            refine WL.va rfl rfl rfl (X.moveB rfl) ?_
            refine WL.split (j := 27) rfl (fun h45 => ?_) (fun h45 => ?_)
            · have gh45 := (of_decide_eq_true h45)
              refine WL.vg rfl (congrArg some h45) rfl rfl (X.moveI rfl) ?_
              refine WL.vg rfl (congrArg some h45) rfl rfl (X.eql rfl rfl) ?_
              refine WL.va rfl rfl rfl (X.pickT rfl h45 rfl) ?_
              refine WL.va rfl rfl rfl (X.assignB rfl) ?_
              refine WL.nil ?_
              refine thn_n ?_
              refine WF.ret ?_
              refine fin_r ?_
              exact ⟨congrArg Value.bool (decide_eq_true get_bad9), (Ext.trans (Ext.trans (Ext.trans (Ext.trans (Ext.trans (Ext.trans (Ext.own hx4 ho5 (Nat.le_refl _) hx8) hx12) hx15) hx18) hx22) (Ext.own hx35 ho36 (Nat.le_refl _) hx39)) hx43)⟩
            · have gh45 := (of_decide_eq_false h45)
              exact absurd (by rw [get_abc] <;> rfl) gh45
          · have gh32 := (of_decide_eq_false h32)
            exact absurd (by rw [put_abc] <;> rfl) gh32
        · have gh30 := (of_decide_eq_false h30)
          exact absurd (by rw [put_abc] <;> rfl) gh30
      · have gh28 := (of_decide_eq_false h28)
        exact absurd (by rw [get_abc] <;> rfl) gh28
    · have gh26 := (of_decide_eq_false h26)
      exact absurd (by rw [get_abc] <;> rfl) gh26
  · have gh24 := (of_decide_eq_false h24)
    exact absurd (by rw [put_abc] <;> rfl) gh24

theorem framePuts_walk (v : Value) (b : List UInt8) (w : World) (hb : Bytes w v b) (hz : b.length ≤ 140737488351232) : FnOk Try.prog 8 [v] w (fun r w' => r = .bool true ∧ Ext w w') := by
  refine FnOk.enter (rs := [2]) Try.func8 rfl Try.ntmps8 Try.results8 rfl rfl ?_
  refine WF.seq ?_
  refine WF.region ?_
  refine WL.va rfl rfl rfl (X.assignB rfl) ?_
  refine WL.nil ?_
  refine thn_n ?_
  refine WF.seq ?_
  refine WF.region ?_
  refine WL.va rfl rfl rfl (X.move rfl) ?_
  refine WL.c rfl rfl rfl (X.call Try.call14 (evl_cons rfl evl_nil)) (lentBytes_ok _ _ _ hb (by omega)) ?_
  rintro va w2 ⟨ho, hx3⟩
  have hsz1 := World.grownBy.size hx3
  refine WL.va rfl rfl rfl (X.assign rfl) ?_
  refine WL.nil ?_
  refine thn_n ?_
  refine WF.seq ?_
  refine WF.region ?_
  refine WL.va rfl rfl rfl (X.move rfl) ?_
  refine WL.va rfl rfl rfl (X.move rfl) ?_
  refine WL.va rfl rfl rfl (X.len hb rfl Try.underlying22) ?_
  refine WL.va rfl rfl rfl (X.slH (Bytes.of_own ho) rfl rfl (by simp) Try.underlying22 Try.sizeOf5) ?_
  refine WL.va rfl rfl rfl (X.assign rfl) ?_
  refine WL.nil ?_
  refine thn_n ?_
  refine WF.seq ?_
  refine WF.region ?_
  refine WL.va rfl rfl rfl (X.move rfl) ?_
  refine WL.c rfl rfl rfl (X.call Try.call23 (evl_cons rfl evl_nil)) (put_ok _ _ _ (lent_part ho)) ?_
  rintro v5 w4 ⟨⟨x1, rfl, o1⟩, hx6⟩
  have ap1 := own_apart ho o1 (Nat.le_refl _)
  have ho1 := ho.ext hx6
  refine WL.va rfl rfl rfl (X.move rfl) ?_
  refine WL.va rfl rfl rfl (X.extract rfl rfl) ?_
  refine WL.va rfl rfl rfl (X.extract rfl rfl) ?_
  refine WL.va rfl rfl rfl (X.assign rfl) ?_
  refine WL.va rfl rfl rfl (X.assignI rfl) ?_
  refine WL.nil ?_
  refine thn_n ?_
  refine WF.seq ?_
  refine WF.region ?_
  refine WL.va rfl rfl rfl (X.move rfl) ?_
  refine WL.c rfl rfl rfl (X.call Try.call24 (evl_cons rfl evl_nil)) (refPut_ok _ _ _ (Row.ext hb (Ext.trans hx3 hx6))) ?_
  rintro v8 w7 ⟨⟨x2, rfl, o2⟩, hx9⟩
  have o1b := o1.ext hx9
  have ho2 := ho1.ext hx9
  refine WL.va rfl rfl rfl (X.move rfl) ?_
  refine WL.va rfl rfl rfl (X.extract rfl rfl) ?_
  refine WL.va rfl rfl rfl (X.extract rfl rfl) ?_
  refine WL.va rfl rfl rfl (X.assign rfl) ?_
  refine WL.va rfl rfl rfl (X.assignI rfl) ?_
  refine WL.nil ?_
  refine thn_n ?_
  refine WF.seq ?_
  refine WF.region ?_
  refine WL.va rfl rfl rfl (X.move rfl) ?_
  have hsz3 := World.grownBy.size (Ext.trans (Ext.trans hx3 hx6) hx9)
  refine WL.c rfl rfl rfl (X.call Try.call25 (evl_cons rfl evl_nil)) (get_ok _ _ _ (Row.ext (lent_part ho) (Ext.trans hx6 hx9))) ?_
  rintro v11 w10 ⟨⟨x3, rfl, o3⟩, hx12⟩
  have ap3 := own_apart ho2 o3 (Nat.le_refl _)
  have ap13 := own_apart o1b o3 (Nat.le_refl _)
  have o1c := o1b.ext hx12
  have ho3 := ho2.ext hx12
  refine WL.va rfl rfl rfl (X.move rfl) ?_
  refine WL.va rfl rfl rfl (X.extract rfl rfl) ?_
  refine WL.va rfl rfl rfl (X.extract rfl rfl) ?_
  refine WL.va rfl rfl rfl (X.extract rfl rfl) ?_
  refine WL.va rfl rfl rfl (X.assign rfl) ?_
  refine WL.va rfl rfl rfl (X.assignI rfl) ?_
  refine WL.va rfl rfl rfl (X.assignI rfl) ?_
  refine WL.nil ?_
  refine thn_n ?_
  refine WF.seq ?_
  refine WF.region ?_
  refine WL.va rfl rfl rfl (X.move rfl) ?_
  refine WL.c rfl rfl rfl (X.call Try.call26 (evl_cons rfl evl_nil)) (refGet_ok _ _ _ (Row.ext hb (Ext.trans (Ext.trans (Ext.trans hx3 hx6) hx9) hx12))) ?_
  rintro v14 w13 ⟨⟨x4, rfl, o4⟩, hx15⟩
  have o1d := o1c.ext hx15
  have o3b := o3.ext hx15
  have ho4 := ho3.ext hx15
  refine WL.va rfl rfl rfl (X.move rfl) ?_
  refine WL.va rfl rfl rfl (X.extract rfl rfl) ?_
  refine WL.va rfl rfl rfl (X.extract rfl rfl) ?_
  refine WL.va rfl rfl rfl (X.extract rfl rfl) ?_
  refine WL.va rfl rfl rfl (X.assign rfl) ?_
  refine WL.va rfl rfl rfl (X.assignI rfl) ?_
  refine WL.va rfl rfl rfl (X.assignI rfl) ?_
  refine WL.nil ?_
  refine thn_n ?_
  refine WF.seq ?_
  refine WF.seq ?_
  refine WF.region ?_
  refine WL.va rfl rfl rfl (X.moveI rfl) ?_
  refine WL.va rfl rfl rfl (X.moveI rfl) ?_
  refine WL.va rfl rfl rfl (X.neq rfl rfl) ?_
  refine WL.va rfl rfl rfl (X.moveB rfl) ?_
  refine WL.split (j := 3) rfl (fun h17 => ?_) (fun h17 => ?_)
  · have gh17 := (of_decide_eq_true h17)
    exact absurd rfl gh17
  · have gh17 := (Decidable.of_not_not (of_decide_eq_false h17))
    refine WL.vg rfl (congrArg some h17) rfl rfl (X.move rfl) ?_
    refine WL.vg rfl (congrArg some h17) rfl rfl (X.move rfl) ?_
    refine WL.cg rfl (congrArg some h17) rfl rfl (X.call Try.call27 (evl_cons rfl (evl_cons rfl evl_nil))) (sameBytes_ok _ _ _ _ _ (Row.ext (Bytes.of_own o1) (Ext.trans (Ext.trans hx9 hx12) hx15)) (Row.ext (Bytes.of_own o2) (Ext.trans hx12 hx15))) ?_
    rintro v19 w18 ⟨rfl, hx20⟩
    have o1e := o1d.ext hx20
    have o3c := o3b.ext hx20
    have ho5 := ho4.ext hx20
    refine WL.vg rfl (congrArg some h17) rfl rfl (X.not rfl) ?_
    refine WL.va rfl rfl rfl (X.pickF rfl h17 rfl) ?_
    refine WL.va rfl rfl rfl (X.moveB rfl) ?_
    refine WL.split (j := 9) rfl (fun h23 => ?_) (fun h23 => ?_)
    · have gh23 := (of_decide_eq_false (nt h23))
      exact absurd rfl gh23
    · have gh23 := (of_decide_eq_true (nf h23))
      refine WL.vg rfl (congrArg some h23) rfl rfl (X.moveI rfl) ?_
      refine WL.vg rfl (congrArg some h23) rfl rfl (X.moveI rfl) ?_
      refine WL.vg rfl (congrArg some h23) rfl rfl (X.neq rfl rfl) ?_
      refine WL.va rfl rfl rfl (X.pickF rfl h23 rfl) ?_
      refine WL.va rfl rfl rfl (X.moveB rfl) ?_
      refine WL.split (j := 14) rfl (fun h25 => ?_) (fun h25 => ?_)
      · have gh25 := (of_decide_eq_true h25)
        exact absurd rfl gh25
      · have gh25 := (Decidable.of_not_not (of_decide_eq_false h25))
        refine WL.vg rfl (congrArg some h25) rfl rfl (X.moveI rfl) ?_
        refine WL.vg rfl (congrArg some h25) rfl rfl (X.moveI rfl) ?_
        refine WL.vg rfl (congrArg some h25) rfl rfl (X.neq rfl rfl) ?_
        refine WL.va rfl rfl rfl (X.pickF rfl h25 rfl) ?_
        refine WL.va rfl rfl rfl (X.moveB rfl) ?_
        refine WL.split (j := 19) rfl (fun h27 => ?_) (fun h27 => ?_)
        · have gh27 := (of_decide_eq_true h27)
          exact absurd rfl gh27
        · have gh27 := (Decidable.of_not_not (of_decide_eq_false h27))
          refine WL.vg rfl (congrArg some h27) rfl rfl (X.move rfl) ?_
          refine WL.vg rfl (congrArg some h27) rfl rfl (X.move rfl) ?_
          refine WL.cg rfl (congrArg some h27) rfl rfl (X.call Try.call27 (evl_cons rfl (evl_cons rfl evl_nil))) (sameBytes_ok _ _ _ _ _ (Row.ext (Bytes.of_own o3) (Ext.trans hx15 hx20)) (Row.ext (Bytes.of_own o4) hx20)) ?_
          rintro v29 w28 ⟨rfl, hx30⟩
          have o1f := o1e.ext hx30
          have o3d := o3c.ext hx30
          have ho6 := ho5.ext hx30
          refine WL.vg rfl (congrArg some h27) rfl rfl (X.not rfl) ?_
          refine WL.va rfl rfl rfl (X.pickF rfl h27 rfl) ?_
          refine WL.nil ?_
          refine thn_n ?_
          refine WF.cond rfl (fun h0_32 => ?_) (fun h0_32 => ?_)
          · have gh0_32 := (of_decide_eq_false (nt h0_32))
            exact absurd rfl gh0_32
          · have gh0_32 := (of_decide_eq_true (nf h0_32))
            refine WF.skip ?_
            refine thn_n ?_
            refine WF.seq ?_
            refine WF.region ?_
            refine WL.va rfl rfl rfl (X.move rfl) ?_
            refine WL.c rfl rfl rfl (X.call Try.call28 (evl_cons rfl evl_nil)) (spoilBytes_ok _ _ _ _ o1f) ?_
            rintro v35 w34 ⟨⟨l1, ol1⟩, hx36⟩
            have ho7 := World.ownsRow.kept ho6 hx36 ap1.ne
            have o3e := World.ownsRow.kept o3d hx36 ap13.symm.ne
            refine WL.nil ?_
            refine thn_n ?_
            refine WF.seq ?_
            refine WF.region ?_
            refine WL.va rfl rfl rfl (X.move rfl) ?_
            refine WL.c rfl rfl rfl (X.call Try.call28 (evl_cons rfl evl_nil)) (spoilBytes_ok _ _ _ _ o3e) ?_
            rintro v38 w37 ⟨⟨l3, ol3⟩, hx39⟩
            have ho8 := World.ownsRow.kept ho7 hx39 ap3.ne
            refine WL.nil ?_
            refine thn_n ?_
            refine WF.seq ?_
            refine WF.region ?_
            refine WL.va rfl rfl rfl (X.move rfl) ?_
            refine WL.va rfl rfl rfl (X.move rfl) ?_
            refine WL.c rfl rfl rfl (X.call Try.call19 (evl_cons rfl (evl_cons rfl evl_nil))) (keptBytes_ok _ _ _ _ _ (Bytes.of_own ho8) (Row.ext hb (Ext.own (Ext.own (Ext.trans (Ext.trans (Ext.trans (Ext.trans (Ext.trans (Ext.trans hx3 hx6) hx9) hx12) hx15) hx20) hx30) o1f hsz1 hx36) o3e hsz3 hx39)) (by omega)) ?_
            rintro v41 w40 ⟨rfl, hx42⟩
            refine WL.va rfl rfl rfl (X.assignB rfl) ?_
            refine WL.nil ?_
            refine thn_n ?_
            refine WF.ret ?_
            refine fin_r ?_
            exact ⟨congrArg Value.bool (decide_eq_true rfl), (Ext.trans (Ext.own (Ext.own (Ext.trans (Ext.trans (Ext.trans (Ext.trans (Ext.trans (Ext.trans hx3 hx6) hx9) hx12) hx15) hx20) hx30) o1f hsz1 hx36) o3e hsz3 hx39) hx42)⟩

theorem frameBack_walk (vp : Value) (p : List UInt8) (vm : Value) (m : List UInt8) (w : World) (hb : Bytes w vp p) (hz : p.length ≤ 140737488351232) (hm : Bytes w vm m) (hzm : m.length ≤ 140737488351232) : FnOk Try.prog 9 [vp, vm] w (fun r w' => r = .bool true ∧ Ext w w') := by
  refine FnOk.enter (rs := [4]) Try.func9 rfl Try.ntmps9 Try.results9 rfl rfl ?_
  refine WF.seq ?_
  refine WF.region ?_
  refine WL.va rfl rfl rfl (X.assignB rfl) ?_
  refine WL.nil ?_
  refine thn_n ?_
  refine WF.seq ?_
  refine WF.seq ?_
  refine WF.region ?_
  refine WL.va rfl rfl rfl (X.move rfl) ?_
  refine WL.va rfl rfl rfl (X.len hb rfl Try.underlying22) ?_
  refine WL.va rfl rfl rfl (X.gtr rfl rfl) ?_
  refine WL.va rfl rfl rfl (X.moveB rfl) ?_
  refine WL.split (j := 3) rfl (fun h3 => ?_) (fun h3 => ?_)
  · have gh3 := (of_decide_eq_true h3)
    refine WL.p rfl rfl rfl (congrArg some h3) ?_
    refine WL.p rfl rfl rfl (congrArg some h3) ?_
    refine WL.p rfl rfl rfl (congrArg some h3) ?_
    refine WL.va rfl rfl rfl (X.pickT rfl h3 rfl) ?_
    refine WL.nil ?_
    refine thn_n ?_
    refine WF.cond_t rfl ?_
    refine WF.seq ?_
    refine WF.region ?_
    refine WL.c rfl rfl rfl (X.call Try.call29 evl_nil) (known3_ok _) ?_
    rintro v6 w5 ⟨rfl, hx7⟩
    refine WL.va rfl rfl rfl (X.assignB rfl) ?_
    refine WL.nil ?_
    refine thn_n ?_
    refine WF.ret ?_
    refine thn_r ?_
    refine fin_r ?_
    exact ⟨rfl, hx7⟩
  · have gh3 := (of_decide_eq_false h3)
    refine WL.vg rfl (congrArg some h3) rfl rfl (X.move rfl) ?_
    refine WL.vg rfl (congrArg some h3) rfl rfl (X.len hm rfl Try.underlying22) ?_
    refine WL.vg rfl (congrArg some h3) rfl rfl (X.gtr rfl rfl) ?_
    refine WL.va rfl rfl rfl (X.pickF rfl h3 rfl) ?_
    refine WL.nil ?_
    refine thn_n ?_
    refine WF.cond rfl (fun h0_9 => ?_) (fun h0_9 => ?_)
    · have gh0_9 := (of_decide_eq_true h0_9)
      refine WF.seq ?_
      refine WF.region ?_
      refine WL.c rfl rfl rfl (X.call Try.call29 evl_nil) (known3_ok _) ?_
      rintro v12 w11 ⟨rfl, hx13⟩
      refine WL.va rfl rfl rfl (X.assignB rfl) ?_
      refine WL.nil ?_
      refine thn_n ?_
      refine WF.ret ?_
      refine thn_r ?_
      refine fin_r ?_
      exact ⟨rfl, hx13⟩
    · have gh0_9 := (of_decide_eq_false h0_9)
      refine WF.skip ?_
      refine thn_n ?_
      refine WF.seq ?_
      refine WF.region ?_
      refine WL.va rfl rfl rfl (X.move rfl) ?_
      refine WL.c rfl rfl rfl (X.call Try.call23 (evl_cons rfl evl_nil)) (put_ok _ _ _ hb) ?_
      rintro v16 w15 ⟨⟨x1, rfl, o1⟩, hx17⟩
      refine WL.va rfl rfl rfl (X.move rfl) ?_
      refine WL.va rfl rfl rfl (X.extract rfl rfl) ?_
      refine WL.va rfl rfl rfl (X.extract rfl rfl) ?_
      refine WL.va rfl rfl rfl (X.assign rfl) ?_
      refine WL.va rfl rfl rfl (X.assignI rfl) ?_
      refine WL.nil ?_
      refine thn_n ?_
      refine WF.seq ?_
      refine WF.seq ?_
      refine WF.region ?_
      refine WL.va rfl rfl rfl (X.move rfl) ?_
      refine WL.va rfl rfl rfl (X.len hb rfl Try.underlying22) ?_
      refine WL.va rfl rfl rfl (X.gtr rfl rfl) ?_
      refine WL.nil ?_
      refine thn_n ?_
      refine WF.cond rfl (fun h1_18 => ?_) (fun h1_18 => ?_)
      · have gh1_18 := (of_decide_eq_true h1_18)
        have hput := Frm.put_long (p := p) (by omega)
        refine WF.seq ?_
        refine WF.region ?_
        refine WL.va rfl rfl rfl (X.moveI rfl) ?_
        refine WL.va rfl rfl rfl (X.eql rfl rfl) ?_
        refine WL.va rfl rfl rfl (X.moveB rfl) ?_
        refine WL.split (j := 2) rfl (fun h21 => ?_) (fun h21 => ?_)
        · have gh21 := (of_decide_eq_true h21)
          refine WL.vg rfl (congrArg some h21) rfl rfl (X.move rfl) ?_
          refine WL.vg rfl (congrArg some h21) rfl rfl (X.len (Bytes.of_own o1) rfl Try.underlying22) ?_
          refine WL.vg rfl (congrArg some h21) rfl rfl (X.eql rfl rfl) ?_
          refine WL.va rfl rfl rfl (X.pickT rfl h21 rfl) ?_
          refine WL.va rfl rfl rfl (X.moveB rfl) ?_
          refine WL.split (j := 7) rfl (fun h23 => ?_) (fun h23 => ?_)
          · have gh23 := (of_decide_eq_true h23)
            refine WL.cg rfl (congrArg some h23) rfl rfl (X.call Try.call29 evl_nil) (known3_ok _) ?_
            rintro v25 w24 ⟨rfl, hx26⟩
            refine WL.va rfl rfl rfl (X.pickT rfl h23 rfl) ?_
            refine WL.va rfl rfl rfl (X.assignB rfl) ?_
            refine WL.nil ?_
            refine thn_n ?_
            refine WF.ret ?_
            refine thn_r ?_
            refine fin_r ?_
            exact ⟨rfl, (Ext.trans hx17 hx26)⟩
          · have gh23 := (of_decide_eq_false h23)
            exact absurd (by rw [hput] <;> rfl) gh23
        · have gh21 := (of_decide_eq_false h21)
          exact absurd (by rw [hput] <;> rfl) gh21
      · have gh1_18 := (of_decide_eq_false h1_18)
        have hput := Frm.put_ok (p := p) (by omega)
        have hget : Frm.get ((Frm.put p).1 ++ m) = (p, 8 + p.length, 0) := by rw [hput]; exact Frm.get_put (by omega) m
        refine WF.skip ?_
        refine thn_n ?_
        refine WF.seq ?_
        refine WF.region ?_
        refine WL.va rfl rfl rfl (X.move rfl) ?_
        have hszA := World.grownBy.size hx17
        refine WL.c rfl rfl rfl (X.call Try.call21 (evl_cons rfl evl_nil)) (copyBytes_ok _ _ _ (Bytes.of_own o1) (by rw [hput, List.length_append, Frm.head_len]; omega)) ?_
        rintro v29 w28 ⟨o2, hx30⟩
        have hszB := World.grownBy.size hx30
        refine WL.va rfl rfl rfl (X.move rfl) ?_
        refine WL.op rfl (OW.appendB o2 (Row.ext hm (Ext.trans hx17 hx30)) rfl rfl Try.underlying22 Try.type5 rfl rfl rfl rfl (by rw [hput, List.length_append, Frm.head_len]; omega) hszB ?_ (by decide))
        intro v32 w31 ho34 hx33 hmvhx33
        have o2b := ho34
        refine WL.c rfl rfl rfl (X.call Try.call25 (evl_cons rfl evl_nil)) (get_ok _ _ _ (Bytes.of_own o2b)) ?_
        rintro v36 w35 ⟨⟨x3, rfl, o3⟩, hx37⟩
        refine WL.va rfl rfl rfl (X.move rfl) ?_
        refine WL.va rfl rfl rfl (X.extract rfl rfl) ?_
        refine WL.va rfl rfl rfl (X.extract rfl rfl) ?_
        refine WL.va rfl rfl rfl (X.extract rfl rfl) ?_
        refine WL.va rfl rfl rfl (X.assign rfl) ?_
        refine WL.va rfl rfl rfl (X.assignI rfl) ?_
        refine WL.va rfl rfl rfl (X.assignI rfl) ?_
        refine WL.nil ?_
        refine thn_n ?_
        refine WF.seq ?_
        refine WF.region ?_
        refine WL.va rfl rfl rfl (X.moveI rfl) ?_
        refine WL.va rfl rfl rfl (X.eql rfl rfl) ?_
        refine WL.va rfl rfl rfl (X.moveB rfl) ?_
        refine WL.split (j := 2) rfl (fun h39 => ?_) (fun h39 => ?_)
        · have gh39 := (of_decide_eq_true h39)
          refine WL.vg rfl (congrArg some h39) rfl rfl (X.moveI rfl) ?_
          refine WL.vg rfl (congrArg some h39) rfl rfl (X.eql rfl rfl) ?_
          refine WL.va rfl rfl rfl (X.pickT rfl h39 rfl) ?_
          refine WL.va rfl rfl rfl (X.moveB rfl) ?_
          refine WL.split (j := 6) rfl (fun h41 => ?_) (fun h41 => ?_)
          · have gh41 := (of_decide_eq_true h41)
            refine WL.vg rfl (congrArg some h41) rfl rfl (X.moveI rfl) ?_
            refine WL.vg rfl (congrArg some h41) rfl rfl (X.move rfl) ?_
            refine WL.vg rfl (congrArg some h41) rfl rfl (X.len (Bytes.of_own o1) rfl Try.underlying22) ?_
            refine WL.vg rfl (congrArg some h41) rfl rfl (X.eql rfl rfl) ?_
            refine WL.va rfl rfl rfl (X.pickT rfl h41 rfl) ?_
            refine WL.va rfl rfl rfl (X.moveB rfl) ?_
            refine WL.split (j := 12) rfl (fun h43 => ?_) (fun h43 => ?_)
            · have gh43 := (of_decide_eq_true h43)
              refine WL.vg rfl (congrArg some h43) rfl rfl (X.moveI rfl) ?_
              refine WL.vg rfl (congrArg some h43) rfl rfl (X.move rfl) ?_
              refine WL.vg rfl (congrArg some h43) rfl rfl (X.len hb rfl Try.underlying22) ?_
              refine WL.vg rfl (congrArg some h43) rfl rfl (X.add rfl rfl (w64 (by omega))) ?_
              refine WL.vg rfl (congrArg some h43) rfl rfl (X.eql rfl rfl) ?_
              refine WL.va rfl rfl rfl (X.pickT rfl h43 rfl) ?_
              refine WL.va rfl rfl rfl (X.moveB rfl) ?_
              refine WL.split (j := 19) rfl (fun h45 => ?_) (fun h45 => ?_)
              · have gh45 := (of_decide_eq_true h45)
                refine WL.vg rfl (congrArg some h45) rfl rfl (X.move rfl) ?_
                refine WL.vg rfl (congrArg some h45) rfl rfl (X.move rfl) ?_
                refine WL.cg rfl (congrArg some h45) rfl rfl (X.call Try.call27 (evl_cons rfl (evl_cons rfl evl_nil))) (sameBytes_ok _ _ _ _ _ (Bytes.of_own o3) (Row.ext hb (Ext.trans (Ext.own (Ext.trans hx17 hx30) o2 hszA hx33) hx37))) ?_
                rintro v47 w46 ⟨rfl, hx48⟩
                refine WL.va rfl rfl rfl (X.pickT rfl h45 rfl) ?_
                refine WL.va rfl rfl rfl (X.moveB rfl) ?_
                refine WL.split (j := 24) rfl (fun h50 => ?_) (fun h50 => ?_)
                · have gh50 := (of_decide_eq_true h50)
                  refine WL.cg rfl (congrArg some h50) rfl rfl (X.call Try.call29 evl_nil) (known3_ok _) ?_
                  rintro v52 w51 ⟨rfl, hx53⟩
                  refine WL.va rfl rfl rfl (X.pickT rfl h50 rfl) ?_
                  refine WL.va rfl rfl rfl (X.assignB rfl) ?_
                  refine WL.nil ?_
                  refine thn_n ?_
                  refine WF.ret ?_
                  refine fin_r ?_
                  exact ⟨rfl, (Ext.trans (Ext.trans (Ext.trans (Ext.own (Ext.trans hx17 hx30) o2 hszA hx33) hx37) hx48) hx53)⟩
                · have gh50 := (of_decide_eq_false h50)
                  exact absurd (by rw [hget]) gh50
              · have gh45 := (of_decide_eq_false h45)
                exact absurd (by rw [hget]; simp) gh45
            · have gh43 := (of_decide_eq_false h43)
              exact absurd (by rw [hget, hput]; simp [Frm.head_len]) gh43
          · have gh41 := (of_decide_eq_false h41)
            exact absurd (by rw [hget] <;> rfl) gh41
        · have gh39 := (of_decide_eq_false h39)
          exact absurd (by rw [hput] <;> rfl) gh39

theorem frameOnly_walk (v : Value) (b : List UInt8) (w : World) (hb : Bytes w v b) (hz : b.length ≤ 140737488351232) : FnOk Try.prog 10 [v] w (fun r w' => r = .bool true ∧ Ext w w') := by
  refine FnOk.enter (rs := [2]) Try.func10 rfl Try.ntmps10 Try.results10 rfl rfl ?_
  refine WF.seq ?_
  refine WF.region ?_
  refine WL.va rfl rfl rfl (X.assignB rfl) ?_
  refine WL.nil ?_
  refine thn_n ?_
  refine WF.seq ?_
  refine WF.seq ?_
  refine WF.region ?_
  refine WL.va rfl rfl rfl (X.move rfl) ?_
  refine WL.va rfl rfl rfl (X.len hb rfl Try.underlying22) ?_
  refine WL.va rfl rfl rfl (X.gtr rfl rfl) ?_
  refine WL.nil ?_
  refine thn_n ?_
  refine WF.cond rfl (fun h0_2 => ?_) (fun h0_2 => ?_)
  · have gh0_2 := (of_decide_eq_true h0_2)
    refine WF.seq ?_
    refine WF.region ?_
    refine WL.c rfl rfl rfl (X.call Try.call29 evl_nil) (known3_ok _) ?_
    rintro v5 w4 ⟨rfl, hx6⟩
    refine WL.va rfl rfl rfl (X.assignB rfl) ?_
    refine WL.nil ?_
    refine thn_n ?_
    refine WF.ret ?_
    refine thn_r ?_
    refine fin_r ?_
    exact ⟨rfl, hx6⟩
  · have gh0_2 := (of_decide_eq_false h0_2)
    refine WF.skip ?_
    refine thn_n ?_
    refine WF.seq ?_
    refine WF.region ?_
    refine WL.va rfl rfl rfl (X.move rfl) ?_
    refine WL.c rfl rfl rfl (X.call Try.call25 (evl_cons rfl evl_nil)) (get_ok _ _ _ hb) ?_
    rintro v9 w8 ⟨⟨x1, rfl, o1⟩, hx10⟩
    refine WL.va rfl rfl rfl (X.move rfl) ?_
    refine WL.va rfl rfl rfl (X.extract rfl rfl) ?_
    refine WL.va rfl rfl rfl (X.extract rfl rfl) ?_
    refine WL.va rfl rfl rfl (X.extract rfl rfl) ?_
    refine WL.va rfl rfl rfl (X.assign rfl) ?_
    refine WL.va rfl rfl rfl (X.assignI rfl) ?_
    refine WL.va rfl rfl rfl (X.assignI rfl) ?_
    refine WL.nil ?_
    refine thn_n ?_
    refine WF.seq ?_
    refine WF.seq ?_
    refine WF.region ?_
    refine WL.va rfl rfl rfl (X.moveI rfl) ?_
    refine WL.va rfl rfl rfl (X.neq rfl rfl) ?_
    refine WL.nil ?_
    refine thn_n ?_
    refine WF.cond rfl (fun h1_11 => ?_) (fun h1_11 => ?_)
    · have gh1_11 := (of_decide_eq_true h1_11)
      have hbad := Frm.get_bad (b := b) gh1_11
      refine WF.seq ?_
      refine WF.region ?_
      refine WL.va rfl rfl rfl (X.moveI rfl) ?_
      refine WL.va rfl rfl rfl (X.eql rfl rfl) ?_
      refine WL.va rfl rfl rfl (X.moveB rfl) ?_
      refine WL.split (j := 2) rfl (fun h14 => ?_) (fun h14 => ?_)
      · have gh14 := (of_decide_eq_true h14)
        refine WL.vg rfl (congrArg some h14) rfl rfl (X.move rfl) ?_
        refine WL.vg rfl (congrArg some h14) rfl rfl (X.len (Bytes.of_own o1) rfl Try.underlying22) ?_
        refine WL.vg rfl (congrArg some h14) rfl rfl (X.eql rfl rfl) ?_
        refine WL.va rfl rfl rfl (X.pickT rfl h14 rfl) ?_
        refine WL.va rfl rfl rfl (X.moveB rfl) ?_
        refine WL.split (j := 7) rfl (fun h16 => ?_) (fun h16 => ?_)
        · have gh16 := (of_decide_eq_true h16)
          refine WL.cg rfl (congrArg some h16) rfl rfl (X.call Try.call29 evl_nil) (known3_ok _) ?_
          rintro v18 w17 ⟨rfl, hx19⟩
          refine WL.va rfl rfl rfl (X.pickT rfl h16 rfl) ?_
          refine WL.va rfl rfl rfl (X.assignB rfl) ?_
          refine WL.nil ?_
          refine thn_n ?_
          refine WF.ret ?_
          refine thn_r ?_
          refine fin_r ?_
          exact ⟨rfl, (Ext.trans hx10 hx19)⟩
        · have gh16 := (of_decide_eq_false h16)
          exact absurd (by rw [hbad.1] <;> rfl) gh16
      · have gh14 := (of_decide_eq_false h14)
        exact absurd (by rw [hbad.2] <;> rfl) gh14
    · have gh1_11 := (Decidable.of_not_not (of_decide_eq_false h1_11))
      obtain ⟨g1, g2, g3, g4⟩ := Frm.get_good (b := b) gh1_11
      have hput := Frm.put_ok (p := (Frm.get b).1) g1
      refine WF.skip ?_
      refine thn_n ?_
      refine WF.seq ?_
      refine WF.region ?_
      refine WL.va rfl rfl rfl (X.move rfl) ?_
      refine WL.c rfl rfl rfl (X.call Try.call23 (evl_cons rfl evl_nil)) (put_ok _ _ _ (Bytes.of_own o1)) ?_
      rintro v22 w21 ⟨⟨x2, rfl, o2⟩, hx23⟩
      refine WL.va rfl rfl rfl (X.move rfl) ?_
      refine WL.va rfl rfl rfl (X.extract rfl rfl) ?_
      refine WL.va rfl rfl rfl (X.extract rfl rfl) ?_
      refine WL.va rfl rfl rfl (X.assign rfl) ?_
      refine WL.va rfl rfl rfl (X.assignI rfl) ?_
      refine WL.nil ?_
      refine thn_n ?_
      refine WF.seq ?_
      refine WF.region ?_
      refine WL.va rfl rfl rfl (X.moveI rfl) ?_
      refine WL.va rfl rfl rfl (X.eql rfl rfl) ?_
      refine WL.va rfl rfl rfl (X.moveB rfl) ?_
      refine WL.split (j := 2) rfl (fun h25 => ?_) (fun h25 => ?_)
      · have gh25 := (of_decide_eq_true h25)
        refine WL.vg rfl (congrArg some h25) rfl rfl (X.moveI rfl) ?_
        refine WL.vg rfl (congrArg some h25) rfl rfl (X.move rfl) ?_
        refine WL.vg rfl (congrArg some h25) rfl rfl (X.len hb rfl Try.underlying22) ?_
        refine WL.vg rfl (congrArg some h25) rfl rfl (X.leq rfl rfl) ?_
        refine WL.va rfl rfl rfl (X.pickT rfl h25 rfl) ?_
        refine WL.va rfl rfl rfl (X.moveB rfl) ?_
        refine WL.split (j := 8) rfl (fun h27 => ?_) (fun h27 => ?_)
        · have gh27 := (of_decide_eq_true h27)
          refine WL.vg rfl (congrArg some h27) rfl rfl (X.move rfl) ?_
          refine WL.vg rfl (congrArg some h27) rfl rfl (X.move rfl) ?_
          refine WL.vg rfl (congrArg some h27) rfl rfl (X.moveI rfl) ?_
          refine WL.vg rfl (congrArg some h27) rfl rfl (X.slH hb rfl rfl (by omega) Try.underlying22 Try.sizeOf5) ?_
          refine WL.cg rfl (congrArg some h27) rfl rfl (X.call Try.call27 (evl_cons rfl (evl_cons rfl evl_nil))) (sameBytes_ok _ _ _ _ _ (Bytes.of_own o2) (Row.ext (Bytes.part hb 0 (Frm.get b).2.1 (Nat.zero_le _) (by omega)) (Ext.trans hx10 hx23))) ?_
          rintro v29 w28 ⟨rfl, hx30⟩
          refine WL.va rfl rfl rfl (X.pickT rfl h27 rfl) ?_
          refine WL.va rfl rfl rfl (X.moveB rfl) ?_
          refine WL.split (j := 15) rfl (fun h32 => ?_) (fun h32 => ?_)
          · have gh32 := (of_decide_eq_true h32)
            refine WL.cg rfl (congrArg some h32) rfl rfl (X.call Try.call29 evl_nil) (known3_ok _) ?_
            rintro v34 w33 ⟨rfl, hx35⟩
            refine WL.va rfl rfl rfl (X.pickT rfl h32 rfl) ?_
            refine WL.va rfl rfl rfl (X.assignB rfl) ?_
            refine WL.nil ?_
            refine thn_n ?_
            refine WF.ret ?_
            refine fin_r ?_
            exact ⟨rfl, (Ext.trans (Ext.trans (Ext.trans hx10 hx23) hx30) hx35)⟩
          · have gh32 := (of_decide_eq_false h32)
            exact absurd (by rw [hput]; exact g4) gh32
        · have gh27 := (of_decide_eq_false h27)
          exact absurd (by omega) gh27
      · have gh25 := (of_decide_eq_false h25)
        exact absurd (by rw [hput] <;> rfl) gh25

theorem frameCut_walk (v : Value) (p : List UInt8) (cut : Int) (w : World) (hb : Bytes w v p) (hz : p.length ≤ 140737488351232) (hc : -9223372036854775808 ≤ cut ∧ cut ≤ 9223372036854775807) : FnOk Try.prog 11 [v, i64 cut] w (fun r w' => r = .bool true ∧ Ext w w') := by
  refine FnOk.enter (rs := [4]) Try.func11 rfl Try.ntmps11 Try.results11 rfl rfl ?_
  refine WF.seq ?_
  refine WF.region ?_
  refine WL.va rfl rfl rfl (X.assignB rfl) ?_
  refine WL.nil ?_
  refine thn_n ?_
  refine WF.seq ?_
  refine WF.region ?_
  refine WL.va rfl rfl rfl (X.move rfl) ?_
  refine WL.c rfl rfl rfl (X.call Try.call23 (evl_cons rfl evl_nil)) (put_ok _ _ _ hb) ?_
  rintro v3 w2 ⟨⟨x1, rfl, o1⟩, hx4⟩
  refine WL.va rfl rfl rfl (X.move rfl) ?_
  refine WL.va rfl rfl rfl (X.extract rfl rfl) ?_
  refine WL.va rfl rfl rfl (X.extract rfl rfl) ?_
  refine WL.va rfl rfl rfl (X.assign rfl) ?_
  refine WL.va rfl rfl rfl (X.assignI rfl) ?_
  refine WL.nil ?_
  refine thn_n ?_
  refine WF.seq ?_
  refine WF.seq ?_
  refine WF.region ?_
  refine WL.va rfl rfl rfl (X.moveI rfl) ?_
  refine WL.va rfl rfl rfl (X.neq rfl rfl) ?_
  refine WL.nil ?_
  refine thn_n ?_
  refine WF.cond rfl (fun h0_5 => ?_) (fun h0_5 => ?_)
  · have gh0_5 := (of_decide_eq_true h0_5)
    refine WF.seq ?_
    refine WF.region ?_
    refine WL.c rfl rfl rfl (X.call Try.call29 evl_nil) (known3_ok _) ?_
    rintro v8 w7 ⟨rfl, hx9⟩
    refine WL.va rfl rfl rfl (X.assignB rfl) ?_
    refine WL.nil ?_
    refine thn_n ?_
    refine WF.ret ?_
    refine thn_r ?_
    refine fin_r ?_
    exact ⟨rfl, (Ext.trans hx4 hx9)⟩
  · have gh0_5 := (Decidable.of_not_not (of_decide_eq_false h0_5))
    have hp65 : p.length ≤ 65536 := (by by_cases h : p.length ≤ 65536; exact h; exfalso; rw [Frm.put_long h] at gh0_5; exact absurd gh0_5 (by decide))
    have hput := Frm.put_ok (p := p) hp65
    have hlen0 : (Frm.put p).1.length = 8 + p.length := by rw [hput]; simp [Frm.head_len]
    refine WF.skip ?_
    refine thn_n ?_
    refine WF.seq ?_
    refine WF.region ?_
    refine WL.va rfl rfl rfl (X.move rfl) ?_
    refine WL.va rfl rfl rfl (X.moveI rfl) ?_
    refine WL.va rfl rfl rfl (X.move rfl) ?_
    refine WL.va rfl rfl rfl (X.len (Bytes.of_own o1) rfl Try.underlying22) ?_
    refine WL.c rfl rfl rfl (X.call Try.call22 (evl_cons rfl (evl_cons rfl evl_nil))) (pick_ok _ _ _ hc (by omega)) ?_
    rintro v12 w11 ⟨⟨q0, rfl, hp0, hp1⟩, rfl⟩
    have hlen : (Frm.put p).1.length = 8 + p.length := by rw [hput]; simp [Frm.head_len]
    have hq := hp1 (by omega)
    obtain ⟨q, rfl⟩ := Int.eq_ofNat_of_zero_le hq.1
    refine WL.va rfl rfl rfl (X.slH (Bytes.of_own o1) rfl rfl (by omega) Try.underlying22 Try.sizeOf5) ?_
    refine WL.c rfl rfl rfl (X.call Try.call25 (evl_cons rfl evl_nil)) (get_ok _ _ _ (Bytes.of_own (OwnB.part o1 q (by omega)))) ?_
    rintro v15 w14 ⟨⟨x2, rfl, o2⟩, hx16⟩
    have hget : Frm.get ((Frm.put p).1.take q) = ([], 0, 1) := by rw [hput]; exact Frm.get_cut hp65 (by omega)
    refine WL.va rfl rfl rfl (X.move rfl) ?_
    refine WL.va rfl rfl rfl (X.extract rfl rfl) ?_
    refine WL.va rfl rfl rfl (X.extract rfl rfl) ?_
    refine WL.va rfl rfl rfl (X.extract rfl rfl) ?_
    refine WL.va rfl rfl rfl (X.assign rfl) ?_
    refine WL.va rfl rfl rfl (X.assignI rfl) ?_
    refine WL.va rfl rfl rfl (X.assignI rfl) ?_
    refine WL.nil ?_
    refine thn_n ?_
    refine WF.seq ?_
    refine WF.region ?_
    refine WL.va rfl rfl rfl (X.moveI rfl) ?_
    refine WL.va rfl rfl rfl (X.eql rfl rfl) ?_
    refine WL.va rfl rfl rfl (X.moveB rfl) ?_
    refine WL.split (j := 2) rfl (fun h18 => ?_) (fun h18 => ?_)
    · have gh18 := (of_decide_eq_true h18)
      refine WL.vg rfl (congrArg some h18) rfl rfl (X.moveI rfl) ?_
      refine WL.vg rfl (congrArg some h18) rfl rfl (X.eql rfl rfl) ?_
      refine WL.va rfl rfl rfl (X.pickT rfl h18 rfl) ?_
      refine WL.va rfl rfl rfl (X.moveB rfl) ?_
      refine WL.split (j := 6) rfl (fun h20 => ?_) (fun h20 => ?_)
      · have gh20 := (of_decide_eq_true h20)
        refine WL.vg rfl (congrArg some h20) rfl rfl (X.move rfl) ?_
        refine WL.vg rfl (congrArg some h20) rfl rfl (X.len (Bytes.of_own o2) rfl Try.underlying22) ?_
        refine WL.vg rfl (congrArg some h20) rfl rfl (X.eql rfl rfl) ?_
        refine WL.va rfl rfl rfl (X.pickT rfl h20 rfl) ?_
        refine WL.va rfl rfl rfl (X.moveB rfl) ?_
        refine WL.split (j := 11) rfl (fun h22 => ?_) (fun h22 => ?_)
        · have gh22 := (of_decide_eq_true h22)
          refine WL.cg rfl (congrArg some h22) rfl rfl (X.call Try.call29 evl_nil) (known3_ok _) ?_
          rintro v24 w23 ⟨rfl, hx25⟩
          refine WL.va rfl rfl rfl (X.pickT rfl h22 rfl) ?_
          refine WL.va rfl rfl rfl (X.assignB rfl) ?_
          refine WL.nil ?_
          refine thn_n ?_
          refine WF.ret ?_
          refine fin_r ?_
          exact ⟨rfl, (Ext.trans (Ext.trans hx4 hx16) hx25)⟩
        · have gh22 := (of_decide_eq_false h22)
          exact absurd (by rw [hget] <;> rfl) gh22
      · have gh20 := (of_decide_eq_false h20)
        exact absurd (by rw [hget] <;> rfl) gh20
    · have gh18 := (of_decide_eq_false h18)
      exact absurd (by rw [hget] <;> rfl) gh18

end Go.Proofs.Ytljlkljbemdedaa
