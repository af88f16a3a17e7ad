/- The walks of the reference's readers. -/
import Derived.Test.YtpimnlgfhpnjnaaPackR
namespace Go.Proofs.Ytpimnlgfhpnjnaa
open Go Go.RowKit Kf
set_option maxRecDepth 20000

/-- a reader of the reference: what it holds -/
structure RR (w : World) (B : Nat) (x vb : Value) (L : List UInt8) (a : Nat) (s : Pk.RS) : Prop where
  var : Var w B 107 3 x [vb, i64 (a : Int), .bool s.bad]
  own : OwnB w B 5 vb L
  apart : Apart (asRow x) vb
  inn : a ≤ L.length
  eq : s.bad = false → L.drop a = s.left
  ok : s.bad = true → s.left = []
  small : L.length ≤ 140737488355328
theorem RR.bytes {w : World} {B : Nat} {x vb : Value} {L : List UInt8} {a : Nat} {s : Pk.RS} (h : RR w B x vb L a s) : Bytes w vb L := Bytes.of_own h.own
theorem RR.ext {w w' : World} {B : Nat} {x vb : Value} {L : List UInt8} {a : Nat} {s : Pk.RS} (h : RR w B x vb L a s) (g : Ext w w') : RR w' B x vb L a s := ⟨h.var.ext g, h.own.ext g, h.apart, h.inn, h.eq, h.ok, h.small⟩
theorem RR.kept {w w' : World} {B : Nat} {x vb : Value} {L : List UInt8} {a : Nat} {s : Pk.RS} {row : Option Nat} (h : RR w B x vb L a s) (g : w.grownBy w' row) (h1 : (asRow x).ownBlock = none ∨ (asRow x).ownBlock ≠ row) (h2 : vb.ownBlock = none ∨ vb.ownBlock ≠ row) : RR w' B x vb L a s :=
  ⟨h.var.kept g h1, h.own.kept g h2, h.apart, h.inn, h.eq, h.ok, h.small⟩
theorem RR.failed {w w' : World} {B : Nat} {x vb : Value} {L : List UInt8} {a : Nat} {s : Pk.RS} (h : RR w B x vb L a s) (v : Var w' B 107 3 x [vb, i64 (a : Int), .bool true]) (g : w.grownBy w' (asRow x).ownBlock) : RR w' B x vb L a .dead :=
  ⟨v, h.own.kept g h.apart.symm.ne, h.apart, h.inn, (fun e => by cases e), fun _ => rfl, h.small⟩
theorem RR.gone {w w' : World} {B : Nat} {x vb : Value} {L : List UInt8} {a : Nat} {s : Pk.RS} (h : RR w B x vb L a s) (hb : s.bad = false) (m : Nat) (hm : m ≤ s.left.length) (v : Var w' B 107 3 x [vb, i64 ((a + m : Nat) : Int), .bool s.bad]) (g : w.grownBy w' (asRow x).ownBlock) : RR w' B x vb L (a + m) ⟨s.left.drop m, false⟩ := by
  have e := h.eq hb
  have hl := h.inn
  have hll : s.left.length = L.length - a := by rw [← e]; simp
  refine ⟨by rw [hb] at v; exact v, h.own.kept g h.apart.symm.ne, h.apart, by omega, (fun _ => ?_), (fun e => by cases e), h.small⟩
  show L.drop (a + m) = s.left.drop m
  rw [← e, List.drop_drop]
theorem RR.at {w : World} {B : Nat} {x vb : Value} {L : List UInt8} {a : Nat} {s : Pk.RS} (h : RR w B x vb L a s) (hb : s.bad = false) (k : Nat) : L.getD (a + k) 0 = s.left.getD k 0 := by
  rw [← h.eq hb]; simp [List.getD_eq_getElem?_getD, List.getElem?_drop]
theorem RR.len {w : World} {B : Nat} {x vb : Value} {L : List UInt8} {a : Nat} {s : Pk.RS} (h : RR w B x vb L a s) (hb : s.bad = false) : a + s.left.length = L.length := by
  have := h.inn
  rw [← h.eq hb]; simp; omega
theorem addN {a k : Nat} (h : a + k ≤ 9223372036854775807) : IntKind.i64.wrap ((a : Int) + (k : Int)) = ((a + k : Nat) : Int) := by rw [w64 (by omega)]; omega
theorem mulU {x : Nat} (h : x < 72057594037927936) : IntKind.u64.wrap ((x : Int) * 256) = ((x * 2 ^ 8 : Nat) : Int) := by
  rw [show (x : Int) * 256 = ((x * 2 ^ 8 : Nat) : Int) by rw [Int.natCast_mul]; rfl]
  exact wu64 (by omega)
theorem sumU {x : Nat} (y : UInt8) (h : x < 72057594037927936) : IntKind.u64.wrap (((x * 2 ^ 8 : Nat) : Int) + (y.toNat : Int)) = ((x * 2 ^ 8 + y.toNat : Nat) : Int) := by
  have := y.toNat_lt
  rw [wu64 (by omega)]; omega
theorem int_badR {s : Pk.RS} (_hok : s.bad = true → s.left = []) (h : (s.left.length : Int) < 8) : s.int = (0, .dead) := if_pos (.inr (by omega))
theorem int_goodR {s : Pk.RS} (hok : s.bad = true → s.left = []) (h : ¬ (s.left.length : Int) < 8) : s.bad = false ∧ s.int = (Pk.dec (s.left.take 8), ⟨s.left.drop 8, false⟩) := by
  have hb : s.bad = false := by
    cases hb : s.bad
    · rfl
    · rw [hok hb] at h; exact absurd (by decide) h
  exact ⟨hb, if_neg (by rw [hb]; simp; omega)⟩
theorem qLeft_ok (x vb : Value) (L : List UInt8) (a : Nat) (s : Pk.RS) (w : World) (B : Nat) (h : RR w B x vb L a s) : FnOk Try.prog 104 [x] w (fun v w' => v = i64 (s.left.length : Int) ∧ Ext w w') := by
  have hle := h.bytes.le64
  have hin := h.inn
  refine FnOk.enter (rs := [2]) Try.func104 rfl Try.ntmps104 Try.results104 rfl rfl ?_
  refine WF.seq ?_
  refine WF.region ?_
  refine WL.va rfl rfl rfl (X.assignI rfl) ?_
  refine WL.nil ?_
  refine thn_n ?_
  refine WF.seq ?_
  refine WF.seq ?_
  refine WF.region ?_
  refine WL.va rfl rfl rfl (X.move rfl) ?_
  refine WL.va rfl rfl rfl (X.nilCheckV h.var rfl) ?_
  refine WL.va rfl rfl rfl (X.fieldAddr h.var rfl Try.underlying107 rfl rfl Try.sizeOf4) ?_
  refine WL.va rfl rfl rfl (X.loadF h.var (Ext.refl _) rfl rfl Try.isAgg4) ?_
  refine WL.nil ?_
  refine thn_n ?_
  refine WF.cond rfl (fun h0_1 => ?_) (fun h0_1 => ?_)
  · have gh0_1 := h0_1
    have e := h.ok gh0_1
    refine WF.seq ?_
    refine WF.region ?_
    refine WL.va rfl rfl rfl (X.assignI rfl) ?_
    refine WL.nil ?_
    refine thn_n ?_
    refine WF.ret ?_
    refine thn_r ?_
    refine fin_r ?_
    exact ⟨by rw [e]; rfl, (Ext.refl _)⟩
  · have gh0_1 := h0_1
    have e := h.len gh0_1
    refine WF.skip ?_
    refine thn_n ?_
    refine WF.seq ?_
    refine WF.drawn (.q 0 (.q 1 (.q 2 (.q 3 (.q 4 (.q 5 (.q 6 (.q 7 (.q 8 (.q 9 (.q 10 .nil))))))))))) (fun w' => Ext w w') 11 (by kernel_rfl) (by kernel_rfl) (Ext.drew _) ?_
    refine WO.q rfl rfl rfl rfl (fun w' hE3 => (X.move rfl)) ?_
    refine WO.q rfl rfl rfl rfl (fun w' hE3 => (X.nilCheckV h.var rfl)) ?_
    refine WO.q rfl rfl rfl rfl (fun w' hE3 => (X.fieldAddr h.var rfl Try.underlying107 rfl rfl Try.sizeOf46)) ?_
    refine WO.q rfl rfl rfl rfl (fun w' hE3 => (X.loadF h.var hE3 rfl rfl Try.isAgg46)) ?_
    refine WO.q rfl rfl rfl rfl (fun w' hE3 => (X.len h.bytes rfl Try.underlying46)) ?_
    refine WO.q rfl rfl rfl rfl (fun w' hE3 => (X.move rfl)) ?_
    refine WO.q rfl rfl rfl rfl (fun w' hE3 => (X.nilCheckV h.var rfl)) ?_
    refine WO.q rfl rfl rfl rfl (fun w' hE3 => (X.fieldAddr h.var rfl Try.underlying107 rfl rfl Try.sizeOf3)) ?_
    refine WO.q rfl rfl rfl rfl (fun w' hE3 => (X.loadF h.var hE3 rfl rfl Try.isAgg3)) ?_
    refine WO.q rfl rfl rfl rfl (fun w' hE3 => (X.sub rfl rfl (w64 (by omega)))) ?_
    refine WO.q rfl rfl rfl rfl (fun w' hE3 => (X.assignI rfl)) ?_
    refine WO.nil ?_
    refine WL.nil ?_
    refine thn_n ?_
    refine WF.ret ?_
    refine fin_r ?_
    exact ⟨congrArg (Value.int .i64) (by omega), (Ext.drew _)⟩

theorem qEnd_ok (x vb : Value) (L : List UInt8) (a : Nat) (s : Pk.RS) (w : World) (B : Nat) (h : RR w B x vb L a s) : FnOk Try.prog 70 [x] w (fun v w' => v = i64 s.err ∧ Ext w w') := by
  refine FnOk.enter (rs := [2]) Try.func70 rfl Try.ntmps70 Try.results70 rfl rfl ?_
  refine WF.seq ?_
  refine WF.region ?_
  refine WL.va rfl rfl rfl (X.assignI rfl) ?_
  refine WL.nil ?_
  refine thn_n ?_
  refine WF.seq ?_
  refine WF.seq ?_
  refine WF.region ?_
  refine WL.va rfl rfl rfl (X.move rfl) ?_
  refine WL.va rfl rfl rfl (X.nilCheckV h.var rfl) ?_
  refine WL.va rfl rfl rfl (X.fieldAddr h.var rfl Try.underlying107 rfl rfl Try.sizeOf4) ?_
  refine WL.va rfl rfl rfl (X.loadF h.var (Ext.refl _) rfl rfl Try.isAgg4) ?_
  refine WL.nil ?_
  refine thn_n ?_
  refine WF.cond rfl (fun h0_1 => ?_) (fun h0_1 => ?_)
  · have gh0_1 := h0_1
    have e : s.err = 4 := if_pos gh0_1
    refine WF.seq ?_
    refine WF.region ?_
    refine WL.va rfl rfl rfl (X.assignI rfl) ?_
    refine WL.nil ?_
    refine thn_n ?_
    refine WF.ret ?_
    refine thn_r ?_
    refine fin_r ?_
    exact ⟨by rw [e]; rfl, (Ext.refl _)⟩
  · have gh0_1 := h0_1
    have e0 : s.err = if 0 < s.left.length then 2 else 0 := if_neg (by rw [gh0_1]; decide)
    refine WF.skip ?_
    refine thn_n ?_
    refine WF.seq ?_
    refine WF.seq ?_
    refine WF.region ?_
    refine WL.va rfl rfl rfl (X.move rfl) ?_
    refine WL.c rfl rfl rfl (X.call Try.call104 (evl_cons rfl evl_nil)) (qLeft_ok x _ _ _ _ _ _ h) ?_
    rintro v4 w3 ⟨rfl, hx5⟩
    refine WL.va rfl rfl rfl (X.gtr rfl rfl) ?_
    refine WL.nil ?_
    refine thn_n ?_
    refine WF.cond rfl (fun h1_6 => ?_) (fun h1_6 => ?_)
    · have gh1_6 := (of_decide_eq_true h1_6)
      have e : s.err = 2 := by rw [e0, if_pos (by omega)]
      refine WF.seq ?_
      refine WF.region ?_
      refine WL.va rfl rfl rfl (X.assignI rfl) ?_
      refine WL.nil ?_
      refine thn_n ?_
      refine WF.ret ?_
      refine thn_r ?_
      refine fin_r ?_
      exact ⟨by rw [e]; rfl, hx5⟩
    · have gh1_6 := (of_decide_eq_false h1_6)
      have e : s.err = 0 := by rw [e0, if_neg (by omega)]
      refine WF.skip ?_
      refine thn_n ?_
      refine WF.seq ?_
      refine WF.region ?_
      refine WL.va rfl rfl rfl (X.assignI rfl) ?_
      refine WL.nil ?_
      refine thn_n ?_
      refine WF.ret ?_
      refine fin_r ?_
      exact ⟨by rw [e]; rfl, hx5⟩

theorem qInt_ok (x vb : Value) (L : List UInt8) (a : Nat) (s : Pk.RS) (w : World) (B : Nat) (h : RR w B x vb L a s) : FnOk Try.prog 76 [x] w (fun v w' => v = i64 s.int.1 ∧ (∃ a', RR w' B x vb L a' s.int.2) ∧ w.grownBy w' (asRow x).ownBlock) := by
  refine FnOk.enter (rs := [2]) Try.func76 rfl Try.ntmps76 Try.results76 rfl rfl ?_
  refine WF.seq ?_
  refine WF.region ?_
  refine WL.va rfl rfl rfl (X.assignI rfl) ?_
  refine WL.nil ?_
  refine thn_n ?_
  refine WF.seq ?_
  refine WF.seq ?_
  refine WF.region ?_
  refine WL.va rfl rfl rfl (X.move rfl) ?_
  refine WL.c rfl rfl rfl (X.call Try.call104 (evl_cons rfl evl_nil)) (qLeft_ok x _ _ _ _ _ _ h) ?_
  rintro v2 w1 ⟨rfl, hx3⟩
  have h1 := h.ext hx3
  have hx1 := hx3
  have hsm := h.small
  refine WL.va rfl rfl rfl (X.lss rfl rfl) ?_
  refine WL.nil ?_
  refine thn_n ?_
  refine WF.cond rfl (fun h0_4 => ?_) (fun h0_4 => ?_)
  · have gh0_4 := (of_decide_eq_true h0_4)
    have e := int_badR h.ok gh0_4
    refine WF.seq ?_
    refine WF.region ?_
    refine WL.va rfl rfl rfl (X.move rfl) ?_
    refine WL.va rfl rfl rfl (X.nilCheckV h1.var rfl) ?_
    refine WL.va rfl rfl rfl (X.fieldAddr h1.var rfl Try.underlying107 rfl rfl Try.sizeOf4) ?_
    refine WL.op rfl (OW.storeF h1.var (by decide) rfl rfl rfl Try.sizeOf4 ?_)
    intro w6 ho9 hx8
    have v1 : Var w6 B 107 3 x [vb, i64 (a : Int), .bool true] := ho9
    have g1 := hx8
    refine WL.nil ?_
    refine thn_n ?_
    refine WF.seq ?_
    refine WF.region ?_
    refine WL.va rfl rfl rfl (X.assignI rfl) ?_
    refine WL.nil ?_
    refine thn_n ?_
    refine WF.ret ?_
    refine thn_r ?_
    refine fin_r ?_
    rw [e]; exact ⟨rfl, ⟨_, h1.failed v1 g1⟩, ext_grown hx1 g1⟩
  · have gh0_4 := (of_decide_eq_false h0_4)
    obtain ⟨hbad, e⟩ := int_goodR h.ok gh0_4
    have hlen := h.len hbad
    refine WF.skip ?_
    refine thn_n ?_
    refine WF.seq ?_
    refine WF.region ?_
    refine WL.va rfl rfl rfl (X.assignI rfl) ?_
    refine WL.nil ?_
    refine thn_n ?_
    refine WF.seq ?_
    refine WF.seq ?_
    refine WF.region ?_
    refine WL.va rfl rfl rfl (X.assignI rfl) ?_
    refine WL.nil ?_
    refine thn_n ?_
    refine WF.block ?_
    refine WF.named (fun F10 hF11 => ?_)
    refine WF.loopN (fun mL0 f' w' => ∃ (k : Nat), mL0 = 8 - k ∧ f' 4 = .int .i64 (k : Int) ∧ f' 3 = .int .u64 ((Pk.num (s.left.take k) : Nat) : Int) ∧ Agree [0, 2, 5, 6, 7] f' F10 ∧ Ext w1 w' ∧ k ≤ 8) ?_ ?_
    · exact ⟨_, 0, rfl, (congrFun hF11 4), (congrFun hF11 3), (Agree.refl _ _), (Ext.refl _), (by omega)⟩
    · rintro mL0 fL0 wL0 ⟨k, hmL0, e4_L0, e3_L0, hAL0, hwL0, hiL0⟩
      refine WF.seq ?_
      refine WF.seq ?_
      refine WF.region ?_
      refine WL.va rfl rfl rfl (X.moveI e4_L0) ?_
      refine WL.va rfl rfl rfl (X.lss rfl rfl) ?_
      refine WL.nil ?_
      refine thn_n ?_
      refine WF.cond rfl (fun h1_12 => ?_) (fun h1_12 => ?_)
      · have gh1_12 := (of_decide_eq_true h1_12)
        refine WF.skip ?_
        refine thn_n ?_
        refine WF.seq ?_
        refine WF.block ?_
        refine WF.drawn (.q 0 (.q 1 (.q 2 (.q 3 (.q 4 (.q 5 (.q 6 (.q 7 (.q 8 (.q 9 (.q 10 (.q 11 (.q 12 (.q 13 (.q 14 (.q 15 (.q 16 .nil))))))))))))))))) (fun w' => Ext wL0 w') 17 (by kernel_rfl) (by kernel_rfl) (Ext.drew _) ?_
        refine WO.q rfl rfl rfl rfl (fun w' hE14 => (X.moveI e3_L0)) ?_
        refine WO.q rfl rfl rfl rfl (fun w' hE14 => (X.mul rfl rfl (mulU (num_take_lt (by omega))))) ?_
        refine WO.q rfl rfl rfl rfl (fun w' hE14 => (X.move ((hAL0.eq 0).trans (congrFun hF11 0)))) ?_
        refine WO.q rfl rfl rfl rfl (fun w' hE14 => (X.nilCheckV h1.var rfl)) ?_
        refine WO.q rfl rfl rfl rfl (fun w' hE14 => (X.fieldAddr h1.var rfl Try.underlying107 rfl rfl Try.sizeOf46)) ?_
        refine WO.q rfl rfl rfl rfl (fun w' hE14 => (X.loadF h1.var (Ext.trans hwL0 hE14) rfl rfl Try.isAgg46)) ?_
        refine WO.q rfl rfl rfl rfl (fun w' hE14 => (X.move ((hAL0.eq 0).trans (congrFun hF11 0)))) ?_
        refine WO.q rfl rfl rfl rfl (fun w' hE14 => (X.nilCheckV h1.var rfl)) ?_
        refine WO.q rfl rfl rfl rfl (fun w' hE14 => (X.fieldAddr h1.var rfl Try.underlying107 rfl rfl Try.sizeOf3)) ?_
        refine WO.q rfl rfl rfl rfl (fun w' hE14 => (X.loadF h1.var (Ext.trans hwL0 hE14) rfl rfl Try.isAgg3)) ?_
        refine WO.q rfl rfl rfl rfl (fun w' hE14 => (X.moveI e4_L0)) ?_
        refine WO.q rfl rfl rfl rfl (fun w' hE14 => (X.add rfl rfl (addN (by omega)))) ?_
        refine WO.q rfl rfl rfl rfl (fun w' hE14 => (X.idx h1.bytes rfl rfl (by omega) Try.underlying46 Try.sizeOf5)) ?_
        refine WO.q rfl rfl rfl rfl (fun w' hE14 => (X.loadB h1.bytes (Ext.trans hwL0 hE14) rfl (by omega) Try.isAgg5)) ?_
        refine WO.q rfl rfl rfl rfl (fun w' hE14 => (X.conv rfl (congrArg Option.isSome Try.underlying5) Try.underlying126 (convU _))) ?_
        refine WO.q rfl rfl rfl rfl (fun w' hE14 => (X.add rfl rfl (sumU _ (num_take_lt (by omega))))) ?_
        refine WO.q rfl rfl rfl rfl (fun w' hE14 => (X.assignI rfl)) ?_
        refine WO.nil ?_
        refine WL.nil ?_
        refine blk_n ?_
        refine thn_n ?_
        refine WF.region ?_
        refine WL.va rfl rfl rfl (X.moveI e4_L0) ?_
        refine WL.va rfl rfl rfl (X.add rfl rfl (w64 (by omega))) ?_
        refine WL.va rfl rfl rfl (X.assignI rfl) ?_
        refine WL.nil ?_
        exact thn_n ⟨_, (by omega), k + 1, rfl, rfl, (congrArg (fun z : Nat => Value.int .u64 (z : Int)) (by rw [h.at hbad]; exact num_step (by omega))), (by repeat (first | exact hAL0 | refine Agree.put ?_ rfl | refine Agree.named hF11 ?_)), (Ext.trans hwL0 (Ext.drew _)), (by omega)⟩
      · have gh1_12 := (of_decide_eq_false h1_12)
        refine WF.exit ?_
        refine thn_x ?_
        refine thn_x ?_
        refine blk_eq ?_
        refine thn_n ?_
        refine WF.seq ?_
        refine WF.region ?_
        refine WL.va rfl rfl rfl (X.move ((hAL0.eq 0).trans (congrFun hF11 0))) ?_
        refine WL.va rfl rfl rfl (X.move ((hAL0.eq 0).trans (congrFun hF11 0))) ?_
        refine WL.va rfl rfl rfl (X.nilCheckV h1.var rfl) ?_
        refine WL.va rfl rfl rfl (X.fieldAddr h1.var rfl Try.underlying107 rfl rfl Try.sizeOf3) ?_
        refine WL.va rfl rfl rfl (X.loadF h1.var hwL0 rfl rfl Try.isAgg3) ?_
        refine WL.va rfl rfl rfl (X.add rfl rfl (addN (k := 8) (by omega))) ?_
        refine WL.va rfl rfl rfl (X.nilCheckV h1.var rfl) ?_
        refine WL.va rfl rfl rfl (X.fieldAddr h1.var rfl Try.underlying107 rfl rfl Try.sizeOf3) ?_
        refine WL.op rfl (OW.storeF (h1.var.ext hwL0) (by decide) rfl rfl rfl Try.sizeOf3 ?_)
        intro w15 ho18 hx17
        have v1 : Var w15 B 107 3 x [vb, i64 ((a + 8 : Nat) : Int), .bool s.bad] := ho18
        have g1 := hx17
        refine WL.nil ?_
        refine thn_n ?_
        refine WF.seq ?_
        refine WF.region ?_
        refine WL.va rfl rfl rfl (X.moveI e3_L0) ?_
        refine WL.va rfl rfl rfl (X.conv rfl (congrArg Option.isSome Try.underlying126) Try.underlying3 rfl) ?_
        refine WL.va rfl rfl rfl (X.assignI rfl) ?_
        refine WL.nil ?_
        refine thn_n ?_
        refine WF.ret ?_
        refine fin_r ?_
        obtain rfl : k = 8 := (by omega)
        rw [e]; exact ⟨rfl, ⟨_, (h1.ext hwL0).gone hbad 8 (by omega) v1 g1⟩, ext_grown hx1 (ext_grown hwL0 g1)⟩

theorem qRead_ok (v : Value) (l : List UInt8) (w : World) (hb : Bytes w v l) (hl : l.length ≤ 140737488355328) : FnOk Try.prog 68 [v] w (fun r w' => (∃ vb, RR w' w.heap.size r vb l 0 ⟨l, false⟩) ∧ Ext w w') := by
  have hle := hb.le64
  refine FnOk.enter (rs := [2]) Try.func68 rfl Try.ntmps68 Try.results68 rfl rfl ?_
  refine WF.seq ?_
  refine WF.region ?_
  refine WL.va rfl rfl rfl (X.assign rfl) ?_
  refine WL.nil ?_
  refine thn_n ?_
  refine WF.seq ?_
  refine WF.region ?_
  refine WL.va rfl rfl rfl (X.build evp_nil Try.type107 Try.underlying107 rfl rfl trivial rfl) ?_
  refine WL.op rfl (OW.box rfl rfl ?_ (by decide))
  intro v2 w1 ho4 hx3
  obtain ⟨vx, hvx⟩ : ∃ vx, vx = v2 := ⟨_, rfl⟩
  subst hvx
  have hv0 : Var w1 w.heap.size 107 3 vx [.slice none 0 0, i64 ((0 : Nat) : Int), .bool false] := ho4
  refine WL.va rfl rfl rfl (X.assign rfl) ?_
  refine WL.nil ?_
  refine thn_n ?_
  refine WF.seq ?_
  refine WF.seq ?_
  refine WF.region ?_
  refine WL.va rfl rfl rfl (X.assignI rfl) ?_
  refine WL.nil ?_
  refine thn_n ?_
  refine WF.block ?_
  refine WF.named (fun F5 hF6 => ?_)
  refine WF.loopN (fun mL0 f' w' => ∃ (k : Nat) (vb : Value), mL0 = l.length - k ∧ f' 4 = .int .i64 (k : Int) ∧ Agree [0, 2, 3, 5, 6] f' F5 ∧ Ext w w' ∧ k ≤ l.length ∧ Var w' w.heap.size 107 3 vx [vb, i64 ((0 : Nat) : Int), .bool false] ∧ OwnB w' w.heap.size 5 vb (l.take k) ∧ Apart (asRow vx) vb) ?_ ?_
  · exact ⟨_, 0, (.slice none 0 0), rfl, (congrFun hF6 4), (Agree.refl _ _), hx3, ⟨Nat.zero_le _, hv0, OwnB.nil _ _ _, fun k _ h2 => by cases h2⟩⟩
  · rintro mL0 fL0 wL0 ⟨k, vb, hmL0, e4_L0, hAL0, hwL0, ⟨hk, hv, ho, hap⟩⟩
    refine WF.seq ?_
    refine WF.seq ?_
    refine WF.region ?_
    refine WL.va rfl rfl rfl (X.moveI e4_L0) ?_
    refine WL.va rfl rfl rfl (X.move ((hAL0.eq 0).trans (congrFun hF6 0))) ?_
    refine WL.va rfl rfl rfl (X.len hb rfl Try.underlying46) ?_
    refine WL.va rfl rfl rfl (X.lss rfl rfl) ?_
    refine WL.nil ?_
    refine thn_n ?_
    refine WF.cond rfl (fun h0_7 => ?_) (fun h0_7 => ?_)
    · have gh0_7 := (of_decide_eq_true h0_7)
      refine WF.skip ?_
      refine thn_n ?_
      refine WF.seq ?_
      refine WF.block ?_
      refine WF.drawn (.q 0 (.q 1 (.q 2 (.q 3 (.q 4 (.q 5 (.q 6 (.q 7 (.q 8 (.l 9 (.l 10 .nil))))))))))) (fun w' => Ext w w' ∧ Var w' w.heap.size 107 3 vx [vb, i64 ((0 : Nat) : Int), .bool false]) 11 (by kernel_rfl) (by kernel_rfl) ⟨Ext.trans hwL0 (Ext.drew _), hv.ext (Ext.drew _)⟩ ?_
      refine WO.q rfl rfl rfl rfl (fun w' hE9 => (X.move ((hAL0.eq 3).trans (congrFun hF6 3)))) ?_
      refine WO.q rfl rfl rfl rfl (fun w' hE9 => (X.move ((hAL0.eq 3).trans (congrFun hF6 3)))) ?_
      refine WO.q rfl rfl rfl rfl (fun w' hE9 => (X.nilCheckV hv rfl)) ?_
      refine WO.q rfl rfl rfl rfl (fun w' hE9 => (X.fieldAddr hv rfl Try.underlying107 rfl rfl Try.sizeOf46)) ?_
      refine WO.q rfl rfl rfl rfl (fun w' hE9 => (X.loadF hE9.2 (Ext.refl _) rfl rfl Try.isAgg22)) ?_
      refine WO.q rfl rfl rfl rfl (fun w' hE9 => (X.move ((hAL0.eq 0).trans (congrFun hF6 0)))) ?_
      refine WO.q rfl rfl rfl rfl (fun w' hE9 => (X.moveI e4_L0)) ?_
      refine WO.q rfl rfl rfl rfl (fun w' hE9 => (X.idx hb rfl rfl (by omega) Try.underlying46 Try.sizeOf5)) ?_
      refine WO.q rfl rfl rfl rfl (fun w' hE9 => (X.loadB hb hE9.1 rfl (by omega) Try.isAgg5)) ?_
      refine WO.l ?_
      refine LO.go rfl rfl (OW.lits (vs := [u8 (l.getD k 0)]) (evp_cons rfl evp_nil) Try.underlying46 Try.sizeOf5 Try.zeroValue5 ⟨rfl, trivial⟩ rfl rfl rfl ?_ (by decide))
      intro v11 w10 ho13 hx12
      have ho1 := (ho.ext (Ext.drew _)).ext hx12
      have hv1 := (hv.ext (Ext.drew _)).ext hx12
      have hw9 := Ext.trans (Ext.trans hwL0 (Ext.drew _)) hx12
      refine ⟨⟨hw9, hv1⟩, ?_⟩
      refine WO.l ?_
      refine LO.go rfl rfl (OW.appendB ho1 (show Bytes _ _ [(l.getD k 0)] from Row.of_own ho13) rfl rfl Try.underlying46 Try.type5 rfl rfl rfl rfl (by simp; omega) hw9.size ?_ (by decide))
      intro v15 w14 ho17 hx16 hmvhx16
      have ho2 := ho17
      have hw10 := Ext.own hw9 ho1 (Nat.le_refl _) hx16
      have hv2 := hv1.kept hx16 hap.ne
      have hap2 := Apart.moved hap hv1.row hmvhx16
      have hone := (Bytes.of_own ho2).one
      refine ⟨⟨hw10, hv2⟩, ?_⟩
      refine WO.nil ?_
      refine WL.va rfl rfl rfl (X.nilCheckV hv rfl) ?_
      refine WL.va rfl rfl rfl (X.fieldAddr hv rfl Try.underlying107 rfl rfl Try.sizeOf46) ?_
      refine WL.op rfl (OW.storeF hv2 (by decide) rfl rfl hone Try.sizeOf46 ?_)
      intro w18 ho21 hx20
      have hv3 : Var w18 w.heap.size 107 3 vx [_, i64 ((0 : Nat) : Int), .bool false] := ho21
      have ho3 : OwnB w18 w.heap.size 5 _ _ := World.ownsRow.kept ho2 hx20 hap2.symm.ne
      refine WL.nil ?_
      refine blk_n ?_
      refine thn_n ?_
      refine WF.region ?_
      refine WL.va rfl rfl rfl (X.moveI e4_L0) ?_
      refine WL.va rfl rfl rfl (X.add rfl rfl (w64 (by omega))) ?_
      refine WL.va rfl rfl rfl (X.assignI rfl) ?_
      refine WL.nil ?_
      exact thn_n ⟨_, (by omega), k + 1, _, rfl, rfl, (by repeat (first | exact hAL0 | refine Agree.put ?_ rfl | refine Agree.named hF6 ?_)), (Ext.own (Ext.own (Ext.trans (Ext.trans hwL0 (Ext.drew _)) hx12) ho1 (Nat.le_refl _) hx16) hv2.row (Nat.le_refl _) hx20), ⟨by omega, hv3, by rw [take_getD _ _ (by omega)]; exact ho3, hap2⟩⟩
    · have gh0_7 := (of_decide_eq_false h0_7)
      refine WF.exit ?_
      refine thn_x ?_
      refine thn_x ?_
      refine blk_eq ?_
      refine thn_n ?_
      refine WF.seq ?_
      refine WF.region ?_
      refine WL.va rfl rfl rfl (X.move ((hAL0.eq 3).trans (congrFun hF6 3))) ?_
      refine WL.va rfl rfl rfl (X.assign rfl) ?_
      refine WL.nil ?_
      refine thn_n ?_
      refine WF.ret ?_
      refine fin_r ?_
      rw [show l.take k = l from List.take_of_length_le (by omega)] at ho
      exact ⟨⟨vb, ⟨hv, ho, hap, Nat.zero_le _, (fun _ => rfl), (fun h => by cases h), hl⟩⟩, hwL0⟩

theorem qBlob_ok (x vb : Value) (L : List UInt8) (a : Nat) (s : Pk.RS) (w : World) (B : Nat) (h : RR w B x vb L a s) : FnOk Try.prog 77 [x] w (fun v w' => OwnB w' w.heap.size 5 v s.blob.1 ∧ (∃ a', RR w' B x vb L a' s.blob.2) ∧ w.grownBy w' (asRow x).ownBlock) := by
  refine FnOk.enter (rs := [2]) Try.func77 rfl Try.ntmps77 Try.results77 rfl rfl ?_
  refine WF.seq ?_
  refine WF.region ?_
  refine WL.va rfl rfl rfl (X.assign rfl) ?_
  refine WL.nil ?_
  refine thn_n ?_
  refine WF.seq ?_
  refine WF.region ?_
  refine WL.va rfl rfl rfl (X.move rfl) ?_
  refine WL.c rfl rfl rfl (X.call Try.call76 (evl_cons rfl evl_nil)) (qInt_ok x _ _ _ _ _ _ h) ?_
  rintro v2 w1 ⟨hv, ⟨a1, h1⟩, hx3⟩
  have g1 := hx3
  have h1o := h1
  have hin := h1.inn
  have hsm := h1.small
  obtain ⟨z, hz⟩ : ∃ z, s.int.1 = z := ⟨_, rfl⟩
  rw [hz] at hv
  subst hv
  have g1o := g1
  refine WL.va rfl rfl rfl (X.assignI rfl) ?_
  refine WL.nil ?_
  refine thn_n ?_
  refine WF.seq ?_
  refine WF.seq ?_
  refine WF.region ?_
  refine WL.va rfl rfl rfl (X.move rfl) ?_
  refine WL.va rfl rfl rfl (X.nilCheckV h1o.var rfl) ?_
  refine WL.va rfl rfl rfl (X.fieldAddr h1o.var rfl Try.underlying107 rfl rfl Try.sizeOf4) ?_
  refine WL.va rfl rfl rfl (X.loadF h1o.var (Ext.refl _) rfl rfl Try.isAgg4) ?_
  refine WL.va rfl rfl rfl (X.moveB rfl) ?_
  refine WL.split (j := 4) rfl (fun h5 => ?_) (fun h5 => ?_)
  · have gh5 := h5
    refine WL.p rfl rfl rfl (congrArg some h5) ?_
    refine WL.p rfl rfl rfl (congrArg some h5) ?_
    refine WL.va rfl rfl rfl (X.pickT rfl h5 rfl) ?_
    refine WL.va rfl rfl rfl (X.moveB rfl) ?_
    refine WL.p rfl rfl rfl rfl ?_
    refine WL.p rfl rfl rfl rfl ?_
    refine WL.p rfl rfl rfl rfl ?_
    refine WL.p rfl rfl rfl rfl ?_
    refine WL.va rfl rfl rfl (X.pickT rfl rfl rfl) ?_
    refine WL.nil ?_
    refine thn_n ?_
    refine WF.cond_t rfl ?_
    refine WF.seq ?_
    refine WF.region ?_
    refine WL.va rfl rfl rfl (X.move rfl) ?_
    refine WL.va rfl rfl rfl (X.nilCheckV h1o.var rfl) ?_
    refine WL.va rfl rfl rfl (X.fieldAddr h1o.var rfl Try.underlying107 rfl rfl Try.sizeOf4) ?_
    refine WL.op rfl (OW.storeF h1.var (by decide) rfl rfl rfl Try.sizeOf4 ?_)
    intro w8 ho11 hx10
    have v1 : Var w8 B 107 3 x [vb, i64 (a1 : Int), .bool true] := ho11
    have g2 := hx10
    refine WL.nil ?_
    refine thn_n ?_
    refine WF.seq ?_
    refine WF.region ?_
    refine WL.va rfl rfl rfl (X.assign rfl) ?_
    refine WL.nil ?_
    refine thn_n ?_
    refine WF.ret ?_
    refine thn_r ?_
    refine fin_r ?_
    have e : s.blob = ([], .dead) := by unfold Pk.RS.blob; rw [hz]; exact if_pos (by first | exact .inl (by assumption) | (right; omega))
    rw [e]; exact ⟨OwnB.nil _ _ _, ⟨_, h1.failed v1 g2⟩, grown2 g1 g2⟩
  · have gh5 := h5
    refine WL.vg rfl (congrArg some h5) rfl rfl (X.moveI rfl) ?_
    refine WL.vg rfl (congrArg some h5) rfl rfl (X.lss rfl rfl) ?_
    refine WL.va rfl rfl rfl (X.pickF rfl h5 rfl) ?_
    refine WL.va rfl rfl rfl (X.moveB rfl) ?_
    refine WL.split (j := 8) rfl (fun h13 => ?_) (fun h13 => ?_)
    · have gh13 := (of_decide_eq_true h13)
      refine WL.p rfl rfl rfl (congrArg some h13) ?_
      refine WL.p rfl rfl rfl (congrArg some h13) ?_
      refine WL.p rfl rfl rfl (congrArg some h13) ?_
      refine WL.p rfl rfl rfl (congrArg some h13) ?_
      refine WL.va rfl rfl rfl (X.pickT rfl h13 rfl) ?_
      refine WL.nil ?_
      refine thn_n ?_
      refine WF.cond_t rfl ?_
      refine WF.seq ?_
      refine WF.region ?_
      refine WL.va rfl rfl rfl (X.move rfl) ?_
      refine WL.va rfl rfl rfl (X.nilCheckV h1o.var rfl) ?_
      refine WL.va rfl rfl rfl (X.fieldAddr h1o.var rfl Try.underlying107 rfl rfl Try.sizeOf4) ?_
      refine WL.op rfl (OW.storeF h1.var (by decide) rfl rfl rfl Try.sizeOf4 ?_)
      intro w15 ho18 hx17
      have v1 : Var w15 B 107 3 x [vb, i64 (a1 : Int), .bool true] := ho18
      have g2 := hx17
      refine WL.nil ?_
      refine thn_n ?_
      refine WF.seq ?_
      refine WF.region ?_
      refine WL.va rfl rfl rfl (X.assign rfl) ?_
      refine WL.nil ?_
      refine thn_n ?_
      refine WF.ret ?_
      refine thn_r ?_
      refine fin_r ?_
      have e : s.blob = ([], .dead) := by unfold Pk.RS.blob; rw [hz]; exact if_pos (by first | exact .inl (by assumption) | (right; omega))
      rw [e]; exact ⟨OwnB.nil _ _ _, ⟨_, h1.failed v1 g2⟩, grown2 g1 g2⟩
    · have gh13 := (of_decide_eq_false h13)
      refine WL.vg rfl (congrArg some h13) rfl rfl (X.moveI rfl) ?_
      refine WL.vg rfl (congrArg some h13) rfl rfl (X.move rfl) ?_
      refine WL.cg rfl (congrArg some h13) rfl rfl (X.call Try.call104 (evl_cons rfl evl_nil)) (qLeft_ok x _ _ _ _ _ _ h1) ?_
      rintro v20 w19 ⟨rfl, hx21⟩
      have h1 := h1.ext hx21
      have g1 := grown_ext g1 hx21
      refine WL.vg rfl (congrArg some h13) rfl rfl (X.gtr rfl rfl) ?_
      refine WL.va rfl rfl rfl (X.pickF rfl h13 rfl) ?_
      refine WL.nil ?_
      refine thn_n ?_
      refine WF.cond rfl (fun h0_22 => ?_) (fun h0_22 => ?_)
      · have gh0_22 := (of_decide_eq_true h0_22)
        refine WF.seq ?_
        refine WF.region ?_
        refine WL.va rfl rfl rfl (X.move rfl) ?_
        refine WL.va rfl rfl rfl (X.nilCheckV h1o.var rfl) ?_
        refine WL.va rfl rfl rfl (X.fieldAddr h1o.var rfl Try.underlying107 rfl rfl Try.sizeOf4) ?_
        refine WL.op rfl (OW.storeF h1.var (by decide) rfl rfl rfl Try.sizeOf4 ?_)
        intro w24 ho27 hx26
        have v1 : Var w24 B 107 3 x [vb, i64 (a1 : Int), .bool true] := ho27
        have g2 := hx26
        refine WL.nil ?_
        refine thn_n ?_
        refine WF.seq ?_
        refine WF.region ?_
        refine WL.va rfl rfl rfl (X.assign rfl) ?_
        refine WL.nil ?_
        refine thn_n ?_
        refine WF.ret ?_
        refine thn_r ?_
        refine fin_r ?_
        have e : s.blob = ([], .dead) := by unfold Pk.RS.blob; rw [hz]; exact if_pos (by first | exact .inl (by assumption) | (right; omega))
        rw [e]; exact ⟨OwnB.nil _ _ _, ⟨_, h1.failed v1 g2⟩, grown2 g1 g2⟩
      · have gh0_22 := (of_decide_eq_false h0_22)
        refine WF.skip ?_
        refine thn_n ?_
        refine WF.seq ?_
        refine WF.region ?_
        refine WL.va rfl rfl rfl (X.assign rfl) ?_
        obtain ⟨m, rfl⟩ := Int.eq_ofNat_of_zero_le (show 0 ≤ z by omega)
        have hbad : s.int.2.bad = false := by first | assumption | (cases hb : s.int.2.bad <;> simp_all)
        have hlen := h1o.len hbad
        have e : s.blob = (s.int.2.left.take m, ⟨s.int.2.left.drop m, false⟩) := by unfold Pk.RS.blob; rw [hz]; exact if_neg (by rw [hbad]; simp; omega)
        refine WL.nil ?_
        refine thn_n ?_
        refine WF.seq ?_
        refine WF.seq ?_
        refine WF.region ?_
        refine WL.va rfl rfl rfl (X.assignI rfl) ?_
        refine WL.nil ?_
        refine thn_n ?_
        refine WF.block ?_
        refine WF.named (fun F28 hF29 => ?_)
        refine WF.loopN (fun mL0 f' w' => ∃ (k : Nat) (vo : Value), mL0 = m - k ∧ f' 5 = .int .i64 (k : Int) ∧ f' 4 = vo ∧ Agree [0, 2, 3, 6, 7, 8, 9, 10, 11, 12, 13, 14, 15, 16, 17, 18, 19, 20, 21] f' F28 ∧ Ext w1 w' ∧ k ≤ m ∧ OwnB w' w1.heap.size 5 vo (s.int.2.left.take k)) ?_ ?_
        · exact ⟨_, 0, (.slice none 0 0), rfl, (congrFun hF29 5), (congrFun hF29 4), (Agree.refl _ _), hx21, ⟨Nat.zero_le _, OwnB.nil _ _ _⟩⟩
        · rintro mL0 fL0 wL0 ⟨k, vo, hmL0, e5_L0, e4_L0, hAL0, hwL0, ⟨hk, ho⟩⟩
          refine WF.seq ?_
          refine WF.seq ?_
          refine WF.region ?_
          refine WL.va rfl rfl rfl (X.moveI e5_L0) ?_
          refine WL.va rfl rfl rfl (X.moveI ((hAL0.eq 3).trans (congrFun hF29 3))) ?_
          refine WL.va rfl rfl rfl (X.lss rfl rfl) ?_
          refine WL.nil ?_
          refine thn_n ?_
          refine WF.cond rfl (fun h1_30 => ?_) (fun h1_30 => ?_)
          · have gh1_30 := (of_decide_eq_true h1_30)
            refine WF.skip ?_
            refine thn_n ?_
            refine WF.seq ?_
            refine WF.block ?_
            refine WF.drawn (.q 0 (.q 1 (.q 2 (.q 3 (.q 4 (.q 5 (.q 6 (.q 7 (.q 8 (.q 9 (.q 10 (.q 11 (.q 12 (.l 13 .nil)))))))))))))) (fun w' => Ext wL0 w') 14 (by kernel_rfl) (by kernel_rfl) (Ext.drew _) ?_
            refine WO.q rfl rfl rfl rfl (fun w' hE32 => (X.move e4_L0)) ?_
            refine WO.q rfl rfl rfl rfl (fun w' hE32 => (X.move ((hAL0.eq 0).trans (congrFun hF29 0)))) ?_
            refine WO.q rfl rfl rfl rfl (fun w' hE32 => (X.nilCheckV h1o.var rfl)) ?_
            refine WO.q rfl rfl rfl rfl (fun w' hE32 => (X.fieldAddr h1o.var rfl Try.underlying107 rfl rfl Try.sizeOf46)) ?_
            refine WO.q rfl rfl rfl rfl (fun w' hE32 => (X.loadF h1o.var (Ext.trans hwL0 hE32) rfl rfl Try.isAgg46)) ?_
            refine WO.q rfl rfl rfl rfl (fun w' hE32 => (X.move ((hAL0.eq 0).trans (congrFun hF29 0)))) ?_
            refine WO.q rfl rfl rfl rfl (fun w' hE32 => (X.nilCheckV h1o.var rfl)) ?_
            refine WO.q rfl rfl rfl rfl (fun w' hE32 => (X.fieldAddr h1o.var rfl Try.underlying107 rfl rfl Try.sizeOf3)) ?_
            refine WO.q rfl rfl rfl rfl (fun w' hE32 => (X.loadF h1o.var (Ext.trans hwL0 hE32) rfl rfl Try.isAgg3)) ?_
            refine WO.q rfl rfl rfl rfl (fun w' hE32 => (X.moveI e5_L0)) ?_
            refine WO.q rfl rfl rfl rfl (fun w' hE32 => (X.add rfl rfl (addN (by omega)))) ?_
            refine WO.q rfl rfl rfl rfl (fun w' hE32 => (X.idx h1o.bytes rfl rfl (by omega) Try.underlying46 Try.sizeOf5)) ?_
            refine WO.q rfl rfl rfl rfl (fun w' hE32 => (X.loadB h1o.bytes (Ext.trans hwL0 hE32) rfl (by omega) Try.isAgg5)) ?_
            refine WO.l ?_
            refine LO.go rfl rfl (OW.lits (vs := [u8 (L.getD (a1 + k) 0)]) (evp_cons rfl evp_nil) Try.underlying46 Try.sizeOf5 Try.zeroValue5 ⟨rfl, trivial⟩ rfl rfl rfl ?_ (by decide))
            intro v34 w33 ho36 hx35
            have ho1 := (ho.ext (Ext.drew _)).ext hx35
            refine ⟨(Ext.trans (Ext.drew _) hx35), ?_⟩
            refine WO.nil ?_
            refine WL.op rfl (OW.appendB ho1 (show Bytes _ _ [(L.getD (a1 + k) 0)] from Row.of_own ho36) rfl rfl Try.underlying46 Try.type5 rfl rfl rfl rfl (by simp; omega) ((Ext.trans (Ext.trans hwL0 (Ext.drew _)) hx35)).size ?_ (by decide))
            intro v38 w37 ho40 hx39 hmvhx39
            have ho2 := ho40
            refine WL.va rfl rfl rfl (X.assign rfl) ?_
            refine WL.nil ?_
            refine blk_n ?_
            refine thn_n ?_
            refine WF.region ?_
            refine WL.va rfl rfl rfl (X.moveI e5_L0) ?_
            refine WL.va rfl rfl rfl (X.add rfl rfl (w64 (by omega))) ?_
            refine WL.va rfl rfl rfl (X.assignI rfl) ?_
            refine WL.nil ?_
            exact thn_n ⟨_, (by omega), k + 1, _, rfl, rfl, rfl, (by repeat (first | exact hAL0 | refine Agree.put ?_ rfl | refine Agree.named hF29 ?_)), (Ext.own (Ext.trans (Ext.trans hwL0 (Ext.drew _)) hx35) ho1 (Nat.le_refl _) hx39), ⟨by omega, by rw [take_getD _ _ (by omega), ← h1o.at hbad]; exact ho2⟩⟩
          · have gh1_30 := (of_decide_eq_false h1_30)
            refine WF.exit ?_
            refine thn_x ?_
            refine thn_x ?_
            refine blk_eq ?_
            refine thn_n ?_
            refine WF.seq ?_
            refine WF.region ?_
            refine WL.va rfl rfl rfl (X.move ((hAL0.eq 0).trans (congrFun hF29 0))) ?_
            refine WL.va rfl rfl rfl (X.move ((hAL0.eq 0).trans (congrFun hF29 0))) ?_
            refine WL.va rfl rfl rfl (X.nilCheckV h1o.var rfl) ?_
            refine WL.va rfl rfl rfl (X.fieldAddr h1o.var rfl Try.underlying107 rfl rfl Try.sizeOf3) ?_
            refine WL.va rfl rfl rfl (X.loadF h1o.var hwL0 rfl rfl Try.isAgg3) ?_
            refine WL.va rfl rfl rfl (X.moveI ((hAL0.eq 3).trans (congrFun hF29 3))) ?_
            refine WL.va rfl rfl rfl (X.add rfl rfl (addN (by omega))) ?_
            refine WL.va rfl rfl rfl (X.nilCheckV h1o.var rfl) ?_
            refine WL.va rfl rfl rfl (X.fieldAddr h1o.var rfl Try.underlying107 rfl rfl Try.sizeOf3) ?_
            refine WL.op rfl (OW.storeF (h1o.var.ext hwL0) (by decide) rfl rfl rfl Try.sizeOf3 ?_)
            intro w41 ho44 hx43
            have v1 : Var w41 B 107 3 x [vb, i64 ((a1 + m : Nat) : Int), .bool s.int.2.bad] := ho44
            have g2 := hx43
            have ho9 : OwnB w41 _ _ _ _ := World.ownsRow.kept ho hx43 (own_apart h1o.var.row ho (Nat.le_refl _)).symm.ne
            refine WL.nil ?_
            refine thn_n ?_
            refine WF.seq ?_
            refine WF.region ?_
            refine WL.va rfl rfl rfl (X.move e4_L0) ?_
            refine WL.va rfl rfl rfl (X.assign rfl) ?_
            refine WL.nil ?_
            refine thn_n ?_
            refine WF.ret ?_
            refine fin_r ?_
            obtain rfl : k = m := (by omega)
            rw [e]; exact ⟨own_mono ho9 g1o.size, ⟨_, (h1o.ext hwL0).gone hbad k (by omega) v1 g2⟩, grown2 (grown_ext g1o hwL0) g2⟩

end Go.Proofs.Ytpimnlgfhpnjnaa
