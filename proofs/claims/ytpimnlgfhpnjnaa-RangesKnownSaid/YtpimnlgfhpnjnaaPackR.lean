/- The walks of pack's readers. -/
import Derived.Test.YtpimnlgfhpnjnaaPackK
namespace Go.Proofs.Ytpimnlgfhpnjnaa
open Go Go.RowKit Kf
set_option maxRecDepth 20000

/-- a reader of pack: what it holds; D is the row that it reads, from place a on -/
structure PR (w : World) (B : Nat) (r D : Value) (L : List UInt8) (a : Nat) (s : Pk.RS) (left : Value) : Prop where
  var : Var w B 128 2 r [left, .bool s.bad]
  own : OwnB w B 5 D L
  apart : Apart (asRow r) D
  seg : Seg D left a (a + s.left.length)
  inn : a + s.left.length ≤ L.length
  eq : (L.drop a).take s.left.length = s.left
  ok : s.bad = true → s.left = []
  small : L.length ≤ 140737488355328
theorem PR.piece {w w' : World} {B : Nat} {r D : Value} {L : List UInt8} {a : Nat} {s : Pk.RS} {left x : Value} {m : Nat} (h : PR w B r D L a s left) (ho : OwnB w' B 5 D L) (hs : Seg D x a (a + m)) (hm : m ≤ s.left.length) : Bytes w' x (s.left.take m) := by
  have h1 := h.inn
  have := seg_bytes hs ho (by omega)
  rw [show a + m - a = m by omega] at this
  rwa [show (L.drop a).take m = s.left.take m from by rw [← h.eq, List.take_take, Nat.min_eq_left hm]] at this
theorem PR.bytes {w : World} {B : Nat} {r D : Value} {L : List UInt8} {a : Nat} {s : Pk.RS} {left : Value} (h : PR w B r D L a s left) : Bytes w left s.left := by
  have := h.piece h.own h.seg (Nat.le_refl _)
  rwa [List.take_of_length_le (Nat.le_refl _)] at this
theorem PR.ext {w w' : World} {B : Nat} {r D : Value} {L : List UInt8} {a : Nat} {s : Pk.RS} {left : Value} (h : PR w B r D L a s left) (g : Ext w w') : PR w' B r D L a s left := ⟨h.var.ext g, h.own.ext g, h.apart, h.seg, h.inn, h.eq, h.ok, h.small⟩
theorem PR.kept {w w' : World} {B : Nat} {r D : Value} {L : List UInt8} {a : Nat} {s : Pk.RS} {left : Value} {row : Option Nat} (h : PR w B r D L a s left) (g : w.grownBy w' row) (h1 : (asRow r).ownBlock = none ∨ (asRow r).ownBlock ≠ row) (h2 : D.ownBlock = none ∨ D.ownBlock ≠ row) : PR w' B r D L a s left :=
  ⟨h.var.kept g h1, h.own.kept g h2, h.apart, h.seg, h.inn, h.eq, h.ok, h.small⟩
theorem grown_new {a b c : World} {row : Option Nat} {v : Value} (h : a.grownBy b row) (k : b.grownBy c v.ownBlock) (hv : ∀ i, v.ownBlock = some i → a.heap.size ≤ i) : a.grownBy c row :=
  ⟨k.os.trans h.os, k.tape.trans h.tape, k.output.trans h.output, Nat.le_trans h.size k.size, fun i hi hn => (k.block i (Nat.lt_of_lt_of_le hi h.size) (fun e => by have := hv i e.symm; omega)).trans (h.block i hi hn)⟩
theorem q8 {q : Nat} (h : (q : Int) ≤ 9223372036854775807) : IntKind.i64.wrap ((q : Int).tdiv 8) = ((q / 8 : Nat) : Int) := by
  rw [Int.tdiv_eq_ediv_of_nonneg (by omega), w64 (by omega)]; omega
theorem PR.failed {w w' : World} {B : Nat} {r D : Value} {L : List UInt8} {a : Nat} {s : Pk.RS} {left : Value} (h : PR w B r D L a s left) (v : Var w' B 128 2 r [.slice none 0 0, .bool true]) (g : w.grownBy w' (asRow r).ownBlock) : PR w' B r D L a .dead (.slice none 0 0) :=
  ⟨v, h.own.kept g h.apart.symm.ne, h.apart, Seg.nil D a, (by have := h.inn; simp only [Pk.RS.dead, List.length_nil]; omega), rfl, fun _ => rfl, h.small⟩
theorem PR.taken {w w' : World} {B : Nat} {r D : Value} {L : List UInt8} {a : Nat} {s : Pk.RS} {left : Value} (h : PR w B r D L a s left) (hb : s.bad = false) (m : Nat) (hm : m ≤ s.left.length)
    (v : Var w' B 128 2 r [Kf.part left m s.left.length 1, .bool s.bad]) (g : w.grownBy w' (asRow r).ownBlock) : PR w' B r D L (a + m) ⟨s.left.drop m, false⟩ (Kf.part left m s.left.length 1) := by
  have hi := h.inn
  have hl : (s.left.drop m).length = s.left.length - m := by simp
  refine ⟨by rw [hb] at v; exact v, h.own.kept g h.apart.symm.ne, h.apart, ?_, ?_, ?_, (fun h => by cases h), h.small⟩
  · have := h.seg.rest (m := m) (by omega)
    rw [show a + s.left.length - a = s.left.length by omega] at this
    show Seg D _ (a + m) (a + m + (s.left.drop m).length)
    rwa [hl, show a + m + (s.left.length - m) = a + s.left.length by omega]
  · show a + m + (s.left.drop m).length ≤ _; omega
  · show (L.drop (a + m)).take (s.left.drop m).length = s.left.drop m
    rw [hl]
    conv => rhs; rw [← h.eq]
    rw [List.drop_take, List.drop_drop]
theorem cond8 (s : Pk.RS) : (s.bad = true ∨ (8 : Int) < 0 ∨ (s.left.length : Int) < 8) ↔ (s.bad = true ∨ s.left.length < 8) := by
  constructor
  · rintro (h | h)
    · exact .inl h
    · right; omega
  · rintro (h | h)
    · exact .inl h
    · right; omega
theorem int_bad {s : Pk.RS} (h : (!(s.take 8).2.bad) = false) : s.int = (0, .dead) ∧ s.take 8 = ([], .dead) := by
  unfold Pk.RS.take at *
  unfold Pk.RS.int
  by_cases hc : s.bad = true ∨ s.left.length < 8
  · rw [if_pos hc, if_pos ((cond8 s).2 hc)]; exact ⟨rfl, rfl⟩
  · rw [if_neg (fun e => hc ((cond8 s).1 e))] at h; cases h
theorem int_good {s : Pk.RS} (h : (!(s.take 8).2.bad) = true) : s.int = (Pk.dec (s.left.take 8), ⟨s.left.drop 8, false⟩) ∧ s.take 8 = (s.left.take 8, ⟨s.left.drop 8, false⟩) ∧ 8 ≤ s.left.length := by
  unfold Pk.RS.take at *
  unfold Pk.RS.int
  by_cases hc : s.bad = true ∨ s.left.length < 8
  · rw [if_pos ((cond8 s).2 hc)] at h; cases h
  · rw [if_neg hc, if_neg (fun e => hc ((cond8 s).1 e))]; exact ⟨rfl, rfl, by have := (not_or.1 hc).2; omega⟩
theorem shlU {x : Nat} (h : x < 72057594037927936) : IntKind.u64.wrap ((x : Int) * 2 ^ (min (8 : Int).toNat IntKind.u64.bits)) = ((x * 2 ^ 8 : Nat) : Int) := by
  have e : min (8 : Int).toNat IntKind.u64.bits = 8 := rfl
  rw [e, show (x : Int) * 2 ^ 8 = ((x * 2 ^ 8 : Nat) : Int) by rw [Int.natCast_mul, Int.natCast_pow]; rfl]
  exact wu64 (by omega)
theorem convU (x : UInt8) : IntKind.u64.wrap (x.toNat : Int) = (x.toNat : Int) := by
  have := x.toNat_lt; exact wu64 (by omega)
theorem orV (a b i : Nat) (h : b < 2 ^ i) (hs : a * 2 ^ i + b < 18446744073709551616) :
    IntKind.u64.wrap (BitVec.ofInt IntKind.u64.bits ((a * 2 ^ i : Nat) : Int) ||| BitVec.ofInt IntKind.u64.bits (b : Int)).toNat = ((a * 2 ^ i + b : Nat) : Int) := by
  show IntKind.u64.wrap ((BitVec.ofInt 64 ((a * 2 ^ i : Nat) : Int) ||| BitVec.ofInt 64 (b : Int) : BitVec 64).toNat : Int) = _
  rw [BitVec.toNat_or, BitVec.ofInt_natCast, BitVec.ofInt_natCast, BitVec.toNat_ofNat, BitVec.toNat_ofNat, Nat.mod_eq_of_lt (by omega), Nat.mod_eq_of_lt (by omega), ← Nat.shiftLeft_eq, ← Nat.shiftLeft_add_eq_or_of_lt h, Nat.shiftLeft_eq]
  exact wu64 (by omega)
theorem num_step {l : List UInt8} {k : Nat} (h : k < l.length) : Pk.num (l.take k) * 2 ^ 8 + (l.getD k 0).toNat = Pk.num (l.take (k + 1)) := by
  rw [take_getD _ _ h, Pk.num_append]
theorem num_take_lt {l : List UInt8} {k : Nat} (hk : k ≤ 7) : Pk.num (l.take k) < 72057594037927936 := by
  have := Pk.num_lt (l.take k)
  have h2 : (l.take k).length ≤ 7 := by simp; omega
  exact Nat.lt_of_lt_of_le this (Nat.le_trans (Nat.pow_le_pow_right (by decide) h2) (by decide))
theorem fail_ok (r D left : Value) (L : List UInt8) (a : Nat) (s : Pk.RS) (w : World) (B : Nat) (h : PR w B r D L a s left) : FnOk Try.prog 126 [r] w (fun _ w' => PR w' B r D L a .dead (.slice none 0 0) ∧ w.grownBy w' (asRow r).ownBlock) := by
  refine FnOk.enter (rs := []) Try.func126 rfl Try.ntmps126 Try.results126 rfl rfl ?_
  refine WF.region ?_
  refine WL.va rfl rfl rfl (X.move rfl) ?_
  refine WL.va rfl rfl rfl (X.move rfl) ?_
  refine WL.va rfl rfl rfl (X.nilCheckV h.var rfl) ?_
  refine WL.va rfl rfl rfl (X.fieldAddr h.var rfl Try.underlying128 rfl rfl Try.sizeOf46) ?_
  refine WL.op rfl (OW.storeF h.var (by decide) rfl rfl rfl Try.sizeOf46 ?_)
  intro w1 ho4 hx3
  have v1 : Var w1 B 128 2 r [.slice none 0 0, .bool s.bad] := ho4
  have g1 := hx3
  refine WL.va rfl rfl rfl (X.nilCheckV v1 rfl) ?_
  refine WL.va rfl rfl rfl (X.fieldAddr v1 rfl Try.underlying128 rfl rfl Try.sizeOf4) ?_
  refine WL.op rfl (OW.storeF v1 (by decide) rfl rfl rfl Try.sizeOf4 ?_)
  intro w5 ho8 hx7
  have v2 : Var w5 B 128 2 r [.slice none 0 0, .bool true] := ho8
  have g2 := grown2 g1 hx7
  refine WL.nil ?_
  refine fin_n ?_
  exact ⟨h.failed v2 g2, g2⟩

theorem take_ok (n : Int) (r D left : Value) (L : List UInt8) (a : Nat) (s : Pk.RS) (w : World) (B : Nat) (h : PR w B r D L a s left) : FnOk Try.prog 107 [r, i64 n] w (fun v w' => (∃ x left', v = .tuple #[x, .bool (!(s.take n).2.bad)] ∧ Seg D x a (a + (s.take n).1.length) ∧ Bytes w' x (s.take n).1 ∧ PR w' B r D L (a + (s.take n).1.length) (s.take n).2 left') ∧ w.grownBy w' (asRow r).ownBlock) := by
  refine FnOk.enter (rs := [4, 5]) Try.func107 rfl Try.ntmps107 Try.results107 rfl rfl ?_
  refine WF.seq ?_
  refine WF.region ?_
  refine WL.va rfl rfl rfl (X.assign rfl) ?_
  refine WL.va rfl rfl rfl (X.assignB rfl) ?_
  refine WL.nil ?_
  refine thn_n ?_
  refine WF.seq ?_
  refine WF.seq ?_
  refine WF.region ?_
  refine WL.va rfl rfl rfl (X.move rfl) ?_
  refine WL.va rfl rfl rfl (X.nilCheckV h.var rfl) ?_
  refine WL.va rfl rfl rfl (X.fieldAddr h.var rfl Try.underlying128 rfl rfl Try.sizeOf4) ?_
  refine WL.va rfl rfl rfl (X.loadF h.var (Ext.refl _) rfl rfl Try.isAgg4) ?_
  refine WL.va rfl rfl rfl (X.moveB rfl) ?_
  refine WL.split (j := 4) rfl (fun h3 => ?_) (fun h3 => ?_)
  · have gh3 := h3
    refine WL.p rfl rfl rfl (congrArg some h3) ?_
    refine WL.p rfl rfl rfl (congrArg some h3) ?_
    refine WL.va rfl rfl rfl (X.pickT rfl h3 rfl) ?_
    refine WL.va rfl rfl rfl (X.moveB rfl) ?_
    refine WL.p rfl rfl rfl rfl ?_
    refine WL.p rfl rfl rfl rfl ?_
    refine WL.p rfl rfl rfl rfl ?_
    refine WL.p rfl rfl rfl rfl ?_
    refine WL.p rfl rfl rfl rfl ?_
    refine WL.p rfl rfl rfl rfl ?_
    refine WL.p rfl rfl rfl rfl ?_
    refine WL.va rfl rfl rfl (X.pickT rfl rfl rfl) ?_
    refine WL.nil ?_
    refine thn_n ?_
    refine WF.cond_t rfl ?_
    refine WF.seq ?_
    refine WF.region ?_
    refine WL.va rfl rfl rfl (X.move rfl) ?_
    refine WL.c rfl rfl rfl (X.call Try.call126 (evl_cons rfl evl_nil)) (fail_ok r _ _ _ _ _ _ _ h) ?_
    rintro v7 w6 ⟨hf, hx8⟩
    have g1 := hx8
    refine WL.nil ?_
    refine thn_n ?_
    refine WF.seq ?_
    refine WF.region ?_
    refine WL.va rfl rfl rfl (X.assign rfl) ?_
    refine WL.va rfl rfl rfl (X.assignB rfl) ?_
    refine WL.nil ?_
    refine thn_n ?_
    refine WF.ret ?_
    refine thn_r ?_
    refine fin_r ?_
    have e : s.take n = ([], .dead) := if_pos (by first | exact .inl (by assumption) | (right; omega))
    rw [e]; exact ⟨⟨_, _, rfl, Seg.nil _ _, Bytes.nil _, hf⟩, g1⟩
  · have gh3 := h3
    refine WL.vg rfl (congrArg some h3) rfl rfl (X.moveI rfl) ?_
    refine WL.vg rfl (congrArg some h3) rfl rfl (X.lss rfl rfl) ?_
    refine WL.va rfl rfl rfl (X.pickF rfl h3 rfl) ?_
    refine WL.va rfl rfl rfl (X.moveB rfl) ?_
    refine WL.split (j := 8) rfl (fun h11 => ?_) (fun h11 => ?_)
    · have gh11 := (of_decide_eq_true h11)
      refine WL.p rfl rfl rfl (congrArg some h11) ?_
      refine WL.p rfl rfl rfl (congrArg some h11) ?_
      refine WL.p rfl rfl rfl (congrArg some h11) ?_
      refine WL.p rfl rfl rfl (congrArg some h11) ?_
      refine WL.p rfl rfl rfl (congrArg some h11) ?_
      refine WL.p rfl rfl rfl (congrArg some h11) ?_
      refine WL.p rfl rfl rfl (congrArg some h11) ?_
      refine WL.va rfl rfl rfl (X.pickT rfl h11 rfl) ?_
      refine WL.nil ?_
      refine thn_n ?_
      refine WF.cond_t rfl ?_
      refine WF.seq ?_
      refine WF.region ?_
      refine WL.va rfl rfl rfl (X.move rfl) ?_
      refine WL.c rfl rfl rfl (X.call Try.call126 (evl_cons rfl evl_nil)) (fail_ok r _ _ _ _ _ _ _ h) ?_
      rintro v14 w13 ⟨hf, hx15⟩
      have g1 := hx15
      refine WL.nil ?_
      refine thn_n ?_
      refine WF.seq ?_
      refine WF.region ?_
      refine WL.va rfl rfl rfl (X.assign rfl) ?_
      refine WL.va rfl rfl rfl (X.assignB rfl) ?_
      refine WL.nil ?_
      refine thn_n ?_
      refine WF.ret ?_
      refine thn_r ?_
      refine fin_r ?_
      have e : s.take n = ([], .dead) := if_pos (by first | exact .inl (by assumption) | (right; omega))
      rw [e]; exact ⟨⟨_, _, rfl, Seg.nil _ _, Bytes.nil _, hf⟩, g1⟩
    · have gh11 := (of_decide_eq_false h11)
      refine WL.vg rfl (congrArg some h11) rfl rfl (X.moveI rfl) ?_
      refine WL.vg rfl (congrArg some h11) rfl rfl (X.move rfl) ?_
      refine WL.vg rfl (congrArg some h11) rfl rfl (X.nilCheckV h.var rfl) ?_
      refine WL.vg rfl (congrArg some h11) rfl rfl (X.fieldAddr h.var rfl Try.underlying128 rfl rfl Try.sizeOf46) ?_
      refine WL.vg rfl (congrArg some h11) rfl rfl (X.loadF h.var (Ext.refl _) rfl rfl Try.isAgg46) ?_
      refine WL.vg rfl (congrArg some h11) rfl rfl (X.len h.bytes rfl Try.underlying46) ?_
      refine WL.vg rfl (congrArg some h11) rfl rfl (X.gtr rfl rfl) ?_
      refine WL.va rfl rfl rfl (X.pickF rfl h11 rfl) ?_
      refine WL.nil ?_
      refine thn_n ?_
      refine WF.cond rfl (fun h0_17 => ?_) (fun h0_17 => ?_)
      · have gh0_17 := (of_decide_eq_true h0_17)
        refine WF.seq ?_
        refine WF.region ?_
        refine WL.va rfl rfl rfl (X.move rfl) ?_
        refine WL.c rfl rfl rfl (X.call Try.call126 (evl_cons rfl evl_nil)) (fail_ok r _ _ _ _ _ _ _ h) ?_
        rintro v20 w19 ⟨hf, hx21⟩
        have g1 := hx21
        refine WL.nil ?_
        refine thn_n ?_
        refine WF.seq ?_
        refine WF.region ?_
        refine WL.va rfl rfl rfl (X.assign rfl) ?_
        refine WL.va rfl rfl rfl (X.assignB rfl) ?_
        refine WL.nil ?_
        refine thn_n ?_
        refine WF.ret ?_
        refine thn_r ?_
        refine fin_r ?_
        have e : s.take n = ([], .dead) := if_pos (by first | exact .inl (by assumption) | (right; omega))
        rw [e]; exact ⟨⟨_, _, rfl, Seg.nil _ _, Bytes.nil _, hf⟩, g1⟩
      · have gh0_17 := (of_decide_eq_false h0_17)
        refine WF.skip ?_
        refine thn_n ?_
        refine WF.seq ?_
        refine WF.region ?_
        refine WL.va rfl rfl rfl (X.move rfl) ?_
        obtain ⟨m, rfl⟩ := Int.eq_ofNat_of_zero_le (show 0 ≤ n by omega)
        have hm : m ≤ s.left.length := by omega
        have hbad : s.bad = false := by first | assumption | (cases hb : s.bad <;> simp_all)
        have e : s.take (m : Int) = (s.left.take m, ⟨s.left.drop m, false⟩) := if_neg (by rw [hbad]; simp; omega)
        have el : (s.left.take m).length = m := by simp; omega
        refine WL.va rfl rfl rfl (X.nilCheckV h.var rfl) ?_
        refine WL.va rfl rfl rfl (X.fieldAddr h.var rfl Try.underlying128 rfl rfl Try.sizeOf46) ?_
        refine WL.va rfl rfl rfl (X.loadF h.var (Ext.refl _) rfl rfl Try.isAgg46) ?_
        refine WL.va rfl rfl rfl (X.moveI rfl) ?_
        refine WL.va rfl rfl rfl (X.moveI rfl) ?_
        refine WL.va rfl rfl rfl (X.slHM h.bytes rfl rfl rfl (by omega) Try.underlying46 Try.sizeOf5) ?_
        refine WL.va rfl rfl rfl (X.assign rfl) ?_
        refine WL.nil ?_
        refine thn_n ?_
        refine WF.seq ?_
        refine WF.region ?_
        refine WL.va rfl rfl rfl (X.move rfl) ?_
        refine WL.va rfl rfl rfl (X.move rfl) ?_
        refine WL.va rfl rfl rfl (X.nilCheckV h.var rfl) ?_
        refine WL.va rfl rfl rfl (X.fieldAddr h.var rfl Try.underlying128 rfl rfl Try.sizeOf46) ?_
        refine WL.va rfl rfl rfl (X.loadF h.var (Ext.refl _) rfl rfl Try.isAgg46) ?_
        refine WL.va rfl rfl rfl (X.moveI rfl) ?_
        refine WL.va rfl rfl rfl (X.slL h.bytes rfl rfl (by omega) Try.underlying46 Try.sizeOf5) ?_
        refine WL.va rfl rfl rfl (X.nilCheckV h.var rfl) ?_
        refine WL.va rfl rfl rfl (X.fieldAddr h.var rfl Try.underlying128 rfl rfl Try.sizeOf46) ?_
        refine WL.op rfl (OW.storeF h.var (by decide) rfl rfl ((Bytes.part h.bytes m s.left.length (by omega) (Nat.le_refl _)).one) Try.sizeOf46 ?_)
        intro w23 ho26 hx25
        have v1 : Var w23 B 128 2 r [Kf.part left m s.left.length 1, .bool s.bad] := ho26
        have g1 := hx25
        refine WL.nil ?_
        refine thn_n ?_
        refine WF.seq ?_
        refine WF.region ?_
        refine WL.va rfl rfl rfl (X.move rfl) ?_
        refine WL.va rfl rfl rfl (X.assign rfl) ?_
        refine WL.va rfl rfl rfl (X.assignB rfl) ?_
        refine WL.nil ?_
        refine thn_n ?_
        refine WF.ret ?_
        refine fin_r ?_
        rw [e, el]
        have hsg := h.seg.cut (m := m) (by omega)
        exact ⟨⟨_, _, rfl, hsg, h.piece (h.own.kept g1 h.apart.symm.ne) hsg hm, h.taken hbad m hm v1 g1⟩, g1⟩

theorem rInt_ok (r D left : Value) (L : List UInt8) (a : Nat) (s : Pk.RS) (w : World) (B : Nat) (h : PR w B r D L a s left) : FnOk Try.prog 73 [r] w (fun v w' => v = i64 s.int.1 ∧ (∃ a' left', PR w' B r D L a' s.int.2 left') ∧ w.grownBy w' (asRow r).ownBlock) := by
  refine FnOk.enter (rs := [2]) Try.func73 rfl Try.ntmps73 Try.results73 rfl rfl ?_
  refine WF.seq ?_
  refine WF.region ?_
  refine WL.va rfl rfl rfl (X.assignI rfl) ?_
  refine WL.nil ?_
  refine thn_n ?_
  refine WF.seq ?_
  refine WF.region ?_
  refine WL.va rfl rfl rfl (X.move rfl) ?_
  refine WL.c rfl rfl rfl (X.call Try.call107 (evl_cons rfl (evl_cons rfl evl_nil))) (take_ok 8 r _ _ _ _ _ _ _ h) ?_
  rintro v2 w1 ⟨⟨x, left2, rfl, _, hxb, h2⟩, hx3⟩
  have g1 := hx3
  refine WL.va rfl rfl rfl (X.move rfl) ?_
  refine WL.va rfl rfl rfl (X.extract rfl rfl) ?_
  refine WL.va rfl rfl rfl (X.extract rfl rfl) ?_
  refine WL.va rfl rfl rfl (X.assign rfl) ?_
  refine WL.va rfl rfl rfl (X.assignB rfl) ?_
  refine WL.nil ?_
  refine thn_n ?_
  refine WF.seq ?_
  refine WF.seq ?_
  refine WF.region ?_
  refine WL.va rfl rfl rfl (X.moveB rfl) ?_
  refine WL.va rfl rfl rfl (X.not rfl) ?_
  refine WL.nil ?_
  refine thn_n ?_
  refine WF.cond rfl (fun h0_5 => ?_) (fun h0_5 => ?_)
  · have gh0_5 := (nt h0_5)
    obtain ⟨e1, e2⟩ := int_bad gh0_5
    refine WF.seq ?_
    refine WF.region ?_
    refine WL.va rfl rfl rfl (X.assignI rfl) ?_
    refine WL.nil ?_
    refine thn_n ?_
    refine WF.ret ?_
    refine thn_r ?_
    refine fin_r ?_
    rw [e1]; rw [e2] at h2; exact ⟨rfl, ⟨_, _, h2⟩, g1⟩
  · have gh0_5 := (nf h0_5)
    obtain ⟨e1, e2, e3⟩ := int_good gh0_5
    rw [e2] at h2 hxb
    replace hxb := (show Bytes _ x (s.left.take 8) from hxb)
    have el : (s.left.take 8).length = 8 := by simp; omega
    refine WF.skip ?_
    refine thn_n ?_
    refine WF.seq ?_
    refine WF.region ?_
    refine WL.va rfl rfl rfl (X.assignI rfl) ?_
    refine WL.nil ?_
    refine thn_n ?_
    refine WF.seq ?_
    refine WF.seq ?_
    refine WF.region ?_
    refine WL.va rfl rfl rfl (X.move rfl) ?_
    refine WL.va rfl rfl rfl (X.len hxb rfl Try.underlying46) ?_
    refine WL.va rfl rfl rfl (X.moveI rfl) ?_
    refine WL.nil ?_
    refine thn_n ?_
    refine WF.block ?_
    refine WF.named (fun F7 hF8 => ?_)
    refine WF.loopN (fun mL0 f' w' => ∃ (k : Nat), mL0 = 8 - k ∧ f' 17 = .int .i64 (k : Int) ∧ f' 5 = .int .u64 ((Pk.num ((s.left.take 8).take k) : Nat) : Int) ∧ Agree [0, 2, 3, 4, 8, 9, 10, 11, 12, 13, 14, 15, 16] f' F7 ∧ w1 = w' ∧ k ≤ 8) ?_ ?_
    · exact ⟨_, 0, rfl, (congrFun hF8 17), (congrFun hF8 5), (Agree.refl _ _), rfl, (by omega)⟩
    · rintro mL0 fL0 wL0 ⟨k, hmL0, e17_L0, e5_L0, hAL0, rfl, hiL0⟩
      refine WF.seq ?_
      refine WF.region ?_
      refine WL.va rfl rfl rfl (X.lss e17_L0 ((hAL0.eq 16).trans (congrFun hF8 16))) ?_
      refine WL.nil ?_
      refine thn_n ?_
      refine WF.seq ?_
      refine WF.cond rfl (fun h1_9 => ?_) (fun h1_9 => ?_)
      · have gh1_9 := (of_decide_eq_true h1_9)
        refine WF.skip ?_
        refine thn_n ?_
        refine WF.seq ?_
        refine WF.block ?_
        refine WF.seq ?_
        refine WF.region ?_
        refine WL.va rfl rfl rfl (X.idx hxb ((hAL0.eq 15).trans (congrFun hF8 15)) e17_L0 (by omega) Try.underlying46 Try.sizeOf5) ?_
        refine WL.va rfl rfl rfl (X.loadB hxb (Ext.refl _) rfl (by omega) Try.isAgg5) ?_
        refine WL.va rfl rfl rfl (X.assignI rfl) ?_
        refine WL.nil ?_
        refine thn_n ?_
        refine WF.region ?_
        refine WL.va rfl rfl rfl (X.moveI e5_L0) ?_
        refine WL.va rfl rfl rfl (X.shl rfl rfl (by omega) (shlU (num_take_lt (by omega)))) ?_
        refine WL.va rfl rfl rfl (X.moveI rfl) ?_
        refine WL.va rfl rfl rfl (X.conv rfl (congrArg Option.isSome Try.underlying5) Try.underlying126 (convU _)) ?_
        refine WL.va rfl rfl rfl (X.or rfl rfl (orV _ _ 8 (UInt8.toNat_lt _) (by have := num_take_lt (l := s.left.take 8) (k := k) (by omega); have := ((s.left.take 8).getD k 0).toNat_lt; omega))) ?_
        refine WL.va rfl rfl rfl (X.assignI rfl) ?_
        refine WL.nil ?_
        refine blk_n ?_
        refine thn_n ?_
        refine WF.region ?_
        refine WL.va rfl rfl rfl (X.add e17_L0 rfl (w64 (by omega))) ?_
        refine WL.va rfl rfl rfl (X.moveI rfl) ?_
        refine WL.nil ?_
        exact thn_n ⟨_, (by omega), k + 1, rfl, rfl, (congrArg (fun z : Nat => Value.int .u64 (z : Int)) (num_step (by omega))), (by repeat (first | exact hAL0 | refine Agree.put ?_ rfl | refine Agree.named hF8 ?_)), rfl, (by omega)⟩
      · have gh1_9 := (of_decide_eq_false h1_9)
        refine WF.exit ?_
        refine thn_x ?_
        refine thn_x ?_
        refine blk_eq ?_
        refine thn_n ?_
        refine WF.seq ?_
        refine WF.region ?_
        refine WL.va rfl rfl rfl (X.moveI e5_L0) ?_
        refine WL.va rfl rfl rfl (X.conv rfl (congrArg Option.isSome Try.underlying126) Try.underlying3 rfl) ?_
        refine WL.va rfl rfl rfl (X.assignI rfl) ?_
        refine WL.nil ?_
        refine thn_n ?_
        refine WF.ret ?_
        refine fin_r ?_
        rw [e1]; exact ⟨by rw [show (s.left.take 8).take k = s.left.take 8 from List.take_of_length_le (by omega)]; rfl, ⟨_, _, h2⟩, g1⟩

theorem rBlob_ok (r D left : Value) (L : List UInt8) (a : Nat) (s : Pk.RS) (w : World) (B : Nat) (h : PR w B r D L a s left) : FnOk Try.prog 74 [r] w (fun v w' => (∃ a1 a2 left', Seg D v a1 a2 ∧ Bytes w' v s.blob.1 ∧ PR w' B r D L a2 s.blob.2 left') ∧ w.grownBy w' (asRow r).ownBlock) := by
  refine FnOk.enter (rs := [2]) Try.func74 rfl Try.ntmps74 Try.results74 rfl rfl ?_
  refine WF.seq ?_
  refine WF.region ?_
  refine WL.va rfl rfl rfl (X.assign rfl) ?_
  refine WL.nil ?_
  refine thn_n ?_
  refine WF.seq ?_
  refine WF.region ?_
  refine WL.va rfl rfl rfl (X.move rfl) ?_
  refine WL.va rfl rfl rfl (X.move rfl) ?_
  refine WL.c rfl rfl rfl (X.call Try.call73 (evl_cons rfl evl_nil)) (rInt_ok r _ _ _ _ _ _ _ h) ?_
  rintro v2 w1 ⟨rfl, ⟨a1, left1, h1⟩, hx3⟩
  have g1 := hx3
  refine WL.c rfl rfl rfl (X.call Try.call107 (evl_cons rfl (evl_cons rfl evl_nil))) (take_ok s.int.1 r _ _ _ _ _ _ _ h1) ?_
  rintro v5 w4 ⟨⟨x, left2, rfl, hsg, hxb, h2⟩, hx6⟩
  have g2 := grown2 g1 hx6
  refine WL.va rfl rfl rfl (X.move rfl) ?_
  refine WL.va rfl rfl rfl (X.extract rfl rfl) ?_
  refine WL.va rfl rfl rfl (X.extract rfl rfl) ?_
  refine WL.va rfl rfl rfl (X.assign rfl) ?_
  refine WL.va rfl rfl rfl (X.assignB rfl) ?_
  refine WL.nil ?_
  refine thn_n ?_
  refine WF.seq ?_
  refine WF.region ?_
  refine WL.va rfl rfl rfl (X.move rfl) ?_
  refine WL.va rfl rfl rfl (X.assign rfl) ?_
  refine WL.nil ?_
  refine thn_n ?_
  refine WF.ret ?_
  refine fin_r ?_
  exact ⟨⟨_, _, _, hsg, hxb, h2⟩, g2⟩

theorem many_step (s : Pk.RS) (k : Nat) : s.many (k + 1) = ((s.many k).1 ++ [(s.many k).2.int.1], (s.many k).2.int.2) := rfl
theorem many_len (s : Pk.RS) : ∀ k, (s.many k).1.length = k
  | 0 => rfl
  | k + 1 => by rw [many_step, List.length_append, many_len s k]; rfl
theorem set_app {l : List Int} {k n : Nat} (x : Int) (hl : l.length = k) (h : k < n) : (l ++ List.replicate (n - k) 0).set k x = (l ++ [x]) ++ List.replicate (n - (k + 1)) 0 := by
  rw [List.set_append_right _ _ (by omega), hl, Nat.sub_self, show n - k = (n - (k + 1)) + 1 by omega, List.replicate_succ, List.set_cons_zero, List.append_assoc]
  rfl
theorem rLeft_ok (r D left : Value) (L : List UInt8) (a : Nat) (s : Pk.RS) (w : World) (B : Nat) (h : PR w B r D L a s left) : FnOk Try.prog 105 [r] w (fun v w' => v = i64 (s.left.length : Int) ∧ w = w') := by
  refine FnOk.enter (rs := [2]) Try.func105 rfl Try.ntmps105 Try.results105 rfl rfl ?_
  refine WF.seq ?_
  refine WF.region ?_
  refine WL.va rfl rfl rfl (X.assignI rfl) ?_
  refine WL.nil ?_
  refine thn_n ?_
  refine WF.seq ?_
  refine WF.region ?_
  refine WL.va rfl rfl rfl (X.move rfl) ?_
  refine WL.va rfl rfl rfl (X.nilCheckV h.var rfl) ?_
  refine WL.va rfl rfl rfl (X.fieldAddr h.var rfl Try.underlying128 rfl rfl Try.sizeOf46) ?_
  refine WL.va rfl rfl rfl (X.loadF h.var (Ext.refl _) rfl rfl Try.isAgg46) ?_
  refine WL.va rfl rfl rfl (X.len h.bytes rfl Try.underlying46) ?_
  refine WL.va rfl rfl rfl (X.assignI rfl) ?_
  refine WL.nil ?_
  refine thn_n ?_
  refine WF.ret ?_
  refine fin_r ?_
  exact ⟨rfl, rfl⟩

theorem rBad_ok (r D left : Value) (L : List UInt8) (a : Nat) (s : Pk.RS) (w : World) (B : Nat) (h : PR w B r D L a s left) : FnOk Try.prog 106 [r] w (fun v w' => v = .bool s.bad ∧ w = w') := by
  refine FnOk.enter (rs := [2]) Try.func106 rfl Try.ntmps106 Try.results106 rfl rfl ?_
  refine WF.seq ?_
  refine WF.region ?_
  refine WL.va rfl rfl rfl (X.assignB rfl) ?_
  refine WL.nil ?_
  refine thn_n ?_
  refine WF.seq ?_
  refine WF.region ?_
  refine WL.va rfl rfl rfl (X.move rfl) ?_
  refine WL.va rfl rfl rfl (X.nilCheckV h.var rfl) ?_
  refine WL.va rfl rfl rfl (X.fieldAddr h.var rfl Try.underlying128 rfl rfl Try.sizeOf4) ?_
  refine WL.va rfl rfl rfl (X.loadF h.var (Ext.refl _) rfl rfl Try.isAgg4) ?_
  refine WL.va rfl rfl rfl (X.assignB rfl) ?_
  refine WL.nil ?_
  refine thn_n ?_
  refine WF.ret ?_
  refine fin_r ?_
  exact ⟨rfl, rfl⟩

theorem rEnd_ok (r D left : Value) (L : List UInt8) (a : Nat) (s : Pk.RS) (w : World) (B : Nat) (h : PR w B r D L a s left) : FnOk Try.prog 103 [r] w (fun v w' => v = i64 s.err ∧ w = w') := by
  refine FnOk.enter (rs := [2]) Try.func103 rfl Try.ntmps103 Try.results103 rfl rfl ?_
  refine WF.seq ?_
  refine WF.region ?_
  refine WL.va rfl rfl rfl (X.assignI rfl) ?_
  refine WL.nil ?_
  refine thn_n ?_
  refine WF.seq ?_
  refine WF.block ?_
  refine WF.seq ?_
  refine WF.region ?_
  refine WL.va rfl rfl rfl (X.move rfl) ?_
  refine WL.va rfl rfl rfl (X.nilCheckV h.var rfl) ?_
  refine WL.va rfl rfl rfl (X.fieldAddr h.var rfl Try.underlying128 rfl rfl Try.sizeOf4) ?_
  refine WL.va rfl rfl rfl (X.loadF h.var (Ext.refl _) rfl rfl Try.isAgg4) ?_
  refine WL.va rfl rfl rfl (X.assignB rfl) ?_
  refine WL.nil ?_
  refine thn_n ?_
  refine WF.cond rfl (fun h0_1 => ?_) (fun h0_1 => ?_)
  · have gh0_1 := h0_1
    have e : s.err = 4 := if_pos gh0_1
    refine WF.seq ?_
    refine WF.region ?_
    refine WL.va rfl rfl rfl (X.assignI rfl) ?_
    refine WL.nil ?_
    refine thn_n ?_
    refine WF.ret ?_
    refine blk_r ?_
    refine thn_r ?_
    refine fin_r ?_
    exact ⟨by rw [e]; rfl, rfl⟩
  · have gh0_1 := h0_1
    have e0 : s.err = if 0 < s.left.length then 2 else 0 := if_neg (by rw [gh0_1]; decide)
    refine WF.seq ?_
    refine WF.region ?_
    refine WL.va rfl rfl rfl (X.move rfl) ?_
    refine WL.va rfl rfl rfl (X.nilCheckV h.var rfl) ?_
    refine WL.va rfl rfl rfl (X.fieldAddr h.var rfl Try.underlying128 rfl rfl Try.sizeOf46) ?_
    refine WL.va rfl rfl rfl (X.loadF h.var (Ext.refl _) rfl rfl Try.isAgg46) ?_
    refine WL.va rfl rfl rfl (X.len h.bytes rfl Try.underlying46) ?_
    refine WL.va rfl rfl rfl (X.gtr rfl rfl) ?_
    refine WL.va rfl rfl rfl (X.assignB rfl) ?_
    refine WL.nil ?_
    refine thn_n ?_
    refine WF.cond rfl (fun h1_3 => ?_) (fun h1_3 => ?_)
    · have gh1_3 := (of_decide_eq_true h1_3)
      have e : s.err = 2 := by rw [e0, if_pos (by omega)]
      refine WF.seq ?_
      refine WF.region ?_
      refine WL.va rfl rfl rfl (X.assignI rfl) ?_
      refine WL.nil ?_
      refine thn_n ?_
      refine WF.ret ?_
      refine blk_r ?_
      refine thn_r ?_
      refine fin_r ?_
      exact ⟨by rw [e]; rfl, rfl⟩
    · have gh1_3 := (of_decide_eq_false h1_3)
      have e : s.err = 0 := by rw [e0, if_neg (by omega)]
      refine WF.skip ?_
      refine blk_n ?_
      refine thn_n ?_
      refine WF.seq ?_
      refine WF.region ?_
      refine WL.va rfl rfl rfl (X.assignI rfl) ?_
      refine WL.nil ?_
      refine thn_n ?_
      refine WF.ret ?_
      refine fin_r ?_
      exact ⟨by rw [e]; rfl, rfl⟩

theorem clone_ok (v : Value) (l : List UInt8) (w : World) (hb : Bytes w v l) (hl : l.length ≤ 140737488355328) : FnOk Try.prog 101 [v] w (fun r w' => OwnB w' w.heap.size 5 r l ∧ Ext w w') := by
  refine FnOk.enter (rs := [2]) Try.func101 rfl Try.ntmps101 Try.results101 rfl rfl ?_
  refine WF.seq ?_
  refine WF.region ?_
  refine WL.va rfl rfl rfl (X.assign rfl) ?_
  refine WL.nil ?_
  refine thn_n ?_
  refine WF.seq ?_
  refine WF.seq ?_
  refine WF.region ?_
  refine WL.va rfl rfl rfl (X.move rfl) ?_
  refine WL.va rfl rfl rfl (X.eqlNilS hb rfl rfl Try.underlying46) ?_
  refine WL.nil ?_
  refine thn_n ?_
  refine WF.cond rfl (fun h0_1 => ?_) (fun h0_1 => ?_)
  · have gh0_1 := h0_1
    have hl0 : l = [] := List.eq_nil_of_length_eq_zero (isNilS_len hb gh0_1)
    refine WF.seq ?_
    refine WF.region ?_
    refine WL.va rfl rfl rfl (X.assign rfl) ?_
    refine WL.nil ?_
    refine thn_n ?_
    refine WF.ret ?_
    refine thn_r ?_
    refine fin_r ?_
    exact ⟨hl0 ▸ OwnB.nil _ _ _, (Ext.refl _)⟩
  · have gh0_1 := h0_1
    refine WF.skip ?_
    refine thn_n ?_
    refine WF.seq ?_
    refine WF.region ?_
    refine WL.op rfl (OW.lit0 Try.underlying46 Try.sizeOf5 ?_ (by decide))
    intro v4 w3 ho6 hx5
    have hn : OwnB w3 w.heap.size 5 v4 [] := ho6
    refine WL.va rfl rfl rfl (X.move rfl) ?_
    refine WL.op rfl (OW.appendB hn (hb.ext hx5) rfl rfl Try.underlying46 Try.type5 rfl rfl rfl rfl (by simp; omega) (hx5).size ?_ (by decide))
    intro v8 w7 ho10 hx9 hmvhx9
    have ho := ho10
    refine WL.va rfl rfl rfl (X.assign rfl) ?_
    refine WL.nil ?_
    refine thn_n ?_
    refine WF.ret ?_
    refine fin_r ?_
    rw [List.nil_append] at ho; exact ⟨ho, (Ext.own hx5 hn (Nat.le_refl _) hx9)⟩

theorem read_ok (v : Value) (l : List UInt8) (w : World) (hb : Bytes w v l) (hl : l.length ≤ 140737488355328) : FnOk Try.prog 65 [v] w (fun r w' => (∃ D left', PR w' w.heap.size r D l 0 ⟨l, false⟩ left') ∧ Ext w w') := by
  refine FnOk.enter (rs := [2]) Try.func65 rfl Try.ntmps65 Try.results65 rfl rfl ?_
  refine WF.seq ?_
  refine WF.region ?_
  refine WL.va rfl rfl rfl (X.assign rfl) ?_
  refine WL.nil ?_
  refine thn_n ?_
  refine WF.seq ?_
  refine WF.region ?_
  refine WL.va rfl rfl rfl (X.move rfl) ?_
  refine WL.c rfl rfl rfl (X.call Try.call101 (evl_cons rfl evl_nil)) (clone_ok _ _ _ hb hl) ?_
  rintro vc w1 ⟨hc, hx2⟩
  have hx1 := hx2
  refine WL.va rfl rfl rfl (X.build (evp_cons rfl evp_nil) Try.type128 Try.underlying128 rfl rfl ⟨(Bytes.of_own hc).one, trivial⟩ rfl) ?_
  refine WL.op rfl (OW.box rfl rfl ?_ (by decide))
  intro v4 w3 ho6 hx5
  have hv : Var w3 _ 128 2 v4 [vc, .bool false] := ho6
  have hap := (own_apart hc hv.row (Nat.le_refl _)).symm
  have hseg : Seg vc vc 0 (0 + l.length) := by rw [Nat.zero_add]; exact Seg.self hc
  have hpr : PR w3 w.heap.size v4 vc l 0 ⟨l, false⟩ vc := ⟨hv.mono hx1.size, hc.ext hx5, hap, hseg, (by show 0 + l.length ≤ _; omega), (by show (l.drop 0).take l.length = l; simp), (fun h => by cases h), hl⟩
  refine WL.va rfl rfl rfl (X.assign rfl) ?_
  refine WL.nil ?_
  refine thn_n ?_
  refine WF.ret ?_
  refine fin_r ?_
  exact ⟨⟨_, _, hpr⟩, (Ext.trans hx2 hx5)⟩

end Go.Proofs.Ytpimnlgfhpnjnaa
