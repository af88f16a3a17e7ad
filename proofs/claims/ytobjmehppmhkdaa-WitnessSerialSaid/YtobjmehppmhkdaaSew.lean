/- For the walk of Serial: deeds in memory; what it holds as it goes. -/
import Derived.Test.YtobjmehppmhkdaaSes2
import Derived.Test.YtobjmehppmhkdaaWitP
import Derived.Test.YtobjmehppmhkdaaIn
namespace Go.Proofs.Ytobjmehppmhkdaa
open Go Go.RowKit Kf
set_option maxRecDepth 20000
abbrev Dd.c (d : Dd) : List Value := [i64 d.Block, .bool d.Write, .bool d.Snap, u8 d.B]
theorem Dd.c_len (d : Dd) : d.c.length = 4 := rfl
def Dds (w : World) (v : Value) (ds : List Dd) : Prop := Row w v ds.length 4 (ds.flatMap Dd.c)
theorem Dds.ext {w w' : World} {v : Value} {ds : List Dd} (h : Dds w v ds) (g : Ext w w') : Dds w' v ds := Row.ext h g
def Ddss (w : World) (v : Value) (l : List (List Dd)) : Prop := ∃ vs : List Value, Row w v l.length 1 vs ∧ ∀ i (hi : i < l.length), Dds w (vs.getD i undef) l[i]
def BApart (vo v : Value) (F : List BV) : Prop := Apart vo v ∧ ∀ e ∈ F, Apart vo e.2
structure SerW (w : World) (D : Nat) (vo : Value) (E : List EvV) (vd : Value) (Fd : List BV) (vm : Value) (Fm : List BV) : Prop where
  ev : EvO w D D vo E
  dk : BOwn w D vd Fd
  mn : BOwn w D vm Fm
  ad : BApart vo vd Fd
  am : BApart vo vm Fm
section
variable {w w' w0 : World} {D D2 B2 : Nat} {vo vo' vd vm v2 : Value} {E F : List EvV} {Fd Fm F2 : List BV}
theorem SerW.ext (h : SerW w D vo E vd Fd vm Fm) (g : Ext w w') : SerW w' D vo E vd Fd vm Fm := ⟨h.ev.ext g, h.dk.ext g, h.mn.ext g, h.ad, h.am⟩
theorem BOwn.keptA {B : Nat} {v : Value} {F : List BV} (h : BOwn w B v F) (k : w.grownBy w' vo.ownBlock) (ha : BApart vo v F) : BOwn w' B v F :=
  ⟨h.row.kept k ha.1.symm.ne, fun e he => (h.data e he).kept k (ha.2 e he).symm.ne, h.off, h.pair⟩
theorem BApart.moved {B : Nat} {v : Value} {F : List BV} (ha : BApart vo v F) (h : BOwn w B v F) (hm : Moved w vo vo') : BApart vo' v F :=
  ⟨(Apart.moved ha.1.symm h.row hm).symm, fun e he => (Apart.moved (ha.2 e he).symm (h.data e he) hm).symm⟩
theorem SerW.app (h : SerW w D vo E vd Fd vm Fm) (hF : EvO w D2 B2 v2 F) (hD : D ≤ D2) (hv : ∀ b, vo.ownBlock = some b → b < D2)
    (hr : w'.ownsRow D 42 19 vo' (E.length + F.length) (E.flatMap EvV.c ++ F.flatMap EvV.c)) (k : w.grownBy w' vo.ownBlock) (hm : Moved w vo vo') : SerW w' D vo' (E ++ F) vd Fd vm Fm :=
  ⟨h.ev.app (fun e he => own_mono (hF.dc e he) hD) (fun e he => own_mono (hF.da e he) hD) (hF.apart_old hv) hr k hm, h.dk.keptA k h.ad, h.mn.keptA k h.am, h.ad.moved h.dk hm, h.am.moved h.mn hm⟩
theorem SerW.setm (h : SerW w D vo E vd Fd vm Fm) (hF : BOwn w w0.heap.size v2 F2) (hD : D ≤ w0.heap.size) (hv : ∀ b, vo.ownBlock = some b → b < w0.heap.size) : SerW w D vo E vd Fd v2 F2 :=
  ⟨h.ev, h.dk, hF.mono hD, h.ad, ⟨fun b h1 h2 => by have := hv b h1; have := (hF.row.lt b h2).1; omega, fun e he b h1 h2 => by have := hv b h1; have := ((hF.data e he).lt b h2).1; omega⟩⟩
theorem SerW.commit (h : SerW w D vo E vd Fd vm Fm) : SerW w D vo E vm Fm vm Fm := ⟨h.ev, h.mn, h.mn, h.am, h.am⟩
theorem SerW.start (h : SerW w D vo E vd Fd vm Fm) : SerW w D vo E vd Fd vd Fd := ⟨h.ev, h.dk, h.dk, h.ad, h.ad⟩
theorem SerW.zero (w : World) (D : Nat) : SerW w D (.slice none 0 0) [] (.slice none 0 0) [] (.slice none 0 0) [] :=
  ⟨EvO.nil w D D, BOwn.nil w D, BOwn.nil w D, ⟨nilA _, fun e he => by cases he⟩, ⟨nilA _, fun e he => by cases he⟩⟩
end
def pickZ (k n : Int) : Int := if k.tmod n < 0 then k.tmod n + n else k.tmod n
theorem add8 (x y : UInt8) : IntKind.u8.wrap ((x.toNat : Int) + (y.toNat : Int)) = ((x + y).toNat : Int) := by
  have hx := x.toNat_lt
  have hy := y.toNat_lt
  rw [UInt8.toNat_add]
  have : (2 : Nat) ^ 8 = 256 := rfl
  by_cases h : x.toNat + y.toNat < 256
  · rw [Nat.mod_eq_of_lt (by omega)]
    have := wu8 (n := (x.toNat : Int) + (y.toNat : Int)) (by omega)
    rw [this]; omega
  · simp only [IntKind.wrap, IntKind.bits, IntKind.signed]
    simp
theorem spoil_set {l : List UInt8} (h : l.length = 4) : l.set 0 (l.getD 0 0 + 1) = spoilD l := by
  cases l with
  | nil => simp at h
  | cons x r => rfl
section
variable {ch : List Bool} {i : Nat}
theorem is_t (h : ch.length ≤ i) : Value.bool true = Value.bool (isC ch i) := by
  unfold isC; rw [List.getD_eq_getElem?_getD, List.getElem?_eq_none h]; rfl
theorem is_f (h : i < ch.length) : (ch.map Value.bool).getD i undef = Value.bool (isC ch i) := by
  unfold isC; rw [List.getD_eq_getElem?_getD, List.getD_eq_getElem?_getD, List.getElem?_eq_getElem h, List.getElem?_map, List.getElem?_eq_getElem h]; rfl
end
theorem X.loadCh {P : Program} {f : Fr} {w w0 : World} {dst : Option Tmp} {ty t : TypeId} {pos : String} {aft : Array Edge} {g : Option (Nat × Bool)} {x : Operand} {v : Value} {k n : Nat} {ch : List Bool}
    (h : Row w0 v n 1 (ch.map Value.bool)) (hE : Ext w0 w) (hx : ev f x = .pointer (some ((base v).add (k * 1)))) (hk : k < ch.length) (hn : n = ch.length) (ht : ∀ w, (isAgg t).run P w = .ok false w) :
    (execOp (ev f) ⟨dst, .load t x, ty, pos, aft, g⟩).run P w = .ok (.value (.bool (isC ch k))) w := by
  rw [← is_f hk]
  exact X.load1 h hE hx (by omega) ht
section
variable {sp : Int} {is : Bool} {s : GS} {d : Dd}
theorem st_w (h : d.Write = true) : stepA sp is s d = ⟨s.acts ++ [.w (pick64 d.Block) d.B], setB s.m (pick64 d.Block) (b4 d.B), s.n, s.hit⟩ := by unfold stepA; rw [if_pos h]
theorem st_r (h : d.Write = false) (h2 : hitB sp is s.n = false) : stepA sp is s d = ⟨s.acts ++ [.r (pick64 d.Block) (getB s.m (pick64 d.Block))], s.m, s.n + 1, s.hit⟩ := by
  unfold stepA; rw [if_neg (by rw [h]; simp), h2]; simp
theorem st_h (h : d.Write = false) (h2 : hitB sp is s.n = true) : stepA sp is s d = ⟨s.acts ++ [.r (pick64 d.Block) (spoilD (getB s.m (pick64 d.Block)))], s.m, s.n + 1, true⟩ := by
  unfold stepA; rw [if_neg (by rw [h]; simp), h2]; simp
theorem hit_1 (h : ¬ ((s.n : Nat) : Int) = sp) : false = hitB sp is s.n := by simp [hitB, h]
theorem hit_2 (h : ((s.n : Nat) : Int) = sp) (hi : is = false) : false = hitB sp is s.n := by simp [hitB, hi]
theorem hit_3 {v : List UInt8} (h : ((s.n : Nat) : Int) = sp) (hi : is = true) (hl : v.length = 4) : decide (0 < (v.length : Int)) = hitB sp is s.n := by simp [hitB, h, hi, hl]
end
theorem body_app {t : Int} {a b : List Act} : bodyL t (a ++ b) = bodyL t a ++ bodyL t b := List.flatMap_append
section
variable {l : List (List Dd)} {ch : List Bool} {sp : Int} {i : Nat} {S : OS} {G : GS}
theorem serial_take (hi : i < l.length) : serialL (l.take (i + 1)) ch sp = stepT sp ch (serialL (l.take i) ch sp) l[i] := foldl_snoc hi
theorem gen_take {ds : List Dd} {k : Nat} {is : Bool} {m : List Bl} {n : Nat} (hk : k < ds.length) : genA sp is m n (ds.take (k + 1)) = stepA sp is (genA sp is m n (ds.take k)) ds[k] := foldl_snoc hk
/-- one transaction more -/
theorem stepT_0 {ds : List Dd} (h : ds.length = 0) (he : G = genA sp (isC ch S.txs.length) S.disk S.n ds) : ∃ x : Tx, x.evs = [] ∧ stepT sp ch S ds = ⟨S.txs ++ [x], S.disk, G.n, S.sp || G.hit⟩ := by
  obtain rfl : ds = [] := List.eq_nil_of_length_eq_zero h
  subst he
  exact ⟨_, rfl, rfl⟩
theorem stepT_c {ds : List Dd} (h : ¬ ds.length = 0) (hl : G.acts.length = ds.length) (hc : isC ch S.txs.length = true) (he : G = genA sp (isC ch S.txs.length) S.disk S.n ds) : ∃ x : Tx, x.evs = bodyL (1048577 + (S.txs.length : Int)) G.acts ++ endedL (1048577 + (S.txs.length : Int)) true ∧ stepT sp ch S ds = ⟨S.txs ++ [x], G.m, G.n, S.sp || G.hit⟩ := by
  refine ⟨⟨1048577 + (S.txs.length : Int), G.acts, true⟩, ?_, ?_⟩
  · unfold Tx.evs
    have : G.acts.isEmpty = false := by cases hg : G.acts with | nil => rw [hg] at hl; simp at hl; omega | cons => rfl
    rw [this]; rfl
  · have h2 : ds.isEmpty = false := by cases ds with | nil => simp at h | cons => rfl
    unfold stepT
    rw [h2, ← he, hc]; rfl
theorem stepT_d {ds : List Dd} (h : ¬ ds.length = 0) (hl : G.acts.length = ds.length) (hc : isC ch S.txs.length = false) (he : G = genA sp (isC ch S.txs.length) S.disk S.n ds) : ∃ x : Tx, x.evs = bodyL (1048577 + (S.txs.length : Int)) G.acts ++ doneL (1048577 + (S.txs.length : Int)) commitC unkA ∧ stepT sp ch S ds = ⟨S.txs ++ [x], S.disk, G.n, S.sp || G.hit⟩ := by
  refine ⟨⟨1048577 + (S.txs.length : Int), G.acts, false⟩, ?_, ?_⟩
  · unfold Tx.evs
    have : G.acts.isEmpty = false := by cases hg : G.acts with | nil => rw [hg] at hl; simp at hl; omega | cons => rfl
    rw [this]; rfl
  · have h2 : ds.isEmpty = false := by cases ds with | nil => simp at h | cons => rfl
    unfold stepT
    rw [h2, ← he, hc]; rfl
theorem hist_snoc {xs : List Tx} {x : Tx} : histL (xs ++ [x]) = histL xs ++ x.evs := by
  rw [hist_app]; show histL xs ++ (x.evs ++ []) = _; rw [List.append_nil]
end
end Go.Proofs.Ytobjmehppmhkdaa
