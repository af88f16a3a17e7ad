/- The walks of MessageKnown's words. -/
import Derived.Test.YtccbpfbcaogcnaaMgT
import Derived.Test.YtccbpfbcaogcnaaIn
namespace Go.Proofs.Ytccbpfbcaogcnaa
open Go Go.RowKit Kf
set_option maxRecDepth 20000
/-- the cell of a number -/
def sc (p : Nat) : Nat := [3, 4, 5, 6, 7, 8, 13, 9, 10, 11, 12, 1, 2, 0].getD p 0
/-- which fields a kind has -/
def hasF (k : Int) (f : Nat) : Bool := decide (f ∈ places k)
/-- a field is nought -/
def outF (m : Mg) (f : Nat) : Mg := if f = 11 then { m with ok := false } else if f = 12 then { m with E := [] } else if f = 13 then { m with D := [] } else { m with n := m.n.set (sc f) 0 }
theorem outF_len {m : Mg} (h : m.n.length = 14) (f : Nat) : (outF m f).n.length = 14 := by
  unfold outF; split; exact h; split; exact h; split; exact h; exact (List.length_set ..).trans h
theorem outF_at {w : World} {vE vD : Value} {m : Mg} (h : MgAt w vE vD m) (f : Nat) : MgAt w (if f = 12 then .slice none 0 0 else vE) (if f = 13 then .slice none 0 0 else vD) (outF m f) := by
  have z : rng 0 := ⟨by decide, by decide⟩
  unfold outF
  by_cases h1 : f = 11
  · subst h1; exact ⟨h.len, h.inn, h.ein, h.E, h.D⟩
  · rw [if_neg h1]
    by_cases h2 : f = 12
    · subst h2; exact ⟨h.len, h.inn, (fun e he => by cases he), ⟨[], rfl, Row.of_own (World.ownsRow_nil _ 0 57 _), (fun e he => by cases he)⟩, h.D⟩
    · rw [if_neg h2, if_neg h2]
      by_cases h3 : f = 13
      · subst h3; exact ⟨h.len, h.inn, h.ein, h.E, Bytes.nil _⟩
      · rw [if_neg h3, if_neg h3]
        exact ⟨(List.length_set ..).trans h.len, fun k => set_rng h.inn z k, h.ein, h.E, h.D⟩
theorem outF_cells {vE vD : Value} {m : Mg} (f : Nat) : mc (if f = 11 ∨ f = 12 ∨ f = 13 then m.n else m.n.set (sc f) 0) (if f = 11 then false else m.ok) (if f = 12 then .slice none 0 0 else vE) (if f = 13 then .slice none 0 0 else vD) = mc (outF m f).n (outF m f).ok (if f = 12 then .slice none 0 0 else vE) (if f = 13 then .slice none 0 0 else vD) := by
  unfold outF
  by_cases h1 : f = 11
  · subst h1; rfl
  · by_cases h2 : f = 12
    · subst h2; rfl
    · by_cases h3 : f = 13
      · subst h3; rfl
      · rw [if_neg (show ¬ (f = 11 ∨ f = 12 ∨ f = 13) by omega), if_neg h1, if_neg h1]
        simp only [if_neg h2, if_neg h3]
theorem u8_inj {a b : UInt8} (h : (a.toNat : Int) = (b.toNat : Int)) : a = b := UInt8.toNat_inj.1 (by omega)
/-- the letters of each kind -/
def rowsV : List Value := [.string (strL []), .string (strL [103, 116, 105, 112]), .string (strL [103, 116, 111]), .string (strL [103, 116, 105, 112, 99, 114, 101]), .string (strL [103, 116, 111, 105, 114]), .string (strL [103, 116, 105, 112, 114, 100]), .string (strL [103, 115, 100]), .string (strL [103, 115, 111, 105, 100]), .string (strL [120, 97, 98]), .string (strL [120, 97, 98, 111, 105, 118]), .string (strL [120, 97, 98, 118]), .string (strL [120, 97, 98, 111, 105, 118])]
theorem rowsV_get {k : Nat} (h1 : 1 ≤ k) (h2 : k ≤ 11) : rowsV[k]'(by show k < 12; omega) = .string (strL (lets (k : Int))) := by
  match k, h1, h2 with
  | 1, _, _ | 2, _, _ | 3, _, _ | 4, _, _ | 5, _, _ | 6, _, _ | 7, _, _ | 8, _, _ | 9, _, _ | 10, _, _ | 11, _, _ => rfl
theorem rowsV_getD {k : Nat} (h1 : 1 ≤ k) (h2 : k ≤ 11) : rowsV.getD k undef = .string (strL (lets (k : Int))) := by
  rw [List.getD_eq_getElem?_getD, List.getElem?_eq_getElem (show k < rowsV.length by show k < 12; omega), rowsV_get h1 h2]; rfl
section
variable {P : Program} {f : Fr} {w : World} {dst : Option Tmp} {ty t : TypeId} {pos : String} {aft : Array Edge} {gd : Option (Nat × Bool)} {x y : Operand} {k : Nat} {l : List UInt8}
theorem X.indexS (hx : ev f x = .string (strL l)) (hy : ev f y = .int .i64 (k : Int)) (hk : k < l.length) (ht : P.underlying t = some .string) : (execOp (ev f) ⟨dst, .index t x y, ty, pos, aft, gd⟩).run P w = .ok (.value (.int .u8 (l[k].toNat : Int))) w := by
  have hg : (strL l)[k]? = some l[k] := by
    have : k < (strL l).size := by rw [strL_size]; exact hk
    have e : (strL l)[k]? = some ((strL l)[k]'this) := getElem?_pos (strL l) k this
    rw [e]
    congr 1
  simp [execOp, hx, hy, Instr.index, asIntOf, run_underlying ht, hg, Result.andThen]
end

set_option maxHeartbeats 2000000 in
theorem set_ok (n : List Int) (ok : Bool) (vE vD : Value) (p : Nat) (x : Int) (w : World) (hf : p < 14) (hn : n.length = 14) (hE : vE.oneCell' = true) (hD : vD.oneCell' = true) : FnOk Try.prog 29 [agg (mc n ok vE vD), i64 (p : Int), i64 x] w (fun r w' => r = agg (mc (n.set (sc p) x) ok vE vD) ∧ Ext w w') := by
  refine FnOk.enterC (rs := [.cell 6 25]) Try.func29 rfl Try.ntmps29 Try.results29 rfl rfl ?_
  refine WF.seq ?_
  refine WF.region ?_
  refine WL.op rfl (OW.boxA (cs := (mc n ok vE vD)) rfl ?_ (by decide))
  intro g3 w1 heg3 hlg3 hO3 hx3
  have := World.grownBy.size hx3
  refine WL.op rfl (OW.allocO (cs := [i64 0, i64 0, i64 0, i64 0, i64 0, i64 0, i64 0, i64 0, i64 0, i64 0, i64 0, i64 0, i64 0, i64 0, .bool false, .slice none 0 0, .slice none 0 0]) Try.zeroValue25 rfl ?_ (by decide))
  intro g6 w5 heg6 hlg6 hO6 hx7
  have := World.grownBy.size hx7
  refine WL.nil ?_
  refine thn_n ?_
  refine WF.seq ?_
  refine WF.seq ?_
  refine WF.region ?_
  refine WL.va rfl rfl rfl (X.moveI rfl) ?_
  refine WL.nil ?_
  refine thn_n ?_
  refine WF.block ?_
  refine WF.seq ?_
  refine WF.region ?_
  refine WL.va rfl rfl rfl (X.eql rfl rfl) ?_
  refine WL.va rfl rfl rfl (X.assignB rfl) ?_
  refine WL.nil ?_
  refine thn_n ?_
  refine WF.cond rfl (fun h0_9 => ?_) (fun h0_9 => ?_)
  · have gh0_9 := (of_decide_eq_true h0_9)
    have hfk : p = 0 := by have := gh0_9; omega
    refine WF.region ?_
    refine WL.va rfl rfl rfl (X.moveI rfl) ?_
    refine WL.va rfl rfl rfl (X.fieldAddrO (off := 3) rfl Try.underlying25 rfl rfl Try.sizeOf3) ?_
    refine WL.op rfl (OW.storeO (hO3.ext hx7) (Nat.le_of_ble_eq_true rfl) rfl rfl rfl Try.sizeOf3 ?_)
    intro w11 hO3 hx13
    have := World.grownBy.size hx13
    replace hO6 := hO6.keptO hx13 (by omega)
    replace hO3 := hO3.cast (mc_set x hn (by omega))
    have hones : ∀ u ∈ mc (n.set 3 x) ok vE vD, u.oneCell' = true := mc_ones _ _ hE hD
    refine WL.nil ?_
    refine blk_n ?_
    refine thn_n ?_
    refine WF.seq ?_
    refine WF.region ?_
    refine WL.va rfl rfl rfl (X.loadOA hO3 (Ext.refl _) rfl rfl Try.isAgg25 Try.sizeOf25) ?_
    refine WL.op rfl (OW.storeOA hO6 rfl rfl rfl hones Try.sizeOf25 ?_)
    intro w15 hO6 hx17
    have := World.grownBy.size hx17
    replace hO3 := hO3.keptO hx17 (by omega)
    refine WL.nil ?_
    refine thn_n ?_
    refine WF.ret ?_
    refine finC_r (vs := [_]) ⟨⟨_, rfl, readO hO6 Try.isAgg25 Try.sizeOf25⟩, trivial⟩ ?_
    exact ⟨(by rw [hfk]; rfl), (Ext.store (Ext.store (Ext.trans hx3 hx7) hx13 (by omega)) hx17 (by omega))⟩
  · have gh0_9 := (of_decide_eq_false h0_9)
    have hn0 : p ≠ 0 := by have := gh0_9; omega
    refine WF.seq ?_
    refine WF.region ?_
    refine WL.va rfl rfl rfl (X.eql rfl rfl) ?_
    refine WL.va rfl rfl rfl (X.assignB rfl) ?_
    refine WL.nil ?_
    refine thn_n ?_
    refine WF.cond rfl (fun h1_19 => ?_) (fun h1_19 => ?_)
    · have gh1_19 := (of_decide_eq_true h1_19)
      have hfk : p = 1 := by have := gh1_19; omega
      refine WF.region ?_
      refine WL.va rfl rfl rfl (X.moveI rfl) ?_
      refine WL.va rfl rfl rfl (X.fieldAddrO (off := 4) rfl Try.underlying25 rfl rfl Try.sizeOf3) ?_
      refine WL.op rfl (OW.storeO (hO3.ext hx7) (Nat.le_of_ble_eq_true rfl) rfl rfl rfl Try.sizeOf3 ?_)
      intro w21 hO3 hx23
      have := World.grownBy.size hx23
      replace hO6 := hO6.keptO hx23 (by omega)
      replace hO3 := hO3.cast (mc_set x hn (by omega))
      have hones : ∀ u ∈ mc (n.set 4 x) ok vE vD, u.oneCell' = true := mc_ones _ _ hE hD
      refine WL.nil ?_
      refine blk_n ?_
      refine thn_n ?_
      refine WF.seq ?_
      refine WF.region ?_
      refine WL.va rfl rfl rfl (X.loadOA hO3 (Ext.refl _) rfl rfl Try.isAgg25 Try.sizeOf25) ?_
      refine WL.op rfl (OW.storeOA hO6 rfl rfl rfl hones Try.sizeOf25 ?_)
      intro w25 hO6 hx27
      have := World.grownBy.size hx27
      replace hO3 := hO3.keptO hx27 (by omega)
      refine WL.nil ?_
      refine thn_n ?_
      refine WF.ret ?_
      refine finC_r (vs := [_]) ⟨⟨_, rfl, readO hO6 Try.isAgg25 Try.sizeOf25⟩, trivial⟩ ?_
      exact ⟨(by rw [hfk]; rfl), (Ext.store (Ext.store (Ext.trans hx3 hx7) hx23 (by omega)) hx27 (by omega))⟩
    · have gh1_19 := (of_decide_eq_false h1_19)
      have hn1 : p ≠ 1 := by have := gh1_19; omega
      refine WF.seq ?_
      refine WF.region ?_
      refine WL.va rfl rfl rfl (X.eql rfl rfl) ?_
      refine WL.va rfl rfl rfl (X.assignB rfl) ?_
      refine WL.nil ?_
      refine thn_n ?_
      refine WF.cond rfl (fun h2_29 => ?_) (fun h2_29 => ?_)
      · have gh2_29 := (of_decide_eq_true h2_29)
        have hfk : p = 2 := by have := gh2_29; omega
        refine WF.region ?_
        refine WL.va rfl rfl rfl (X.moveI rfl) ?_
        refine WL.va rfl rfl rfl (X.fieldAddrO (off := 5) rfl Try.underlying25 rfl rfl Try.sizeOf3) ?_
        refine WL.op rfl (OW.storeO (hO3.ext hx7) (Nat.le_of_ble_eq_true rfl) rfl rfl rfl Try.sizeOf3 ?_)
        intro w31 hO3 hx33
        have := World.grownBy.size hx33
        replace hO6 := hO6.keptO hx33 (by omega)
        replace hO3 := hO3.cast (mc_set x hn (by omega))
        have hones : ∀ u ∈ mc (n.set 5 x) ok vE vD, u.oneCell' = true := mc_ones _ _ hE hD
        refine WL.nil ?_
        refine blk_n ?_
        refine thn_n ?_
        refine WF.seq ?_
        refine WF.region ?_
        refine WL.va rfl rfl rfl (X.loadOA hO3 (Ext.refl _) rfl rfl Try.isAgg25 Try.sizeOf25) ?_
        refine WL.op rfl (OW.storeOA hO6 rfl rfl rfl hones Try.sizeOf25 ?_)
        intro w35 hO6 hx37
        have := World.grownBy.size hx37
        replace hO3 := hO3.keptO hx37 (by omega)
        refine WL.nil ?_
        refine thn_n ?_
        refine WF.ret ?_
        refine finC_r (vs := [_]) ⟨⟨_, rfl, readO hO6 Try.isAgg25 Try.sizeOf25⟩, trivial⟩ ?_
        exact ⟨(by rw [hfk]; rfl), (Ext.store (Ext.store (Ext.trans hx3 hx7) hx33 (by omega)) hx37 (by omega))⟩
      · have gh2_29 := (of_decide_eq_false h2_29)
        have hn2 : p ≠ 2 := by have := gh2_29; omega
        refine WF.seq ?_
        refine WF.region ?_
        refine WL.va rfl rfl rfl (X.eql rfl rfl) ?_
        refine WL.va rfl rfl rfl (X.assignB rfl) ?_
        refine WL.nil ?_
        refine thn_n ?_
        refine WF.cond rfl (fun h3_39 => ?_) (fun h3_39 => ?_)
        · have gh3_39 := (of_decide_eq_true h3_39)
          have hfk : p = 3 := by have := gh3_39; omega
          refine WF.region ?_
          refine WL.va rfl rfl rfl (X.moveI rfl) ?_
          refine WL.va rfl rfl rfl (X.fieldAddrO (off := 6) rfl Try.underlying25 rfl rfl Try.sizeOf3) ?_
          refine WL.op rfl (OW.storeO (hO3.ext hx7) (Nat.le_of_ble_eq_true rfl) rfl rfl rfl Try.sizeOf3 ?_)
          intro w41 hO3 hx43
          have := World.grownBy.size hx43
          replace hO6 := hO6.keptO hx43 (by omega)
          replace hO3 := hO3.cast (mc_set x hn (by omega))
          have hones : ∀ u ∈ mc (n.set 6 x) ok vE vD, u.oneCell' = true := mc_ones _ _ hE hD
          refine WL.nil ?_
          refine blk_n ?_
          refine thn_n ?_
          refine WF.seq ?_
          refine WF.region ?_
          refine WL.va rfl rfl rfl (X.loadOA hO3 (Ext.refl _) rfl rfl Try.isAgg25 Try.sizeOf25) ?_
          refine WL.op rfl (OW.storeOA hO6 rfl rfl rfl hones Try.sizeOf25 ?_)
          intro w45 hO6 hx47
          have := World.grownBy.size hx47
          replace hO3 := hO3.keptO hx47 (by omega)
          refine WL.nil ?_
          refine thn_n ?_
          refine WF.ret ?_
          refine finC_r (vs := [_]) ⟨⟨_, rfl, readO hO6 Try.isAgg25 Try.sizeOf25⟩, trivial⟩ ?_
          exact ⟨(by rw [hfk]; rfl), (Ext.store (Ext.store (Ext.trans hx3 hx7) hx43 (by omega)) hx47 (by omega))⟩
        · have gh3_39 := (of_decide_eq_false h3_39)
          have hn3 : p ≠ 3 := by have := gh3_39; omega
          refine WF.seq ?_
          refine WF.region ?_
          refine WL.va rfl rfl rfl (X.eql rfl rfl) ?_
          refine WL.va rfl rfl rfl (X.assignB rfl) ?_
          refine WL.nil ?_
          refine thn_n ?_
          refine WF.cond rfl (fun h4_49 => ?_) (fun h4_49 => ?_)
          · have gh4_49 := (of_decide_eq_true h4_49)
            have hfk : p = 4 := by have := gh4_49; omega
            refine WF.region ?_
            refine WL.va rfl rfl rfl (X.moveI rfl) ?_
            refine WL.va rfl rfl rfl (X.fieldAddrO (off := 7) rfl Try.underlying25 rfl rfl Try.sizeOf3) ?_
            refine WL.op rfl (OW.storeO (hO3.ext hx7) (Nat.le_of_ble_eq_true rfl) rfl rfl rfl Try.sizeOf3 ?_)
            intro w51 hO3 hx53
            have := World.grownBy.size hx53
            replace hO6 := hO6.keptO hx53 (by omega)
            replace hO3 := hO3.cast (mc_set x hn (by omega))
            have hones : ∀ u ∈ mc (n.set 7 x) ok vE vD, u.oneCell' = true := mc_ones _ _ hE hD
            refine WL.nil ?_
            refine blk_n ?_
            refine thn_n ?_
            refine WF.seq ?_
            refine WF.region ?_
            refine WL.va rfl rfl rfl (X.loadOA hO3 (Ext.refl _) rfl rfl Try.isAgg25 Try.sizeOf25) ?_
            refine WL.op rfl (OW.storeOA hO6 rfl rfl rfl hones Try.sizeOf25 ?_)
            intro w55 hO6 hx57
            have := World.grownBy.size hx57
            replace hO3 := hO3.keptO hx57 (by omega)
            refine WL.nil ?_
            refine thn_n ?_
            refine WF.ret ?_
            refine finC_r (vs := [_]) ⟨⟨_, rfl, readO hO6 Try.isAgg25 Try.sizeOf25⟩, trivial⟩ ?_
            exact ⟨(by rw [hfk]; rfl), (Ext.store (Ext.store (Ext.trans hx3 hx7) hx53 (by omega)) hx57 (by omega))⟩
          · have gh4_49 := (of_decide_eq_false h4_49)
            have hn4 : p ≠ 4 := by have := gh4_49; omega
            refine WF.seq ?_
            refine WF.region ?_
            refine WL.va rfl rfl rfl (X.eql rfl rfl) ?_
            refine WL.va rfl rfl rfl (X.assignB rfl) ?_
            refine WL.nil ?_
            refine thn_n ?_
            refine WF.cond rfl (fun h5_59 => ?_) (fun h5_59 => ?_)
            · have gh5_59 := (of_decide_eq_true h5_59)
              have hfk : p = 5 := by have := gh5_59; omega
              refine WF.region ?_
              refine WL.va rfl rfl rfl (X.moveI rfl) ?_
              refine WL.va rfl rfl rfl (X.fieldAddrO (off := 8) rfl Try.underlying25 rfl rfl Try.sizeOf3) ?_
              refine WL.op rfl (OW.storeO (hO3.ext hx7) (Nat.le_of_ble_eq_true rfl) rfl rfl rfl Try.sizeOf3 ?_)
              intro w61 hO3 hx63
              have := World.grownBy.size hx63
              replace hO6 := hO6.keptO hx63 (by omega)
              replace hO3 := hO3.cast (mc_set x hn (by omega))
              have hones : ∀ u ∈ mc (n.set 8 x) ok vE vD, u.oneCell' = true := mc_ones _ _ hE hD
              refine WL.nil ?_
              refine blk_n ?_
              refine thn_n ?_
              refine WF.seq ?_
              refine WF.region ?_
              refine WL.va rfl rfl rfl (X.loadOA hO3 (Ext.refl _) rfl rfl Try.isAgg25 Try.sizeOf25) ?_
              refine WL.op rfl (OW.storeOA hO6 rfl rfl rfl hones Try.sizeOf25 ?_)
              intro w66 hO6 hx68
              have := World.grownBy.size hx68
              replace hO3 := hO3.keptO hx68 (by omega)
              refine WL.nil ?_
              refine thn_n ?_
              refine WF.ret ?_
              refine finC_r (vs := [_]) ⟨⟨_, rfl, readO hO6 Try.isAgg25 Try.sizeOf25⟩, trivial⟩ ?_
              exact ⟨(by rw [hfk]; rfl), (Ext.store (Ext.store (Ext.trans hx3 hx7) hx63 (by omega)) hx68 (by omega))⟩
            · have gh5_59 := (of_decide_eq_false h5_59)
              have hn5 : p ≠ 5 := by have := gh5_59; omega
              refine WF.seq ?_
              refine WF.region ?_
              refine WL.va rfl rfl rfl (X.eql rfl rfl) ?_
              refine WL.va rfl rfl rfl (X.assignB rfl) ?_
              refine WL.nil ?_
              refine thn_n ?_
              refine WF.cond rfl (fun h6_70 => ?_) (fun h6_70 => ?_)
              · have gh6_70 := (of_decide_eq_true h6_70)
                have hfk : p = 6 := by have := gh6_70; omega
                refine WF.region ?_
                refine WL.va rfl rfl rfl (X.moveI rfl) ?_
                refine WL.va rfl rfl rfl (X.fieldAddrO (off := 13) rfl Try.underlying25 rfl rfl Try.sizeOf3) ?_
                refine WL.op rfl (OW.storeO (hO3.ext hx7) (Nat.le_of_ble_eq_true rfl) rfl rfl rfl Try.sizeOf3 ?_)
                intro w72 hO3 hx74
                have := World.grownBy.size hx74
                replace hO6 := hO6.keptO hx74 (by omega)
                replace hO3 := hO3.cast (mc_set x hn (by omega))
                have hones : ∀ u ∈ mc (n.set 13 x) ok vE vD, u.oneCell' = true := mc_ones _ _ hE hD
                refine WL.nil ?_
                refine blk_n ?_
                refine thn_n ?_
                refine WF.seq ?_
                refine WF.region ?_
                refine WL.va rfl rfl rfl (X.loadOA hO3 (Ext.refl _) rfl rfl Try.isAgg25 Try.sizeOf25) ?_
                refine WL.op rfl (OW.storeOA hO6 rfl rfl rfl hones Try.sizeOf25 ?_)
                intro w76 hO6 hx78
                have := World.grownBy.size hx78
                replace hO3 := hO3.keptO hx78 (by omega)
                refine WL.nil ?_
                refine thn_n ?_
                refine WF.ret ?_
                refine finC_r (vs := [_]) ⟨⟨_, rfl, readO hO6 Try.isAgg25 Try.sizeOf25⟩, trivial⟩ ?_
                exact ⟨(by rw [hfk]; rfl), (Ext.store (Ext.store (Ext.trans hx3 hx7) hx74 (by omega)) hx78 (by omega))⟩
              · have gh6_70 := (of_decide_eq_false h6_70)
                have hn6 : p ≠ 6 := by have := gh6_70; omega
                refine WF.seq ?_
                refine WF.region ?_
                refine WL.va rfl rfl rfl (X.eql rfl rfl) ?_
                refine WL.va rfl rfl rfl (X.assignB rfl) ?_
                refine WL.nil ?_
                refine thn_n ?_
                refine WF.cond rfl (fun h7_80 => ?_) (fun h7_80 => ?_)
                · have gh7_80 := (of_decide_eq_true h7_80)
                  have hfk : p = 7 := by have := gh7_80; omega
                  refine WF.region ?_
                  refine WL.va rfl rfl rfl (X.moveI rfl) ?_
                  refine WL.va rfl rfl rfl (X.fieldAddrO (off := 9) rfl Try.underlying25 rfl rfl Try.sizeOf3) ?_
                  refine WL.op rfl (OW.storeO (hO3.ext hx7) (Nat.le_of_ble_eq_true rfl) rfl rfl rfl Try.sizeOf3 ?_)
                  intro w82 hO3 hx84
                  have := World.grownBy.size hx84
                  replace hO6 := hO6.keptO hx84 (by omega)
                  replace hO3 := hO3.cast (mc_set x hn (by omega))
                  have hones : ∀ u ∈ mc (n.set 9 x) ok vE vD, u.oneCell' = true := mc_ones _ _ hE hD
                  refine WL.nil ?_
                  refine blk_n ?_
                  refine thn_n ?_
                  refine WF.seq ?_
                  refine WF.region ?_
                  refine WL.va rfl rfl rfl (X.loadOA hO3 (Ext.refl _) rfl rfl Try.isAgg25 Try.sizeOf25) ?_
                  refine WL.op rfl (OW.storeOA hO6 rfl rfl rfl hones Try.sizeOf25 ?_)
                  intro w86 hO6 hx88
                  have := World.grownBy.size hx88
                  replace hO3 := hO3.keptO hx88 (by omega)
                  refine WL.nil ?_
                  refine thn_n ?_
                  refine WF.ret ?_
                  refine finC_r (vs := [_]) ⟨⟨_, rfl, readO hO6 Try.isAgg25 Try.sizeOf25⟩, trivial⟩ ?_
                  exact ⟨(by rw [hfk]; rfl), (Ext.store (Ext.store (Ext.trans hx3 hx7) hx84 (by omega)) hx88 (by omega))⟩
                · have gh7_80 := (of_decide_eq_false h7_80)
                  have hn7 : p ≠ 7 := by have := gh7_80; omega
                  refine WF.seq ?_
                  refine WF.region ?_
                  refine WL.va rfl rfl rfl (X.eql rfl rfl) ?_
                  refine WL.va rfl rfl rfl (X.assignB rfl) ?_
                  refine WL.nil ?_
                  refine thn_n ?_
                  refine WF.cond rfl (fun h8_90 => ?_) (fun h8_90 => ?_)
                  · have gh8_90 := (of_decide_eq_true h8_90)
                    have hfk : p = 8 := by have := gh8_90; omega
                    refine WF.region ?_
                    refine WL.va rfl rfl rfl (X.moveI rfl) ?_
                    refine WL.va rfl rfl rfl (X.fieldAddrO (off := 10) rfl Try.underlying25 rfl rfl Try.sizeOf3) ?_
                    refine WL.op rfl (OW.storeO (hO3.ext hx7) (Nat.le_of_ble_eq_true rfl) rfl rfl rfl Try.sizeOf3 ?_)
                    intro w92 hO3 hx94
                    have := World.grownBy.size hx94
                    replace hO6 := hO6.keptO hx94 (by omega)
                    replace hO3 := hO3.cast (mc_set x hn (by omega))
                    have hones : ∀ u ∈ mc (n.set 10 x) ok vE vD, u.oneCell' = true := mc_ones _ _ hE hD
                    refine WL.nil ?_
                    refine blk_n ?_
                    refine thn_n ?_
                    refine WF.seq ?_
                    refine WF.region ?_
                    refine WL.va rfl rfl rfl (X.loadOA hO3 (Ext.refl _) rfl rfl Try.isAgg25 Try.sizeOf25) ?_
                    refine WL.op rfl (OW.storeOA hO6 rfl rfl rfl hones Try.sizeOf25 ?_)
                    intro w96 hO6 hx98
                    have := World.grownBy.size hx98
                    replace hO3 := hO3.keptO hx98 (by omega)
                    refine WL.nil ?_
                    refine thn_n ?_
                    refine WF.ret ?_
                    refine finC_r (vs := [_]) ⟨⟨_, rfl, readO hO6 Try.isAgg25 Try.sizeOf25⟩, trivial⟩ ?_
                    exact ⟨(by rw [hfk]; rfl), (Ext.store (Ext.store (Ext.trans hx3 hx7) hx94 (by omega)) hx98 (by omega))⟩
                  · have gh8_90 := (of_decide_eq_false h8_90)
                    have hn8 : p ≠ 8 := by have := gh8_90; omega
                    refine WF.seq ?_
                    refine WF.region ?_
                    refine WL.va rfl rfl rfl (X.eql rfl rfl) ?_
                    refine WL.va rfl rfl rfl (X.assignB rfl) ?_
                    refine WL.nil ?_
                    refine thn_n ?_
                    refine WF.cond rfl (fun h9_100 => ?_) (fun h9_100 => ?_)
                    · have gh9_100 := (of_decide_eq_true h9_100)
                      have hfk : p = 9 := by have := gh9_100; omega
                      refine WF.region ?_
                      refine WL.va rfl rfl rfl (X.moveI rfl) ?_
                      refine WL.va rfl rfl rfl (X.fieldAddrO (off := 11) rfl Try.underlying25 rfl rfl Try.sizeOf3) ?_
                      refine WL.op rfl (OW.storeO (hO3.ext hx7) (Nat.le_of_ble_eq_true rfl) rfl rfl rfl Try.sizeOf3 ?_)
                      intro w102 hO3 hx104
                      have := World.grownBy.size hx104
                      replace hO6 := hO6.keptO hx104 (by omega)
                      replace hO3 := hO3.cast (mc_set x hn (by omega))
                      have hones : ∀ u ∈ mc (n.set 11 x) ok vE vD, u.oneCell' = true := mc_ones _ _ hE hD
                      refine WL.nil ?_
                      refine blk_n ?_
                      refine thn_n ?_
                      refine WF.seq ?_
                      refine WF.region ?_
                      refine WL.va rfl rfl rfl (X.loadOA hO3 (Ext.refl _) rfl rfl Try.isAgg25 Try.sizeOf25) ?_
                      refine WL.op rfl (OW.storeOA hO6 rfl rfl rfl hones Try.sizeOf25 ?_)
                      intro w106 hO6 hx108
                      have := World.grownBy.size hx108
                      replace hO3 := hO3.keptO hx108 (by omega)
                      refine WL.nil ?_
                      refine thn_n ?_
                      refine WF.ret ?_
                      refine finC_r (vs := [_]) ⟨⟨_, rfl, readO hO6 Try.isAgg25 Try.sizeOf25⟩, trivial⟩ ?_
                      exact ⟨(by rw [hfk]; rfl), (Ext.store (Ext.store (Ext.trans hx3 hx7) hx104 (by omega)) hx108 (by omega))⟩
                    · have gh9_100 := (of_decide_eq_false h9_100)
                      have hn9 : p ≠ 9 := by have := gh9_100; omega
                      refine WF.seq ?_
                      refine WF.region ?_
                      refine WL.va rfl rfl rfl (X.eql rfl rfl) ?_
                      refine WL.va rfl rfl rfl (X.assignB rfl) ?_
                      refine WL.nil ?_
                      refine thn_n ?_
                      refine WF.cond rfl (fun h10_110 => ?_) (fun h10_110 => ?_)
                      · have gh10_110 := (of_decide_eq_true h10_110)
                        have hfk : p = 10 := by have := gh10_110; omega
                        refine WF.region ?_
                        refine WL.va rfl rfl rfl (X.moveI rfl) ?_
                        refine WL.va rfl rfl rfl (X.fieldAddrO (off := 12) rfl Try.underlying25 rfl rfl Try.sizeOf3) ?_
                        refine WL.op rfl (OW.storeO (hO3.ext hx7) (Nat.le_of_ble_eq_true rfl) rfl rfl rfl Try.sizeOf3 ?_)
                        intro w112 hO3 hx114
                        have := World.grownBy.size hx114
                        replace hO6 := hO6.keptO hx114 (by omega)
                        replace hO3 := hO3.cast (mc_set x hn (by omega))
                        have hones : ∀ u ∈ mc (n.set 12 x) ok vE vD, u.oneCell' = true := mc_ones _ _ hE hD
                        refine WL.nil ?_
                        refine blk_n ?_
                        refine thn_n ?_
                        refine WF.seq ?_
                        refine WF.region ?_
                        refine WL.va rfl rfl rfl (X.loadOA hO3 (Ext.refl _) rfl rfl Try.isAgg25 Try.sizeOf25) ?_
                        refine WL.op rfl (OW.storeOA hO6 rfl rfl rfl hones Try.sizeOf25 ?_)
                        intro w116 hO6 hx118
                        have := World.grownBy.size hx118
                        replace hO3 := hO3.keptO hx118 (by omega)
                        refine WL.nil ?_
                        refine thn_n ?_
                        refine WF.ret ?_
                        refine finC_r (vs := [_]) ⟨⟨_, rfl, readO hO6 Try.isAgg25 Try.sizeOf25⟩, trivial⟩ ?_
                        exact ⟨(by rw [hfk]; rfl), (Ext.store (Ext.store (Ext.trans hx3 hx7) hx114 (by omega)) hx118 (by omega))⟩
                      · have gh10_110 := (of_decide_eq_false h10_110)
                        have hn10 : p ≠ 10 := by have := gh10_110; omega
                        refine WF.seq ?_
                        refine WF.region ?_
                        refine WL.va rfl rfl rfl (X.eql rfl rfl) ?_
                        refine WL.va rfl rfl rfl (X.assignB rfl) ?_
                        refine WL.nil ?_
                        refine thn_n ?_
                        refine WF.cond rfl (fun h11_120 => ?_) (fun h11_120 => ?_)
                        · have gh11_120 := (of_decide_eq_true h11_120)
                          have hfk : p = 11 := by have := gh11_120; omega
                          refine WF.region ?_
                          refine WL.va rfl rfl rfl (X.moveI rfl) ?_
                          refine WL.va rfl rfl rfl (X.fieldAddrO (off := 1) rfl Try.underlying25 rfl rfl Try.sizeOf3) ?_
                          refine WL.op rfl (OW.storeO (hO3.ext hx7) (Nat.le_of_ble_eq_true rfl) rfl rfl rfl Try.sizeOf3 ?_)
                          intro w122 hO3 hx124
                          have := World.grownBy.size hx124
                          replace hO6 := hO6.keptO hx124 (by omega)
                          replace hO3 := hO3.cast (mc_set x hn (by omega))
                          have hones : ∀ u ∈ mc (n.set 1 x) ok vE vD, u.oneCell' = true := mc_ones _ _ hE hD
                          refine WL.nil ?_
                          refine blk_n ?_
                          refine thn_n ?_
                          refine WF.seq ?_
                          refine WF.region ?_
                          refine WL.va rfl rfl rfl (X.loadOA hO3 (Ext.refl _) rfl rfl Try.isAgg25 Try.sizeOf25) ?_
                          refine WL.op rfl (OW.storeOA hO6 rfl rfl rfl hones Try.sizeOf25 ?_)
                          intro w126 hO6 hx128
                          have := World.grownBy.size hx128
                          replace hO3 := hO3.keptO hx128 (by omega)
                          refine WL.nil ?_
                          refine thn_n ?_
                          refine WF.ret ?_
                          refine finC_r (vs := [_]) ⟨⟨_, rfl, readO hO6 Try.isAgg25 Try.sizeOf25⟩, trivial⟩ ?_
                          exact ⟨(by rw [hfk]; rfl), (Ext.store (Ext.store (Ext.trans hx3 hx7) hx124 (by omega)) hx128 (by omega))⟩
                        · have gh11_120 := (of_decide_eq_false h11_120)
                          have hn11 : p ≠ 11 := by have := gh11_120; omega
                          refine WF.seq ?_
                          refine WF.region ?_
                          refine WL.va rfl rfl rfl (X.eql rfl rfl) ?_
                          refine WL.va rfl rfl rfl (X.assignB rfl) ?_
                          refine WL.nil ?_
                          refine thn_n ?_
                          refine WF.cond rfl (fun h12_130 => ?_) (fun h12_130 => ?_)
                          · have gh12_130 := (of_decide_eq_true h12_130)
                            have hfk : p = 12 := by have := gh12_130; omega
                            refine WF.region ?_
                            refine WL.va rfl rfl rfl (X.moveI rfl) ?_
                            refine WL.va rfl rfl rfl (X.fieldAddrO (off := 2) rfl Try.underlying25 rfl rfl Try.sizeOf3) ?_
                            refine WL.op rfl (OW.storeO (hO3.ext hx7) (Nat.le_of_ble_eq_true rfl) rfl rfl rfl Try.sizeOf3 ?_)
                            intro w132 hO3 hx134
                            have := World.grownBy.size hx134
                            replace hO6 := hO6.keptO hx134 (by omega)
                            replace hO3 := hO3.cast (mc_set x hn (by omega))
                            have hones : ∀ u ∈ mc (n.set 2 x) ok vE vD, u.oneCell' = true := mc_ones _ _ hE hD
                            refine WL.nil ?_
                            refine blk_n ?_
                            refine thn_n ?_
                            refine WF.seq ?_
                            refine WF.region ?_
                            refine WL.va rfl rfl rfl (X.loadOA hO3 (Ext.refl _) rfl rfl Try.isAgg25 Try.sizeOf25) ?_
                            refine WL.op rfl (OW.storeOA hO6 rfl rfl rfl hones Try.sizeOf25 ?_)
                            intro w136 hO6 hx138
                            have := World.grownBy.size hx138
                            replace hO3 := hO3.keptO hx138 (by omega)
                            refine WL.nil ?_
                            refine thn_n ?_
                            refine WF.ret ?_
                            refine finC_r (vs := [_]) ⟨⟨_, rfl, readO hO6 Try.isAgg25 Try.sizeOf25⟩, trivial⟩ ?_
                            exact ⟨(by rw [hfk]; rfl), (Ext.store (Ext.store (Ext.trans hx3 hx7) hx134 (by omega)) hx138 (by omega))⟩
                          · have gh12_130 := (of_decide_eq_false h12_130)
                            have hn12 : p ≠ 12 := by have := gh12_130; omega
                            refine WF.seq ?_
                            refine WF.region ?_
                            refine WL.va rfl rfl rfl (X.eql rfl rfl) ?_
                            refine WL.va rfl rfl rfl (X.assignB rfl) ?_
                            refine WL.nil ?_
                            refine thn_n ?_
                            refine WF.cond rfl (fun h13_140 => ?_) (fun h13_140 => ?_)
                            · have gh13_140 := (of_decide_eq_true h13_140)
                              have hfk : p = 13 := by have := gh13_140; omega
                              refine WF.region ?_
                              refine WL.va rfl rfl rfl (X.moveI rfl) ?_
                              refine WL.va rfl rfl rfl (X.fieldAddrO (off := 0) rfl Try.underlying25 rfl rfl Try.sizeOf3) ?_
                              refine WL.op rfl (OW.storeO (hO3.ext hx7) (Nat.le_of_ble_eq_true rfl) rfl rfl rfl Try.sizeOf3 ?_)
                              intro w142 hO3 hx144
                              have := World.grownBy.size hx144
                              replace hO6 := hO6.keptO hx144 (by omega)
                              replace hO3 := hO3.cast (mc_set x hn (by omega))
                              have hones : ∀ u ∈ mc (n.set 0 x) ok vE vD, u.oneCell' = true := mc_ones _ _ hE hD
                              refine WL.nil ?_
                              refine blk_n ?_
                              refine thn_n ?_
                              refine WF.seq ?_
                              refine WF.region ?_
                              refine WL.va rfl rfl rfl (X.loadOA hO3 (Ext.refl _) rfl rfl Try.isAgg25 Try.sizeOf25) ?_
                              refine WL.op rfl (OW.storeOA hO6 rfl rfl rfl hones Try.sizeOf25 ?_)
                              intro w146 hO6 hx148
                              have := World.grownBy.size hx148
                              replace hO3 := hO3.keptO hx148 (by omega)
                              refine WL.nil ?_
                              refine thn_n ?_
                              refine WF.ret ?_
                              refine finC_r (vs := [_]) ⟨⟨_, rfl, readO hO6 Try.isAgg25 Try.sizeOf25⟩, trivial⟩ ?_
                              exact ⟨(by rw [hfk]; rfl), (Ext.store (Ext.store (Ext.trans hx3 hx7) hx144 (by omega)) hx148 (by omega))⟩
                            · have gh13_140 := (of_decide_eq_false h13_140)
                              have hn13 : p ≠ 13 := by have := gh13_140; omega
                              have := gh13_140; omega

set_option maxHeartbeats 2000000 in
theorem without_ok (n : List Int) (ok : Bool) (vE vD : Value) (p : Nat) (w : World) (hf : p < 14) (hn : n.length = 14) (hE : vE.oneCell' = true) (hD : vD.oneCell' = true) : FnOk Try.prog 61 [agg (mc n ok vE vD), i64 (p : Int)] w (fun r w' => r = agg (mc (if p = 11 ∨ p = 12 ∨ p = 13 then n else n.set (sc p) 0) (if p = 11 then false else ok) (if p = 12 then (.slice none 0 0) else vE) (if p = 13 then (.slice none 0 0) else vD)) ∧ Ext w w') := by
  refine FnOk.enterC (rs := [.cell 4 25]) Try.func61 rfl Try.ntmps61 Try.results61 rfl rfl ?_
  refine WF.seq ?_
  refine WF.region ?_
  refine WL.op rfl (OW.boxA (cs := (mc n ok vE vD)) rfl ?_ (by decide))
  intro g2 w1 heg2 hlg2 hO2 hx3
  have := World.grownBy.size hx3
  refine WL.op rfl (OW.allocO (cs := [i64 0, i64 0, i64 0, i64 0, i64 0, i64 0, i64 0, i64 0, i64 0, i64 0, i64 0, i64 0, i64 0, i64 0, .bool false, .slice none 0 0, .slice none 0 0]) Try.zeroValue25 rfl ?_ (by decide))
  intro g4 w5 heg4 hlg4 hO4 hx7
  have := World.grownBy.size hx7
  refine WL.nil ?_
  refine thn_n ?_
  refine WF.seq ?_
  refine WF.seq ?_
  refine WF.region ?_
  refine WL.va rfl rfl rfl (X.moveI rfl) ?_
  refine WL.nil ?_
  refine thn_n ?_
  refine WF.block ?_
  refine WF.seq ?_
  refine WF.region ?_
  refine WL.va rfl rfl rfl (X.eql rfl rfl) ?_
  refine WL.va rfl rfl rfl (X.assignB rfl) ?_
  refine WL.nil ?_
  refine thn_n ?_
  refine WF.cond rfl (fun h0_9 => ?_) (fun h0_9 => ?_)
  · have gh0_9 := (of_decide_eq_true h0_9)
    have hp : p = 11 := by have := gh0_9; omega
    refine WF.seq ?_
    refine WF.region ?_
    refine WL.va rfl rfl rfl (X.fieldAddrO (off := 14) rfl Try.underlying25 rfl rfl Try.sizeOf4) ?_
    refine WL.op rfl (OW.storeO (hO2.ext hx7) (Nat.le_of_ble_eq_true rfl) rfl rfl rfl Try.sizeOf4 ?_)
    intro w11 hO2 hx13
    have := World.grownBy.size hx13
    replace hO4 := hO4.keptO hx13 (by omega)
    replace hO2 : Blk _ _ _ (mc n false vE vD) := hO2
    refine WL.nil ?_
    refine thn_n ?_
    refine WF.seq ?_
    refine WF.region ?_
    refine WL.va rfl rfl rfl (X.loadOA hO2 (Ext.refl _) rfl rfl Try.isAgg25 Try.sizeOf25) ?_
    refine WL.op rfl (OW.storeOA hO4 rfl rfl rfl (mc_ones _ _ hE hD) Try.sizeOf25 ?_)
    intro w15 hO4 hx17
    have := World.grownBy.size hx17
    replace hO2 := hO2.keptO hx17 (by omega)
    refine WL.nil ?_
    refine thn_n ?_
    refine WF.ret ?_
    refine blk_r ?_
    refine thn_r ?_
    refine finC_r (vs := [_]) ⟨⟨_, rfl, readO hO4 Try.isAgg25 Try.sizeOf25⟩, trivial⟩ ?_
    exact ⟨(by rw [hp]; rfl), (Ext.store (Ext.store (Ext.trans hx3 hx7) hx13 (by omega)) hx17 (by omega))⟩
  · have gh0_9 := (of_decide_eq_false h0_9)
    have h11 : p ≠ 11 := by have := gh0_9; omega
    refine WF.seq ?_
    refine WF.region ?_
    refine WL.va rfl rfl rfl (X.eql rfl rfl) ?_
    refine WL.va rfl rfl rfl (X.assignB rfl) ?_
    refine WL.nil ?_
    refine thn_n ?_
    refine WF.cond rfl (fun h1_19 => ?_) (fun h1_19 => ?_)
    · have gh1_19 := (of_decide_eq_true h1_19)
      have hp : p = 12 := by have := gh1_19; omega
      refine WF.seq ?_
      refine WF.region ?_
      refine WL.va rfl rfl rfl (X.fieldAddrO (off := 15) rfl Try.underlying25 rfl rfl Try.sizeOf22) ?_
      refine WL.op rfl (OW.storeO (hO2.ext hx7) (Nat.le_of_ble_eq_true rfl) rfl rfl rfl Try.sizeOf22 ?_)
      intro w21 hO2 hx23
      have := World.grownBy.size hx23
      replace hO4 := hO4.keptO hx23 (by omega)
      replace hO2 : Blk _ _ _ (mc n ok (.slice none 0 0) vD) := hO2
      refine WL.nil ?_
      refine thn_n ?_
      refine WF.seq ?_
      refine WF.region ?_
      refine WL.va rfl rfl rfl (X.loadOA hO2 (Ext.refl _) rfl rfl Try.isAgg25 Try.sizeOf25) ?_
      refine WL.op rfl (OW.storeOA hO4 rfl rfl rfl (mc_ones _ _ rfl hD) Try.sizeOf25 ?_)
      intro w25 hO4 hx27
      have := World.grownBy.size hx27
      replace hO2 := hO2.keptO hx27 (by omega)
      refine WL.nil ?_
      refine thn_n ?_
      refine WF.ret ?_
      refine blk_r ?_
      refine thn_r ?_
      refine finC_r (vs := [_]) ⟨⟨_, rfl, readO hO4 Try.isAgg25 Try.sizeOf25⟩, trivial⟩ ?_
      exact ⟨(by rw [hp]; rfl), (Ext.store (Ext.store (Ext.trans hx3 hx7) hx23 (by omega)) hx27 (by omega))⟩
    · have gh1_19 := (of_decide_eq_false h1_19)
      have h12 : p ≠ 12 := by have := gh1_19; omega
      refine WF.seq ?_
      refine WF.region ?_
      refine WL.va rfl rfl rfl (X.eql rfl rfl) ?_
      refine WL.va rfl rfl rfl (X.assignB rfl) ?_
      refine WL.nil ?_
      refine thn_n ?_
      refine WF.cond rfl (fun h2_29 => ?_) (fun h2_29 => ?_)
      · have gh2_29 := (of_decide_eq_true h2_29)
        have hp : p = 13 := by have := gh2_29; omega
        refine WF.seq ?_
        refine WF.region ?_
        refine WL.va rfl rfl rfl (X.fieldAddrO (off := 16) rfl Try.underlying25 rfl rfl Try.sizeOf23) ?_
        refine WL.op rfl (OW.storeO (hO2.ext hx7) (Nat.le_of_ble_eq_true rfl) rfl rfl rfl Try.sizeOf23 ?_)
        intro w31 hO2 hx33
        have := World.grownBy.size hx33
        replace hO4 := hO4.keptO hx33 (by omega)
        replace hO2 : Blk _ _ _ (mc n ok vE (.slice none 0 0)) := hO2
        refine WL.nil ?_
        refine thn_n ?_
        refine WF.seq ?_
        refine WF.region ?_
        refine WL.va rfl rfl rfl (X.loadOA hO2 (Ext.refl _) rfl rfl Try.isAgg25 Try.sizeOf25) ?_
        refine WL.op rfl (OW.storeOA hO4 rfl rfl rfl (mc_ones _ _ hE rfl) Try.sizeOf25 ?_)
        intro w35 hO4 hx37
        have := World.grownBy.size hx37
        replace hO2 := hO2.keptO hx37 (by omega)
        refine WL.nil ?_
        refine thn_n ?_
        refine WF.ret ?_
        refine blk_r ?_
        refine thn_r ?_
        refine finC_r (vs := [_]) ⟨⟨_, rfl, readO hO4 Try.isAgg25 Try.sizeOf25⟩, trivial⟩ ?_
        exact ⟨(by rw [hp]; rfl), (Ext.store (Ext.store (Ext.trans hx3 hx7) hx33 (by omega)) hx37 (by omega))⟩
      · have gh2_29 := (of_decide_eq_false h2_29)
        have h13 : p ≠ 13 := by have := gh2_29; omega
        refine WF.skip ?_
        refine blk_n ?_
        refine thn_n ?_
        refine WF.seq ?_
        refine WF.region ?_
        refine WL.va rfl rfl rfl (X.loadOA hO2 hx7 rfl rfl Try.isAgg25 Try.sizeOf25) ?_
        refine WL.va rfl rfl rfl (X.moveI rfl) ?_
        refine WL.c rfl rfl rfl (X.call Try.call29 (evl_cons rfl (evl_cons rfl (evl_cons rfl evl_nil)))) (set_ok n ok vE vD p 0 _ (by omega) hn hE hD) ?_
        rintro v40 w39 ⟨rfl, hx41⟩
        have := World.grownBy.size hx41
        refine WL.op rfl (OW.storeOA (hO4.ext hx41) rfl rfl rfl (mc_ones _ _ hE hD) Try.sizeOf25 ?_)
        intro w42 hO4 hx44
        have := World.grownBy.size hx44
        replace hO2 := (hO2.ext (Ext.trans hx7 hx41)).keptO hx44 (by omega)
        refine WL.nil ?_
        refine thn_n ?_
        refine WF.ret ?_
        refine finC_r (vs := [_]) ⟨⟨_, rfl, readO hO4 Try.isAgg25 Try.sizeOf25⟩, trivial⟩ ?_
        exact ⟨(by rw [if_neg (show ¬ (p = 11 ∨ p = 12 ∨ p = 13) by omega), if_neg h11, if_neg h12, if_neg h13]; rfl), (Ext.trans hx3 (Ext.store (Ext.trans hx7 hx41) hx44 (by omega)))⟩

set_option maxHeartbeats 2000000 in
theorem hasF_ok (k : Int) (p : Nat) (w : World) (hp : p < 14) : FnOk Try.prog 83 [i64 k, i64 (p : Int)] w (fun r w' => r = .bool (hasF k p) ∧ Ext w w') := by
  have hlp : letters[p]'(show p < letters.length from hp) = lt p := by unfold lt; rw [List.getD_eq_getElem?_getD, List.getElem?_eq_getElem (show p < letters.length from hp)]; rfl
  refine FnOk.enter (rs := [4]) Try.func83 rfl Try.ntmps83 Try.results83 rfl rfl ?_
  refine WF.seq ?_
  refine WF.region ?_
  refine WL.va rfl rfl rfl (X.assignB rfl) ?_
  refine WL.nil ?_
  refine thn_n ?_
  refine WF.seq ?_
  refine WF.region ?_
  refine WL.op rfl (OW.lits (vs := rowsV) (evp_cons rfl (evp_cons rfl (evp_cons rfl (evp_cons rfl (evp_cons rfl (evp_cons rfl (evp_cons rfl (evp_cons rfl (evp_cons rfl (evp_cons rfl (evp_cons rfl (evp_cons rfl evp_nil)))))))))))) Try.underlying97 Try.sizeOf9 Try.zeroValue9 ⟨rfl, rfl, rfl, rfl, rfl, rfl, rfl, rfl, rfl, rfl, rfl, rfl, trivial⟩ rfl rfl rfl ?_ (by decide))
  intro v2 wr ho4 hx3
  have oR : World.ownsRow wr w.heap.size 9 1 v2 rowsV.length rowsV := ho4
  refine WL.va rfl rfl rfl (X.assign rfl) ?_
  refine WL.nil ?_
  refine thn_n ?_
  refine WF.seq ?_
  refine WF.seq ?_
  refine WF.region ?_
  refine WL.va rfl rfl rfl (X.moveI rfl) ?_
  refine WL.va rfl rfl rfl (X.lss rfl rfl) ?_
  refine WL.va rfl rfl rfl (X.moveB rfl) ?_
  refine WL.split (j := 2) rfl (fun h6 => ?_) (fun h6 => ?_)
  · have gh6 := (of_decide_eq_true h6)
    refine WL.p rfl rfl rfl (congrArg some h6) ?_
    refine WL.p rfl rfl rfl (congrArg some h6) ?_
    refine WL.va rfl rfl rfl (X.pickT rfl h6 rfl) ?_
    refine WL.nil ?_
    refine thn_n ?_
    refine WF.cond_t rfl ?_
    refine WF.seq ?_
    refine WF.region ?_
    refine WL.va rfl rfl rfl (X.assignB rfl) ?_
    refine WL.nil ?_
    refine thn_n ?_
    refine WF.ret ?_
    refine thn_r ?_
    refine fin_r ?_
    exact ⟨(by rw [show hasF k p = false from decide_eq_false (by rw [(places_empty k).2 (by omega)]; exact List.not_mem_nil)]; rfl), hx3⟩
  · have gh6 := (of_decide_eq_false h6)
    refine WL.vg rfl (congrArg some h6) rfl rfl (X.moveI rfl) ?_
    refine WL.vg rfl (congrArg some h6) rfl rfl (X.gtr rfl rfl) ?_
    refine WL.va rfl rfl rfl (X.pickF rfl h6 rfl) ?_
    refine WL.nil ?_
    refine thn_n ?_
    refine WF.cond rfl (fun h0_9 => ?_) (fun h0_9 => ?_)
    · have gh0_9 := (of_decide_eq_true h0_9)
      refine WF.seq ?_
      refine WF.region ?_
      refine WL.va rfl rfl rfl (X.assignB rfl) ?_
      refine WL.nil ?_
      refine thn_n ?_
      refine WF.ret ?_
      refine thn_r ?_
      refine fin_r ?_
      exact ⟨(by rw [show hasF k p = false from decide_eq_false (by rw [(places_empty k).2 (by omega)]; exact List.not_mem_nil)]; rfl), hx3⟩
    · have gh0_9 := (of_decide_eq_false h0_9)
      obtain ⟨kn, rfl⟩ := Int.eq_ofNat_of_zero_le (show 0 ≤ k by omega)
      have hk1 : 1 ≤ kn := by omega
      have hk2 : kn ≤ 11 := by omega
      have hlen := lets_len (kn : Int)
      have hpl7 := places_len (kn : Int)
      refine WF.skip ?_
      refine thn_n ?_
      refine WF.seq ?_
      refine WF.region ?_
      refine WL.va rfl rfl rfl (X.moveI rfl) ?_
      refine WL.va rfl rfl rfl (X.indexS (l := letters) (k := p) rfl rfl hp Try.underlying9) ?_
      refine WL.va rfl rfl rfl (X.assignI rfl) ?_
      refine WL.nil ?_
      refine thn_n ?_
      refine WF.seq ?_
      refine WF.seq ?_
      refine WF.region ?_
      refine WL.va rfl rfl rfl (X.assignI rfl) ?_
      refine WL.nil ?_
      refine thn_n ?_
      refine WF.block ?_
      refine WF.named (fun F12 hF13 => ?_)
      refine WF.loopN (fun mL0 f' w' => ∃ (j : Nat), mL0 = (lets (kn : Int)).length - j ∧ f' 7 = .int .i64 (j : Int) ∧ Agree [0, 1, 5, 6, 8, 9, 10, 11, 12, 13, 14, 15, 16] f' F12 ∧ Ext wr w' ∧ j ≤ (lets (kn : Int)).length ∧ ∀ i (hi : i < (places (kn : Int)).length), i < j → (places (kn : Int))[i] ≠ p) ?_ ?_
      · exact ⟨_, 0, rfl, (congrFun hF13 7), (Agree.refl _ _), (Ext.refl _), ⟨Nat.zero_le _, fun i _ hi => by omega⟩⟩
      · rintro mL0 fL0 wL0 ⟨j, hmL0, e7_L0, hAL0, hwL0, ⟨hj0, hall⟩⟩
        refine WF.seq ?_
        refine WF.seq ?_
        refine WF.region ?_
        refine WL.va rfl rfl rfl (X.moveI e7_L0) ?_
        refine WL.va rfl rfl rfl (X.move ((hAL0.eq 5).trans (congrFun hF13 5))) ?_
        refine WL.va rfl rfl rfl (X.moveI ((hAL0.eq 0).trans (congrFun hF13 0))) ?_
        refine WL.va rfl rfl rfl (X.idx (Row.of_own oR) rfl rfl (show kn < rowsV.length by show kn < 12; omega) Try.underlying97 Try.sizeOf9) ?_
        refine WL.va rfl rfl rfl (((X.load1 (Row.of_own oR) hwL0 rfl (show kn < rowsV.length by show kn < 12; omega) Try.isAgg9)).trans (by rw [rowsV_getD hk1 hk2])) ?_
        refine WL.va rfl rfl rfl (X.lenS rfl Try.underlying9 rfl) ?_
        refine WL.va rfl rfl rfl (X.lss rfl rfl) ?_
        refine WL.nil ?_
        refine thn_n ?_
        refine WF.cond rfl (fun h1_14 => ?_) (fun h1_14 => ?_)
        · have gh1_14 := (of_decide_eq_true h1_14)
          have hj : j < (lets (kn : Int)).length := by have := gh1_14; omega
          have hj2 : j < (places (kn : Int)).length := by omega
          refine WF.skip ?_
          refine thn_n ?_
          refine WF.seq ?_
          refine WF.block ?_
          refine WF.seq ?_
          refine WF.region ?_
          refine WL.va rfl rfl rfl (X.move ((hAL0.eq 5).trans (congrFun hF13 5))) ?_
          refine WL.va rfl rfl rfl (X.moveI ((hAL0.eq 0).trans (congrFun hF13 0))) ?_
          refine WL.va rfl rfl rfl (X.idx (Row.of_own oR) rfl rfl (show kn < rowsV.length by show kn < 12; omega) Try.underlying97 Try.sizeOf9) ?_
          refine WL.va rfl rfl rfl (((X.load1 (Row.of_own oR) hwL0 rfl (show kn < rowsV.length by show kn < 12; omega) Try.isAgg9)).trans (by rw [rowsV_getD hk1 hk2])) ?_
          refine WL.va rfl rfl rfl (X.moveI e7_L0) ?_
          refine WL.va rfl rfl rfl (X.indexS (l := (lets (kn : Int))) (k := j) rfl rfl hj Try.underlying9) ?_
          refine WL.va rfl rfl rfl (X.moveI ((hAL0.eq 6).trans (congrFun hF13 6))) ?_
          refine WL.va rfl rfl rfl (X.eql rfl rfl) ?_
          refine WL.nil ?_
          refine thn_n ?_
          refine WF.cond rfl (fun h2_16 => ?_) (fun h2_16 => ?_)
          · have gh2_16 := (of_decide_eq_true h2_16)
            have hin : p ∈ places (kn : Int) := by
              have h1 := lt_inj (places_lt (List.getElem_mem hj2)) hp (by rw [← lets_get hj, ← hlp]; exact u8_inj gh2_16)
              rw [← h1]; exact List.getElem_mem hj2
            refine WF.seq ?_
            refine WF.region ?_
            refine WL.va rfl rfl rfl (X.assignB rfl) ?_
            refine WL.nil ?_
            refine thn_n ?_
            refine WF.ret ?_
            refine blk_r ?_
            refine thn_r ?_
            refine thn_r ?_
            refine blk_r ?_
            refine thn_r ?_
            refine fin_r ?_
            exact ⟨(by rw [show hasF (kn : Int) p = true from decide_eq_true hin]; rfl), (Ext.trans hx3 hwL0)⟩
          · have gh2_16 := (of_decide_eq_false h2_16)
            have hne : (places (kn : Int))[j] ≠ p := fun e => gh2_16 (by rw [lets_get hj, e]; exact congrArg (fun z : UInt8 => (z.toNat : Int)) hlp.symm)
            refine WF.skip ?_
            refine blk_n ?_
            refine thn_n ?_
            refine WF.region ?_
            refine WL.va rfl rfl rfl (X.moveI e7_L0) ?_
            refine WL.va rfl rfl rfl (X.add rfl rfl (w64 (by omega))) ?_
            refine WL.va rfl rfl rfl (X.assignI rfl) ?_
            refine WL.nil ?_
            exact thn_n ⟨_, (by omega), j + 1, rfl, rfl, (by repeat (first | exact hAL0 | refine Agree.put ?_ rfl | refine Agree.named hF13 ?_)), hwL0, ⟨by omega, fun i hi hij => by
        rcases Nat.lt_succ_iff_lt_or_eq.1 hij with hq | rfl
        · exact hall i hi hq
        · exact hne⟩⟩
        · have gh1_14 := (of_decide_eq_false h1_14)
          refine WF.exit ?_
          refine thn_x ?_
          refine thn_x ?_
          refine blk_eq ?_
          refine thn_n ?_
          refine WF.seq ?_
          refine WF.region ?_
          refine WL.va rfl rfl rfl (X.assignB rfl) ?_
          refine WL.nil ?_
          refine thn_n ?_
          refine WF.ret ?_
          refine fin_r ?_
          have hnm : p ∉ places (kn : Int) := fun hm => by
            obtain ⟨i, hi, e⟩ := List.getElem_of_mem hm
            exact hall i hi (by omega) e
          exact ⟨(by rw [show hasF (kn : Int) p = false from decide_eq_false hnm]; rfl), (Ext.trans hx3 hwL0)⟩

/-- a message whose lists stand in blocks of a span -/
structure MgTT (w : World) (B T : Nat) (vE vD : Value) (m : Mg) : Prop where
  len : m.n.length = 14
  inn : ∀ k, rng (m.n.getD k 0)
  ein : ∀ e ∈ m.E, rng e.Term ∧ rng e.Kind
  E : ∃ E, E.map Prod.fst = m.E ∧ EOwnT w B T vE E
  D : OwnT w B T 5 1 vD m.D.length (m.D.map u8)
section
variable {w w' : World} {B T : Nat} {vE vD : Value} {m : Mg}
theorem MgTT.at (h : MgTT w B T vE vD m) : MgAt w vE vD m := by
  obtain ⟨E, hE, hW⟩ := h.E
  exact ⟨h.len, h.inn, h.ein, ⟨E, hE, Row.of_own hW.own.row, fun e he => Bytes.of_own (hW.own.data e he)⟩, Row.of_own h.D.own⟩
theorem MgTT.ext (h : MgTT w B T vE vD m) (g : Ext w w') : MgTT w' B T vE vD m := by
  obtain ⟨E, hE, hW⟩ := h.E
  exact ⟨h.len, h.inn, h.ein, ⟨E, hE, hW.ext g⟩, h.D.ext g⟩
theorem MgTT.keptO {g : Nat} (h : MgTT w B T vE vD m) (k : w.grownBy w' (some g)) (hne : g < B ∨ T ≤ g) : MgTT w' B T vE vD m := by
  obtain ⟨E, hE, hW⟩ := h.E
  exact ⟨h.len, h.inn, h.ein, ⟨E, hE, hW.keptO k hne⟩, h.D.keptO k hne⟩
theorem MgTT.ones (h : MgTT w B T vE vD m) : ∀ u ∈ mc m.n m.ok vE vD, u.oneCell' = true := h.at.ones
theorem MgTT.out (h : MgTT w B T vE vD m) (f : Nat) : MgTT w B T (if f = 12 then .slice none 0 0 else vE) (if f = 13 then .slice none 0 0 else vD) (outF m f) := by
  have h0 := outF_at h.at f
  refine ⟨h0.len, h0.inn, h0.ein, ?_, ?_⟩
  · unfold outF
    by_cases h1 : f = 11
    · subst h1; exact h.E
    · rw [if_neg h1]
      by_cases h2 : f = 12
      · subst h2; exact ⟨[], rfl, EOwn.nil _ _, (fun b hb => by cases hb), (fun e he => by cases he)⟩
      · rw [if_neg h2, if_neg h2]
        by_cases h3 : f = 13
        · subst h3; exact h.E
        · rw [if_neg h3]; exact h.E
  · unfold outF
    by_cases h1 : f = 11
    · subst h1; exact h.D
    · rw [if_neg h1]
      by_cases h2 : f = 12
      · subst h2; exact h.D
      · rw [if_neg h2]
        by_cases h3 : f = 13
        · subst h3; exact ⟨World.ownsRow_nil _ _ _ _, fun b hb => by cases hb⟩
        · rw [if_neg h3, if_neg h3]; exact h.D
theorem without_at (h : MgTT w B T vE vD m) {f : Nat} (hf : f < 14) : FnOk Try.prog 61 [agg (mc m.n m.ok vE vD), i64 (f : Int)] w (fun r w' => (∃ u v, r = agg (mc (outF m f).n (outF m f).ok u v) ∧ MgTT w' B T u v (outF m f)) ∧ Ext w w') :=
  (without_ok m.n m.ok vE vD f w hf h.len h.at.E.one (Row.one h.at.D)).mono fun r w' ⟨e, g⟩ => ⟨⟨_, _, e.trans (congrArg agg (outF_cells f)), (h.out f).ext g⟩, g⟩
end
/-- a message without a field, if its kind does not have it -/
def stepF (k : Int) (m : Mg) (f : Nat) : Mg := if chk m = 14 then (if hasF k f = true then m else outF m f) else m
def baseM (k : Int) : Mg := ⟨[k, 1, 102, 1, 2, 3, 4, 5, 6, 7, 3, 8, 1, 9], true, [⟨1, 2, [5]⟩, ⟨0, 0, []⟩], [1, 2]⟩
def fullM (k : Int) : Nat → Mg
  | 0 => baseM k
  | f + 1 => stepF k (fullM k f) f
theorem fullM_ok : ∀ k : Fin 11, chk (fullM (((k.val + 1 : Nat) : Int)) 14) = 0 := by decide +kernel
theorem fullM_zero (k : Int) : fullM k 0 = baseM k := rfl
theorem fullM_pos {k : Int} {f : Nat} (h : chk (fullM k f) = 14) : fullM k (f + 1) = (if hasF k f = true then fullM k f else outF (fullM k f) f) := if_pos h
theorem fullM_neg {k : Int} {f : Nat} (h : ¬ chk (fullM k f) = 14) : fullM k (f + 1) = fullM k f := if_neg h
attribute [irreducible] fullM
theorem base_rng {k : Int} (hk : rng k) : ∀ i, rng ((baseM k).n.getD i 0)
  | 0 => hk
  | 1 => (show rng (1 : Int) from ⟨by decide, by decide⟩)
  | 2 => (show rng (102 : Int) from ⟨by decide, by decide⟩)
  | 3 => (show rng (1 : Int) from ⟨by decide, by decide⟩)
  | 4 => (show rng (2 : Int) from ⟨by decide, by decide⟩)
  | 5 => (show rng (3 : Int) from ⟨by decide, by decide⟩)
  | 6 => (show rng (4 : Int) from ⟨by decide, by decide⟩)
  | 7 => (show rng (5 : Int) from ⟨by decide, by decide⟩)
  | 8 => (show rng (6 : Int) from ⟨by decide, by decide⟩)
  | 9 => (show rng (7 : Int) from ⟨by decide, by decide⟩)
  | 10 => (show rng (3 : Int) from ⟨by decide, by decide⟩)
  | 11 => (show rng (8 : Int) from ⟨by decide, by decide⟩)
  | 12 => (show rng (1 : Int) from ⟨by decide, by decide⟩)
  | 13 => (show rng (9 : Int) from ⟨by decide, by decide⟩)
  | i + 14 => by unfold baseM; simp only [List.getD_eq_getElem?_getD]; rw [List.getElem?_eq_none (by simp)]; exact ⟨by decide, by decide⟩
set_option maxHeartbeats 1000000 in
theorem keep_ok (n1 n2 : List Int) (o1 o2 : Bool) (e1 d1 e2 d2 : Value) (f : Nat) (k : Int) (w : World) (hf : f < 14) (h1 : e1.oneCell' = true) (h2 : d1.oneCell' = true) (h3 : e2.oneCell' = true) (h4 : d2.oneCell' = true) : FnOk Try.prog 62 [agg (mc n1 o1 e1 d1), agg (mc n2 o2 e2 d2), i64 (f : Int), i64 k] w (fun r w' => r = agg (mc (if hasF k f = true then n1 else n2) (if hasF k f = true then o1 else o2) (if hasF k f = true then e1 else e2) (if hasF k f = true then d1 else d2)) ∧ Ext w w') := by
  refine FnOk.enterC (rs := [.cell 8 25]) Try.func62 rfl Try.ntmps62 Try.results62 rfl rfl ?_
  refine WF.seq ?_
  refine WF.region ?_
  refine WL.op rfl (OW.boxA (cs := (mc n1 o1 e1 d1)) rfl ?_ (by decide))
  intro g4 w1 heg4 hlg4 hO4 hx3
  have := World.grownBy.size hx3
  refine WL.op rfl (OW.boxA (cs := (mc n2 o2 e2 d2)) rfl ?_ (by decide))
  intro g5 w5 heg5 hlg5 hO5 hx7
  have := World.grownBy.size hx7
  refine WL.op rfl (OW.allocO (cs := [i64 0, i64 0, i64 0, i64 0, i64 0, i64 0, i64 0, i64 0, i64 0, i64 0, i64 0, i64 0, i64 0, i64 0, .bool false, .slice none 0 0, .slice none 0 0]) Try.zeroValue25 rfl ?_ (by decide))
  intro g8 w9 heg8 hlg8 hO8 hx11
  have := World.grownBy.size hx11
  refine WL.nil ?_
  refine thn_n ?_
  refine WF.seq ?_
  refine WF.seq ?_
  refine WF.region ?_
  refine WL.va rfl rfl rfl (X.moveI rfl) ?_
  refine WL.va rfl rfl rfl (X.moveI rfl) ?_
  refine WL.c rfl rfl rfl (X.call Try.call83 (evl_cons rfl (evl_cons rfl evl_nil))) (hasF_ok k f _ hf) ?_
  rintro v14 w13 ⟨rfl, hx15⟩
  have := World.grownBy.size hx15
  refine WL.nil ?_
  refine thn_n ?_
  refine WF.cond rfl (fun h0_16 => ?_) (fun h0_16 => ?_)
  · have gh0_16 := h0_16
    have hh : hasF k f = true := gh0_16
    refine WF.seq ?_
    refine WF.region ?_
    refine WL.va rfl rfl rfl (X.loadOA hO4 (Ext.trans (Ext.trans hx7 hx11) hx15) rfl rfl Try.isAgg25 Try.sizeOf25) ?_
    refine WL.op rfl (OW.storeOA (hO8.ext hx15) rfl rfl rfl (mc_ones _ _ h1 h2) Try.sizeOf25 ?_)
    intro w18 hO8 hx20
    have := World.grownBy.size hx20
    replace hO4 := (hO4.ext (Ext.trans (Ext.trans hx7 hx11) hx15)).keptO hx20 (by omega)
    replace hO5 := (hO5.ext (Ext.trans hx11 hx15)).keptO hx20 (by omega)
    refine WL.nil ?_
    refine thn_n ?_
    refine WF.ret ?_
    refine thn_r ?_
    refine finC_r (vs := [_]) ⟨⟨_, rfl, readO hO8 Try.isAgg25 Try.sizeOf25⟩, trivial⟩ ?_
    exact ⟨(by simp only [if_pos hh]; rfl), (Ext.trans (Ext.trans hx3 hx7) (Ext.store (Ext.trans hx11 hx15) hx20 (by omega)))⟩
  · have gh0_16 := h0_16
    have hh : ¬ hasF k f = true := fun e => by have := gh0_16; rw [e] at this; cases this
    refine WF.skip ?_
    refine thn_n ?_
    refine WF.seq ?_
    refine WF.region ?_
    refine WL.va rfl rfl rfl (X.loadOA hO5 (Ext.trans hx11 hx15) rfl rfl Try.isAgg25 Try.sizeOf25) ?_
    refine WL.op rfl (OW.storeOA (hO8.ext hx15) rfl rfl rfl (mc_ones _ _ h3 h4) Try.sizeOf25 ?_)
    intro w22 hO8 hx24
    have := World.grownBy.size hx24
    replace hO4 := (hO4.ext (Ext.trans (Ext.trans hx7 hx11) hx15)).keptO hx24 (by omega)
    replace hO5 := (hO5.ext (Ext.trans hx11 hx15)).keptO hx24 (by omega)
    refine WL.nil ?_
    refine thn_n ?_
    refine WF.ret ?_
    refine finC_r (vs := [_]) ⟨⟨_, rfl, readO hO8 Try.isAgg25 Try.sizeOf25⟩, trivial⟩ ?_
    exact ⟨(by simp only [if_neg hh]; rfl), (Ext.trans (Ext.trans hx3 hx7) (Ext.store (Ext.trans hx11 hx15) hx24 (by omega)))⟩

set_option maxHeartbeats 2000000 in
theorem full_ok (k : Int) (w : World) (hk : rng k) : FnOk Try.prog 28 [i64 k] w (fun r w' => (∃ vE vD, r = agg (mc (fullM k 14).n (fullM k 14).ok vE vD) ∧ MgAt w' vE vD (fullM k 14)) ∧ Ext w w') := by
  refine FnOk.enterC (rs := [.cell 2 25]) Try.func28 rfl Try.ntmps28 Try.results28 rfl rfl ?_
  refine WF.seq ?_
  refine WF.region ?_
  refine WL.op rfl (OW.allocO (cs := [i64 0, i64 0, i64 0, i64 0, i64 0, i64 0, i64 0, i64 0, i64 0, i64 0, i64 0, i64 0, i64 0, i64 0, .bool false, .slice none 0 0, .slice none 0 0]) Try.zeroValue25 rfl ?_ (by decide))
  intro g2 w1 heg2 hlg2 hO2 hx2
  have := World.grownBy.size hx2
  refine WL.nil ?_
  refine thn_n ?_
  refine WF.seq ?_
  refine WF.region ?_
  refine WL.va rfl rfl rfl (X.moveI rfl) ?_
  refine WL.op rfl (OW.lits (vs := [u8 5]) (evp_cons rfl evp_nil) Try.underlying23 Try.sizeOf5 Try.zeroValue5 ⟨rfl, trivial⟩ rfl rfl rfl ?_ (by decide))
  intro v5 w5a ho5 hx4
  have := World.grownBy.size hx4
  have o5 : OwnB w5a w1.heap.size 5 v5 [5] := own_mono ho5 (by omega)
  have hz5 := World.grownBy.size hx4
  refine WL.va rfl rfl rfl (X.buildL (P := Try.prog) (t := 57) (cs := (EV.c (⟨1, 2, [5]⟩, v5))) (evp_cons rfl (evp_cons rfl (evp_cons rfl evp_nil))) Try.type57 Try.underlying57 rfl rfl ⟨rfl, rfl, own_one o5, trivial⟩ rfl) ?_
  refine WL.va rfl rfl rfl (X.buildL (P := Try.prog) (t := 57) (cs := (EV.c (⟨0, 0, []⟩, (.slice none 0 0)))) evp_nil Try.type57 Try.underlying57 rfl rfl trivial rfl) ?_
  refine WL.op rfl (OW.lits (vs := [agg (EV.c (⟨1, 2, [5]⟩, v5)), agg (EV.c (⟨0, 0, []⟩, (.slice none 0 0)))]) (evp_cons rfl (evp_cons rfl evp_nil)) Try.underlying22 Try.sizeOf57 Try.zeroValue57 ⟨rfl, rfl, trivial⟩ rfl rfl rfl ?_ (by decide))
  intro vE0 wEa ho7 hx6
  have := World.grownBy.size hx6
  have o6 := own_ext o5 hx6
  have hzE := World.grownBy.size hx6
  have oREb : World.ownsRow wEa w5a.heap.size 57 3 vE0 2 (EV.c (⟨1, 2, [5]⟩, v5) ++ EV.c (⟨0, 0, []⟩, (.slice none 0 0))) := ho7
  have oRE : World.ownsRow wEa w1.heap.size 57 3 vE0 2 (EV.c (⟨1, 2, [5]⟩, v5) ++ EV.c (⟨0, 0, []⟩, (.slice none 0 0))) := own_mono oREb (by omega)
  have oE0 : EOwn wEa w1.heap.size vE0 [(⟨1, 2, [5]⟩, v5), (⟨0, 0, []⟩, (.slice none 0 0))] := ⟨oRE, (fun e he => by
      simp only [List.mem_cons, List.not_mem_nil, or_false] at he
      rcases he with rfl | rfl
      · exact o6
      · exact World.ownsRow_nil _ _ _ _), (fun e he => by
      simp only [List.mem_cons, List.not_mem_nil, or_false] at he
      rcases he with rfl | rfl
      · exact fun b h1 h2 => by have := (o5.lt b h1).2; have := (oREb.lt b h2).1; omega
      · exact fun b h1 _ => by cases h1), (by simp [Apart, Value.ownBlock])⟩
  refine WL.op rfl (OW.lits (vs := [u8 1, u8 2]) (evp_cons rfl (evp_cons rfl evp_nil)) Try.underlying23 Try.sizeOf5 Try.zeroValue5 ⟨rfl, rfl, trivial⟩ rfl rfl rfl ?_ (by decide))
  intro vD0 wDa ho9 hx8
  have := World.grownBy.size hx8
  have oD0 : OwnB wDa w1.heap.size 5 vD0 [1, 2] := own_mono ho9 (by omega)
  have oE1 := oE0.ext hx8
  have hM0 : MgTT wDa w1.heap.size (wDa).heap.size vE0 vD0 (baseM k) := ⟨rfl, base_rng hk, (fun e he => by simp only [baseM, List.mem_cons, List.not_mem_nil, or_false] at he; rcases he with rfl | rfl <;> exact ⟨⟨by decide, by decide⟩, by decide, by decide⟩), ⟨[(⟨1, 2, [5]⟩, v5), (⟨0, 0, []⟩, (.slice none 0 0))], rfl, EOwnT.of oE1⟩, OwnT.of oD0⟩
  refine WL.va rfl rfl rfl (X.buildT (P := Try.prog) (t := 25) (cs := (mc (baseM k).n (baseM k).ok vE0 vD0)) (zs := [i64 0, i64 0, i64 0, i64 0, i64 0, i64 0, i64 0, i64 0, i64 0, i64 0, i64 0, i64 0, i64 0, i64 0, .bool false, .slice none 0 0, .slice none 0 0]) (places := [(0, 1), (1, 1), (2, 1), (3, 1), (4, 1), (5, 1), (6, 1), (7, 1), (8, 1), (9, 1), (10, 1), (11, 1), (12, 1), (13, 1), (14, 1), (15, 1), (16, 1)]) (n := 17) (evp_cons rfl (evp_cons rfl (evp_cons rfl (evp_cons rfl (evp_cons rfl (evp_cons rfl (evp_cons rfl (evp_cons rfl (evp_cons rfl (evp_cons rfl (evp_cons rfl (evp_cons rfl (evp_cons rfl (evp_cons rfl (evp_cons rfl (evp_cons rfl (evp_cons rfl evp_nil))))))))))))))))) Try.type25 Try.underlying25 rfl rfl ⟨rfl, rfl, rfl, rfl, rfl, rfl, rfl, rfl, rfl, rfl, rfl, rfl, rfl, rfl, rfl, own_one oRE, own_one oD0, trivial⟩ rfl rfl rfl) ?_
  refine WL.op rfl (OW.allocO (cs := [i64 0, i64 0, i64 0, i64 0, i64 0, i64 0, i64 0, i64 0, i64 0, i64 0, i64 0, i64 0, i64 0, i64 0, .bool false, .slice none 0 0, .slice none 0 0]) Try.zeroValue25 rfl ?_ (by decide))
  intro g3 w10 heg3 hlg3 hO3 hx12
  have := World.grownBy.size hx12
  have hM0b := hM0.ext hx12
  refine WL.op rfl (OW.storeOA hO3 rfl rfl rfl hM0.ones Try.sizeOf25 ?_)
  intro w14 hO3 hx16
  have := World.grownBy.size hx16
  replace hO2 := (hO2.ext (Ext.trans (Ext.trans (Ext.trans hx4 hx6) hx8) hx12)).keptO hx16 (by omega)
  have hM1 := hM0b.keptO hx16 (.inr (by omega))
  refine WL.nil ?_
  refine thn_n ?_
  refine WF.seq ?_
  refine WF.seq ?_
  refine WF.region ?_
  refine WL.va rfl rfl rfl (X.assignI rfl) ?_
  refine WL.nil ?_
  refine thn_n ?_
  refine WF.block ?_
  refine WF.named (fun F18 hF19 => ?_)
  refine WF.loopN (fun mL0 f' w' => ∃ (f : Nat) (vE vD : Value), mL0 = 14 - f ∧ f' 4 = .int .i64 (f : Int) ∧ Agree [0, 2, 3, 6, 7, 8, 9, 10, 11, 12] f' F18 ∧ Ext w1 w' ∧ f ≤ 14 ∧ Blk w' g3 25 (mc (fullM k f).n (fullM k f).ok vE vD) ∧ Blk w' g2 25 (mc noMg.n noMg.ok (.slice none 0 0) (.slice none 0 0)) ∧ MgTT w' w1.heap.size wDa.heap.size vE vD (fullM k f) ∧ wDa.heap.size ≤ w'.heap.size) ?_ ?_
  · exact ⟨_, 0, _, _, rfl, (congrFun hF19 4), (Agree.refl _ _), (Ext.trans (Ext.trans (Ext.trans hx4 hx6) hx8) (Ext.store hx12 hx16 (by omega))), ⟨Nat.zero_le _, by rw [fullM_zero]; exact hO3, hO2, by rw [fullM_zero]; exact hM1, by omega⟩⟩
  · rintro mL0 fL0 wL0 ⟨f, vE, vD, hmL0, e4_L0, hAL0, hwL0, ⟨hf0, hO3, hO2, hM, hDz⟩⟩
    have := World.grownBy.size hwL0
    have hO3l := hO3.lt
    have hO2l := hO2.lt
    refine WF.seq ?_
    refine WF.seq ?_
    refine WF.region ?_
    refine WL.va rfl rfl rfl (X.moveI e4_L0) ?_
    refine WL.va rfl rfl rfl (X.lss rfl rfl) ?_
    refine WL.nil ?_
    refine thn_n ?_
    refine WF.cond rfl (fun h0_20 => ?_) (fun h0_20 => ?_)
    · have gh0_20 := (of_decide_eq_true h0_20)
      refine WF.skip ?_
      refine thn_n ?_
      refine WF.seq ?_
      refine WF.block ?_
      refine WF.seq ?_
      refine WF.region ?_
      refine WL.va rfl rfl rfl (X.loadOA hO3 (Ext.refl _) ((hAL0.eq 3).trans (congrFun hF19 3)) rfl Try.isAgg25 Try.sizeOf25) ?_
      refine WL.va rfl rfl rfl (X.moveI e4_L0) ?_
      refine WL.c rfl rfl rfl (X.call Try.call61 (evl_cons rfl (evl_cons rfl evl_nil))) (without_at hM (by omega)) ?_
      rintro v22 wX ⟨⟨u, v, rfl, hX⟩, hx23⟩
      have := World.grownBy.size hx23
      have hMx := hM.ext hx23
      refine WL.op rfl (OW.allocO (cs := [i64 0, i64 0, i64 0, i64 0, i64 0, i64 0, i64 0, i64 0, i64 0, i64 0, i64 0, i64 0, i64 0, i64 0, .bool false, .slice none 0 0, .slice none 0 0]) Try.zeroValue25 rfl ?_ (by decide))
      intro g5 w24 heg5 hlg5 hO5 hx26
      have := World.grownBy.size hx26
      have hXb := hX.ext hx26
      have hMb := hMx.ext hx26
      refine WL.op rfl (OW.storeOA hO5 rfl rfl rfl hX.ones Try.sizeOf25 ?_)
      intro wS hO5 hx29
      have := World.grownBy.size hx29
      replace hO2 := (hO2.ext (Ext.trans hx23 hx26)).keptO hx29 (by omega)
      replace hO3 := (hO3.ext (Ext.trans hx23 hx26)).keptO hx29 (by omega)
      have hX2 := hXb.keptO hx29 (.inr (by omega))
      have hM2 := hMb.keptO hx29 (.inr (by omega))
      refine WL.nil ?_
      refine thn_n ?_
      refine WF.seq ?_
      refine WF.region ?_
      refine WL.va rfl rfl rfl (X.loadOA hO3 (Ext.refl _) ((hAL0.eq 3).trans (congrFun hF19 3)) rfl Try.isAgg25 Try.sizeOf25) ?_
      refine WL.c rfl rfl rfl (X.call Try.call13 (evl_cons rfl evl_nil)) (check_ok _ _ _ _ (hM2.at.ext (Ext.refl wS))) ?_
      rintro v32 w31 ⟨rfl, hx33⟩
      have := World.grownBy.size hx33
      refine WL.va rfl rfl rfl (X.eql rfl rfl) ?_
      refine WL.nil ?_
      refine thn_n ?_
      refine WF.cond rfl (fun h1_34 => ?_) (fun h1_34 => ?_)
      · have gh1_34 := (of_decide_eq_true h1_34)
        have hc14 : chk (fullM k f) = 14 := gh1_34
        refine WF.region ?_
        refine WL.va rfl rfl rfl (X.loadOA hO3 hx33 ((hAL0.eq 3).trans (congrFun hF19 3)) rfl Try.isAgg25 Try.sizeOf25) ?_
        refine WL.va rfl rfl rfl (X.loadOA hO5 hx33 rfl rfl Try.isAgg25 Try.sizeOf25) ?_
        refine WL.va rfl rfl rfl (X.moveI e4_L0) ?_
        refine WL.va rfl rfl rfl (X.moveI ((hAL0.eq 0).trans (congrFun hF19 0))) ?_
        have hM3 := hM2.ext hx33
        have hX3 := hX2.ext hx33
        refine WL.c rfl rfl rfl (X.call Try.call62 (evl_cons rfl (evl_cons rfl (evl_cons rfl (evl_cons rfl evl_nil))))) (keep_ok (fullM k f).n (outF (fullM k f) f).n (fullM k f).ok (outF (fullM k f) f).ok vE vD u v f k _ (by omega) hM2.at.E.one (Row.one hM2.at.D) hX2.at.E.one (Row.one hX2.at.D)) ?_
        rintro v36 wK ⟨rfl, hx37⟩
        have := World.grownBy.size hx37
        obtain ⟨xE, xD, hcs, hN⟩ : ∃ xE xD, mc (if hasF k f = true then (fullM k f).n else (outF (fullM k f) f).n) (if hasF k f = true then (fullM k f).ok else (outF (fullM k f) f).ok) (if hasF k f = true then vE else u) (if hasF k f = true then vD else v) = (mc (fullM k (f + 1)).n (fullM k (f + 1)).ok xE xD) ∧ MgTT wK w1.heap.size wDa.heap.size xE xD (fullM k (f + 1)) := by
          have hst : fullM k (f + 1) = (if hasF k f = true then fullM k f else outF (fullM k f) f) := fullM_pos hc14
          rw [hst]
          by_cases hh : hasF k f = true
          · simp only [if_pos hh]; exact ⟨vE, vD, rfl, hM3.ext hx37⟩
          · simp only [if_neg hh]; exact ⟨u, v, rfl, hX3.ext hx37⟩
        refine WL.op rfl (OW.storeOA (hO3.ext (Ext.trans hx33 hx37)) ((hAL0.eq 3).trans (congrFun hF19 3)) rfl rfl (by rw [hcs]; exact hN.ones) Try.sizeOf25 ?_)
        intro w38 hO3 hx40
        have := World.grownBy.size hx40
        replace hO2 := (hO2.ext (Ext.trans hx33 hx37)).keptO hx40 (by omega)
        replace hO5 := (hO5.ext (Ext.trans hx33 hx37)).keptO hx40 (by omega)
        have hO3n := hO3.cast hcs
        have hNext := hN.keptO hx40 (.inr (by omega))
        refine WL.nil ?_
        refine blk_n ?_
        refine thn_n ?_
        refine WF.region ?_
        refine WL.va rfl rfl rfl (X.moveI e4_L0) ?_
        refine WL.va rfl rfl rfl (X.add rfl rfl (w64 (by omega))) ?_
        refine WL.va rfl rfl rfl (X.assignI rfl) ?_
        refine WL.nil ?_
        exact thn_n ⟨_, (by omega), f + 1, _, _, rfl, rfl, (by repeat (first | exact hAL0 | refine Agree.put ?_ rfl | refine Agree.named hF19 ?_)), (Ext.store (Ext.trans (Ext.trans (Ext.trans (Ext.trans hwL0 hx23) (Ext.store hx26 hx29 (by omega))) hx33) hx37) hx40 (by omega)), ⟨by omega, hO3n, hO2, hNext, by omega⟩⟩
      · have gh1_34 := (of_decide_eq_false h1_34)
        have hst : fullM k (f + 1) = fullM k f := fullM_neg gh1_34
        have hNext : MgTT w31 w1.heap.size wDa.heap.size vE vD (fullM k (f + 1)) := by rw [hst]; exact hM2.ext hx33
        have hO3n : Blk w31 g3 25 (mc (fullM k (f + 1)).n (fullM k (f + 1)).ok vE vD) := by rw [hst]; exact (hO3.ext hx33)
        refine WF.skip ?_
        refine blk_n ?_
        refine thn_n ?_
        refine WF.region ?_
        refine WL.va rfl rfl rfl (X.moveI e4_L0) ?_
        refine WL.va rfl rfl rfl (X.add rfl rfl (w64 (by omega))) ?_
        refine WL.va rfl rfl rfl (X.assignI rfl) ?_
        refine WL.nil ?_
        exact thn_n ⟨_, (by omega), f + 1, _, _, rfl, rfl, (by repeat (first | exact hAL0 | refine Agree.put ?_ rfl | refine Agree.named hF19 ?_)), (Ext.trans (Ext.trans (Ext.trans hwL0 hx23) (Ext.store hx26 hx29 (by omega))) hx33), ⟨by omega, hO3n, (hO2.ext hx33), hNext, by omega⟩⟩
    · have gh0_20 := (of_decide_eq_false h0_20)
      obtain rfl : f = 14 := by omega
      refine WF.exit ?_
      refine thn_x ?_
      refine thn_x ?_
      refine blk_eq ?_
      refine thn_n ?_
      refine WF.seq ?_
      refine WF.region ?_
      refine WL.va rfl rfl rfl (X.loadOA hO3 (Ext.refl _) ((hAL0.eq 3).trans (congrFun hF19 3)) rfl Try.isAgg25 Try.sizeOf25) ?_
      refine WL.op rfl (OW.storeOA hO2 ((hAL0.eq 2).trans (congrFun hF19 2)) rfl rfl hM.ones Try.sizeOf25 ?_)
      intro w42 hO2 hx44
      have := World.grownBy.size hx44
      replace hO3 := hO3.keptO hx44 (by omega)
      have hMz := hM.keptO hx44 (.inl (by omega))
      refine WL.nil ?_
      refine thn_n ?_
      refine WF.ret ?_
      refine finC_r (vs := [_]) ⟨⟨_, ((hAL0.eq 2).trans (congrFun hF19 2)), readO hO2 Try.isAgg25 Try.sizeOf25⟩, trivial⟩ ?_
      exact ⟨⟨_, _, rfl, hMz.at⟩, (Ext.store (Ext.trans hx2 hwL0) hx44 (by omega))⟩

end Go.Proofs.Ytccbpfbcaogcnaa
