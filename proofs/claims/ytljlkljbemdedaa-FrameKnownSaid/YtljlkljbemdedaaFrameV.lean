/- The walks of FrameTurned and FrameKnown. -/
import Derived.Test.YtljlkljbemdedaaFrameW
import Derived.Test.YtljlkljbemdedaaFrt
namespace Go.Proofs.Ytljlkljbemdedaa
open Go Go.RowKit Kf

theorem q8 {q : Nat} (h : q ≤ 4611686018427387904) : IntKind.i64.wrap ((q : Int).tdiv 8) = ((q / 8 : Nat) : Int) := by
  rw [Int.tdiv_eq_ediv_of_nonneg (by omega)]
  rw [w64 (by omega)]; omega
theorem q8m (q : Nat) : (q : Int).tmod 8 = ((q % 8 : Nat) : Int) := by
  rw [Int.tmod_eq_emod_of_nonneg (by omega)]; omega
theorem frameTurned_walk (v : Value) (p : List UInt8) (at0 : Int) (m : BitVec 32) (w : World) (hb : Bytes w v p) (hz : p.length ≤ 140737488351232) (hat : -9223372036854775808 ≤ at0 ∧ at0 ≤ 9223372036854775807) : FnOk Try.prog 12 [v, i64 at0, u32 m] w (fun r w' => r = .bool true ∧ Ext w w') := by
  refine FnOk.enter (rs := [6]) Try.func12 rfl Try.ntmps12 Try.results12 rfl rfl ?_
  refine WF.seq ?_
  refine WF.region ?_
  refine WL.va rfl rfl rfl (X.assignB rfl) ?_
  refine WL.nil ?_
  refine thn_n ?_
  refine WF.seq ?_
  refine WF.region ?_
  refine WL.va rfl rfl rfl (X.move rfl) ?_
  refine WL.c rfl rfl rfl (X.call Try.call23 (evl_cons rfl evl_nil)) (put_ok _ _ _ hb) ?_
  rintro v3 w2 ⟨⟨x1, rfl, o1⟩, hx4⟩
  refine WL.va rfl rfl rfl (X.move rfl) ?_
  refine WL.va rfl rfl rfl (X.extract rfl rfl) ?_
  refine WL.va rfl rfl rfl (X.extract rfl rfl) ?_
  refine WL.va rfl rfl rfl (X.assign rfl) ?_
  refine WL.va rfl rfl rfl (X.assignI rfl) ?_
  refine WL.nil ?_
  refine thn_n ?_
  refine WF.seq ?_
  refine WF.seq ?_
  refine WF.region ?_
  refine WL.va rfl rfl rfl (X.moveI rfl) ?_
  refine WL.va rfl rfl rfl (X.neq rfl rfl) ?_
  refine WL.nil ?_
  refine thn_n ?_
  refine WF.cond rfl (fun h0_5 => ?_) (fun h0_5 => ?_)
  · have gh0_5 := (of_decide_eq_true h0_5)
    refine WF.seq ?_
    refine WF.region ?_
    refine WL.c rfl rfl rfl (X.call Try.call29 evl_nil) (known3_ok _) ?_
    rintro v8 w7 ⟨rfl, hx9⟩
    refine WL.va rfl rfl rfl (X.assignB rfl) ?_
    refine WL.nil ?_
    refine thn_n ?_
    refine WF.ret ?_
    refine thn_r ?_
    refine fin_r ?_
    first | exact ⟨rfl, (Ext.trans hx4 hx9)⟩ | (exfalso; omega)
  · have gh0_5 := (Decidable.of_not_not (of_decide_eq_false h0_5))
    have hp65 : p.length ≤ 65536 := (by by_cases h : p.length ≤ 65536; exact h; exfalso; rw [Frm.put_long h] at gh0_5; exact absurd gh0_5 (by decide))
    have hput := Frm.put_ok (p := p) hp65
    have hlen : (Frm.put p).1.length = 8 + p.length := by rw [hput]; simp [Frm.head_len]
    refine WF.skip ?_
    refine thn_n ?_
    refine WF.seq ?_
    refine WF.seq ?_
    refine WF.region ?_
    refine WL.va rfl rfl rfl (X.move rfl) ?_
    refine WL.va rfl rfl rfl (X.len (Bytes.of_own o1) rfl Try.underlying22) ?_
    refine WL.va rfl rfl rfl (X.lss rfl rfl) ?_
    refine WL.nil ?_
    refine thn_n ?_
    refine WF.cond rfl (fun h1_11 => ?_) (fun h1_11 => ?_)
    · have gh1_11 := (of_decide_eq_true h1_11)
      exfalso; omega
    · have gh1_11 := (of_decide_eq_false h1_11)
      refine WF.skip ?_
      refine thn_n ?_
      refine WF.seq ?_
      refine WF.region ?_
      refine WL.va rfl rfl rfl (X.moveI rfl) ?_
      refine WL.va rfl rfl rfl (X.move rfl) ?_
      refine WL.va rfl rfl rfl (X.len (Bytes.of_own o1) rfl Try.underlying22) ?_
      refine WL.va rfl rfl rfl (X.mul rfl rfl (w64 (by omega))) ?_
      refine WL.c rfl rfl rfl (X.call Try.call22 (evl_cons rfl (evl_cons rfl evl_nil))) (pick_ok _ _ _ hat (by omega)) ?_
      rintro v14 w13 ⟨⟨q0, rfl, hp0, hp1⟩, rfl⟩
      have hq := hp1 (by omega)
      obtain ⟨q, rfl⟩ := Int.eq_ofNat_of_zero_le hq.1
      refine WL.va rfl rfl rfl (X.assignI rfl) ?_
      refine WL.nil ?_
      refine thn_n ?_
      refine WF.seq ?_
      refine WF.seq ?_
      refine WF.region ?_
      refine WL.va rfl rfl rfl (X.moveI rfl) ?_
      refine WL.va rfl rfl rfl (X.lss rfl rfl) ?_
      refine WL.nil ?_
      refine thn_n ?_
      refine WF.cond rfl (fun h2_16 => ?_) (fun h2_16 => ?_)
      · have gh2_16 := (of_decide_eq_true h2_16)
        refine WF.seq ?_
        refine WF.region ?_
        refine WL.va rfl rfl rfl (X.move rfl) ?_
        refine WL.va rfl rfl rfl (X.moveI rfl) ?_
        refine WL.va rfl rfl rfl (X.quo rfl rfl (by omega) (q8 (by omega))) ?_
        refine WL.va rfl rfl rfl (X.move rfl) ?_
        refine WL.va rfl rfl rfl (X.moveI rfl) ?_
        refine WL.va rfl rfl rfl (X.quo rfl rfl (by omega) (q8 (by omega))) ?_
        refine WL.va rfl rfl rfl (X.idx (Bytes.of_own o1) rfl rfl (by omega) Try.underlying22 Try.sizeOf5) ?_
        refine WL.va rfl rfl rfl (X.loadB (Bytes.of_own o1) (Ext.refl _) rfl (by omega) Try.isAgg5) ?_
        refine WL.va rfl rfl rfl (X.moveI rfl) ?_
        refine WL.va rfl rfl rfl (X.rem rfl rfl (by omega) (q8m _)) ?_
        refine WL.va rfl rfl rfl (X.conv rfl (congrArg Option.isSome Try.underlying3) Try.underlying31 (wu64 (by omega))) ?_
        refine WL.va rfl rfl rfl (X.shl rfl rfl (by omega) (shl8 _ (by omega) (by omega))) ?_
        refine WL.va rfl rfl rfl (X.xor rfl rfl (xor8 _ _)) ?_
        refine WL.va rfl rfl rfl (X.idx (Bytes.of_own o1) rfl rfl (by omega) Try.underlying22 Try.sizeOf5) ?_
        refine WL.op rfl (OW.storeB o1 (by omega) rfl rfl Try.sizeOf5 ?_)
        intro w18 ho21 hx20
        obtain ⟨C, hC, hc1⟩ : ∃ C, C = (Frm.put p).1.set (q / 8) ((Frm.put p).1.getD (q / 8) 0 ^^^ one8 (q % 8)) ∧ OwnB w18 w.heap.size 5 x1 C := ⟨_, rfl, ho21⟩
        refine WL.nil ?_
        refine thn_n ?_
        refine WF.seq ?_
        refine WF.region ?_
        refine WL.va rfl rfl rfl (X.move rfl) ?_
        refine WL.c rfl rfl rfl (X.call Try.call25 (evl_cons rfl evl_nil)) (get_ok _ _ _ (Bytes.of_own hc1)) ?_
        rintro v23 w22 ⟨⟨x2, rfl, o2⟩, hx24⟩
        have hget := turned_len hp65 (q := q) (by omega) hC
        have hget2 : ((Frm.get C).2.2 ≠ 0 ∧ (Frm.get C).2.1 = 0 ∧ (Frm.get C).1.length = 0) ∨ _ := hget.imp (fun h => ⟨h.1, h.2.1, by rw [h.2.2]; rfl⟩) id
        have hcl : C.length = 8 + p.length := by rw [hC]; simp [hlen]
        refine WL.va rfl rfl rfl (X.move rfl) ?_
        refine WL.va rfl rfl rfl (X.extract rfl rfl) ?_
        refine WL.va rfl rfl rfl (X.extract rfl rfl) ?_
        refine WL.va rfl rfl rfl (X.extract rfl rfl) ?_
        refine WL.va rfl rfl rfl (X.assign rfl) ?_
        refine WL.va rfl rfl rfl (X.assignI rfl) ?_
        refine WL.va rfl rfl rfl (X.assignI rfl) ?_
        refine WL.nil ?_
        refine thn_n ?_
        refine WF.seq ?_
        refine WF.region ?_
        refine WL.va rfl rfl rfl (X.moveI rfl) ?_
        refine WL.va rfl rfl rfl (X.neq rfl rfl) ?_
        refine WL.va rfl rfl rfl (X.moveB rfl) ?_
        refine WL.split (j := 2) rfl (fun h26 => ?_) (fun h26 => ?_)
        · have gh26 := (of_decide_eq_true h26)
          refine WL.vg rfl (congrArg some h26) rfl rfl (X.moveI rfl) ?_
          refine WL.vg rfl (congrArg some h26) rfl rfl (X.eql rfl rfl) ?_
          refine WL.va rfl rfl rfl (X.pickT rfl h26 rfl) ?_
          refine WL.va rfl rfl rfl (X.moveB rfl) ?_
          refine WL.split (j := 6) rfl (fun h28 => ?_) (fun h28 => ?_)
          · have gh28 := (of_decide_eq_true h28)
            refine WL.vg rfl (congrArg some h28) rfl rfl (X.move rfl) ?_
            refine WL.vg rfl (congrArg some h28) rfl rfl (X.len (Bytes.of_own o2) rfl Try.underlying22) ?_
            refine WL.vg rfl (congrArg some h28) rfl rfl (X.eql rfl rfl) ?_
            refine WL.va rfl rfl rfl (X.pickT rfl h28 rfl) ?_
            refine WL.va rfl rfl rfl (X.moveB rfl) ?_
            refine WL.split (j := 11) rfl (fun h30 => ?_) (fun h30 => ?_)
            · have gh30 := (of_decide_eq_true h30)
              refine WL.p rfl rfl rfl (congrArg some h30) ?_
              refine WL.p rfl rfl rfl (congrArg some h30) ?_
              refine WL.p rfl rfl rfl (congrArg some h30) ?_
              refine WL.pn rfl rfl rfl rfl ?_
              refine WL.pn rfl rfl rfl rfl ?_
              refine WL.pn rfl rfl rfl rfl ?_
              refine WL.pn rfl rfl rfl rfl ?_
              refine WL.p rfl rfl rfl (congrArg some h30) ?_
              refine WL.va rfl rfl rfl (X.pickT rfl h30 rfl) ?_
              refine WL.va rfl rfl rfl (X.moveB rfl) ?_
              refine WL.cg rfl rfl rfl rfl (X.call Try.call29 evl_nil) (known3_ok _) ?_
              rintro v33 w32 ⟨rfl, hx34⟩
              refine WL.va rfl rfl rfl (X.pickT rfl rfl rfl) ?_
              refine WL.va rfl rfl rfl (X.assignB rfl) ?_
              refine WL.nil ?_
              refine thn_n ?_
              refine WF.ret ?_
              refine thn_r ?_
              refine fin_r ?_
              first | exact ⟨rfl, (Ext.trans (Ext.trans (Ext.own hx4 o1 (Nat.le_refl _) hx20) hx24) hx34)⟩ | (exfalso; omega)
            · have gh30 := (of_decide_eq_false h30)
              refine WL.vg rfl (congrArg some h30) rfl rfl (X.moveI rfl) ?_
              refine WL.vg rfl (congrArg some h30) rfl rfl (X.eql rfl rfl) ?_
              refine WL.vg rfl (congrArg some h30) rfl rfl (X.moveB rfl) ?_
              refine WL.split (j := 14) rfl (fun h37 => ?_) (fun h37 => ?_)
              · have gh37 := (of_decide_eq_true h37)
                refine WL.vg rfl (congrArg some h37) rfl rfl (X.moveI rfl) ?_
                refine WL.vg rfl (congrArg some h37) rfl rfl (X.move rfl) ?_
                refine WL.vg rfl (congrArg some h37) rfl rfl (X.len (Bytes.of_own o1) rfl Try.underlying22) ?_
                refine WL.vg rfl (congrArg some h37) rfl rfl (X.lss rfl rfl) ?_
                refine WL.vg rfl (congrArg some h30) rfl rfl (X.pickT rfl h37 rfl) ?_
                refine WL.va rfl rfl rfl (X.pickF rfl h30 rfl) ?_
                refine WL.va rfl rfl rfl (X.moveB rfl) ?_
                refine WL.split (j := 21) rfl (fun h39 => ?_) (fun h39 => ?_)
                · have gh39 := (of_decide_eq_true h39)
                  refine WL.cg rfl (congrArg some h39) rfl rfl (X.call Try.call29 evl_nil) (known3_ok _) ?_
                  rintro v41 w40 ⟨rfl, hx42⟩
                  refine WL.va rfl rfl rfl (X.pickT rfl h39 rfl) ?_
                  refine WL.va rfl rfl rfl (X.assignB rfl) ?_
                  refine WL.nil ?_
                  refine thn_n ?_
                  refine WF.ret ?_
                  refine thn_r ?_
                  refine fin_r ?_
                  first | exact ⟨rfl, (Ext.trans (Ext.trans (Ext.own hx4 o1 (Nat.le_refl _) hx20) hx24) hx42)⟩ | (exfalso; omega)
                · have gh39 := (of_decide_eq_false h39)
                  refine WL.p rfl rfl rfl (congrArg some h39) ?_
                  refine WL.va rfl rfl rfl (X.pickF rfl h39 rfl) ?_
                  refine WL.va rfl rfl rfl (X.assignB rfl) ?_
                  refine WL.nil ?_
                  refine thn_n ?_
                  refine WF.ret ?_
                  refine thn_r ?_
                  refine fin_r ?_
                  first | exact ⟨rfl, (Ext.trans (Ext.own hx4 o1 (Nat.le_refl _) hx20) hx24)⟩ | (exfalso; omega)
              · have gh37 := (of_decide_eq_false h37)
                refine WL.p rfl rfl rfl (congrArg some h37) ?_
                refine WL.p rfl rfl rfl (congrArg some h37) ?_
                refine WL.p rfl rfl rfl (congrArg some h37) ?_
                refine WL.p rfl rfl rfl (congrArg some h37) ?_
                refine WL.vg rfl (congrArg some h30) rfl rfl (X.pickF rfl h37 rfl) ?_
                refine WL.va rfl rfl rfl (X.pickF rfl h30 rfl) ?_
                refine WL.va rfl rfl rfl (X.moveB rfl) ?_
                refine WL.p rfl rfl rfl rfl ?_
                refine WL.va rfl rfl rfl (X.pickF rfl rfl rfl) ?_
                refine WL.va rfl rfl rfl (X.assignB rfl) ?_
                refine WL.nil ?_
                refine thn_n ?_
                refine WF.ret ?_
                refine thn_r ?_
                refine fin_r ?_
                first | exact ⟨rfl, (Ext.trans (Ext.own hx4 o1 (Nat.le_refl _) hx20) hx24)⟩ | (exfalso; omega)
          · have gh28 := (of_decide_eq_false h28)
            refine WL.p rfl rfl rfl (congrArg some h28) ?_
            refine WL.p rfl rfl rfl (congrArg some h28) ?_
            refine WL.p rfl rfl rfl (congrArg some h28) ?_
            refine WL.va rfl rfl rfl (X.pickF rfl h28 rfl) ?_
            refine WL.va rfl rfl rfl (X.moveB rfl) ?_
            refine WL.vg rfl rfl rfl rfl (X.moveI rfl) ?_
            refine WL.vg rfl rfl rfl rfl (X.eql rfl rfl) ?_
            refine WL.vg rfl rfl rfl rfl (X.moveB rfl) ?_
            refine WL.split (j := 14) rfl (fun h49 => ?_) (fun h49 => ?_)
            · have gh49 := (of_decide_eq_true h49)
              refine WL.vg rfl (congrArg some h49) rfl rfl (X.moveI rfl) ?_
              refine WL.vg rfl (congrArg some h49) rfl rfl (X.move rfl) ?_
              refine WL.vg rfl (congrArg some h49) rfl rfl (X.len (Bytes.of_own o1) rfl Try.underlying22) ?_
              refine WL.vg rfl (congrArg some h49) rfl rfl (X.lss rfl rfl) ?_
              refine WL.vg rfl rfl rfl rfl (X.pickT rfl h49 rfl) ?_
              refine WL.va rfl rfl rfl (X.pickF rfl rfl rfl) ?_
              refine WL.va rfl rfl rfl (X.moveB rfl) ?_
              refine WL.split (j := 21) rfl (fun h51 => ?_) (fun h51 => ?_)
              · have gh51 := (of_decide_eq_true h51)
                refine WL.cg rfl (congrArg some h51) rfl rfl (X.call Try.call29 evl_nil) (known3_ok _) ?_
                rintro v53 w52 ⟨rfl, hx54⟩
                refine WL.va rfl rfl rfl (X.pickT rfl h51 rfl) ?_
                refine WL.va rfl rfl rfl (X.assignB rfl) ?_
                refine WL.nil ?_
                refine thn_n ?_
                refine WF.ret ?_
                refine thn_r ?_
                refine fin_r ?_
                first | exact ⟨rfl, (Ext.trans (Ext.trans (Ext.own hx4 o1 (Nat.le_refl _) hx20) hx24) hx54)⟩ | (exfalso; omega)
              · have gh51 := (of_decide_eq_false h51)
                refine WL.p rfl rfl rfl (congrArg some h51) ?_
                refine WL.va rfl rfl rfl (X.pickF rfl h51 rfl) ?_
                refine WL.va rfl rfl rfl (X.assignB rfl) ?_
                refine WL.nil ?_
                refine thn_n ?_
                refine WF.ret ?_
                refine thn_r ?_
                refine fin_r ?_
                first | exact ⟨rfl, (Ext.trans (Ext.own hx4 o1 (Nat.le_refl _) hx20) hx24)⟩ | (exfalso; omega)
            · have gh49 := (of_decide_eq_false h49)
              refine WL.p rfl rfl rfl (congrArg some h49) ?_
              refine WL.p rfl rfl rfl (congrArg some h49) ?_
              refine WL.p rfl rfl rfl (congrArg some h49) ?_
              refine WL.p rfl rfl rfl (congrArg some h49) ?_
              refine WL.vg rfl rfl rfl rfl (X.pickF rfl h49 rfl) ?_
              refine WL.va rfl rfl rfl (X.pickF rfl rfl rfl) ?_
              refine WL.va rfl rfl rfl (X.moveB rfl) ?_
              refine WL.p rfl rfl rfl rfl ?_
              refine WL.va rfl rfl rfl (X.pickF rfl rfl rfl) ?_
              refine WL.va rfl rfl rfl (X.assignB rfl) ?_
              refine WL.nil ?_
              refine thn_n ?_
              refine WF.ret ?_
              refine thn_r ?_
              refine fin_r ?_
              first | exact ⟨rfl, (Ext.trans (Ext.own hx4 o1 (Nat.le_refl _) hx20) hx24)⟩ | (exfalso; omega)
        · have gh26 := (Decidable.of_not_not (of_decide_eq_false h26))
          refine WL.p rfl rfl rfl (congrArg some h26) ?_
          refine WL.p rfl rfl rfl (congrArg some h26) ?_
          refine WL.va rfl rfl rfl (X.pickF rfl h26 rfl) ?_
          refine WL.va rfl rfl rfl (X.moveB rfl) ?_
          refine WL.p rfl rfl rfl rfl ?_
          refine WL.p rfl rfl rfl rfl ?_
          refine WL.p rfl rfl rfl rfl ?_
          refine WL.va rfl rfl rfl (X.pickF rfl rfl rfl) ?_
          refine WL.va rfl rfl rfl (X.moveB rfl) ?_
          refine WL.vg rfl rfl rfl rfl (X.moveI rfl) ?_
          refine WL.vg rfl rfl rfl rfl (X.eql rfl rfl) ?_
          refine WL.vg rfl rfl rfl rfl (X.moveB rfl) ?_
          refine WL.split (j := 14) rfl (fun h62 => ?_) (fun h62 => ?_)
          · have gh62 := (of_decide_eq_true h62)
            refine WL.vg rfl (congrArg some h62) rfl rfl (X.moveI rfl) ?_
            refine WL.vg rfl (congrArg some h62) rfl rfl (X.move rfl) ?_
            refine WL.vg rfl (congrArg some h62) rfl rfl (X.len (Bytes.of_own o1) rfl Try.underlying22) ?_
            refine WL.vg rfl (congrArg some h62) rfl rfl (X.lss rfl rfl) ?_
            refine WL.vg rfl rfl rfl rfl (X.pickT rfl h62 rfl) ?_
            refine WL.va rfl rfl rfl (X.pickF rfl rfl rfl) ?_
            refine WL.va rfl rfl rfl (X.moveB rfl) ?_
            refine WL.split (j := 21) rfl (fun h64 => ?_) (fun h64 => ?_)
            · have gh64 := (of_decide_eq_true h64)
              refine WL.cg rfl (congrArg some h64) rfl rfl (X.call Try.call29 evl_nil) (known3_ok _) ?_
              rintro v66 w65 ⟨rfl, hx67⟩
              refine WL.va rfl rfl rfl (X.pickT rfl h64 rfl) ?_
              refine WL.va rfl rfl rfl (X.assignB rfl) ?_
              refine WL.nil ?_
              refine thn_n ?_
              refine WF.ret ?_
              refine thn_r ?_
              refine fin_r ?_
              first | exact ⟨rfl, (Ext.trans (Ext.trans (Ext.own hx4 o1 (Nat.le_refl _) hx20) hx24) hx67)⟩ | (exfalso; omega)
            · have gh64 := (of_decide_eq_false h64)
              refine WL.p rfl rfl rfl (congrArg some h64) ?_
              refine WL.va rfl rfl rfl (X.pickF rfl h64 rfl) ?_
              refine WL.va rfl rfl rfl (X.assignB rfl) ?_
              refine WL.nil ?_
              refine thn_n ?_
              refine WF.ret ?_
              refine thn_r ?_
              refine fin_r ?_
              first | exact ⟨rfl, (Ext.trans (Ext.own hx4 o1 (Nat.le_refl _) hx20) hx24)⟩ | (exfalso; omega)
          · have gh62 := (of_decide_eq_false h62)
            refine WL.p rfl rfl rfl (congrArg some h62) ?_
            refine WL.p rfl rfl rfl (congrArg some h62) ?_
            refine WL.p rfl rfl rfl (congrArg some h62) ?_
            refine WL.p rfl rfl rfl (congrArg some h62) ?_
            refine WL.vg rfl rfl rfl rfl (X.pickF rfl h62 rfl) ?_
            refine WL.va rfl rfl rfl (X.pickF rfl rfl rfl) ?_
            refine WL.va rfl rfl rfl (X.moveB rfl) ?_
            refine WL.p rfl rfl rfl rfl ?_
            refine WL.va rfl rfl rfl (X.pickF rfl rfl rfl) ?_
            refine WL.va rfl rfl rfl (X.assignB rfl) ?_
            refine WL.nil ?_
            refine thn_n ?_
            refine WF.ret ?_
            refine thn_r ?_
            refine fin_r ?_
            first | exact ⟨rfl, (Ext.trans (Ext.own hx4 o1 (Nat.le_refl _) hx20) hx24)⟩ | (exfalso; omega)
      · have gh2_16 := (of_decide_eq_false h2_16)
        refine WF.skip ?_
        refine thn_n ?_
        refine WF.seq ?_
        refine WF.region ?_
        refine WL.va rfl rfl rfl (X.assignI rfl) ?_
        refine WL.va rfl rfl rfl (X.assignI rfl) ?_
        refine WL.nil ?_
        refine thn_n ?_
        refine WF.seq ?_
        refine WF.seq ?_
        refine WF.region ?_
        refine WL.va rfl rfl rfl (X.moveI rfl) ?_
        refine WL.va rfl rfl rfl (X.geq rfl rfl) ?_
        refine WL.nil ?_
        refine thn_n ?_
        refine WF.cond rfl (fun h3_72 => ?_) (fun h3_72 => ?_)
        · have gh3_72 := (of_decide_eq_true h3_72)
          obtain ⟨fr, to, hfr, hto, hft⟩ : ∃ fr to, fr = 8 ∧ to = (Frm.put p).1.length ∧ ((fr = 4 ∧ to = 8) ∨ (fr = 8 ∧ to = (Frm.put p).1.length ∧ 64 ≤ q)) := ⟨_, _, rfl, rfl, by omega⟩
          refine WF.region ?_
          refine WL.va rfl rfl rfl (X.move rfl) ?_
          refine WL.va rfl rfl rfl (X.len (Bytes.of_own o1) rfl Try.underlying22) ?_
          refine WL.va rfl rfl rfl (X.assignI rfl) ?_
          refine WL.va rfl rfl rfl (X.assignI rfl) ?_
          refine WL.nil ?_
          refine thn_n ?_
          refine WF.seq ?_
          refine WF.region ?_
          refine WL.va rfl rfl rfl (X.assignI rfl) ?_
          refine WL.nil ?_
          refine thn_n ?_
          refine WF.seq ?_
          refine WF.seq ?_
          refine WF.region ?_
          refine WL.va rfl rfl rfl (X.assignI rfl) ?_
          refine WL.nil ?_
          refine thn_n ?_
          refine WF.block ?_
          refine WF.named (fun F74 hF75 => ?_)
          refine WF.loopN (fun mL0 f' w' => ∃ (i : Nat) (n : Nat) (C : List UInt8), mL0 = 32 - i ∧ f' 15 = .int .i64 (i : Int) ∧ f' 14 = .int .i64 (n : Int) ∧ Agree [0, 1, 2, 6, 7, 8, 12, 13, 20, 21, 22, 23, 24, 25, 26, 28, 29, 30, 31, 32, 33, 34, 35, 36, 37, 82, 83, 84, 85] f' F74 ∧ Ext w w' ∧ i ≤ 32 ∧ OwnB w' w.heap.size 5 x1 C ∧ Turned2 (Frm.put p).1 C q m fr to i n) ?_ ?_
          · exact ⟨_, 0, 0, _, rfl, (congrFun hF75 15), (congrFun hF75 14), (Agree.refl _ _), hx4, ⟨by omega, o1, Turned2.start _ _ _ _ _⟩⟩
          · rintro mL0 fL0 wL0 ⟨i, n, C, hmL0, e15_L0, e14_L0, hAL0, hwL0, ⟨hi, hc, ht⟩⟩
            have hcl := ht.len
            have hcle := ht.le
            refine WF.seq ?_
            refine WF.seq ?_
            refine WF.region ?_
            refine WL.va rfl rfl rfl (X.moveI e15_L0) ?_
            refine WL.va rfl rfl rfl (X.lss rfl rfl) ?_
            refine WL.nil ?_
            refine thn_n ?_
            refine WF.cond rfl (fun h4_76 => ?_) (fun h4_76 => ?_)
            · have gh4_76 := (of_decide_eq_true h4_76)
              refine WF.skip ?_
              refine thn_n ?_
              refine WF.seq ?_
              refine WF.block ?_
              refine WF.seq ?_
              refine WF.region ?_
              refine WL.va rfl rfl rfl (X.moveI ((hAL0.eq 1).trans (congrFun hF75 1))) ?_
              refine WL.va rfl rfl rfl (X.moveI e15_L0) ?_
              refine WL.va rfl rfl rfl (X.add rfl rfl (w64 (by omega))) ?_
              refine WL.va rfl rfl rfl (X.assignI rfl) ?_
              refine WL.nil ?_
              refine thn_n ?_
              refine WF.seq ?_
              refine WF.region ?_
              refine WL.va rfl rfl rfl (X.moveI ((hAL0.eq 2).trans (congrFun hF75 2))) ?_
              refine WL.va rfl rfl rfl (X.moveI e15_L0) ?_
              refine WL.va rfl rfl rfl (X.conv rfl (congrArg Option.isSome Try.underlying3) Try.underlying31 (wu64 (by omega))) ?_
              refine WL.va rfl rfl rfl (X.shr rfl rfl (by omega) rfl) ?_
              refine WL.va rfl rfl rfl (X.rem rfl rfl (by omega) (low_div m i (by omega))) ?_
              refine WL.va rfl rfl rfl (X.eql rfl rfl) ?_
              refine WL.va rfl rfl rfl (X.moveB rfl) ?_
              refine WL.split (j := 6) rfl (fun h79 => ?_) (fun h79 => ?_)
              · have gh79 := (of_decide_eq_true h79)
                try have hbit := bit_of1 gh79
                refine WL.vg rfl (congrArg some h79) rfl rfl (X.moveI rfl) ?_
                refine WL.vg rfl (congrArg some h79) rfl rfl (X.quo rfl rfl (by omega) (k8 (by omega))) ?_
                refine WL.vg rfl (congrArg some h79) rfl rfl (X.moveI ((hAL0.eq 12).trans (congrFun hF75 12))) ?_
                refine WL.vg rfl (congrArg some h79) rfl rfl (X.geq rfl rfl) ?_
                refine WL.va rfl rfl rfl (X.pickT rfl h79 rfl) ?_
                refine WL.va rfl rfl rfl (X.moveB rfl) ?_
                refine WL.split (j := 12) rfl (fun h81 => ?_) (fun h81 => ?_)
                · have gh81 := (of_decide_eq_true h81)
                  try have hbit := bit_of1 gh81
                  refine WL.vg rfl (congrArg some h81) rfl rfl (X.moveI rfl) ?_
                  refine WL.vg rfl (congrArg some h81) rfl rfl (X.quo rfl rfl (by omega) (k8 (by omega))) ?_
                  refine WL.vg rfl (congrArg some h81) rfl rfl (X.moveI ((hAL0.eq 13).trans (congrFun hF75 13))) ?_
                  refine WL.vg rfl (congrArg some h81) rfl rfl (X.lss rfl rfl) ?_
                  refine WL.va rfl rfl rfl (X.pickT rfl h81 rfl) ?_
                  refine WL.nil ?_
                  refine thn_n ?_
                  refine WF.cond rfl (fun h5_82 => ?_) (fun h5_82 => ?_)
                  · have gh5_82 := (of_decide_eq_true h5_82)
                    refine WF.seq ?_
                    refine WF.region ?_
                    refine WL.va rfl rfl rfl (X.move ((hAL0.eq 7).trans (congrFun hF75 7))) ?_
                    refine WL.va rfl rfl rfl (X.moveI rfl) ?_
                    refine WL.va rfl rfl rfl (X.quo rfl rfl (by omega) (k8 (by omega))) ?_
                    refine WL.va rfl rfl rfl (X.move ((hAL0.eq 7).trans (congrFun hF75 7))) ?_
                    refine WL.va rfl rfl rfl (X.moveI rfl) ?_
                    refine WL.va rfl rfl rfl (X.quo rfl rfl (by omega) (k8 (by omega))) ?_
                    refine WL.va rfl rfl rfl (X.idx (Bytes.of_own hc) rfl rfl (by omega) Try.underlying22 Try.sizeOf5) ?_
                    refine WL.va rfl rfl rfl (X.loadB (Bytes.of_own hc) (Ext.refl _) rfl (by omega) Try.isAgg5) ?_
                    refine WL.va rfl rfl rfl (X.moveI rfl) ?_
                    refine WL.va rfl rfl rfl (X.rem rfl rfl (by omega) (k8m _ _)) ?_
                    refine WL.va rfl rfl rfl (X.conv rfl (congrArg Option.isSome Try.underlying3) Try.underlying31 (wu64 (by omega))) ?_
                    refine WL.va rfl rfl rfl (X.shl rfl rfl (by omega) (shl8 _ (by omega) (by omega))) ?_
                    refine WL.va rfl rfl rfl (X.xor rfl rfl (xor8 _ _)) ?_
                    refine WL.va rfl rfl rfl (X.idx (Bytes.of_own hc) rfl rfl (by omega) Try.underlying22 Try.sizeOf5) ?_
                    refine WL.op rfl (OW.storeB hc (by omega) rfl rfl Try.sizeOf5 ?_)
                    intro w84 ho87 hx86
                    have hc1 := ho87
                    refine WL.nil ?_
                    refine thn_n ?_
                    refine WF.region ?_
                    refine WL.va rfl rfl rfl (X.moveI e14_L0) ?_
                    refine WL.va rfl rfl rfl (X.add rfl rfl (w64 (by omega))) ?_
                    refine WL.va rfl rfl rfl (X.assignI rfl) ?_
                    refine WL.nil ?_
                    refine blk_n ?_
                    refine thn_n ?_
                    refine WF.region ?_
                    refine WL.va rfl rfl rfl (X.moveI e15_L0) ?_
                    refine WL.va rfl rfl rfl (X.add rfl rfl (w64 (by omega))) ?_
                    refine WL.va rfl rfl rfl (X.assignI rfl) ?_
                    refine WL.nil ?_
                    first | exact thn_n ⟨_, (by omega), i + 1, n + 1, _, rfl, rfl, rfl, (by repeat (first | exact hAL0 | refine Agree.put ?_ rfl | refine Agree.named hF75 ?_)), (Ext.own hwL0 hc (Nat.le_refl _) hx86), ⟨by omega, hc1, ht.turn hbit (by omega) (by omega) (by omega)⟩⟩ | exact thn_n ⟨_, (by omega), i + 1, n, _, rfl, rfl, rfl, (by repeat (first | exact hAL0 | refine Agree.put ?_ rfl | refine Agree.named hF75 ?_)), (Ext.own hwL0 hc (Nat.le_refl _) hx86), ⟨by omega, hc, ht.skip (fun h => absurd (hbit.symm.trans h.1) (by decide))⟩⟩ | exact thn_n ⟨_, (by omega), i + 1, n, _, rfl, rfl, rfl, (by repeat (first | exact hAL0 | refine Agree.put ?_ rfl | refine Agree.named hF75 ?_)), (Ext.own hwL0 hc (Nat.le_refl _) hx86), ⟨by omega, hc, ht.skip (by omega)⟩⟩
                  · have gh5_82 := (of_decide_eq_false h5_82)
                    refine WF.skip ?_
                    refine blk_n ?_
                    refine thn_n ?_
                    refine WF.region ?_
                    refine WL.va rfl rfl rfl (X.moveI e15_L0) ?_
                    refine WL.va rfl rfl rfl (X.add rfl rfl (w64 (by omega))) ?_
                    refine WL.va rfl rfl rfl (X.assignI rfl) ?_
                    refine WL.nil ?_
                    first | exact thn_n ⟨_, (by omega), i + 1, n + 1, _, rfl, rfl, e14_L0, (by repeat (first | exact hAL0 | refine Agree.put ?_ rfl | refine Agree.named hF75 ?_)), hwL0, ⟨by omega, hc1, ht.turn hbit (by omega) (by omega) (by omega)⟩⟩ | exact thn_n ⟨_, (by omega), i + 1, n, _, rfl, rfl, e14_L0, (by repeat (first | exact hAL0 | refine Agree.put ?_ rfl | refine Agree.named hF75 ?_)), hwL0, ⟨by omega, hc, ht.skip (fun h => absurd (hbit.symm.trans h.1) (by decide))⟩⟩ | exact thn_n ⟨_, (by omega), i + 1, n, _, rfl, rfl, e14_L0, (by repeat (first | exact hAL0 | refine Agree.put ?_ rfl | refine Agree.named hF75 ?_)), hwL0, ⟨by omega, hc, ht.skip (by omega)⟩⟩
                · have gh81 := (of_decide_eq_false h81)
                  try have hbit := bit_of0 gh81
                  refine WL.p rfl rfl rfl (congrArg some h81) ?_
                  refine WL.p rfl rfl rfl (congrArg some h81) ?_
                  refine WL.p rfl rfl rfl (congrArg some h81) ?_
                  refine WL.p rfl rfl rfl (congrArg some h81) ?_
                  refine WL.va rfl rfl rfl (X.pickF rfl h81 rfl) ?_
                  refine WL.nil ?_
                  refine thn_n ?_
                  refine WF.cond_f rfl ?_
                  refine WF.skip ?_
                  refine blk_n ?_
                  refine thn_n ?_
                  refine WF.region ?_
                  refine WL.va rfl rfl rfl (X.moveI e15_L0) ?_
                  refine WL.va rfl rfl rfl (X.add rfl rfl (w64 (by omega))) ?_
                  refine WL.va rfl rfl rfl (X.assignI rfl) ?_
                  refine WL.nil ?_
                  first | exact thn_n ⟨_, (by omega), i + 1, n + 1, _, rfl, rfl, e14_L0, (by repeat (first | exact hAL0 | refine Agree.put ?_ rfl | refine Agree.named hF75 ?_)), hwL0, ⟨by omega, hc1, ht.turn hbit (by omega) (by omega) (by omega)⟩⟩ | exact thn_n ⟨_, (by omega), i + 1, n, _, rfl, rfl, e14_L0, (by repeat (first | exact hAL0 | refine Agree.put ?_ rfl | refine Agree.named hF75 ?_)), hwL0, ⟨by omega, hc, ht.skip (fun h => absurd (hbit.symm.trans h.1) (by decide))⟩⟩ | exact thn_n ⟨_, (by omega), i + 1, n, _, rfl, rfl, e14_L0, (by repeat (first | exact hAL0 | refine Agree.put ?_ rfl | refine Agree.named hF75 ?_)), hwL0, ⟨by omega, hc, ht.skip (by omega)⟩⟩
              · have gh79 := (of_decide_eq_false h79)
                try have hbit := bit_of0 gh79
                refine WL.p rfl rfl rfl (congrArg some h79) ?_
                refine WL.p rfl rfl rfl (congrArg some h79) ?_
                refine WL.p rfl rfl rfl (congrArg some h79) ?_
                refine WL.p rfl rfl rfl (congrArg some h79) ?_
                refine WL.va rfl rfl rfl (X.pickF rfl h79 rfl) ?_
                refine WL.va rfl rfl rfl (X.moveB rfl) ?_
                refine WL.p rfl rfl rfl rfl ?_
                refine WL.p rfl rfl rfl rfl ?_
                refine WL.p rfl rfl rfl rfl ?_
                refine WL.p rfl rfl rfl rfl ?_
                refine WL.va rfl rfl rfl (X.pickF rfl rfl rfl) ?_
                refine WL.nil ?_
                refine thn_n ?_
                refine WF.cond_f rfl ?_
                refine WF.skip ?_
                refine blk_n ?_
                refine thn_n ?_
                refine WF.region ?_
                refine WL.va rfl rfl rfl (X.moveI e15_L0) ?_
                refine WL.va rfl rfl rfl (X.add rfl rfl (w64 (by omega))) ?_
                refine WL.va rfl rfl rfl (X.assignI rfl) ?_
                refine WL.nil ?_
                first | exact thn_n ⟨_, (by omega), i + 1, n + 1, _, rfl, rfl, e14_L0, (by repeat (first | exact hAL0 | refine Agree.put ?_ rfl | refine Agree.named hF75 ?_)), hwL0, ⟨by omega, hc1, ht.turn hbit (by omega) (by omega) (by omega)⟩⟩ | exact thn_n ⟨_, (by omega), i + 1, n, _, rfl, rfl, e14_L0, (by repeat (first | exact hAL0 | refine Agree.put ?_ rfl | refine Agree.named hF75 ?_)), hwL0, ⟨by omega, hc, ht.skip (fun h => absurd (hbit.symm.trans h.1) (by decide))⟩⟩ | exact thn_n ⟨_, (by omega), i + 1, n, _, rfl, rfl, e14_L0, (by repeat (first | exact hAL0 | refine Agree.put ?_ rfl | refine Agree.named hF75 ?_)), hwL0, ⟨by omega, hc, ht.skip (by omega)⟩⟩
            · have gh4_76 := (of_decide_eq_false h4_76)
              refine WF.exit ?_
              refine thn_x ?_
              refine thn_x ?_
              refine blk_eq ?_
              refine thn_n ?_
              refine WF.seq ?_
              refine WF.region ?_
              refine WL.va rfl rfl rfl (X.move ((hAL0.eq 7).trans (congrFun hF75 7))) ?_
              refine WL.c rfl rfl rfl (X.call Try.call25 (evl_cons rfl evl_nil)) (get_ok _ _ _ (Bytes.of_own hc)) ?_
              rintro v92 w91 ⟨⟨x2, rfl, o2⟩, hx93⟩
              obtain rfl : i = 32 := (by omega)
              obtain ⟨hget0, hget1⟩ := turned_get hp65 ht hft
              refine WL.va rfl rfl rfl (X.move rfl) ?_
              refine WL.va rfl rfl rfl (X.extract rfl rfl) ?_
              refine WL.va rfl rfl rfl (X.extract rfl rfl) ?_
              refine WL.va rfl rfl rfl (X.extract rfl rfl) ?_
              refine WL.va rfl rfl rfl (X.assign rfl) ?_
              refine WL.va rfl rfl rfl (X.assignI rfl) ?_
              refine WL.va rfl rfl rfl (X.assignI rfl) ?_
              refine WL.nil ?_
              refine thn_n ?_
              refine WF.seq ?_
              refine WF.seq ?_
              refine WF.region ?_
              refine WL.va rfl rfl rfl (X.moveI e14_L0) ?_
              refine WL.va rfl rfl rfl (X.eql rfl rfl) ?_
              refine WL.nil ?_
              refine thn_n ?_
              refine WF.cond rfl (fun h6_94 => ?_) (fun h6_94 => ?_)
              · have gh6_94 := (of_decide_eq_true h6_94)
                have hn0 : n = 0 := by omega
                have he1 : (Frm.get C).2.2 = 0 := by rw [hget0 hn0]
                have he2 : (Frm.get C).2.1 = 8 + p.length := by rw [hget0 hn0]
                have he3 : (Frm.get C).1 = p := by rw [hget0 hn0]
                refine WF.seq ?_
                refine WF.region ?_
                refine WL.va rfl rfl rfl (X.moveI rfl) ?_
                refine WL.va rfl rfl rfl (X.eql rfl rfl) ?_
                refine WL.va rfl rfl rfl (X.moveB rfl) ?_
                refine WL.split (j := 2) rfl (fun h97 => ?_) (fun h97 => ?_)
                · have gh97 := (of_decide_eq_true h97)
                  refine WL.vg rfl (congrArg some h97) rfl rfl (X.moveI rfl) ?_
                  refine WL.vg rfl (congrArg some h97) rfl rfl (X.move ((hAL0.eq 7).trans (congrFun hF75 7))) ?_
                  refine WL.vg rfl (congrArg some h97) rfl rfl (X.len (Bytes.of_own hc) rfl Try.underlying22) ?_
                  refine WL.vg rfl (congrArg some h97) rfl rfl (X.eql rfl rfl) ?_
                  refine WL.va rfl rfl rfl (X.pickT rfl h97 rfl) ?_
                  refine WL.va rfl rfl rfl (X.moveB rfl) ?_
                  refine WL.split (j := 8) rfl (fun h99 => ?_) (fun h99 => ?_)
                  · have gh99 := (of_decide_eq_true h99)
                    refine WL.vg rfl (congrArg some h99) rfl rfl (X.move rfl) ?_
                    refine WL.vg rfl (congrArg some h99) rfl rfl (X.move ((hAL0.eq 0).trans (congrFun hF75 0))) ?_
                    refine WL.cg rfl (congrArg some h99) rfl rfl (X.call Try.call27 (evl_cons rfl (evl_cons rfl evl_nil))) (sameBytes_ok _ _ _ _ _ (Bytes.of_own o2) (hb.ext (Ext.trans hwL0 hx93))) ?_
                    rintro v101 w100 ⟨rfl, hx102⟩
                    refine WL.va rfl rfl rfl (X.pickT rfl h99 rfl) ?_
                    refine WL.va rfl rfl rfl (X.moveB rfl) ?_
                    refine WL.split (j := 13) rfl (fun h104 => ?_) (fun h104 => ?_)
                    · have gh104 := (of_decide_eq_true h104)
                      refine WL.cg rfl (congrArg some h104) rfl rfl (X.call Try.call29 evl_nil) (known3_ok _) ?_
                      rintro v106 w105 ⟨rfl, hx107⟩
                      refine WL.va rfl rfl rfl (X.pickT rfl h104 rfl) ?_
                      refine WL.va rfl rfl rfl (X.assignB rfl) ?_
                      refine WL.nil ?_
                      refine thn_n ?_
                      refine WF.ret ?_
                      refine thn_r ?_
                      refine fin_r ?_
                      first | exact ⟨rfl, (Ext.trans (Ext.trans (Ext.trans hwL0 hx93) hx102) hx107)⟩ | (exfalso; omega)
                    · have gh104 := (of_decide_eq_false h104)
                      exact absurd he3 gh104
                  · have gh99 := (of_decide_eq_false h99)
                    refine WL.p rfl rfl rfl (congrArg some h99) ?_
                    refine WL.p rfl rfl rfl (congrArg some h99) ?_
                    refine WL.p rfl rfl rfl (congrArg some h99) ?_
                    refine WL.va rfl rfl rfl (X.pickF rfl h99 rfl) ?_
                    refine WL.va rfl rfl rfl (X.moveB rfl) ?_
                    refine WL.p rfl rfl rfl rfl ?_
                    refine WL.va rfl rfl rfl (X.pickF rfl rfl rfl) ?_
                    refine WL.va rfl rfl rfl (X.assignB rfl) ?_
                    refine WL.nil ?_
                    refine thn_n ?_
                    refine WF.ret ?_
                    refine thn_r ?_
                    refine fin_r ?_
                    first | exact ⟨rfl, (Ext.trans hwL0 hx93)⟩ | (exfalso; omega)
                · have gh97 := (of_decide_eq_false h97)
                  refine WL.p rfl rfl rfl (congrArg some h97) ?_
                  refine WL.p rfl rfl rfl (congrArg some h97) ?_
                  refine WL.p rfl rfl rfl (congrArg some h97) ?_
                  refine WL.p rfl rfl rfl (congrArg some h97) ?_
                  refine WL.va rfl rfl rfl (X.pickF rfl h97 rfl) ?_
                  refine WL.va rfl rfl rfl (X.moveB rfl) ?_
                  refine WL.p rfl rfl rfl rfl ?_
                  refine WL.p rfl rfl rfl rfl ?_
                  refine WL.p rfl rfl rfl rfl ?_
                  refine WL.va rfl rfl rfl (X.pickF rfl rfl rfl) ?_
                  refine WL.va rfl rfl rfl (X.moveB rfl) ?_
                  refine WL.p rfl rfl rfl rfl ?_
                  refine WL.va rfl rfl rfl (X.pickF rfl rfl rfl) ?_
                  refine WL.va rfl rfl rfl (X.assignB rfl) ?_
                  refine WL.nil ?_
                  refine thn_n ?_
                  refine WF.ret ?_
                  refine thn_r ?_
                  refine fin_r ?_
                  first | exact ⟨rfl, (Ext.trans hwL0 hx93)⟩ | (exfalso; omega)
              · have gh6_94 := (of_decide_eq_false h6_94)
                have hn0 : n ≠ 0 := by omega
                have he1 : (Frm.get C).2.2 = 5 := by rw [hget1 hn0]
                have he2 : (Frm.get C).2.1 = 0 := by rw [hget1 hn0]
                have he3 : (Frm.get C).1.length = 0 := by rw [hget1 hn0]; rfl
                refine WF.skip ?_
                refine thn_n ?_
                refine WF.seq ?_
                refine WF.region ?_
                refine WL.va rfl rfl rfl (X.moveI rfl) ?_
                refine WL.va rfl rfl rfl (X.eql rfl rfl) ?_
                refine WL.va rfl rfl rfl (X.moveB rfl) ?_
                refine WL.split (j := 2) rfl (fun h115 => ?_) (fun h115 => ?_)
                · have gh115 := (of_decide_eq_true h115)
                  refine WL.vg rfl (congrArg some h115) rfl rfl (X.moveI rfl) ?_
                  refine WL.vg rfl (congrArg some h115) rfl rfl (X.eql rfl rfl) ?_
                  refine WL.va rfl rfl rfl (X.pickT rfl h115 rfl) ?_
                  refine WL.va rfl rfl rfl (X.moveB rfl) ?_
                  refine WL.split (j := 6) rfl (fun h117 => ?_) (fun h117 => ?_)
                  · have gh117 := (of_decide_eq_true h117)
                    refine WL.vg rfl (congrArg some h117) rfl rfl (X.move rfl) ?_
                    refine WL.vg rfl (congrArg some h117) rfl rfl (X.len (Bytes.of_own o2) rfl Try.underlying22) ?_
                    refine WL.vg rfl (congrArg some h117) rfl rfl (X.eql rfl rfl) ?_
                    refine WL.va rfl rfl rfl (X.pickT rfl h117 rfl) ?_
                    refine WL.va rfl rfl rfl (X.moveB rfl) ?_
                    refine WL.split (j := 11) rfl (fun h119 => ?_) (fun h119 => ?_)
                    · have gh119 := (of_decide_eq_true h119)
                      refine WL.cg rfl (congrArg some h119) rfl rfl (X.call Try.call29 evl_nil) (known3_ok _) ?_
                      rintro v121 w120 ⟨rfl, hx122⟩
                      refine WL.va rfl rfl rfl (X.pickT rfl h119 rfl) ?_
                      refine WL.va rfl rfl rfl (X.assignB rfl) ?_
                      refine WL.nil ?_
                      refine thn_n ?_
                      refine WF.ret ?_
                      refine fin_r ?_
                      first | exact ⟨rfl, (Ext.trans (Ext.trans hwL0 hx93) hx122)⟩ | (exfalso; omega)
                    · have gh119 := (of_decide_eq_false h119)
                      refine WL.p rfl rfl rfl (congrArg some h119) ?_
                      refine WL.va rfl rfl rfl (X.pickF rfl h119 rfl) ?_
                      refine WL.va rfl rfl rfl (X.assignB rfl) ?_
                      refine WL.nil ?_
                      refine thn_n ?_
                      refine WF.ret ?_
                      refine fin_r ?_
                      first | exact ⟨rfl, (Ext.trans hwL0 hx93)⟩ | (exfalso; omega)
                  · have gh117 := (of_decide_eq_false h117)
                    refine WL.p rfl rfl rfl (congrArg some h117) ?_
                    refine WL.p rfl rfl rfl (congrArg some h117) ?_
                    refine WL.p rfl rfl rfl (congrArg some h117) ?_
                    refine WL.va rfl rfl rfl (X.pickF rfl h117 rfl) ?_
                    refine WL.va rfl rfl rfl (X.moveB rfl) ?_
                    refine WL.p rfl rfl rfl rfl ?_
                    refine WL.va rfl rfl rfl (X.pickF rfl rfl rfl) ?_
                    refine WL.va rfl rfl rfl (X.assignB rfl) ?_
                    refine WL.nil ?_
                    refine thn_n ?_
                    refine WF.ret ?_
                    refine fin_r ?_
                    first | exact ⟨rfl, (Ext.trans hwL0 hx93)⟩ | (exfalso; omega)
                · have gh115 := (of_decide_eq_false h115)
                  refine WL.p rfl rfl rfl (congrArg some h115) ?_
                  refine WL.p rfl rfl rfl (congrArg some h115) ?_
                  refine WL.va rfl rfl rfl (X.pickF rfl h115 rfl) ?_
                  refine WL.va rfl rfl rfl (X.moveB rfl) ?_
                  refine WL.p rfl rfl rfl rfl ?_
                  refine WL.p rfl rfl rfl rfl ?_
                  refine WL.p rfl rfl rfl rfl ?_
                  refine WL.va rfl rfl rfl (X.pickF rfl rfl rfl) ?_
                  refine WL.va rfl rfl rfl (X.moveB rfl) ?_
                  refine WL.p rfl rfl rfl rfl ?_
                  refine WL.va rfl rfl rfl (X.pickF rfl rfl rfl) ?_
                  refine WL.va rfl rfl rfl (X.assignB rfl) ?_
                  refine WL.nil ?_
                  refine thn_n ?_
                  refine WF.ret ?_
                  refine fin_r ?_
                  first | exact ⟨rfl, (Ext.trans hwL0 hx93)⟩ | (exfalso; omega)
        · have gh3_72 := (of_decide_eq_false h3_72)
          obtain ⟨fr, to, hfr, hto, hft⟩ : ∃ fr to, fr = 4 ∧ to = 8 ∧ ((fr = 4 ∧ to = 8) ∨ (fr = 8 ∧ to = (Frm.put p).1.length ∧ 64 ≤ q)) := ⟨_, _, rfl, rfl, by omega⟩
          refine WF.skip ?_
          refine thn_n ?_
          refine WF.seq ?_
          refine WF.region ?_
          refine WL.va rfl rfl rfl (X.assignI rfl) ?_
          refine WL.nil ?_
          refine thn_n ?_
          refine WF.seq ?_
          refine WF.seq ?_
          refine WF.region ?_
          refine WL.va rfl rfl rfl (X.assignI rfl) ?_
          refine WL.nil ?_
          refine thn_n ?_
          refine WF.block ?_
          refine WF.named (fun F130 hF131 => ?_)
          refine WF.loopN (fun mL0 f' w' => ∃ (i : Nat) (n : Nat) (C : List UInt8), mL0 = 32 - i ∧ f' 15 = .int .i64 (i : Int) ∧ f' 14 = .int .i64 (n : Int) ∧ Agree [0, 1, 2, 6, 7, 8, 12, 13, 20, 21, 22, 23, 24, 25, 26, 28, 29, 30, 31, 32, 33, 34, 35, 36, 37, 82, 83] f' F130 ∧ Ext w w' ∧ i ≤ 32 ∧ OwnB w' w.heap.size 5 x1 C ∧ Turned2 (Frm.put p).1 C q m fr to i n) ?_ ?_
          · exact ⟨_, 0, 0, _, rfl, (congrFun hF131 15), (congrFun hF131 14), (Agree.refl _ _), hx4, ⟨by omega, o1, Turned2.start _ _ _ _ _⟩⟩
          · rintro mL0 fL0 wL0 ⟨i, n, C, hmL0, e15_L0, e14_L0, hAL0, hwL0, ⟨hi, hc, ht⟩⟩
            have hcl := ht.len
            have hcle := ht.le
            refine WF.seq ?_
            refine WF.seq ?_
            refine WF.region ?_
            refine WL.va rfl rfl rfl (X.moveI e15_L0) ?_
            refine WL.va rfl rfl rfl (X.lss rfl rfl) ?_
            refine WL.nil ?_
            refine thn_n ?_
            refine WF.cond rfl (fun h4_132 => ?_) (fun h4_132 => ?_)
            · have gh4_132 := (of_decide_eq_true h4_132)
              refine WF.skip ?_
              refine thn_n ?_
              refine WF.seq ?_
              refine WF.block ?_
              refine WF.seq ?_
              refine WF.region ?_
              refine WL.va rfl rfl rfl (X.moveI ((hAL0.eq 1).trans (congrFun hF131 1))) ?_
              refine WL.va rfl rfl rfl (X.moveI e15_L0) ?_
              refine WL.va rfl rfl rfl (X.add rfl rfl (w64 (by omega))) ?_
              refine WL.va rfl rfl rfl (X.assignI rfl) ?_
              refine WL.nil ?_
              refine thn_n ?_
              refine WF.seq ?_
              refine WF.region ?_
              refine WL.va rfl rfl rfl (X.moveI ((hAL0.eq 2).trans (congrFun hF131 2))) ?_
              refine WL.va rfl rfl rfl (X.moveI e15_L0) ?_
              refine WL.va rfl rfl rfl (X.conv rfl (congrArg Option.isSome Try.underlying3) Try.underlying31 (wu64 (by omega))) ?_
              refine WL.va rfl rfl rfl (X.shr rfl rfl (by omega) rfl) ?_
              refine WL.va rfl rfl rfl (X.rem rfl rfl (by omega) (low_div m i (by omega))) ?_
              refine WL.va rfl rfl rfl (X.eql rfl rfl) ?_
              refine WL.va rfl rfl rfl (X.moveB rfl) ?_
              refine WL.split (j := 6) rfl (fun h135 => ?_) (fun h135 => ?_)
              · have gh135 := (of_decide_eq_true h135)
                try have hbit := bit_of1 gh135
                refine WL.vg rfl (congrArg some h135) rfl rfl (X.moveI rfl) ?_
                refine WL.vg rfl (congrArg some h135) rfl rfl (X.quo rfl rfl (by omega) (k8 (by omega))) ?_
                refine WL.vg rfl (congrArg some h135) rfl rfl (X.moveI ((hAL0.eq 12).trans (congrFun hF131 12))) ?_
                refine WL.vg rfl (congrArg some h135) rfl rfl (X.geq rfl rfl) ?_
                refine WL.va rfl rfl rfl (X.pickT rfl h135 rfl) ?_
                refine WL.va rfl rfl rfl (X.moveB rfl) ?_
                refine WL.split (j := 12) rfl (fun h137 => ?_) (fun h137 => ?_)
                · have gh137 := (of_decide_eq_true h137)
                  try have hbit := bit_of1 gh137
                  refine WL.vg rfl (congrArg some h137) rfl rfl (X.moveI rfl) ?_
                  refine WL.vg rfl (congrArg some h137) rfl rfl (X.quo rfl rfl (by omega) (k8 (by omega))) ?_
                  refine WL.vg rfl (congrArg some h137) rfl rfl (X.moveI ((hAL0.eq 13).trans (congrFun hF131 13))) ?_
                  refine WL.vg rfl (congrArg some h137) rfl rfl (X.lss rfl rfl) ?_
                  refine WL.va rfl rfl rfl (X.pickT rfl h137 rfl) ?_
                  refine WL.nil ?_
                  refine thn_n ?_
                  refine WF.cond rfl (fun h5_138 => ?_) (fun h5_138 => ?_)
                  · have gh5_138 := (of_decide_eq_true h5_138)
                    refine WF.seq ?_
                    refine WF.region ?_
                    refine WL.va rfl rfl rfl (X.move ((hAL0.eq 7).trans (congrFun hF131 7))) ?_
                    refine WL.va rfl rfl rfl (X.moveI rfl) ?_
                    refine WL.va rfl rfl rfl (X.quo rfl rfl (by omega) (k8 (by omega))) ?_
                    refine WL.va rfl rfl rfl (X.move ((hAL0.eq 7).trans (congrFun hF131 7))) ?_
                    refine WL.va rfl rfl rfl (X.moveI rfl) ?_
                    refine WL.va rfl rfl rfl (X.quo rfl rfl (by omega) (k8 (by omega))) ?_
                    refine WL.va rfl rfl rfl (X.idx (Bytes.of_own hc) rfl rfl (by omega) Try.underlying22 Try.sizeOf5) ?_
                    refine WL.va rfl rfl rfl (X.loadB (Bytes.of_own hc) (Ext.refl _) rfl (by omega) Try.isAgg5) ?_
                    refine WL.va rfl rfl rfl (X.moveI rfl) ?_
                    refine WL.va rfl rfl rfl (X.rem rfl rfl (by omega) (k8m _ _)) ?_
                    refine WL.va rfl rfl rfl (X.conv rfl (congrArg Option.isSome Try.underlying3) Try.underlying31 (wu64 (by omega))) ?_
                    refine WL.va rfl rfl rfl (X.shl rfl rfl (by omega) (shl8 _ (by omega) (by omega))) ?_
                    refine WL.va rfl rfl rfl (X.xor rfl rfl (xor8 _ _)) ?_
                    refine WL.va rfl rfl rfl (X.idx (Bytes.of_own hc) rfl rfl (by omega) Try.underlying22 Try.sizeOf5) ?_
                    refine WL.op rfl (OW.storeB hc (by omega) rfl rfl Try.sizeOf5 ?_)
                    intro w140 ho143 hx142
                    have hc1 := ho143
                    refine WL.nil ?_
                    refine thn_n ?_
                    refine WF.region ?_
                    refine WL.va rfl rfl rfl (X.moveI e14_L0) ?_
                    refine WL.va rfl rfl rfl (X.add rfl rfl (w64 (by omega))) ?_
                    refine WL.va rfl rfl rfl (X.assignI rfl) ?_
                    refine WL.nil ?_
                    refine blk_n ?_
                    refine thn_n ?_
                    refine WF.region ?_
                    refine WL.va rfl rfl rfl (X.moveI e15_L0) ?_
                    refine WL.va rfl rfl rfl (X.add rfl rfl (w64 (by omega))) ?_
                    refine WL.va rfl rfl rfl (X.assignI rfl) ?_
                    refine WL.nil ?_
                    first | exact thn_n ⟨_, (by omega), i + 1, n + 1, _, rfl, rfl, rfl, (by repeat (first | exact hAL0 | refine Agree.put ?_ rfl | refine Agree.named hF131 ?_)), (Ext.own hwL0 hc (Nat.le_refl _) hx142), ⟨by omega, hc1, ht.turn hbit (by omega) (by omega) (by omega)⟩⟩ | exact thn_n ⟨_, (by omega), i + 1, n, _, rfl, rfl, rfl, (by repeat (first | exact hAL0 | refine Agree.put ?_ rfl | refine Agree.named hF131 ?_)), (Ext.own hwL0 hc (Nat.le_refl _) hx142), ⟨by omega, hc, ht.skip (fun h => absurd (hbit.symm.trans h.1) (by decide))⟩⟩ | exact thn_n ⟨_, (by omega), i + 1, n, _, rfl, rfl, rfl, (by repeat (first | exact hAL0 | refine Agree.put ?_ rfl | refine Agree.named hF131 ?_)), (Ext.own hwL0 hc (Nat.le_refl _) hx142), ⟨by omega, hc, ht.skip (by omega)⟩⟩
                  · have gh5_138 := (of_decide_eq_false h5_138)
                    refine WF.skip ?_
                    refine blk_n ?_
                    refine thn_n ?_
                    refine WF.region ?_
                    refine WL.va rfl rfl rfl (X.moveI e15_L0) ?_
                    refine WL.va rfl rfl rfl (X.add rfl rfl (w64 (by omega))) ?_
                    refine WL.va rfl rfl rfl (X.assignI rfl) ?_
                    refine WL.nil ?_
                    first | exact thn_n ⟨_, (by omega), i + 1, n + 1, _, rfl, rfl, e14_L0, (by repeat (first | exact hAL0 | refine Agree.put ?_ rfl | refine Agree.named hF131 ?_)), hwL0, ⟨by omega, hc1, ht.turn hbit (by omega) (by omega) (by omega)⟩⟩ | exact thn_n ⟨_, (by omega), i + 1, n, _, rfl, rfl, e14_L0, (by repeat (first | exact hAL0 | refine Agree.put ?_ rfl | refine Agree.named hF131 ?_)), hwL0, ⟨by omega, hc, ht.skip (fun h => absurd (hbit.symm.trans h.1) (by decide))⟩⟩ | exact thn_n ⟨_, (by omega), i + 1, n, _, rfl, rfl, e14_L0, (by repeat (first | exact hAL0 | refine Agree.put ?_ rfl | refine Agree.named hF131 ?_)), hwL0, ⟨by omega, hc, ht.skip (by omega)⟩⟩
                · have gh137 := (of_decide_eq_false h137)
                  try have hbit := bit_of0 gh137
                  refine WL.p rfl rfl rfl (congrArg some h137) ?_
                  refine WL.p rfl rfl rfl (congrArg some h137) ?_
                  refine WL.p rfl rfl rfl (congrArg some h137) ?_
                  refine WL.p rfl rfl rfl (congrArg some h137) ?_
                  refine WL.va rfl rfl rfl (X.pickF rfl h137 rfl) ?_
                  refine WL.nil ?_
                  refine thn_n ?_
                  refine WF.cond_f rfl ?_
                  refine WF.skip ?_
                  refine blk_n ?_
                  refine thn_n ?_
                  refine WF.region ?_
                  refine WL.va rfl rfl rfl (X.moveI e15_L0) ?_
                  refine WL.va rfl rfl rfl (X.add rfl rfl (w64 (by omega))) ?_
                  refine WL.va rfl rfl rfl (X.assignI rfl) ?_
                  refine WL.nil ?_
                  first | exact thn_n ⟨_, (by omega), i + 1, n + 1, _, rfl, rfl, e14_L0, (by repeat (first | exact hAL0 | refine Agree.put ?_ rfl | refine Agree.named hF131 ?_)), hwL0, ⟨by omega, hc1, ht.turn hbit (by omega) (by omega) (by omega)⟩⟩ | exact thn_n ⟨_, (by omega), i + 1, n, _, rfl, rfl, e14_L0, (by repeat (first | exact hAL0 | refine Agree.put ?_ rfl | refine Agree.named hF131 ?_)), hwL0, ⟨by omega, hc, ht.skip (fun h => absurd (hbit.symm.trans h.1) (by decide))⟩⟩ | exact thn_n ⟨_, (by omega), i + 1, n, _, rfl, rfl, e14_L0, (by repeat (first | exact hAL0 | refine Agree.put ?_ rfl | refine Agree.named hF131 ?_)), hwL0, ⟨by omega, hc, ht.skip (by omega)⟩⟩
              · have gh135 := (of_decide_eq_false h135)
                try have hbit := bit_of0 gh135
                refine WL.p rfl rfl rfl (congrArg some h135) ?_
                refine WL.p rfl rfl rfl (congrArg some h135) ?_
                refine WL.p rfl rfl rfl (congrArg some h135) ?_
                refine WL.p rfl rfl rfl (congrArg some h135) ?_
                refine WL.va rfl rfl rfl (X.pickF rfl h135 rfl) ?_
                refine WL.va rfl rfl rfl (X.moveB rfl) ?_
                refine WL.p rfl rfl rfl rfl ?_
                refine WL.p rfl rfl rfl rfl ?_
                refine WL.p rfl rfl rfl rfl ?_
                refine WL.p rfl rfl rfl rfl ?_
                refine WL.va rfl rfl rfl (X.pickF rfl rfl rfl) ?_
                refine WL.nil ?_
                refine thn_n ?_
                refine WF.cond_f rfl ?_
                refine WF.skip ?_
                refine blk_n ?_
                refine thn_n ?_
                refine WF.region ?_
                refine WL.va rfl rfl rfl (X.moveI e15_L0) ?_
                refine WL.va rfl rfl rfl (X.add rfl rfl (w64 (by omega))) ?_
                refine WL.va rfl rfl rfl (X.assignI rfl) ?_
                refine WL.nil ?_
                first | exact thn_n ⟨_, (by omega), i + 1, n + 1, _, rfl, rfl, e14_L0, (by repeat (first | exact hAL0 | refine Agree.put ?_ rfl | refine Agree.named hF131 ?_)), hwL0, ⟨by omega, hc1, ht.turn hbit (by omega) (by omega) (by omega)⟩⟩ | exact thn_n ⟨_, (by omega), i + 1, n, _, rfl, rfl, e14_L0, (by repeat (first | exact hAL0 | refine Agree.put ?_ rfl | refine Agree.named hF131 ?_)), hwL0, ⟨by omega, hc, ht.skip (fun h => absurd (hbit.symm.trans h.1) (by decide))⟩⟩ | exact thn_n ⟨_, (by omega), i + 1, n, _, rfl, rfl, e14_L0, (by repeat (first | exact hAL0 | refine Agree.put ?_ rfl | refine Agree.named hF131 ?_)), hwL0, ⟨by omega, hc, ht.skip (by omega)⟩⟩
            · have gh4_132 := (of_decide_eq_false h4_132)
              refine WF.exit ?_
              refine thn_x ?_
              refine thn_x ?_
              refine blk_eq ?_
              refine thn_n ?_
              refine WF.seq ?_
              refine WF.region ?_
              refine WL.va rfl rfl rfl (X.move ((hAL0.eq 7).trans (congrFun hF131 7))) ?_
              refine WL.c rfl rfl rfl (X.call Try.call25 (evl_cons rfl evl_nil)) (get_ok _ _ _ (Bytes.of_own hc)) ?_
              rintro v148 w147 ⟨⟨x2, rfl, o2⟩, hx149⟩
              obtain rfl : i = 32 := (by omega)
              obtain ⟨hget0, hget1⟩ := turned_get hp65 ht hft
              refine WL.va rfl rfl rfl (X.move rfl) ?_
              refine WL.va rfl rfl rfl (X.extract rfl rfl) ?_
              refine WL.va rfl rfl rfl (X.extract rfl rfl) ?_
              refine WL.va rfl rfl rfl (X.extract rfl rfl) ?_
              refine WL.va rfl rfl rfl (X.assign rfl) ?_
              refine WL.va rfl rfl rfl (X.assignI rfl) ?_
              refine WL.va rfl rfl rfl (X.assignI rfl) ?_
              refine WL.nil ?_
              refine thn_n ?_
              refine WF.seq ?_
              refine WF.seq ?_
              refine WF.region ?_
              refine WL.va rfl rfl rfl (X.moveI e14_L0) ?_
              refine WL.va rfl rfl rfl (X.eql rfl rfl) ?_
              refine WL.nil ?_
              refine thn_n ?_
              refine WF.cond rfl (fun h6_150 => ?_) (fun h6_150 => ?_)
              · have gh6_150 := (of_decide_eq_true h6_150)
                have hn0 : n = 0 := by omega
                have he1 : (Frm.get C).2.2 = 0 := by rw [hget0 hn0]
                have he2 : (Frm.get C).2.1 = 8 + p.length := by rw [hget0 hn0]
                have he3 : (Frm.get C).1 = p := by rw [hget0 hn0]
                refine WF.seq ?_
                refine WF.region ?_
                refine WL.va rfl rfl rfl (X.moveI rfl) ?_
                refine WL.va rfl rfl rfl (X.eql rfl rfl) ?_
                refine WL.va rfl rfl rfl (X.moveB rfl) ?_
                refine WL.split (j := 2) rfl (fun h153 => ?_) (fun h153 => ?_)
                · have gh153 := (of_decide_eq_true h153)
                  refine WL.vg rfl (congrArg some h153) rfl rfl (X.moveI rfl) ?_
                  refine WL.vg rfl (congrArg some h153) rfl rfl (X.move ((hAL0.eq 7).trans (congrFun hF131 7))) ?_
                  refine WL.vg rfl (congrArg some h153) rfl rfl (X.len (Bytes.of_own hc) rfl Try.underlying22) ?_
                  refine WL.vg rfl (congrArg some h153) rfl rfl (X.eql rfl rfl) ?_
                  refine WL.va rfl rfl rfl (X.pickT rfl h153 rfl) ?_
                  refine WL.va rfl rfl rfl (X.moveB rfl) ?_
                  refine WL.split (j := 8) rfl (fun h155 => ?_) (fun h155 => ?_)
                  · have gh155 := (of_decide_eq_true h155)
                    refine WL.vg rfl (congrArg some h155) rfl rfl (X.move rfl) ?_
                    refine WL.vg rfl (congrArg some h155) rfl rfl (X.move ((hAL0.eq 0).trans (congrFun hF131 0))) ?_
                    refine WL.cg rfl (congrArg some h155) rfl rfl (X.call Try.call27 (evl_cons rfl (evl_cons rfl evl_nil))) (sameBytes_ok _ _ _ _ _ (Bytes.of_own o2) (hb.ext (Ext.trans hwL0 hx149))) ?_
                    rintro v157 w156 ⟨rfl, hx158⟩
                    refine WL.va rfl rfl rfl (X.pickT rfl h155 rfl) ?_
                    refine WL.va rfl rfl rfl (X.moveB rfl) ?_
                    refine WL.split (j := 13) rfl (fun h160 => ?_) (fun h160 => ?_)
                    · have gh160 := (of_decide_eq_true h160)
                      refine WL.cg rfl (congrArg some h160) rfl rfl (X.call Try.call29 evl_nil) (known3_ok _) ?_
                      rintro v162 w161 ⟨rfl, hx163⟩
                      refine WL.va rfl rfl rfl (X.pickT rfl h160 rfl) ?_
                      refine WL.va rfl rfl rfl (X.assignB rfl) ?_
                      refine WL.nil ?_
                      refine thn_n ?_
                      refine WF.ret ?_
                      refine thn_r ?_
                      refine fin_r ?_
                      first | exact ⟨rfl, (Ext.trans (Ext.trans (Ext.trans hwL0 hx149) hx158) hx163)⟩ | (exfalso; omega)
                    · have gh160 := (of_decide_eq_false h160)
                      exact absurd he3 gh160
                  · have gh155 := (of_decide_eq_false h155)
                    refine WL.p rfl rfl rfl (congrArg some h155) ?_
                    refine WL.p rfl rfl rfl (congrArg some h155) ?_
                    refine WL.p rfl rfl rfl (congrArg some h155) ?_
                    refine WL.va rfl rfl rfl (X.pickF rfl h155 rfl) ?_
                    refine WL.va rfl rfl rfl (X.moveB rfl) ?_
                    refine WL.p rfl rfl rfl rfl ?_
                    refine WL.va rfl rfl rfl (X.pickF rfl rfl rfl) ?_
                    refine WL.va rfl rfl rfl (X.assignB rfl) ?_
                    refine WL.nil ?_
                    refine thn_n ?_
                    refine WF.ret ?_
                    refine thn_r ?_
                    refine fin_r ?_
                    first | exact ⟨rfl, (Ext.trans hwL0 hx149)⟩ | (exfalso; omega)
                · have gh153 := (of_decide_eq_false h153)
                  refine WL.p rfl rfl rfl (congrArg some h153) ?_
                  refine WL.p rfl rfl rfl (congrArg some h153) ?_
                  refine WL.p rfl rfl rfl (congrArg some h153) ?_
                  refine WL.p rfl rfl rfl (congrArg some h153) ?_
                  refine WL.va rfl rfl rfl (X.pickF rfl h153 rfl) ?_
                  refine WL.va rfl rfl rfl (X.moveB rfl) ?_
                  refine WL.p rfl rfl rfl rfl ?_
                  refine WL.p rfl rfl rfl rfl ?_
                  refine WL.p rfl rfl rfl rfl ?_
                  refine WL.va rfl rfl rfl (X.pickF rfl rfl rfl) ?_
                  refine WL.va rfl rfl rfl (X.moveB rfl) ?_
                  refine WL.p rfl rfl rfl rfl ?_
                  refine WL.va rfl rfl rfl (X.pickF rfl rfl rfl) ?_
                  refine WL.va rfl rfl rfl (X.assignB rfl) ?_
                  refine WL.nil ?_
                  refine thn_n ?_
                  refine WF.ret ?_
                  refine thn_r ?_
                  refine fin_r ?_
                  first | exact ⟨rfl, (Ext.trans hwL0 hx149)⟩ | (exfalso; omega)
              · have gh6_150 := (of_decide_eq_false h6_150)
                have hn0 : n ≠ 0 := by omega
                have he1 : (Frm.get C).2.2 = 5 := by rw [hget1 hn0]
                have he2 : (Frm.get C).2.1 = 0 := by rw [hget1 hn0]
                have he3 : (Frm.get C).1.length = 0 := by rw [hget1 hn0]; rfl
                refine WF.skip ?_
                refine thn_n ?_
                refine WF.seq ?_
                refine WF.region ?_
                refine WL.va rfl rfl rfl (X.moveI rfl) ?_
                refine WL.va rfl rfl rfl (X.eql rfl rfl) ?_
                refine WL.va rfl rfl rfl (X.moveB rfl) ?_
                refine WL.split (j := 2) rfl (fun h171 => ?_) (fun h171 => ?_)
                · have gh171 := (of_decide_eq_true h171)
                  refine WL.vg rfl (congrArg some h171) rfl rfl (X.moveI rfl) ?_
                  refine WL.vg rfl (congrArg some h171) rfl rfl (X.eql rfl rfl) ?_
                  refine WL.va rfl rfl rfl (X.pickT rfl h171 rfl) ?_
                  refine WL.va rfl rfl rfl (X.moveB rfl) ?_
                  refine WL.split (j := 6) rfl (fun h173 => ?_) (fun h173 => ?_)
                  · have gh173 := (of_decide_eq_true h173)
                    refine WL.vg rfl (congrArg some h173) rfl rfl (X.move rfl) ?_
                    refine WL.vg rfl (congrArg some h173) rfl rfl (X.len (Bytes.of_own o2) rfl Try.underlying22) ?_
                    refine WL.vg rfl (congrArg some h173) rfl rfl (X.eql rfl rfl) ?_
                    refine WL.va rfl rfl rfl (X.pickT rfl h173 rfl) ?_
                    refine WL.va rfl rfl rfl (X.moveB rfl) ?_
                    refine WL.split (j := 11) rfl (fun h175 => ?_) (fun h175 => ?_)
                    · have gh175 := (of_decide_eq_true h175)
                      refine WL.cg rfl (congrArg some h175) rfl rfl (X.call Try.call29 evl_nil) (known3_ok _) ?_
                      rintro v177 w176 ⟨rfl, hx178⟩
                      refine WL.va rfl rfl rfl (X.pickT rfl h175 rfl) ?_
                      refine WL.va rfl rfl rfl (X.assignB rfl) ?_
                      refine WL.nil ?_
                      refine thn_n ?_
                      refine WF.ret ?_
                      refine fin_r ?_
                      first | exact ⟨rfl, (Ext.trans (Ext.trans hwL0 hx149) hx178)⟩ | (exfalso; omega)
                    · have gh175 := (of_decide_eq_false h175)
                      refine WL.p rfl rfl rfl (congrArg some h175) ?_
                      refine WL.va rfl rfl rfl (X.pickF rfl h175 rfl) ?_
                      refine WL.va rfl rfl rfl (X.assignB rfl) ?_
                      refine WL.nil ?_
                      refine thn_n ?_
                      refine WF.ret ?_
                      refine fin_r ?_
                      first | exact ⟨rfl, (Ext.trans hwL0 hx149)⟩ | (exfalso; omega)
                  · have gh173 := (of_decide_eq_false h173)
                    refine WL.p rfl rfl rfl (congrArg some h173) ?_
                    refine WL.p rfl rfl rfl (congrArg some h173) ?_
                    refine WL.p rfl rfl rfl (congrArg some h173) ?_
                    refine WL.va rfl rfl rfl (X.pickF rfl h173 rfl) ?_
                    refine WL.va rfl rfl rfl (X.moveB rfl) ?_
                    refine WL.p rfl rfl rfl rfl ?_
                    refine WL.va rfl rfl rfl (X.pickF rfl rfl rfl) ?_
                    refine WL.va rfl rfl rfl (X.assignB rfl) ?_
                    refine WL.nil ?_
                    refine thn_n ?_
                    refine WF.ret ?_
                    refine fin_r ?_
                    first | exact ⟨rfl, (Ext.trans hwL0 hx149)⟩ | (exfalso; omega)
                · have gh171 := (of_decide_eq_false h171)
                  refine WL.p rfl rfl rfl (congrArg some h171) ?_
                  refine WL.p rfl rfl rfl (congrArg some h171) ?_
                  refine WL.va rfl rfl rfl (X.pickF rfl h171 rfl) ?_
                  refine WL.va rfl rfl rfl (X.moveB rfl) ?_
                  refine WL.p rfl rfl rfl rfl ?_
                  refine WL.p rfl rfl rfl rfl ?_
                  refine WL.p rfl rfl rfl rfl ?_
                  refine WL.va rfl rfl rfl (X.pickF rfl rfl rfl) ?_
                  refine WL.va rfl rfl rfl (X.moveB rfl) ?_
                  refine WL.p rfl rfl rfl rfl ?_
                  refine WL.va rfl rfl rfl (X.pickF rfl rfl rfl) ?_
                  refine WL.va rfl rfl rfl (X.assignB rfl) ?_
                  refine WL.nil ?_
                  refine thn_n ?_
                  refine WF.ret ?_
                  refine fin_r ?_
                  first | exact ⟨rfl, (Ext.trans hwL0 hx149)⟩ | (exfalso; omega)

theorem fk_put0 : Frm.put [] = (Frm.head [], 0) := by rw [Frm.put_ok (by decide)]; rfl
theorem fk_long : Frm.put (List.replicate 65537 0) = ([], 2) := Frm.put_long (by rw [List.length_replicate]; decide)
theorem fk_full : Frm.put (List.replicate 65536 0) = (Frm.head (List.replicate 65536 0) ++ List.replicate 65536 0, 0) := Frm.put_ok (by rw [List.length_replicate]; decide)
theorem fk_full_len : (Frm.put (List.replicate 65536 0)).1.length = 65544 := by rw [fk_full]; simp only [List.length_append, Frm.head_len, List.length_replicate]
theorem fk_get7 : Frm.get (List.replicate 7 0) = ([], 0, 1) := Frm.get_short (by decide)
theorem fk_get_long : Frm.get [0, 1, 0, 1, 0, 0, 0, 0] = ([], 0, 2) := Frm.get_long (by decide) (by decide)
theorem fk_get_short : Frm.get [0, 0, 0, 1, 0, 0, 0, 0] = ([], 0, 1) := Frm.get_short2 (by decide) (by decide) (by decide)
theorem fk_get_full : Frm.get ((Frm.put (List.replicate 65536 0)).1 ++ [9]) = (List.replicate 65536 0, 65544, 0) := by
  rw [fk_full, Frm.get_put (by rw [List.length_replicate]; decide), List.length_replicate]
theorem fk_e0 : (Frm.put []).2 = 0 := by rw [fk_put0]
theorem fk_l0 : (Frm.put []).1.length = 8 := by rw [fk_put0]; rfl
theorem fk_f : (Frm.put (List.replicate 65537 0)).2 = 2 := by rw [fk_long]
theorem fk_g : (Frm.put (List.replicate 65536 0)).2 = 0 := by rw [fk_full]
theorem fk_h : (Frm.get (List.replicate 7 0)).2.2 = 1 := by rw [fk_get7]
theorem fk_i : (Frm.get [0, 1, 0, 1, 0, 0, 0, 0]).2.2 = 2 := by rw [fk_get_long]
theorem fk_j : (Frm.get [0, 0, 0, 1, 0, 0, 0, 0]).2.2 = 1 := by rw [fk_get_short]
theorem fk_k : (Frm.get ((Frm.put (List.replicate 65536 0)).1 ++ [9])).2.2 = 0 := by rw [fk_get_full]
theorem fk_n : (Frm.get ((Frm.put (List.replicate 65536 0)).1 ++ [9])).2.1 = 65544 := by rw [fk_get_full]
theorem fk_p : (Frm.get ((Frm.put (List.replicate 65536 0)).1 ++ [9])).1.length = 65536 := by rw [fk_get_full, List.length_replicate]
theorem frameKnown_walk (w : World) : FnOk Try.prog 13 [] w (fun r w' => r = .bool true ∧ Ext w w') := by
  refine FnOk.enter (rs := [0]) Try.func13 rfl Try.ntmps13 Try.results13 rfl rfl ?_
  refine WF.seq ?_
  refine WF.region ?_
  refine WL.va rfl rfl rfl (X.assignB rfl) ?_
  refine WL.nil ?_
  refine thn_n ?_
  refine WF.seq ?_
  refine WF.region ?_
  refine WL.c rfl rfl rfl (X.call Try.call23 (evl_cons rfl evl_nil)) (put_ok _ _ _ (Bytes.nil _)) ?_
  rintro v3 w2 ⟨⟨x0, rfl, o0⟩, hx4⟩
  refine WL.va rfl rfl rfl (X.move rfl) ?_
  refine WL.va rfl rfl rfl (X.extract rfl rfl) ?_
  refine WL.va rfl rfl rfl (X.extract rfl rfl) ?_
  refine WL.va rfl rfl rfl (X.assign rfl) ?_
  refine WL.va rfl rfl rfl (X.assignI rfl) ?_
  refine WL.nil ?_
  refine thn_n ?_
  refine WF.seq ?_
  refine WF.region ?_
  refine WL.op rfl (OW.makeB (n := 65537) rfl rfl Try.underlying22 Try.type5 rfl rfl rfl (by omega) ?_ (by decide))
  intro v6 w5 ho8 hx7
  refine WL.c rfl rfl rfl (X.call Try.call23 (evl_cons rfl evl_nil)) (put_ok _ _ _ (Bytes.of_own ho8)) ?_
  rintro v10 w9 ⟨⟨x1, rfl, o1⟩, hx11⟩
  refine WL.va rfl rfl rfl (X.move rfl) ?_
  refine WL.va rfl rfl rfl (X.extract rfl rfl) ?_
  refine WL.va rfl rfl rfl (X.extract rfl rfl) ?_
  refine WL.va rfl rfl rfl (X.assign rfl) ?_
  refine WL.va rfl rfl rfl (X.assignI rfl) ?_
  refine WL.nil ?_
  refine thn_n ?_
  refine WF.seq ?_
  refine WF.region ?_
  refine WL.op rfl (OW.makeB (n := 65536) rfl rfl Try.underlying22 Try.type5 rfl rfl rfl (by omega) ?_ (by decide))
  intro v13 w12 ho15 hx14
  refine WL.c rfl rfl rfl (X.call Try.call23 (evl_cons rfl evl_nil)) (put_ok _ _ _ (Bytes.of_own ho15)) ?_
  rintro v17 w16 ⟨⟨x2, rfl, o2⟩, hx18⟩
  refine WL.va rfl rfl rfl (X.move rfl) ?_
  refine WL.va rfl rfl rfl (X.extract rfl rfl) ?_
  refine WL.va rfl rfl rfl (X.extract rfl rfl) ?_
  refine WL.va rfl rfl rfl (X.assign rfl) ?_
  refine WL.va rfl rfl rfl (X.assignI rfl) ?_
  refine WL.nil ?_
  refine thn_n ?_
  refine WF.seq ?_
  refine WF.region ?_
  refine WL.op rfl (OW.makeB (n := 7) rfl rfl Try.underlying22 Try.type5 rfl rfl rfl (by omega) ?_ (by decide))
  intro v20 w19 ho22 hx21
  refine WL.c rfl rfl rfl (X.call Try.call25 (evl_cons rfl evl_nil)) (get_ok _ _ _ (Bytes.of_own ho22)) ?_
  rintro v24 w23 ⟨⟨x3, rfl, o3⟩, hx25⟩
  refine WL.va rfl rfl rfl (X.move rfl) ?_
  refine WL.va rfl rfl rfl (X.extract rfl rfl) ?_
  refine WL.va rfl rfl rfl (X.extract rfl rfl) ?_
  refine WL.va rfl rfl rfl (X.extract rfl rfl) ?_
  refine WL.va rfl rfl rfl (X.assign rfl) ?_
  refine WL.va rfl rfl rfl (X.assignI rfl) ?_
  refine WL.va rfl rfl rfl (X.assignI rfl) ?_
  refine WL.nil ?_
  refine thn_n ?_
  refine WF.seq ?_
  refine WF.region ?_
  refine WL.op rfl (OW.lits (vs := [u8 0, u8 1, u8 0, u8 1, u8 0, u8 0, u8 0, u8 0]) (evp_cons rfl (evp_cons rfl (evp_cons rfl (evp_cons rfl (evp_cons rfl (evp_cons rfl (evp_cons rfl (evp_cons rfl evp_nil)))))))) Try.underlying22 Try.sizeOf5 Try.zeroValue5 ⟨rfl, rfl, rfl, rfl, rfl, rfl, rfl, rfl, trivial⟩ rfl rfl rfl ?_ (by decide))
  intro v27 w26 ho29 hx28
  refine WL.c rfl rfl rfl (X.call Try.call25 (evl_cons rfl evl_nil)) (get_ok _ _ _ (show Bytes _ _ [0, 1, 0, 1, 0, 0, 0, 0] from Row.of_own ho29)) ?_
  rintro v31 w30 ⟨⟨x4, rfl, o4⟩, hx32⟩
  refine WL.va rfl rfl rfl (X.move rfl) ?_
  refine WL.va rfl rfl rfl (X.extract rfl rfl) ?_
  refine WL.va rfl rfl rfl (X.extract rfl rfl) ?_
  refine WL.va rfl rfl rfl (X.extract rfl rfl) ?_
  refine WL.va rfl rfl rfl (X.assign rfl) ?_
  refine WL.va rfl rfl rfl (X.assignI rfl) ?_
  refine WL.va rfl rfl rfl (X.assignI rfl) ?_
  refine WL.nil ?_
  refine thn_n ?_
  refine WF.seq ?_
  refine WF.region ?_
  refine WL.op rfl (OW.lits (vs := [u8 0, u8 0, u8 0, u8 1, u8 0, u8 0, u8 0, u8 0]) (evp_cons rfl (evp_cons rfl (evp_cons rfl (evp_cons rfl (evp_cons rfl (evp_cons rfl (evp_cons rfl (evp_cons rfl evp_nil)))))))) Try.underlying22 Try.sizeOf5 Try.zeroValue5 ⟨rfl, rfl, rfl, rfl, rfl, rfl, rfl, rfl, trivial⟩ rfl rfl rfl ?_ (by decide))
  intro v34 w33 ho36 hx35
  refine WL.c rfl rfl rfl (X.call Try.call25 (evl_cons rfl evl_nil)) (get_ok _ _ _ (show Bytes _ _ [0, 0, 0, 1, 0, 0, 0, 0] from Row.of_own ho36)) ?_
  rintro v38 w37 ⟨⟨x5, rfl, o5⟩, hx39⟩
  refine WL.va rfl rfl rfl (X.move rfl) ?_
  refine WL.va rfl rfl rfl (X.extract rfl rfl) ?_
  refine WL.va rfl rfl rfl (X.extract rfl rfl) ?_
  refine WL.va rfl rfl rfl (X.extract rfl rfl) ?_
  refine WL.va rfl rfl rfl (X.assign rfl) ?_
  refine WL.va rfl rfl rfl (X.assignI rfl) ?_
  refine WL.va rfl rfl rfl (X.assignI rfl) ?_
  refine WL.nil ?_
  refine thn_n ?_
  refine WF.seq ?_
  refine WF.region ?_
  refine WL.va rfl rfl rfl (X.move rfl) ?_
  have hszA := World.grownBy.size (Ext.trans (Ext.trans (Ext.trans (Ext.trans (Ext.trans (Ext.trans (Ext.trans (Ext.trans (Ext.trans (Ext.trans hx4 hx7) hx11) hx14) hx18) hx21) hx25) hx28) hx32) hx35) hx39)
  refine WL.c rfl rfl rfl (X.call Try.call21 (evl_cons rfl evl_nil)) (copyBytes_ok _ _ _ (Row.ext (Bytes.of_own o2) (Ext.trans (Ext.trans (Ext.trans (Ext.trans (Ext.trans hx21 hx25) hx28) hx32) hx35) hx39)) (by rw [fk_full_len]; decide)) ?_
  rintro v41 w40 ⟨oc, hx42⟩
  have hszB0 := World.grownBy.size hx42
  refine WL.op rfl (OW.lits (vs := [u8 9]) (evp_cons rfl evp_nil) Try.underlying22 Try.sizeOf5 Try.zeroValue5 ⟨rfl, trivial⟩ rfl rfl rfl ?_ (by decide))
  intro v44 w43 ho46 hx45
  have oc1 := oc.ext hx45
  have hszB := Nat.le_trans hszB0 (World.grownBy.size hx45)
  refine WL.op rfl (OW.appendB oc1 (show Bytes _ _ [9] from Row.of_own ho46) rfl rfl Try.underlying22 Try.type5 rfl rfl rfl rfl (by rw [fk_full_len]; decide) hszB ?_ (by decide))
  intro v48 w47 ho50 hx49 hmvhx49
  have oc2 := ho50
  refine WL.c rfl rfl rfl (X.call Try.call25 (evl_cons rfl evl_nil)) (get_ok _ _ _ (Bytes.of_own oc2)) ?_
  rintro v52 w51 ⟨⟨x6, rfl, o6⟩, hx53⟩
  refine WL.va rfl rfl rfl (X.move rfl) ?_
  refine WL.va rfl rfl rfl (X.extract rfl rfl) ?_
  refine WL.va rfl rfl rfl (X.extract rfl rfl) ?_
  refine WL.va rfl rfl rfl (X.extract rfl rfl) ?_
  refine WL.va rfl rfl rfl (X.assign rfl) ?_
  refine WL.va rfl rfl rfl (X.assignI rfl) ?_
  refine WL.va rfl rfl rfl (X.assignI rfl) ?_
  refine WL.nil ?_
  refine thn_n ?_
  refine WF.seq ?_
  refine WF.region ?_
  refine WL.va rfl rfl rfl (X.moveI rfl) ?_
  refine WL.va rfl rfl rfl (X.eql rfl rfl) ?_
  refine WL.va rfl rfl rfl (X.moveB rfl) ?_
  refine WL.split (j := 2) rfl (fun h55 => ?_) (fun h55 => ?_)
  · have gh55 := (of_decide_eq_true h55)
    refine WL.vg rfl (congrArg some h55) rfl rfl (X.move rfl) ?_
    refine WL.vg rfl (congrArg some h55) rfl rfl (X.len (Bytes.of_own o0) rfl Try.underlying22) ?_
    refine WL.vg rfl (congrArg some h55) rfl rfl (X.eql rfl rfl) ?_
    refine WL.va rfl rfl rfl (X.pickT rfl h55 rfl) ?_
    refine WL.va rfl rfl rfl (X.moveB rfl) ?_
    refine WL.split (j := 7) rfl (fun h57 => ?_) (fun h57 => ?_)
    · have gh57 := (of_decide_eq_true h57)
      refine WL.vg rfl (congrArg some h57) rfl rfl (X.moveI rfl) ?_
      refine WL.vg rfl (congrArg some h57) rfl rfl (X.eql rfl rfl) ?_
      refine WL.va rfl rfl rfl (X.pickT rfl h57 rfl) ?_
      refine WL.va rfl rfl rfl (X.moveB rfl) ?_
      refine WL.split (j := 11) rfl (fun h59 => ?_) (fun h59 => ?_)
      · have gh59 := (of_decide_eq_true h59)
        refine WL.vg rfl (congrArg some h59) rfl rfl (X.moveI rfl) ?_
        refine WL.vg rfl (congrArg some h59) rfl rfl (X.eql rfl rfl) ?_
        refine WL.va rfl rfl rfl (X.pickT rfl h59 rfl) ?_
        refine WL.va rfl rfl rfl (X.moveB rfl) ?_
        refine WL.split (j := 15) rfl (fun h61 => ?_) (fun h61 => ?_)
        · have gh61 := (of_decide_eq_true h61)
          refine WL.vg rfl (congrArg some h61) rfl rfl (X.move rfl) ?_
          refine WL.vg rfl (congrArg some h61) rfl rfl (X.len (Bytes.of_own o2) rfl Try.underlying22) ?_
          refine WL.vg rfl (congrArg some h61) rfl rfl (X.eql rfl rfl) ?_
          refine WL.va rfl rfl rfl (X.pickT rfl h61 rfl) ?_
          refine WL.va rfl rfl rfl (X.moveB rfl) ?_
          refine WL.split (j := 20) rfl (fun h63 => ?_) (fun h63 => ?_)
          · have gh63 := (of_decide_eq_true h63)
            refine WL.vg rfl (congrArg some h63) rfl rfl (X.moveI rfl) ?_
            refine WL.vg rfl (congrArg some h63) rfl rfl (X.eql rfl rfl) ?_
            refine WL.va rfl rfl rfl (X.pickT rfl h63 rfl) ?_
            refine WL.va rfl rfl rfl (X.moveB rfl) ?_
            refine WL.split (j := 24) rfl (fun h65 => ?_) (fun h65 => ?_)
            · have gh65 := (of_decide_eq_true h65)
              refine WL.vg rfl (congrArg some h65) rfl rfl (X.moveI rfl) ?_
              refine WL.vg rfl (congrArg some h65) rfl rfl (X.eql rfl rfl) ?_
              refine WL.va rfl rfl rfl (X.pickT rfl h65 rfl) ?_
              refine WL.va rfl rfl rfl (X.moveB rfl) ?_
              refine WL.split (j := 28) rfl (fun h67 => ?_) (fun h67 => ?_)
              · have gh67 := (of_decide_eq_true h67)
                refine WL.vg rfl (congrArg some h67) rfl rfl (X.moveI rfl) ?_
                refine WL.vg rfl (congrArg some h67) rfl rfl (X.eql rfl rfl) ?_
                refine WL.va rfl rfl rfl (X.pickT rfl h67 rfl) ?_
                refine WL.va rfl rfl rfl (X.moveB rfl) ?_
                refine WL.split (j := 32) rfl (fun h69 => ?_) (fun h69 => ?_)
                · have gh69 := (of_decide_eq_true h69)
                  refine WL.vg rfl (congrArg some h69) rfl rfl (X.moveI rfl) ?_
                  refine WL.vg rfl (congrArg some h69) rfl rfl (X.eql rfl rfl) ?_
                  refine WL.va rfl rfl rfl (X.pickT rfl h69 rfl) ?_
                  refine WL.va rfl rfl rfl (X.moveB rfl) ?_
                  refine WL.split (j := 36) rfl (fun h71 => ?_) (fun h71 => ?_)
                  · have gh71 := (of_decide_eq_true h71)
                    refine WL.vg rfl (congrArg some h71) rfl rfl (X.moveI rfl) ?_
                    refine WL.vg rfl (congrArg some h71) rfl rfl (X.eql rfl rfl) ?_
                    refine WL.va rfl rfl rfl (X.pickT rfl h71 rfl) ?_
                    refine WL.va rfl rfl rfl (X.moveB rfl) ?_
                    refine WL.split (j := 40) rfl (fun h73 => ?_) (fun h73 => ?_)
                    · have gh73 := (of_decide_eq_true h73)
                      refine WL.vg rfl (congrArg some h73) rfl rfl (X.move rfl) ?_
                      refine WL.vg rfl (congrArg some h73) rfl rfl (X.len (Bytes.of_own o6) rfl Try.underlying22) ?_
                      refine WL.vg rfl (congrArg some h73) rfl rfl (X.eql rfl rfl) ?_
                      refine WL.va rfl rfl rfl (X.pickT rfl h73 rfl) ?_
                      refine WL.va rfl rfl rfl (X.moveB rfl) ?_
                      refine WL.split (j := 45) rfl (fun h75 => ?_) (fun h75 => ?_)
                      · have gh75 := (of_decide_eq_true h75)
                        refine WL.cg rfl (congrArg some h75) rfl rfl (X.call Try.call29 evl_nil) (known3_ok _) ?_
                        rintro v77 w76 ⟨rfl, hx78⟩
                        refine WL.va rfl rfl rfl (X.pickT rfl h75 rfl) ?_
                        refine WL.va rfl rfl rfl (X.assignB rfl) ?_
                        refine WL.nil ?_
                        refine thn_n ?_
                        refine WF.ret ?_
                        refine fin_r ?_
                        exact ⟨rfl, (Ext.trans (Ext.trans (Ext.own (Ext.trans (Ext.trans (Ext.trans (Ext.trans (Ext.trans (Ext.trans (Ext.trans (Ext.trans (Ext.trans (Ext.trans (Ext.trans (Ext.trans hx4 hx7) hx11) hx14) hx18) hx21) hx25) hx28) hx32) hx35) hx39) hx42) hx45) oc1 hszA hx49) hx53) hx78)⟩
                      · have gh75 := (of_decide_eq_false h75)
                        exact absurd (by rw [fk_p]; rfl) gh75
                    · have gh73 := (of_decide_eq_false h73)
                      exact absurd (by rw [fk_n]; rfl) gh73
                  · have gh71 := (of_decide_eq_false h71)
                    exact absurd fk_k gh71
                · have gh69 := (of_decide_eq_false h69)
                  exact absurd fk_j gh69
              · have gh67 := (of_decide_eq_false h67)
                exact absurd fk_i gh67
            · have gh65 := (of_decide_eq_false h65)
              exact absurd fk_h gh65
          · have gh63 := (of_decide_eq_false h63)
            exact absurd (by rw [fk_full_len]; rfl) gh63
        · have gh61 := (of_decide_eq_false h61)
          exact absurd fk_g gh61
      · have gh59 := (of_decide_eq_false h59)
        exact absurd fk_f gh59
    · have gh57 := (of_decide_eq_false h57)
      exact absurd (by rw [fk_l0]; rfl) gh57
  · have gh55 := (of_decide_eq_false h55)
    exact absurd fk_e0 gh55

end Go.Proofs.Ytljlkljbemdedaa
