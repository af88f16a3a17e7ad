/- The walks of Done and Check. -/
import Derived.Test.YtpimnlgfhpnjnaaRnA
import Derived.Test.YtpimnlgfhpnjnaaRnB
namespace Go.Proofs.Ytpimnlgfhpnjnaa
open Go Go.RowKit Kf
set_option maxRecDepth 20000

theorem done_len {x : Mv} {e : Int} : ∀ (l : List Rg) (s : List Rg × Rg), (l.foldl (done1 x e) s).1.length ≤ s.1.length + l.length
  | [], s => Nat.le_refl _
  | r :: l, s => by
    have h1 := done_len (x := x) (e := e) l (done1 x e s r)
    have h2 : (done1 x e s r).1.length ≤ s.1.length + 1 := by
      unfold done1
      split
      · split <;> simp
      · split <;> simp
    rw [List.foldl_cons, List.length_cons]; omega
theorem done_take {x : Mv} {e : Int} {l : List Rg} {k : Nat} {s0 s : List Rg × Rg} (hk : k < l.length) (h : s = (l.take k).foldl (done1 x e) s0) : done1 x e s l[k] = (l.take (k + 1)).foldl (done1 x e) s0 := by
  rw [List.take_succ_eq_append_getElem hk, List.foldl_append, ← h]; rfl
def DonePost (m : Mp) (e : Int) (m' : Mp) (c : Int) : Prop := (doneNo m e = true ∧ m' = Mp.zero ∧ c = 6) ∨ (doneNo m e = false ∧ c = 0 ∧ m'.E = m.E ∧ m'.M = Mv.zero ∧ DoneL m.R m.M e m'.R)
theorem rg_one1 {w : World} {B : Nat} {v : Value} {a : Rg} (h : w.ownsRow B 41 4 v 1 a.c) : OwnR w B 41 v [a] := OwnR.one h
set_option maxHeartbeats 8000000 in
theorem doneC_ok (m : Mp) (v : Value) (e : Int) (w : World) (hv : Rgs w v m.R) (hz : m.R.length ≤ 11) : FnOk Try.prog 17 [agg (m.c v), i64 e] w (fun r w' => (∃ u m' c, r = .tuple #[agg (m'.c u), i64 c] ∧ OwnR w' w.heap.size 41 u m'.R ∧ DonePost m e m' c) ∧ Ext w w') := by
  have hle := hv.le64
  refine FnOk.enterC (rs := [.cell 4 26, .tmp 5]) Try.func17 rfl Try.ntmps17 Try.results17 rfl rfl ?_
  refine WF.seq ?_
  refine WF.region ?_
  refine WL.op rfl (OW.boxA (cs := (m.c v)) rfl ?_ (by decide))
  intro g2 w1 heg2 hlg2 hO2 hx3
  have := World.grownBy.size hx3
  refine WL.op rfl (OW.allocO (cs := [.slice none 0 0, i64 0, i64 0, i64 0, i64 0, i64 0, i64 0]) Try.zeroValue26 rfl ?_ (by decide))
  intro g4 w5 heg4 hlg4 hO4 hx7
  have := World.grownBy.size hx7
  refine WL.va rfl rfl rfl (X.assignI rfl) ?_
  refine WL.nil ?_
  refine thn_n ?_
  refine WF.seq ?_
  refine WF.region ?_
  refine WL.va rfl rfl rfl (X.fieldAddrO (off := 2) rfl Try.underlying26 rfl rfl Try.sizeOf24) ?_
  refine WL.va rfl rfl rfl (X.loadOP hO2 hx7 rfl rfl rfl Try.isAgg24 Try.sizeOf24) ?_
  refine WL.op rfl (OW.allocO (cs := [i64 0, i64 0, i64 0, i64 0, i64 0]) Try.zeroValue24 rfl ?_ (by decide))
  intro g6 w9 heg6 hlg6 hO6 hx11
  have := World.grownBy.size hx11
  refine WL.op rfl (OW.storeOA hO6 rfl rfl rfl (Mv.c_one _) Try.sizeOf24 ?_)
  intro wI hO6 hx14
  have := World.grownBy.size hx14
  replace hO2 := (hO2.ext (Ext.trans hx7 hx11)).keptO hx14 (by omega)
  replace hO4 := (hO4.ext hx11).keptO hx14 (by omega)
  refine WL.nil ?_
  refine thn_n ?_
  refine WF.seq ?_
  refine WF.seq ?_
  refine WF.region ?_
  refine WL.va rfl rfl rfl (X.fieldAddrO (off := 0) rfl Try.underlying24 rfl rfl Try.sizeOf3) ?_
  refine WL.va rfl rfl rfl (X.loadO hO6 (Ext.refl _) rfl rfl Try.isAgg3) ?_
  refine WL.va rfl rfl rfl (X.lss rfl rfl) ?_
  refine WL.va rfl rfl rfl (X.moveB rfl) ?_
  refine WL.split (j := 3) rfl (fun h17 => ?_) (fun h17 => ?_)
  · have gh17 := (of_decide_eq_true h17)
    have hno : doneNo m e = true := by unfold doneNo; rw [decide_eq_true gh17]; rfl
    refine WL.p rfl rfl rfl (congrArg some h17) ?_
    refine WL.p rfl rfl rfl (congrArg some h17) ?_
    refine WL.p rfl rfl rfl (congrArg some h17) ?_
    refine WL.p rfl rfl rfl (congrArg some h17) ?_
    refine WL.va rfl rfl rfl (X.pickT rfl h17 rfl) ?_
    refine WL.nil ?_
    refine thn_n ?_
    refine WF.cond_t rfl ?_
    refine WF.seq ?_
    refine WF.region ?_
    refine WL.va rfl rfl rfl (X.buildL (P := Try.prog) (t := 26) (cs := (Mp.c Mp.zero nilS)) evp_nil Try.type26 Try.underlying26 rfl rfl trivial rfl) ?_
    refine WL.op rfl (OW.storeOA hO4 rfl rfl rfl (Mp.c_one (Rgs.nil w) Mp.zero) Try.sizeOf26 ?_)
    intro w19 hO4 hx21
    have := World.grownBy.size hx21
    replace hO2 := hO2.keptO hx21 (by omega)
    replace hO6 := hO6.keptO hx21 (by omega)
    replace hO4 : Blk _ _ _ (Mp.c Mp.zero nilS) := hO4
    refine WL.va rfl rfl rfl (X.assignI rfl) ?_
    refine WL.nil ?_
    refine thn_n ?_
    refine WF.ret ?_
    refine thn_r ?_
    refine finC_r (vs := [_, _]) ⟨⟨_, rfl, readO hO4 Try.isAgg26 Try.sizeOf26⟩, rfl, trivial⟩ ?_
    exact ⟨⟨_, Mp.zero, 6, rfl, OwnR.nil _ _ _, .inl ⟨hno, rfl, rfl⟩⟩, (Ext.trans hx3 (Ext.store (Ext.trans hx7 (Ext.store hx11 hx14 (by omega))) hx21 (by omega)))⟩
  · have gh17 := (of_decide_eq_false h17)
    have hn1 := gh17
    refine WL.vg rfl (congrArg some h17) rfl rfl (X.fieldAddrO (off := 0) rfl Try.underlying24 rfl rfl Try.sizeOf3) ?_
    refine WL.vg rfl (congrArg some h17) rfl rfl (X.loadO hO6 (Ext.refl _) rfl rfl Try.isAgg3) ?_
    refine WL.vg rfl (congrArg some h17) rfl rfl (X.moveI rfl) ?_
    refine WL.vg rfl (congrArg some h17) rfl rfl (X.neq rfl rfl) ?_
    refine WL.va rfl rfl rfl (X.pickF rfl h17 rfl) ?_
    refine WL.nil ?_
    refine thn_n ?_
    refine WF.cond rfl (fun h0_23 => ?_) (fun h0_23 => ?_)
    · have gh0_23 := (of_decide_eq_true h0_23)
      have hno : doneNo m e = true := by first | assumption | (unfold doneNo; rw [decide_eq_false hn1, decide_eq_true gh0_23]; rfl)
      refine WF.seq ?_
      refine WF.region ?_
      refine WL.va rfl rfl rfl (X.buildL (P := Try.prog) (t := 26) (cs := (Mp.c Mp.zero nilS)) evp_nil Try.type26 Try.underlying26 rfl rfl trivial rfl) ?_
      refine WL.op rfl (OW.storeOA hO4 rfl rfl rfl (Mp.c_one (Rgs.nil w) Mp.zero) Try.sizeOf26 ?_)
      intro w25 hO4 hx27
      have := World.grownBy.size hx27
      replace hO2 := hO2.keptO hx27 (by omega)
      replace hO6 := hO6.keptO hx27 (by omega)
      replace hO4 : Blk _ _ _ (Mp.c Mp.zero nilS) := hO4
      refine WL.va rfl rfl rfl (X.assignI rfl) ?_
      refine WL.nil ?_
      refine thn_n ?_
      refine WF.ret ?_
      refine thn_r ?_
      refine finC_r (vs := [_, _]) ⟨⟨_, rfl, readO hO4 Try.isAgg26 Try.sizeOf26⟩, rfl, trivial⟩ ?_
      exact ⟨⟨_, Mp.zero, 6, rfl, OwnR.nil _ _ _, .inl ⟨hno, rfl, rfl⟩⟩, (Ext.trans hx3 (Ext.store (Ext.trans hx7 (Ext.store hx11 hx14 (by omega))) hx27 (by omega)))⟩
    · have gh0_23 := (Decidable.of_not_not (of_decide_eq_false h0_23))
      have hno : doneNo m e = false := by unfold doneNo; rw [decide_eq_false hn1, decide_eq_false (fun q => q gh0_23)]; rfl
      refine WF.skip ?_
      refine thn_n ?_
      refine WF.seq ?_
      refine WF.region ?_
      refine WL.va rfl rfl rfl (X.fieldAddrO (off := 3) rfl Try.underlying24 rfl rfl Try.sizeOf3) ?_
      refine WL.va rfl rfl rfl (X.loadO hO6 (Ext.refl _) rfl rfl Try.isAgg3) ?_
      refine WL.va rfl rfl rfl (X.fieldAddrO (off := 4) rfl Try.underlying24 rfl rfl Try.sizeOf3) ?_
      refine WL.va rfl rfl rfl (X.loadO hO6 (Ext.refl _) rfl rfl Try.isAgg3) ?_
      refine WL.va rfl rfl rfl (X.fieldAddrO (off := 2) rfl Try.underlying24 rfl rfl Try.sizeOf3) ?_
      refine WL.va rfl rfl rfl (X.loadO hO6 (Ext.refl _) rfl rfl Try.isAgg3) ?_
      refine WL.va rfl rfl rfl (X.moveI rfl) ?_
      refine WL.va rfl rfl rfl (X.buildL (P := Try.prog) (t := 41) (cs := (Rg.c (toR m.M e))) (evp_cons rfl (evp_cons rfl (evp_cons rfl (evp_cons rfl evp_nil)))) Try.type41 Try.underlying41 rfl rfl ⟨rfl, rfl, rfl, rfl, trivial⟩ rfl) ?_
      refine WL.op rfl (OW.allocO (cs := [i64 0, i64 0, i64 0, i64 0]) Try.zeroValue41 rfl ?_ (by decide))
      intro g7 w29 heg7 hlg7 hO7 hx31
      have := World.grownBy.size hx31
      refine WL.op rfl (OW.storeOA hO7 rfl rfl rfl (Rg.c_one _) Try.sizeOf41 ?_)
      intro w33 hO7 hx35
      have := World.grownBy.size hx35
      replace hO2 := (hO2.ext hx31).keptO hx35 (by omega)
      replace hO4 := (hO4.ext hx31).keptO hx35 (by omega)
      replace hO6 := (hO6.ext hx31).keptO hx35 (by omega)
      replace hO7 : Blk _ _ _ (Rg.c (toR m.M e)) := hO7
      refine WL.nil ?_
      refine thn_n ?_
      refine WF.seq ?_
      refine WF.region ?_
      refine WL.va rfl rfl rfl (X.fieldAddrO (off := 1) rfl Try.underlying26 rfl rfl Try.sizeOf3) ?_
      refine WL.va rfl rfl rfl (X.loadO hO2 (Ext.refl _) rfl rfl Try.isAgg3) ?_
      refine WL.va rfl rfl rfl (X.buildL (P := Try.prog) (t := 26) (cs := (Mp.c ⟨[], m.E, Mv.zero⟩ nilS)) (evp_cons rfl evp_nil) Try.type26 Try.underlying26 rfl rfl ⟨rfl, trivial⟩ rfl) ?_
      refine WL.op rfl (OW.allocO (cs := [.slice none 0 0, i64 0, i64 0, i64 0, i64 0, i64 0, i64 0]) Try.zeroValue26 rfl ?_ (by decide))
      intro g8 w37 heg8 hlg8 hO8 hx39
      have := World.grownBy.size hx39
      refine WL.op rfl (OW.storeOA hO8 rfl rfl rfl (Mp.c_one (Rgs.nil w) ⟨[], m.E, Mv.zero⟩) Try.sizeOf26 ?_)
      intro wO hO8 hx42
      have := World.grownBy.size hx42
      replace hO2 := (hO2.ext hx39).keptO hx42 (by omega)
      replace hO4 := (hO4.ext hx39).keptO hx42 (by omega)
      replace hO6 := (hO6.ext hx39).keptO hx42 (by omega)
      replace hO7 := (hO7.ext hx39).keptO hx42 (by omega)
      replace hO8 : Blk _ _ _ (Mp.c ⟨[], m.E, Mv.zero⟩ nilS) := hO8
      refine WL.nil ?_
      refine thn_n ?_
      refine WF.seq ?_
      refine WF.seq ?_
      refine WF.region ?_
      refine WL.va rfl rfl rfl (X.fieldAddrO (off := 0) rfl Try.underlying26 rfl rfl Try.sizeOf22) ?_
      refine WL.va rfl rfl rfl (X.loadO hO2 (Ext.refl _) rfl rfl Try.isAgg22) ?_
      refine WL.va rfl rfl rfl (X.len hv rfl Try.underlying22) ?_
      refine WL.va rfl rfl rfl (X.moveI rfl) ?_
      refine WL.nil ?_
      refine thn_n ?_
      refine WF.block ?_
      refine WF.named (fun F44 hF45 => ?_)
      refine WF.loopN (fun mL0 f' w' => ∃ (k : Nat) (s : List Rg × Rg) (vo : Value), mL0 = m.R.length - k ∧ f' 37 = .int .i64 (k : Int) ∧ Agree [0, 1, 2, 4, 5, 6, 7, 8, 11, 12, 13, 14, 15, 16, 17, 18, 19, 20, 21, 23, 24, 25, 26, 27, 28, 29, 30, 31, 32, 33, 34, 35, 36] f' F44 ∧ Ext wI w' ∧ k ≤ m.R.length ∧ s = (m.R.take k).foldl (done1 m.M e) ([], toR m.M e) ∧ Blk w' g2 26 (m.c v) ∧ Blk w' g4 26 (Mp.c Mp.zero nilS) ∧ Blk w' g6 24 m.M.c ∧ Blk w' g7 41 s.2.c ∧ Blk w' g8 26 (Mp.c ⟨[], m.E, Mv.zero⟩ vo) ∧ OwnR w' wO.heap.size 41 vo s.1 ∧ wO.heap.size ≤ w'.heap.size) ?_ ?_
      · exact ⟨_, 0, ([], toR m.M e), nilS, rfl, (congrFun hF45 37), (Agree.refl _ _), (Ext.trans (Ext.store hx31 hx35 (by omega)) (Ext.store hx39 hx42 (by omega))), ⟨Nat.zero_le _, rfl, hO2, hO4, hO6, hO7, hO8, OwnR.nil _ _ _, by omega⟩⟩
      · rintro mL0 fL0 wL0 ⟨k, s, vo, hmL0, e37_L0, hAL0, hwL0, ⟨hk0, hsk, hO2, hO4, hO6, hO7, hO8, oo, hzO⟩⟩
        have := World.grownBy.size hwL0
        have oT := OwnT.of oo
        have t2 := hO2.lt
        have t4 := hO4.lt
        have t6 := hO6.lt
        have t7 := hO7.lt
        have t8 := hO8.lt
        have hsl1 : s.1.length ≤ k := by have := done_len (x := m.M) (e := e) (m.R.take k) ([], toR m.M e); rw [← hsk] at this; simp at this; omega
        refine WF.seq ?_
        refine WF.region ?_
        refine WL.va rfl rfl rfl (X.lss e37_L0 ((hAL0.eq 36).trans (congrFun hF45 36))) ?_
        refine WL.nil ?_
        refine thn_n ?_
        refine WF.seq ?_
        refine WF.cond rfl (fun h1_46 => ?_) (fun h1_46 => ?_)
        · have gh1_46 := (of_decide_eq_true h1_46)
          have hk : k < m.R.length := by omega
          refine WF.skip ?_
          refine thn_n ?_
          refine WF.seq ?_
          refine WF.block ?_
          refine WF.seq ?_
          refine WF.region ?_
          refine WL.va rfl rfl rfl (X.idx hv ((hAL0.eq 35).trans (congrFun hF45 35)) e37_L0 (by omega) Try.underlying22 Try.sizeOf41) ?_
          refine WL.va rfl rfl rfl (X.loadEl hv (Ext.trans (Ext.trans (Ext.trans hx3 hx7) (Ext.store hx11 hx14 (by omega))) hwL0) rfl (by omega) (Rgs.el (l := m.R) (k := k) hk) Try.isAgg41 Try.sizeOf41) ?_
          refine WL.op rfl (OW.allocO (cs := [i64 0, i64 0, i64 0, i64 0]) Try.zeroValue41 rfl ?_ (by decide))
          intro g10 w48 heg10 hlg10 hO10 hx50
          have := World.grownBy.size hx50
          refine WL.op rfl (OW.storeOA hO10 rfl rfl rfl (Rg.c_one _) Try.sizeOf41 ?_)
          intro w52 hO10 hx54
          have := World.grownBy.size hx54
          replace hO2 := (hO2.ext hx50).keptO hx54 (by omega)
          replace hO4 := (hO4.ext hx50).keptO hx54 (by omega)
          replace hO6 := (hO6.ext hx50).keptO hx54 (by omega)
          replace hO7 := (hO7.ext hx50).keptO hx54 (by omega)
          replace hO8 := (hO8.ext hx50).keptO hx54 (by omega)
          replace oT := (oT.ext hx50).keptO hx54 (by omega)
          refine WL.nil ?_
          refine thn_n ?_
          refine WF.seq ?_
          refine WF.region ?_
          refine WL.va rfl rfl rfl (X.fieldAddrO (off := 2) rfl Try.underlying41 rfl rfl Try.sizeOf3) ?_
          refine WL.va rfl rfl rfl (X.loadO hO10 (Ext.refl _) rfl rfl Try.isAgg3) ?_
          refine WL.nil ?_
          refine thn_n ?_
          refine WF.block ?_
          refine WF.seq ?_
          refine WF.region ?_
          refine WL.va rfl rfl rfl (X.fieldAddrO (off := 1) ((hAL0.eq 6).trans (congrFun hF45 6)) Try.underlying24 rfl rfl Try.sizeOf3) ?_
          refine WL.va rfl rfl rfl (X.loadO hO6 (Ext.refl _) rfl rfl Try.isAgg3) ?_
          refine WL.va rfl rfl rfl (X.eql rfl rfl) ?_
          refine WL.va rfl rfl rfl (X.assignB rfl) ?_
          refine WL.nil ?_
          refine thn_n ?_
          refine WF.cond rfl (fun h2_56 => ?_) (fun h2_56 => ?_)
          · have gh2_56 := (of_decide_eq_true h2_56)
            have hF := gh2_56
            refine WF.seq ?_
            refine WF.seq ?_
            refine WF.region ?_
            refine WL.va rfl rfl rfl (X.fieldAddrO (off := 0) rfl Try.underlying41 rfl rfl Try.sizeOf3) ?_
            refine WL.va rfl rfl rfl (X.loadO hO10 (Ext.refl _) rfl rfl Try.isAgg3) ?_
            refine WL.va rfl rfl rfl (X.fieldAddrO (off := 3) ((hAL0.eq 6).trans (congrFun hF45 6)) Try.underlying24 rfl rfl Try.sizeOf3) ?_
            refine WL.va rfl rfl rfl (X.loadO hO6 (Ext.refl _) rfl rfl Try.isAgg3) ?_
            refine WL.va rfl rfl rfl (X.eql rfl rfl) ?_
            refine WL.nil ?_
            refine thn_n ?_
            refine WF.cond rfl (fun h3_58 => ?_) (fun h3_58 => ?_)
            · have gh3_58 := (of_decide_eq_true h3_58)
              have hc : cutR m.M e (m.R[k]'hk) = ⟨m.M.Hi, (m.R[k]'hk).Hi, (m.R[k]'hk).Group, e⟩ := if_pos gh3_58
              refine WF.region ?_
              refine WL.va rfl rfl rfl (X.fieldAddrO (off := 4) ((hAL0.eq 6).trans (congrFun hF45 6)) Try.underlying24 rfl rfl Try.sizeOf3) ?_
              refine WL.va rfl rfl rfl (X.loadO hO6 (Ext.refl _) rfl rfl Try.isAgg3) ?_
              refine WL.va rfl rfl rfl (X.fieldAddrO (off := 0) rfl Try.underlying41 rfl rfl Try.sizeOf3) ?_
              refine WL.op rfl (OW.storeO hO10 (Nat.le_of_ble_eq_true rfl) rfl rfl rfl Try.sizeOf3 ?_)
              intro w60 hO10 hx62
              have := World.grownBy.size hx62
              replace hO2 := hO2.keptO hx62 (by omega)
              replace hO4 := hO4.keptO hx62 (by omega)
              replace hO6 := hO6.keptO hx62 (by omega)
              replace hO7 := hO7.keptO hx62 (by omega)
              replace hO8 := hO8.keptO hx62 (by omega)
              replace oT := oT.keptO hx62 (by omega)
              refine WL.nil ?_
              refine thn_n ?_
              refine WF.seq ?_
              refine WF.region ?_
              refine WL.va rfl rfl rfl (X.moveI ((hAL0.eq 1).trans (congrFun hF45 1))) ?_
              refine WL.va rfl rfl rfl (X.fieldAddrO (off := 3) rfl Try.underlying41 rfl rfl Try.sizeOf3) ?_
              refine WL.op rfl (OW.storeO hO10 (Nat.le_of_ble_eq_true rfl) rfl rfl rfl Try.sizeOf3 ?_)
              intro w65 hO10 hx67
              have := World.grownBy.size hx67
              replace hO2 := hO2.keptO hx67 (by omega)
              replace hO4 := hO4.keptO hx67 (by omega)
              replace hO6 := hO6.keptO hx67 (by omega)
              replace hO7 := hO7.keptO hx67 (by omega)
              replace hO8 := hO8.keptO hx67 (by omega)
              replace oT := oT.keptO hx67 (by omega)
              replace hO10 : Blk w65 g10 41 (Rg.c (cutR m.M e (m.R[k]'hk))) := by rw [hc]; exact hO10
              refine WL.nil ?_
              refine thn_n ?_
              refine WF.seq ?_
              refine WF.region ?_
              refine WL.va rfl rfl rfl (X.fieldAddrO (off := 0) rfl Try.underlying41 rfl rfl Try.sizeOf3) ?_
              refine WL.va rfl rfl rfl (X.loadO hO10 (Ext.refl _) rfl rfl Try.isAgg3) ?_
              refine WL.va rfl rfl rfl (X.fieldAddrO (off := 1) rfl Try.underlying41 rfl rfl Try.sizeOf3) ?_
              refine WL.va rfl rfl rfl (X.loadO hO10 (Ext.refl _) rfl rfl Try.isAgg3) ?_
              refine WL.va rfl rfl rfl (X.lss rfl rfl) ?_
              refine WL.nil ?_
              refine thn_n ?_
              refine WF.cond rfl (fun h4_69 => ?_) (fun h4_69 => ?_)
              · have gh4_69 := (of_decide_eq_true h4_69)
                have hd : done1 m.M e s (m.R[k]'hk) = (s.1 ++ [cutR m.M e (m.R[k]'hk)], s.2) := (if_pos hF).trans (if_pos gh4_69)
                refine WF.region ?_
                refine WL.va rfl rfl rfl (X.fieldAddrO (off := 0) ((hAL0.eq 8).trans (congrFun hF45 8)) Try.underlying26 rfl rfl Try.sizeOf22) ?_
                refine WL.va rfl rfl rfl (X.loadO hO8 (Ext.refl _) rfl rfl Try.isAgg22) ?_
                refine WL.va rfl rfl rfl (X.loadOA hO10 (Ext.refl _) rfl rfl Try.isAgg41 Try.sizeOf41) ?_
                refine WL.op rfl (OW.lits (vs := [_]) (evp_cons rfl evp_nil) Try.underlying22 Try.sizeOf41 Try.zeroValue41 ⟨rfl, trivial⟩ rfl rfl rfl ?_ (by decide))
                intro v72 w71 ho74 hx73
                have := World.grownBy.size hx73
                have hlt := ho74
                refine WL.op rfl (OW.append (bytes := 32) (oT.ext hx73).own (Row.of_own hlt) (Rg.c_one _) rfl rfl Try.underlying22 Try.type41 rfl rfl rfl rfl (by decide) (by unfold maxLen; omega) (by omega) (by omega) ?_ (by decide))
                intro vN w75 ho77 hx76 hmvhx76
                have := World.grownBy.size hx76
                replace hO2 := (hO2.ext hx73).keptR hx76 (fun b hb => by have h1 := ((oT.ext hx73).own.lt b hb).1; have h2 := oT.top b hb; omega)
                replace hO4 := (hO4.ext hx73).keptR hx76 (fun b hb => by have h1 := ((oT.ext hx73).own.lt b hb).1; have h2 := oT.top b hb; omega)
                replace hO6 := (hO6.ext hx73).keptR hx76 (fun b hb => by have h1 := ((oT.ext hx73).own.lt b hb).1; have h2 := oT.top b hb; omega)
                replace hO7 := (hO7.ext hx73).keptR hx76 (fun b hb => by have h1 := ((oT.ext hx73).own.lt b hb).1; have h2 := oT.top b hb; omega)
                replace hO8 := (hO8.ext hx73).keptR hx76 (fun b hb => by have h1 := ((oT.ext hx73).own.lt b hb).1; have h2 := oT.top b hb; omega)
                replace hO10 := (hO10.ext hx73).keptR hx76 (fun b hb => by have h1 := ((oT.ext hx73).own.lt b hb).1; have h2 := oT.top b hb; omega)
                have oN := OwnR.app (m := [cutR m.M e (m.R[k]'hk)]) ho77
                refine WL.va rfl rfl rfl (X.fieldAddrO (off := 0) ((hAL0.eq 8).trans (congrFun hF45 8)) Try.underlying26 rfl rfl Try.sizeOf22) ?_
                refine WL.op rfl (OW.storeO hO8 (Nat.le_of_ble_eq_true rfl) rfl rfl (own_one oN) Try.sizeOf22 ?_)
                intro w78 hO8 hx80
                have := World.grownBy.size hx80
                replace hO2 := hO2.keptO hx80 (by omega)
                replace hO4 := hO4.keptO hx80 (by omega)
                replace hO6 := hO6.keptO hx80 (by omega)
                replace hO7 := hO7.keptO hx80 (by omega)
                replace hO10 := hO10.keptO hx80 (by omega)
                replace oN := own_keptO oN hx80 (by omega)
                replace hO8 : Blk _ _ _ (Mp.c ⟨[], m.E, Mv.zero⟩ vN) := hO8
                refine WL.nil ?_
                refine blk_n ?_
                refine blk_n ?_
                refine thn_n ?_
                refine WF.region ?_
                refine WL.va rfl rfl rfl (X.add e37_L0 rfl (w64 (by omega))) ?_
                refine WL.va rfl rfl rfl (X.moveI rfl) ?_
                refine WL.nil ?_
                exact thn_n ⟨_, (by omega), k + 1, done1 m.M e s (m.R[k]'hk), _, rfl, rfl, (by repeat (first | exact hAL0 | refine Agree.put ?_ rfl | refine Agree.named hF45 ?_)), (Ext.store (Ext.own (Ext.trans (Ext.trans hwL0 (Ext.store (Ext.store (Ext.store hx50 hx54 (by omega)) hx62 (by omega)) hx67 (by omega))) hx73) (own_mono (oT.ext hx73).own (by omega)) (Nat.le_refl _) hx76) hx80 (by omega)), ⟨by omega, done_take hk hsk, hO2, hO4, hO6, (by rw [hd]; exact hO7), hO8, (by rw [hd]; exact oN), by omega⟩⟩
              · have gh4_69 := (of_decide_eq_false h4_69)
                have hd : done1 m.M e s (m.R[k]'hk) = s := (if_pos hF).trans (if_neg gh4_69)
                refine WF.skip ?_
                refine blk_n ?_
                refine blk_n ?_
                refine thn_n ?_
                refine WF.region ?_
                refine WL.va rfl rfl rfl (X.add e37_L0 rfl (w64 (by omega))) ?_
                refine WL.va rfl rfl rfl (X.moveI rfl) ?_
                refine WL.nil ?_
                exact thn_n ⟨_, (by omega), k + 1, done1 m.M e s (m.R[k]'hk), _, rfl, rfl, (by repeat (first | exact hAL0 | refine Agree.put ?_ rfl | refine Agree.named hF45 ?_)), (Ext.trans hwL0 (Ext.store (Ext.store (Ext.store hx50 hx54 (by omega)) hx62 (by omega)) hx67 (by omega))), ⟨by omega, done_take hk hsk, hO2, hO4, hO6, (by rw [hd]; exact hO7), hO8, (by rw [hd]; exact oT.own), by omega⟩⟩
            · have gh3_58 := (of_decide_eq_false h3_58)
              have hc : cutR m.M e (m.R[k]'hk) = ⟨(m.R[k]'hk).Lo, m.M.Lo, (m.R[k]'hk).Group, e⟩ := if_neg gh3_58
              refine WF.region ?_
              refine WL.va rfl rfl rfl (X.fieldAddrO (off := 3) ((hAL0.eq 6).trans (congrFun hF45 6)) Try.underlying24 rfl rfl Try.sizeOf3) ?_
              refine WL.va rfl rfl rfl (X.loadO hO6 (Ext.refl _) rfl rfl Try.isAgg3) ?_
              refine WL.va rfl rfl rfl (X.fieldAddrO (off := 1) rfl Try.underlying41 rfl rfl Try.sizeOf3) ?_
              refine WL.op rfl (OW.storeO hO10 (Nat.le_of_ble_eq_true rfl) rfl rfl rfl Try.sizeOf3 ?_)
              intro w82 hO10 hx84
              have := World.grownBy.size hx84
              replace hO2 := hO2.keptO hx84 (by omega)
              replace hO4 := hO4.keptO hx84 (by omega)
              replace hO6 := hO6.keptO hx84 (by omega)
              replace hO7 := hO7.keptO hx84 (by omega)
              replace hO8 := hO8.keptO hx84 (by omega)
              replace oT := oT.keptO hx84 (by omega)
              refine WL.nil ?_
              refine thn_n ?_
              refine WF.seq ?_
              refine WF.region ?_
              refine WL.va rfl rfl rfl (X.moveI ((hAL0.eq 1).trans (congrFun hF45 1))) ?_
              refine WL.va rfl rfl rfl (X.fieldAddrO (off := 3) rfl Try.underlying41 rfl rfl Try.sizeOf3) ?_
              refine WL.op rfl (OW.storeO hO10 (Nat.le_of_ble_eq_true rfl) rfl rfl rfl Try.sizeOf3 ?_)
              intro w86 hO10 hx88
              have := World.grownBy.size hx88
              replace hO2 := hO2.keptO hx88 (by omega)
              replace hO4 := hO4.keptO hx88 (by omega)
              replace hO6 := hO6.keptO hx88 (by omega)
              replace hO7 := hO7.keptO hx88 (by omega)
              replace hO8 := hO8.keptO hx88 (by omega)
              replace oT := oT.keptO hx88 (by omega)
              replace hO10 : Blk w86 g10 41 (Rg.c (cutR m.M e (m.R[k]'hk))) := by rw [hc]; exact hO10
              refine WL.nil ?_
              refine thn_n ?_
              refine WF.seq ?_
              refine WF.region ?_
              refine WL.va rfl rfl rfl (X.fieldAddrO (off := 0) rfl Try.underlying41 rfl rfl Try.sizeOf3) ?_
              refine WL.va rfl rfl rfl (X.loadO hO10 (Ext.refl _) rfl rfl Try.isAgg3) ?_
              refine WL.va rfl rfl rfl (X.fieldAddrO (off := 1) rfl Try.underlying41 rfl rfl Try.sizeOf3) ?_
              refine WL.va rfl rfl rfl (X.loadO hO10 (Ext.refl _) rfl rfl Try.isAgg3) ?_
              refine WL.va rfl rfl rfl (X.lss rfl rfl) ?_
              refine WL.nil ?_
              refine thn_n ?_
              refine WF.cond rfl (fun h4_90 => ?_) (fun h4_90 => ?_)
              · have gh4_90 := (of_decide_eq_true h4_90)
                have hd : done1 m.M e s (m.R[k]'hk) = (s.1 ++ [cutR m.M e (m.R[k]'hk)], s.2) := (if_pos hF).trans (if_pos gh4_90)
                refine WF.region ?_
                refine WL.va rfl rfl rfl (X.fieldAddrO (off := 0) ((hAL0.eq 8).trans (congrFun hF45 8)) Try.underlying26 rfl rfl Try.sizeOf22) ?_
                refine WL.va rfl rfl rfl (X.loadO hO8 (Ext.refl _) rfl rfl Try.isAgg22) ?_
                refine WL.va rfl rfl rfl (X.loadOA hO10 (Ext.refl _) rfl rfl Try.isAgg41 Try.sizeOf41) ?_
                refine WL.op rfl (OW.lits (vs := [_]) (evp_cons rfl evp_nil) Try.underlying22 Try.sizeOf41 Try.zeroValue41 ⟨rfl, trivial⟩ rfl rfl rfl ?_ (by decide))
                intro v93 w92 ho95 hx94
                have := World.grownBy.size hx94
                have hlt := ho95
                refine WL.op rfl (OW.append (bytes := 32) (oT.ext hx94).own (Row.of_own hlt) (Rg.c_one _) rfl rfl Try.underlying22 Try.type41 rfl rfl rfl rfl (by decide) (by unfold maxLen; omega) (by omega) (by omega) ?_ (by decide))
                intro vN w96 ho98 hx97 hmvhx97
                have := World.grownBy.size hx97
                replace hO2 := (hO2.ext hx94).keptR hx97 (fun b hb => by have h1 := ((oT.ext hx94).own.lt b hb).1; have h2 := oT.top b hb; omega)
                replace hO4 := (hO4.ext hx94).keptR hx97 (fun b hb => by have h1 := ((oT.ext hx94).own.lt b hb).1; have h2 := oT.top b hb; omega)
                replace hO6 := (hO6.ext hx94).keptR hx97 (fun b hb => by have h1 := ((oT.ext hx94).own.lt b hb).1; have h2 := oT.top b hb; omega)
                replace hO7 := (hO7.ext hx94).keptR hx97 (fun b hb => by have h1 := ((oT.ext hx94).own.lt b hb).1; have h2 := oT.top b hb; omega)
                replace hO8 := (hO8.ext hx94).keptR hx97 (fun b hb => by have h1 := ((oT.ext hx94).own.lt b hb).1; have h2 := oT.top b hb; omega)
                replace hO10 := (hO10.ext hx94).keptR hx97 (fun b hb => by have h1 := ((oT.ext hx94).own.lt b hb).1; have h2 := oT.top b hb; omega)
                have oN := OwnR.app (m := [cutR m.M e (m.R[k]'hk)]) ho98
                refine WL.va rfl rfl rfl (X.fieldAddrO (off := 0) ((hAL0.eq 8).trans (congrFun hF45 8)) Try.underlying26 rfl rfl Try.sizeOf22) ?_
                refine WL.op rfl (OW.storeO hO8 (Nat.le_of_ble_eq_true rfl) rfl rfl (own_one oN) Try.sizeOf22 ?_)
                intro w99 hO8 hx101
                have := World.grownBy.size hx101
                replace hO2 := hO2.keptO hx101 (by omega)
                replace hO4 := hO4.keptO hx101 (by omega)
                replace hO6 := hO6.keptO hx101 (by omega)
                replace hO7 := hO7.keptO hx101 (by omega)
                replace hO10 := hO10.keptO hx101 (by omega)
                replace oN := own_keptO oN hx101 (by omega)
                replace hO8 : Blk _ _ _ (Mp.c ⟨[], m.E, Mv.zero⟩ vN) := hO8
                refine WL.nil ?_
                refine blk_n ?_
                refine blk_n ?_
                refine thn_n ?_
                refine WF.region ?_
                refine WL.va rfl rfl rfl (X.add e37_L0 rfl (w64 (by omega))) ?_
                refine WL.va rfl rfl rfl (X.moveI rfl) ?_
                refine WL.nil ?_
                exact thn_n ⟨_, (by omega), k + 1, done1 m.M e s (m.R[k]'hk), _, rfl, rfl, (by repeat (first | exact hAL0 | refine Agree.put ?_ rfl | refine Agree.named hF45 ?_)), (Ext.store (Ext.own (Ext.trans (Ext.trans hwL0 (Ext.store (Ext.store (Ext.store hx50 hx54 (by omega)) hx84 (by omega)) hx88 (by omega))) hx94) (own_mono (oT.ext hx94).own (by omega)) (Nat.le_refl _) hx97) hx101 (by omega)), ⟨by omega, done_take hk hsk, hO2, hO4, hO6, (by rw [hd]; exact hO7), hO8, (by rw [hd]; exact oN), by omega⟩⟩
              · have gh4_90 := (of_decide_eq_false h4_90)
                have hd : done1 m.M e s (m.R[k]'hk) = s := (if_pos hF).trans (if_neg gh4_90)
                refine WF.skip ?_
                refine blk_n ?_
                refine blk_n ?_
                refine thn_n ?_
                refine WF.region ?_
                refine WL.va rfl rfl rfl (X.add e37_L0 rfl (w64 (by omega))) ?_
                refine WL.va rfl rfl rfl (X.moveI rfl) ?_
                refine WL.nil ?_
                exact thn_n ⟨_, (by omega), k + 1, done1 m.M e s (m.R[k]'hk), _, rfl, rfl, (by repeat (first | exact hAL0 | refine Agree.put ?_ rfl | refine Agree.named hF45 ?_)), (Ext.trans hwL0 (Ext.store (Ext.store (Ext.store hx50 hx54 (by omega)) hx84 (by omega)) hx88 (by omega))), ⟨by omega, done_take hk hsk, hO2, hO4, hO6, (by rw [hd]; exact hO7), hO8, (by rw [hd]; exact oT.own), by omega⟩⟩
          · have gh2_56 := (of_decide_eq_false h2_56)
            have hF := gh2_56
            refine WF.seq ?_
            refine WF.region ?_
            refine WL.va rfl rfl rfl (X.fieldAddrO (off := 2) ((hAL0.eq 6).trans (congrFun hF45 6)) Try.underlying24 rfl rfl Try.sizeOf3) ?_
            refine WL.va rfl rfl rfl (X.loadO hO6 (Ext.refl _) rfl rfl Try.isAgg3) ?_
            refine WL.va rfl rfl rfl (X.eql rfl rfl) ?_
            refine WL.va rfl rfl rfl (X.assignB rfl) ?_
            refine WL.nil ?_
            refine thn_n ?_
            refine WF.cond rfl (fun h5_103 => ?_) (fun h5_103 => ?_)
            · have gh5_103 := (of_decide_eq_true h5_103)
              have hd : done1 m.M e s (m.R[k]'hk) = (s.1, ⟨min s.2.Lo (m.R[k]'hk).Lo, max s.2.Hi (m.R[k]'hk).Hi, s.2.Group, s.2.Epoch⟩) := (if_neg hF).trans (if_pos gh5_103)
              refine WF.drawn (.q 0 (.q 2 (.q 3 (.q 5 (.q 7 (.q 8 (.b 1 6 (.q 4 (.l 6 (.q 9 (.q 10 (.l 11 (.q 12 .nil)))))) (.q 9 (.l 1 (.q 4 (.q 10 (.l 11 (.q 12 .nil))))))))))))) (fun w' => World.grownBy w52 w' (some g7)) 13 (by kernel_rfl) (by kernel_rfl) (grown_of_ext (Ext.drew _)) ?_
              have := World.grownBy.size (Ext.drew w52)
              refine WO.q rfl rfl rfl rfl (fun w' hE105 => (X.fieldAddrO (off := 0) ((hAL0.eq 7).trans (congrFun hF45 7)) Try.underlying41 rfl rfl Try.sizeOf3)) ?_
              refine WO.q rfl rfl rfl rfl (fun w' hE105 => (X.fieldAddrO (off := 0) rfl Try.underlying41 rfl rfl Try.sizeOf3)) ?_
              refine WO.q rfl rfl rfl rfl (fun w' hE105 => (X.loadO (hO10.keptO hE105 (by omega)) (Ext.refl _) rfl rfl Try.isAgg3)) ?_
              refine WO.q rfl rfl rfl rfl (fun w' hE105 => (X.fieldAddrO (off := 1) ((hAL0.eq 7).trans (congrFun hF45 7)) Try.underlying41 rfl rfl Try.sizeOf3)) ?_
              refine WO.q rfl rfl rfl rfl (fun w' hE105 => (X.fieldAddrO (off := 1) rfl Try.underlying41 rfl rfl Try.sizeOf3)) ?_
              refine WO.q rfl rfl rfl rfl (fun w' hE105 => (X.loadO (hO10.keptO hE105 (by omega)) (Ext.refl _) rfl rfl Try.isAgg3)) ?_
              refine WO.b2 ?_ ?_
              · refine LO.go rfl rfl (OW.val rfl (by decide) (X.loadO hO7 (Ext.drew _) rfl rfl Try.isAgg3) ?_)
                refine ⟨(grown_of_ext (Ext.drew _)), ?_⟩
                refine WO.q rfl rfl rfl rfl (fun w' hE105 => (X.min2 rfl rfl)) ?_
                refine WO.l ?_
                refine LO.go rfl rfl (OW.val rfl (by decide) (X.loadO hO7 (Ext.drew _) rfl rfl Try.isAgg3) ?_)
                refine ⟨(grown_of_ext (Ext.drew _)), ?_⟩
                refine WO.q rfl rfl rfl rfl (fun w' hE105 => (X.max2 rfl rfl)) ?_
                refine WO.q rfl rfl rfl rfl (fun w' hE105 => (X.fieldAddrO (off := 0) ((hAL0.eq 7).trans (congrFun hF45 7)) Try.underlying41 rfl rfl Try.sizeOf3)) ?_
                refine WO.l ?_
                refine LO.go rfl rfl (OW.storeO (hO7.ext (Ext.drew _)) (Nat.le_of_ble_eq_true rfl) rfl rfl rfl Try.sizeOf3 ?_)
                intro w106 hO7 hx108
                have := World.grownBy.size hx108
                replace hO2 := (hO2.ext (Ext.drew _)).keptO hx108 (by omega)
                replace hO4 := (hO4.ext (Ext.drew _)).keptO hx108 (by omega)
                replace hO6 := (hO6.ext (Ext.drew _)).keptO hx108 (by omega)
                replace hO8 := (hO8.ext (Ext.drew _)).keptO hx108 (by omega)
                replace oT := (oT.ext (Ext.drew _)).keptO hx108 (by omega)
                replace hO10 := (hO10.ext (Ext.drew _)).keptO hx108 (by omega)
                replace hO7 : Blk _ _ _ (Rg.c ⟨min s.2.Lo (m.R[k]'hk).Lo, s.2.Hi, s.2.Group, s.2.Epoch⟩) := hO7
                refine ⟨(grown2 (grown_of_ext (Ext.drew _)) hx108), ?_⟩
                refine WO.q rfl rfl rfl rfl (fun w' hE105 => (X.fieldAddrO (off := 1) ((hAL0.eq 7).trans (congrFun hF45 7)) Try.underlying41 rfl rfl Try.sizeOf3)) ?_
                refine WO.nil ?_
                refine WL.op rfl (OW.storeO hO7 (Nat.le_of_ble_eq_true rfl) rfl rfl rfl Try.sizeOf3 ?_)
                intro w110 hO7 hx112
                have := World.grownBy.size hx112
                replace hO2 := hO2.keptO hx112 (by omega)
                replace hO4 := hO4.keptO hx112 (by omega)
                replace hO6 := hO6.keptO hx112 (by omega)
                replace hO8 := hO8.keptO hx112 (by omega)
                replace oT := oT.keptO hx112 (by omega)
                replace hO10 := hO10.keptO hx112 (by omega)
                replace hO7 : Blk _ _ _ (Rg.c ⟨min s.2.Lo (m.R[k]'hk).Lo, max s.2.Hi (m.R[k]'hk).Hi, s.2.Group, s.2.Epoch⟩) := hO7
                refine WL.nil ?_
                refine blk_n ?_
                refine blk_n ?_
                refine thn_n ?_
                refine WF.region ?_
                refine WL.va rfl rfl rfl (X.add e37_L0 rfl (w64 (by omega))) ?_
                refine WL.va rfl rfl rfl (X.moveI rfl) ?_
                refine WL.nil ?_
                exact thn_n ⟨_, (by omega), k + 1, done1 m.M e s (m.R[k]'hk), _, rfl, rfl, (by repeat (first | exact hAL0 | refine Agree.put ?_ rfl | refine Agree.named hF45 ?_)), (Ext.store (Ext.store (Ext.trans (Ext.trans hwL0 (Ext.store hx50 hx54 (by omega))) (Ext.drew _)) hx108 (by omega)) hx112 (by omega)), ⟨by omega, done_take hk hsk, hO2, hO4, hO6, (by rw [hd]; exact hO7), hO8, (by rw [hd]; exact oT.own), by omega⟩⟩
              · refine LO.go rfl rfl (OW.val rfl (by decide) (X.loadO hO7 (Ext.drew _) rfl rfl Try.isAgg3) ?_)
                refine ⟨(grown_of_ext (Ext.drew _)), ?_⟩
                refine WO.q rfl rfl rfl rfl (fun w' hE105 => (X.max2 rfl rfl)) ?_
                refine WO.l ?_
                refine LO.go rfl rfl (OW.val rfl (by decide) (X.loadO hO7 (Ext.drew _) rfl rfl Try.isAgg3) ?_)
                refine ⟨(grown_of_ext (Ext.drew _)), ?_⟩
                refine WO.q rfl rfl rfl rfl (fun w' hE105 => (X.min2 rfl rfl)) ?_
                refine WO.q rfl rfl rfl rfl (fun w' hE105 => (X.fieldAddrO (off := 0) ((hAL0.eq 7).trans (congrFun hF45 7)) Try.underlying41 rfl rfl Try.sizeOf3)) ?_
                refine WO.l ?_
                refine LO.go rfl rfl (OW.storeO (hO7.ext (Ext.drew _)) (Nat.le_of_ble_eq_true rfl) rfl rfl rfl Try.sizeOf3 ?_)
                intro w114 hO7 hx116
                have := World.grownBy.size hx116
                replace hO2 := (hO2.ext (Ext.drew _)).keptO hx116 (by omega)
                replace hO4 := (hO4.ext (Ext.drew _)).keptO hx116 (by omega)
                replace hO6 := (hO6.ext (Ext.drew _)).keptO hx116 (by omega)
                replace hO8 := (hO8.ext (Ext.drew _)).keptO hx116 (by omega)
                replace oT := (oT.ext (Ext.drew _)).keptO hx116 (by omega)
                replace hO10 := (hO10.ext (Ext.drew _)).keptO hx116 (by omega)
                replace hO7 : Blk _ _ _ (Rg.c ⟨min s.2.Lo (m.R[k]'hk).Lo, s.2.Hi, s.2.Group, s.2.Epoch⟩) := hO7
                refine ⟨(grown2 (grown_of_ext (Ext.drew _)) hx116), ?_⟩
                refine WO.q rfl rfl rfl rfl (fun w' hE105 => (X.fieldAddrO (off := 1) ((hAL0.eq 7).trans (congrFun hF45 7)) Try.underlying41 rfl rfl Try.sizeOf3)) ?_
                refine WO.nil ?_
                refine WL.op rfl (OW.storeO hO7 (Nat.le_of_ble_eq_true rfl) rfl rfl rfl Try.sizeOf3 ?_)
                intro w118 hO7 hx120
                have := World.grownBy.size hx120
                replace hO2 := hO2.keptO hx120 (by omega)
                replace hO4 := hO4.keptO hx120 (by omega)
                replace hO6 := hO6.keptO hx120 (by omega)
                replace hO8 := hO8.keptO hx120 (by omega)
                replace oT := oT.keptO hx120 (by omega)
                replace hO10 := hO10.keptO hx120 (by omega)
                replace hO7 : Blk _ _ _ (Rg.c ⟨min s.2.Lo (m.R[k]'hk).Lo, max s.2.Hi (m.R[k]'hk).Hi, s.2.Group, s.2.Epoch⟩) := hO7
                refine WL.nil ?_
                refine blk_n ?_
                refine blk_n ?_
                refine thn_n ?_
                refine WF.region ?_
                refine WL.va rfl rfl rfl (X.add e37_L0 rfl (w64 (by omega))) ?_
                refine WL.va rfl rfl rfl (X.moveI rfl) ?_
                refine WL.nil ?_
                exact thn_n ⟨_, (by omega), k + 1, done1 m.M e s (m.R[k]'hk), _, rfl, rfl, (by repeat (first | exact hAL0 | refine Agree.put ?_ rfl | refine Agree.named hF45 ?_)), (Ext.store (Ext.store (Ext.trans (Ext.trans hwL0 (Ext.store hx50 hx54 (by omega))) (Ext.drew _)) hx116 (by omega)) hx120 (by omega)), ⟨by omega, done_take hk hsk, hO2, hO4, hO6, (by rw [hd]; exact hO7), hO8, (by rw [hd]; exact oT.own), by omega⟩⟩
            · have gh5_103 := (of_decide_eq_false h5_103)
              have hd : done1 m.M e s (m.R[k]'hk) = (s.1 ++ [(m.R[k]'hk)], s.2) := (if_neg hF).trans (if_neg gh5_103)
              refine WF.region ?_
              refine WL.va rfl rfl rfl (X.fieldAddrO (off := 0) ((hAL0.eq 8).trans (congrFun hF45 8)) Try.underlying26 rfl rfl Try.sizeOf22) ?_
              refine WL.va rfl rfl rfl (X.loadO hO8 (Ext.refl _) rfl rfl Try.isAgg22) ?_
              refine WL.va rfl rfl rfl (X.loadOA hO10 (Ext.refl _) rfl rfl Try.isAgg41 Try.sizeOf41) ?_
              refine WL.op rfl (OW.lits (vs := [_]) (evp_cons rfl evp_nil) Try.underlying22 Try.sizeOf41 Try.zeroValue41 ⟨rfl, trivial⟩ rfl rfl rfl ?_ (by decide))
              intro v123 w122 ho125 hx124
              have := World.grownBy.size hx124
              have hlt := ho125
              refine WL.op rfl (OW.append (bytes := 32) (oT.ext hx124).own (Row.of_own hlt) (Rg.c_one _) rfl rfl Try.underlying22 Try.type41 rfl rfl rfl rfl (by decide) (by unfold maxLen; omega) (by omega) (by omega) ?_ (by decide))
              intro vM w126 ho128 hx127 hmvhx127
              have := World.grownBy.size hx127
              replace hO2 := (hO2.ext hx124).keptR hx127 (fun b hb => by have h1 := ((oT.ext hx124).own.lt b hb).1; have h2 := oT.top b hb; omega)
              replace hO4 := (hO4.ext hx124).keptR hx127 (fun b hb => by have h1 := ((oT.ext hx124).own.lt b hb).1; have h2 := oT.top b hb; omega)
              replace hO6 := (hO6.ext hx124).keptR hx127 (fun b hb => by have h1 := ((oT.ext hx124).own.lt b hb).1; have h2 := oT.top b hb; omega)
              replace hO7 := (hO7.ext hx124).keptR hx127 (fun b hb => by have h1 := ((oT.ext hx124).own.lt b hb).1; have h2 := oT.top b hb; omega)
              replace hO8 := (hO8.ext hx124).keptR hx127 (fun b hb => by have h1 := ((oT.ext hx124).own.lt b hb).1; have h2 := oT.top b hb; omega)
              replace hO10 := (hO10.ext hx124).keptR hx127 (fun b hb => by have h1 := ((oT.ext hx124).own.lt b hb).1; have h2 := oT.top b hb; omega)
              have oM := OwnR.app (m := [(m.R[k]'hk)]) ho128
              refine WL.va rfl rfl rfl (X.fieldAddrO (off := 0) ((hAL0.eq 8).trans (congrFun hF45 8)) Try.underlying26 rfl rfl Try.sizeOf22) ?_
              refine WL.op rfl (OW.storeO hO8 (Nat.le_of_ble_eq_true rfl) rfl rfl (own_one oM) Try.sizeOf22 ?_)
              intro w129 hO8 hx131
              have := World.grownBy.size hx131
              replace hO2 := hO2.keptO hx131 (by omega)
              replace hO4 := hO4.keptO hx131 (by omega)
              replace hO6 := hO6.keptO hx131 (by omega)
              replace hO7 := hO7.keptO hx131 (by omega)
              replace hO10 := hO10.keptO hx131 (by omega)
              replace oM := own_keptO oM hx131 (by omega)
              replace hO8 : Blk _ _ _ (Mp.c ⟨[], m.E, Mv.zero⟩ vM) := hO8
              refine WL.nil ?_
              refine blk_n ?_
              refine blk_n ?_
              refine thn_n ?_
              refine WF.region ?_
              refine WL.va rfl rfl rfl (X.add e37_L0 rfl (w64 (by omega))) ?_
              refine WL.va rfl rfl rfl (X.moveI rfl) ?_
              refine WL.nil ?_
              exact thn_n ⟨_, (by omega), k + 1, done1 m.M e s (m.R[k]'hk), _, rfl, rfl, (by repeat (first | exact hAL0 | refine Agree.put ?_ rfl | refine Agree.named hF45 ?_)), (Ext.store (Ext.own (Ext.trans (Ext.trans hwL0 (Ext.store hx50 hx54 (by omega))) hx124) (own_mono (oT.ext hx124).own (by omega)) (Nat.le_refl _) hx127) hx131 (by omega)), ⟨by omega, done_take hk hsk, hO2, hO4, hO6, (by rw [hd]; exact hO7), hO8, (by rw [hd]; exact oM), by omega⟩⟩
        · have gh1_46 := (of_decide_eq_false h1_46)
          have hsF : doneU m.R m.M e = s.1 ++ [s.2] := by rw [List.take_of_length_le (by omega)] at hsk; unfold doneU; rw [← hsk]
          have hsl : s.1.length ≤ m.R.length := by have := done_len (x := m.M) (e := e) (m.R.take k) ([], toR m.M e); rw [← hsk] at this; simp at this; omega
          refine WF.exit ?_
          refine thn_x ?_
          refine thn_x ?_
          refine blk_eq ?_
          refine thn_n ?_
          refine WF.seq ?_
          refine WF.region ?_
          refine WL.va rfl rfl rfl (X.fieldAddrO (off := 0) ((hAL0.eq 8).trans (congrFun hF45 8)) Try.underlying26 rfl rfl Try.sizeOf22) ?_
          refine WL.va rfl rfl rfl (X.loadO hO8 (Ext.refl _) rfl rfl Try.isAgg22) ?_
          refine WL.va rfl rfl rfl (X.loadOA hO7 (Ext.refl _) ((hAL0.eq 7).trans (congrFun hF45 7)) rfl Try.isAgg41 Try.sizeOf41) ?_
          refine WL.op rfl (OW.lits (vs := [_]) (evp_cons rfl evp_nil) Try.underlying22 Try.sizeOf41 Try.zeroValue41 ⟨rfl, trivial⟩ rfl rfl rfl ?_ (by decide))
          intro v134 w133 ho136 hx135
          have := World.grownBy.size hx135
          have hlt := ho136
          refine WL.op rfl (OW.append (bytes := 32) (oT.ext hx135).own (Row.of_own hlt) (Rg.c_one _) rfl rfl Try.underlying22 Try.type41 rfl rfl rfl rfl (by decide) (by unfold maxLen; omega) (by omega) (by omega) ?_ (by decide))
          intro vF w137 ho139 hx138 hmvhx138
          have := World.grownBy.size hx138
          replace hO2 := (hO2.ext hx135).keptR hx138 (fun b hb => by have h1 := ((oT.ext hx135).own.lt b hb).1; have h2 := oT.top b hb; omega)
          replace hO4 := (hO4.ext hx135).keptR hx138 (fun b hb => by have h1 := ((oT.ext hx135).own.lt b hb).1; have h2 := oT.top b hb; omega)
          replace hO6 := (hO6.ext hx135).keptR hx138 (fun b hb => by have h1 := ((oT.ext hx135).own.lt b hb).1; have h2 := oT.top b hb; omega)
          replace hO7 := (hO7.ext hx135).keptR hx138 (fun b hb => by have h1 := ((oT.ext hx135).own.lt b hb).1; have h2 := oT.top b hb; omega)
          replace hO8 := (hO8.ext hx135).keptR hx138 (fun b hb => by have h1 := ((oT.ext hx135).own.lt b hb).1; have h2 := oT.top b hb; omega)
          have oF := OwnR.app (m := [s.2]) ho139
          refine WL.va rfl rfl rfl (X.fieldAddrO (off := 0) ((hAL0.eq 8).trans (congrFun hF45 8)) Try.underlying26 rfl rfl Try.sizeOf22) ?_
          refine WL.op rfl (OW.storeO hO8 (Nat.le_of_ble_eq_true rfl) rfl rfl (own_one oF) Try.sizeOf22 ?_)
          intro w140 hO8 hx142
          have := World.grownBy.size hx142
          replace hO2 := hO2.keptO hx142 (by omega)
          replace hO4 := hO4.keptO hx142 (by omega)
          replace hO6 := hO6.keptO hx142 (by omega)
          replace hO7 := hO7.keptO hx142 (by omega)
          replace oF := own_keptO oF hx142 (by omega)
          replace hO8 : Blk _ _ _ (Mp.c ⟨[], m.E, Mv.zero⟩ vF) := hO8
          refine WL.nil ?_
          refine thn_n ?_
          refine WF.seq ?_
          refine WF.region ?_
          refine WL.va rfl rfl rfl (X.fieldAddrO (off := 0) ((hAL0.eq 8).trans (congrFun hF45 8)) Try.underlying26 rfl rfl Try.sizeOf22) ?_
          refine WL.va rfl rfl rfl (X.loadO hO8 (Ext.refl _) rfl rfl Try.isAgg22) ?_
          refine WL.c rfl rfl rfl (X.call Try.call57 (evl_cons rfl (evl_cons rfl evl_nil))) (sortF_ok vF _ (s.1 ++ [s.2]) _ _ oF (by simp; omega) (fun a b w1 => ⟨_, [], rfl, Try.call58, doneLit_ok a b w1⟩)) ?_
          rintro v145 w144 ⟨⟨L, oL, hpL, hsL⟩, hx146⟩
          have := World.grownBy.size hx146
          replace hO2 := hO2.keptR hx146 (fun b hb => by have := (oF.lt b hb).1; omega)
          replace hO4 := hO4.keptR hx146 (fun b hb => by have := (oF.lt b hb).1; omega)
          replace hO6 := hO6.keptR hx146 (fun b hb => by have := (oF.lt b hb).1; omega)
          replace hO7 := hO7.keptR hx146 (fun b hb => by have := (oF.lt b hb).1; omega)
          replace hO8 := hO8.keptR hx146 (fun b hb => by have := (oF.lt b hb).1; omega)
          refine WL.nil ?_
          refine thn_n ?_
          refine WF.seq ?_
          refine WF.region ?_
          refine WL.va rfl rfl rfl (X.loadOA hO8 (Ext.refl _) ((hAL0.eq 8).trans (congrFun hF45 8)) rfl Try.isAgg26 Try.sizeOf26) ?_
          refine WL.op rfl (OW.storeOA hO4 ((hAL0.eq 4).trans (congrFun hF45 4)) rfl rfl (Mp.c_one (Row.of_own oL) ⟨L, m.E, Mv.zero⟩) Try.sizeOf26 ?_)
          intro w147 hO4 hx149
          have := World.grownBy.size hx149
          replace hO2 := hO2.keptO hx149 (by omega)
          replace hO6 := hO6.keptO hx149 (by omega)
          replace hO7 := hO7.keptO hx149 (by omega)
          replace hO8 := hO8.keptO hx149 (by omega)
          replace oL := own_keptO oL hx149 (by omega)
          refine WL.va rfl rfl rfl (X.assignI rfl) ?_
          refine WL.nil ?_
          refine thn_n ?_
          refine WF.ret ?_
          refine finC_r (vs := [_, _]) ⟨⟨_, ((hAL0.eq 4).trans (congrFun hF45 4)), readO hO4 Try.isAgg26 Try.sizeOf26⟩, rfl, trivial⟩ ?_
          exact ⟨⟨_, ⟨L, m.E, Mv.zero⟩, 0, rfl, own_mono oL (by omega), .inr ⟨hno, rfl, rfl, rfl, ⟨hsF ▸ hpL, hsL⟩⟩⟩, (Ext.store (Ext.trans (Ext.trans (Ext.trans hx3 hx7) (Ext.store hx11 hx14 (by omega))) (grown_trans (Ext.store (Ext.own (Ext.trans hwL0 hx135) (own_mono (oT.ext hx135).own (by omega)) (Nat.le_refl _) hx138) hx142 (by omega)) hx146 (fun i hi => by have := (oF.lt i hi).1; omega))) hx149 (by omega))⟩

section
variable {P : Program} {f : Fr} {w : World} {dst : Option Tmp} {ty t e : TypeId} {pos : String} {aft : Array Edge} {gd : Option (Nat × Bool)} {x y : Operand} {g k m sz : Nat} {kd : IntKind}
/-- an element of an array in a block of its own -/
theorem X.idxArr (hx : ev f x = at_ g) (hy : ev f y = .int kd (k : Int)) (hk : k < m) (ht : P.underlying t = some (.array m e)) (hs : ∀ w, (sizeOf e).run P w = .ok sz w) :
    (execOp (ev f) ⟨dst, .indexAddr t x y, ty, pos, aft, gd⟩).run P w = .ok (.value (.pointer (some ⟨g, k * sz, none⟩))) w := by
  have h1 : (k : Int) < (m : Int) := by omega
  simp [execOp, hx, hy, Instr.indexAt, asIntOf, Instr.sureAddr, run_underlying ht, hs, Result.andThen, Addr.add_lit, hk]
end
abbrev anyG (l : List Rg) (n : Int) : Bool := l.any fun q => decide (q.Group = n)
abbrev hadB (l : List Rg) : List Value := [.bool (anyG l 0), .bool (anyG l 1), .bool (anyG l 2), .bool (anyG l 3), .bool (anyG l 4)]
theorem had_at {l : List Rg} : ∀ {n : Nat}, n < 5 → (hadB l)[n * 1]? = some (.bool (anyG l (n : Int)))
  | 0, _ => rfl
  | 1, _ => rfl
  | 2, _ => rfl
  | 3, _ => rfl
  | 4, _ => rfl
  | n + 5, h => by omega
theorem had_set {l : List Rg} {r : Rg} {n : Nat} (hn : n < 5) (h : r.Group = (n : Int)) : (hadB l).set (n * 1) (.bool true) = hadB (l ++ [r]) := by
  have key : ∀ i : Int, anyG (l ++ [r]) i = (anyG l i || decide (r.Group = i)) := fun i => by simp [anyG, List.any_append]
  unfold hadB
  rw [key, key, key, key, key, h]
  match n, hn with
  | 0, _ => simp [hadB]
  | 1, _ => simp [hadB]
  | 2, _ => simp [hadB]
  | 3, _ => simp [hadB]
  | 4, _ => simp [hadB]
theorem any_all {l : List Rg} {n : Int} : anyG l n = !(l.all fun q => decide (q.Group ≠ n)) := by
  unfold anyG
  induction l with
  | nil => rfl
  | cons a l ih => rw [List.any_cons, List.all_cons, ih]; by_cases h : a.Group = n <;> simp [h]
theorem good_at {l : List Rg} {least : Int} {k : Nat} (hk : k < l.length) : goodB l least k = (decide (l[k].Lo = prevHi l k) && (decide (l[k].Lo < l[k].Hi) && (decide (l[k].Hi ≤ 64) && (decide (1 ≤ l[k].Group) && (decide (l[k].Group ≤ 4) && ((l.take k).all (fun q => decide (q.Group ≠ l[k].Group)) && (decide (1 ≤ l[k].Epoch) && decide (l[k].Epoch ≤ least)))))))) := by
  unfold goodB
  rw [show l.getD k Rg.zero = l[k] by simp [hk]]
theorem okB_succ {l : List Rg} {least : Int} {n : Nat} : okB l least (n + 1) = (okB l least n && goodB l least n) := by
  unfold okB; rw [List.range_succ, List.all_append]; simp
theorem okB_no {l : List Rg} {least : Int} {n k : Nat} (hk : k < n) (h : goodB l least k = false) : okB l least n = false := by
  unfold okB
  rw [List.all_eq_false]
  exact ⟨k, by simpa using hk, by simp [h]⟩
theorem nodup_sub {α : Type} [DecidableEq α] : ∀ {l m : List α}, l.Nodup → (∀ x ∈ l, x ∈ m) → l.length ≤ m.length
  | [], _, _, _ => Nat.zero_le _
  | a :: l, m, h, hs => by
    rw [List.nodup_cons] at h
    have ha := hs a (by simp)
    have := nodup_sub (m := m.erase a) h.2 (fun x hx => (List.mem_erase_of_ne (fun (e : x = a) => h.1 (e ▸ hx))).2 (hs x (List.mem_cons_of_mem _ hx)))
    rw [List.length_erase_of_mem ha] at this
    have := List.length_pos_of_mem ha
    simp; omega
theorem four_len {l : List Rg} (h1 : ∀ k (hk : k < l.length), 1 ≤ l[k].Group ∧ l[k].Group ≤ 4) (h2 : ∀ i j (hi : i < l.length) (hj : j < l.length), i < j → l[i].Group ≠ l[j].Group) : l.length ≤ 4 := by
  have hn : (l.map Rg.Group).Nodup := by
    rw [List.Nodup, List.pairwise_iff_getElem]
    intro i j hi hj hij
    simp only [List.length_map] at hi hj
    rw [List.getElem_map, List.getElem_map]
    exact h2 i j hi hj hij
  have := nodup_sub hn (m := [1, 2, 3, 4]) (fun x hx => by
    obtain ⟨r, hr, rfl⟩ := List.mem_map.1 hx
    obtain ⟨k, hk, rfl⟩ := List.getElem_of_mem hr
    have := h1 k hk
    simp only [List.mem_cons, List.not_mem_nil, or_false]; omega)
  simpa using this
theorem okB_len {l : List Rg} {least : Int} (h : okB l least l.length = true) : l.length ≤ 4 := by
  unfold okB at h
  rw [List.all_eq_true] at h
  have h' : ∀ k (hk : k < l.length), goodB l least k = true := fun k hk => h k (by simpa using hk)
  refine four_len (fun k hk => ?_) (fun i j hi hj hij => ?_)
  · have := h' k hk
    rw [good_at hk] at this
    simp only [Bool.and_eq_true, decide_eq_true_iff] at this
    omega
  · have := h' j hj
    rw [good_at hj] at this
    simp only [Bool.and_eq_true, decide_eq_true_iff] at this
    exact of_decide_eq_true (List.all_eq_true.1 this.2.2.2.2.2.1 l[i] (List.mem_take_iff_getElem.2 ⟨i, by omega, rfl⟩))
theorem prevHi_succ {l : List Rg} {k : Nat} (hk : k < l.length) : prevHi l (k + 1) = l[k].Hi := by
  unfold prevHi; rw [if_neg (by omega)]; simp [hk]
theorem not_dec {p q : Prop} [Decidable p] [Decidable q] (h : q ↔ ¬ p) : (!decide p) = decide q := by
  rw [Bool.eq_iff_iff]; simp [h]
theorem flatM : flatB Try.prog 24 5 = true := by kernel_rfl
theorem fieldsM : Try.prog.underlying 24 = some (.struct (Try.prog.fieldsOf 24)) := by rw [Try.underlying24]; unfold Program.fieldsOf; rw [Try.underlying24]
theorem offsM : offs Try.prog 24 = [0, 1, 2, 3, 4] := by kernel_rfl
theorem check_no1 {m : Mp} (h : okB m.R (leastE m) m.R.length = false) : checkB m = false := by unfold checkB; rw [h]; rfl
theorem check_no2 {m : Mp} (h : prevHi m.R m.R.length ≠ 64) : checkB m = false := by unfold checkB; rw [decide_eq_false h]; simp
theorem check_no3 {m : Mp} (h : ¬ m.E ≤ 1099511627776) : checkB m = false := by unfold checkB; rw [decide_eq_false h]; simp
theorem check_in {m : Mp} (h1 : okB m.R (leastE m) m.R.length = true) (h2 : prevHi m.R m.R.length = 64) (h3 : m.E ≤ 1099511627776) : checkB m = (decide (m.M = Mv.zero) || (decide (planned ⟨m.R, leastE m, Mv.zero⟩ m.M = 0) && decide ({ m.M with Epoch := leastE m + 1 } = m.M))) := by
  unfold checkB; rw [h1, decide_eq_true h2, decide_eq_true h3]; rfl
theorem wrap_ne {x : Int} (h : -9223372036854775808 ≤ x ∧ x ≤ 9223372036854775807) : IntKind.i64.wrap (x - 1) ≠ x := by
  by_cases hm : x = -9223372036854775808
  · subst hm; decide
  · rw [w64 (by omega)]; omega
theorem wrap_low {x : Int} (h : -9223372036854775808 ≤ x ∧ x ≤ 9223372036854775807) : -9223372036854775808 ≤ IntKind.i64.wrap (x - 1) := by
  by_cases hm : x = -9223372036854775808
  · subst hm; decide
  · rw [w64 (by omega)]; omega
set_option maxHeartbeats 8000000 in
theorem checkC_ok (m : Mp) (v : Value) (w : World) (hv : Rgs w v m.R) (hE : -9223372036854775808 ≤ m.E ∧ m.E ≤ 9223372036854775807) : FnOk Try.prog 11 [agg (m.c v)] w (fun r w' => r = i64 (codeOf (checkB m)) ∧ Ext w w') := by
  have hle := hv.le64
  refine FnOk.enter (rs := [2]) Try.func11 rfl Try.ntmps11 Try.results11 rfl rfl ?_
  refine WF.seq ?_
  refine WF.region ?_
  refine WL.op rfl (OW.boxA (cs := (m.c v)) rfl ?_ (by decide))
  intro g1 wb heg1 hlg1 hO1 hx2
  have := World.grownBy.size hx2
  refine WL.va rfl rfl rfl (X.assignI rfl) ?_
  refine WL.nil ?_
  refine thn_n ?_
  refine WF.seq ?_
  refine WF.drawn (.q 0 (.q 1 (.q 2 (.q 3 .nil)))) (fun w' => Ext wb w') 4 (by kernel_rfl) (by kernel_rfl) (Ext.drew _) ?_
  have := World.grownBy.size (Ext.drew wb)
  refine WO.q rfl rfl rfl rfl (fun w' hE4 => (X.fieldAddrO (off := 1) rfl Try.underlying26 rfl rfl Try.sizeOf3)) ?_
  refine WO.q rfl rfl rfl rfl (fun w' hE4 => (X.loadO hO1 hE4 rfl rfl Try.isAgg3)) ?_
  refine WO.q rfl rfl rfl rfl (fun w' hE4 => (X.assignI rfl)) ?_
  refine WO.q rfl rfl rfl rfl (fun w' hE4 => (X.assignI rfl)) ?_
  refine WO.nil ?_
  refine WL.nil ?_
  refine thn_n ?_
  refine WF.named (fun F5 hF6 => ?_)
  refine WF.cut (fun f' w' => f' 4 = i64 (leastE m) ∧ Agree [0, 1, 2, 3, 10, 11] f' F5 ∧ Ext wb.drew w') ?_ ?_
  · refine WF.seq ?_
    refine WF.region ?_
    refine WL.va rfl rfl rfl (X.fieldAddrO (off := 2) (congrFun hF6 1) Try.underlying26 rfl rfl Try.sizeOf24) ?_
    refine WL.va rfl rfl rfl (X.loadOP hO1 (Ext.drew _) rfl rfl rfl Try.isAgg24 Try.sizeOf24) ?_
    refine WL.va rfl rfl rfl (X.buildL (P := Try.prog) (t := 24) (cs := (Mv.c Mv.zero)) evp_nil Try.type24 Try.underlying24 rfl rfl trivial rfl) ?_
    refine WL.va rfl rfl rfl (X.neqA (na := m.M.ints) (nb := Mv.zero.ints) flatM fieldsM offsM rfl rfl rfl rfl (Mv.eqB _ _)) ?_
    refine WL.nil ?_
    refine thn_n ?_
    refine WF.cond rfl (fun h0_7 => ?_) (fun h0_7 => ?_)
    · have gh0_7 := h0_7
      have hM : ¬ m.M = Mv.zero := of_decide_eq_false (nt gh0_7)
      have hle1 : IntKind.i64.wrap (m.E - 1) = leastE m := (if_neg hM).symm
      refine WF.region ?_
      refine WL.va rfl rfl rfl (X.moveI (congrFun hF6 4)) ?_
      refine WL.va rfl rfl rfl (X.sub rfl rfl rfl) ?_
      refine WL.va rfl rfl rfl (X.assignI rfl) ?_
      refine WL.nil ?_
      refine thn_n ?_
      exact ⟨(Eq.trans rfl (congrArg i64 hle1)), (by repeat (first | exact (Agree.refl _ F5) | refine Agree.put ?_ rfl | refine Agree.named hF6 ?_)), (Ext.refl _)⟩
    · have gh0_7 := h0_7
      have hM : m.M = Mv.zero := of_decide_eq_true (nf gh0_7)
      have hle1 : m.E = leastE m := (if_pos hM).symm
      refine WF.skip ?_
      refine thn_n ?_
      exact ⟨(Eq.trans (congrFun hF6 4) (congrArg i64 hle1)), (by repeat (first | exact (Agree.refl _ F5) | refine Agree.put ?_ rfl | refine Agree.named hF6 ?_)), (Ext.refl _)⟩
  · rintro fCs2 wCs2 ⟨e4_Cs2, hACs2, hwCs2⟩
    have := World.grownBy.size hwCs2
    refine WF.seq ?_
    refine WF.region ?_
    refine WL.op rfl (OW.allocO (cs := [.bool false, .bool false, .bool false, .bool false, .bool false]) Try.zeroValue82 rfl ?_ (by decide))
    intro g5 w9 heg5 hlg5 hO5 hx11
    have := World.grownBy.size hx11
    refine WL.nil ?_
    refine thn_n ?_
    refine WF.seq ?_
    refine WF.seq ?_
    refine WF.region ?_
    refine WL.va rfl rfl rfl (X.fieldAddrO (off := 0) ((hACs2.eq 1).trans (congrFun hF6 1)) Try.underlying26 rfl rfl Try.sizeOf22) ?_
    refine WL.va rfl rfl rfl (X.loadO hO1 (Ext.trans (Ext.trans (Ext.drew _) hwCs2) hx11) rfl rfl Try.isAgg22) ?_
    refine WL.va rfl rfl rfl (X.len hv rfl Try.underlying22) ?_
    refine WL.va rfl rfl rfl (X.moveI rfl) ?_
    refine WL.nil ?_
    refine thn_n ?_
    refine WF.block ?_
    refine WF.named (fun F13 hF14 => ?_)
    refine WF.loopN (fun mL0 f' w' => ∃ (k : Nat), mL0 = m.R.length - k ∧ f' 21 = .int .i64 (k : Int) ∧ f' 3 = i64 (prevHi m.R k) ∧ Agree [0, 1, 4, 5, 10, 11, 18, 19, 20] f' F13 ∧ Ext wb w' ∧ k ≤ m.R.length ∧ okB m.R (leastE m) k = true ∧ Blk w' g5 82 (hadB (m.R.take k))) ?_ ?_
    · exact ⟨_, 0, rfl, (congrFun hF14 21), ((congrFun hF14 3).trans ((hACs2.eq 3).trans (congrFun hF6 3))), (Agree.refl _ _), (Ext.trans (Ext.trans (Ext.drew _) hwCs2) hx11), ⟨Nat.zero_le _, rfl, hO5⟩⟩
    · rintro mL0 fL0 wL0 ⟨k, hmL0, e21_L0, e3_L0, hAL0, hwL0, ⟨hk0, hok, hO5⟩⟩
      have := World.grownBy.size hwL0
      have t5 := hO5.lt
      refine WF.seq ?_
      refine WF.region ?_
      refine WL.va rfl rfl rfl (X.lss e21_L0 ((hAL0.eq 20).trans (congrFun hF14 20))) ?_
      refine WL.nil ?_
      refine thn_n ?_
      refine WF.seq ?_
      refine WF.cond rfl (fun h1_15 => ?_) (fun h1_15 => ?_)
      · have gh1_15 := (of_decide_eq_true h1_15)
        have hk : k < m.R.length := by omega
        refine WF.skip ?_
        refine thn_n ?_
        refine WF.seq ?_
        refine WF.block ?_
        refine WF.seq ?_
        refine WF.region ?_
        refine WL.va rfl rfl rfl (X.idx hv ((hAL0.eq 19).trans (congrFun hF14 19)) e21_L0 (by omega) Try.underlying22 Try.sizeOf41) ?_
        refine WL.va rfl rfl rfl (X.loadEl hv (Ext.trans hx2 hwL0) rfl (by omega) (Rgs.el (l := m.R) (k := k) hk) Try.isAgg41 Try.sizeOf41) ?_
        refine WL.op rfl (OW.allocO (cs := [i64 0, i64 0, i64 0, i64 0]) Try.zeroValue41 rfl ?_ (by decide))
        intro g7 w17 heg7 hlg7 hO7 hx19
        have := World.grownBy.size hx19
        refine WL.op rfl (OW.storeOA hO7 rfl rfl rfl (Rg.c_one _) Try.sizeOf41 ?_)
        intro w21 hO7 hx23
        have := World.grownBy.size hx23
        replace hO1 := (hO1.ext (Ext.trans hwL0 hx19)).keptO hx23 (by omega)
        replace hO5 := (hO5.ext hx19).keptO hx23 (by omega)
        refine WL.nil ?_
        refine thn_n ?_
        refine WF.seq ?_
        refine WF.block ?_
        refine WF.named (fun F25 hF26 => ?_)
        refine WF.cut (fun f' w' => f' 25 = .bool (!goodB m.R (leastE m) k) ∧ Agree [0, 1, 3, 4, 5, 7, 10, 11, 18, 19, 20, 21, 22, 23, 24] f' F25 ∧ w21 = w') ?_ ?_
        · refine WF.seq ?_
          refine WF.region ?_
          refine WL.va rfl rfl rfl (X.fieldAddrO (off := 0) (congrFun hF26 7) Try.underlying41 rfl rfl Try.sizeOf3) ?_
          refine WL.va rfl rfl rfl (X.loadO hO7 (Ext.refl _) rfl rfl Try.isAgg3) ?_
          refine WL.va rfl rfl rfl (X.moveI ((congrFun hF26 3).trans e3_L0)) ?_
          refine WL.va rfl rfl rfl (X.neq rfl rfl) ?_
          refine WL.va rfl rfl rfl (X.assignB rfl) ?_
          refine WL.nil ?_
          refine thn_n ?_
          refine WF.cond rfl (fun h2_27 => ?_) (fun h2_27 => ?_)
          · have gh2_27 := (of_decide_eq_true h2_27)
            have d1 : ¬ (m.R[k]'hk).Lo = prevHi m.R k := by have := gh2_27; omega
            have c1 := gh2_27
            refine WF.skip ?_
            refine thn_n ?_
            exact ⟨(congrArg Value.bool (by first | (refine (decide_eq_true c1).trans ?_; rw [good_at hk, decide_eq_false d1]; rfl) | (refine (decide_eq_true c2).trans ?_; rw [good_at hk, decide_eq_true p1, decide_eq_false d2]; rfl) | (refine (decide_eq_true c3).trans ?_; rw [good_at hk, decide_eq_true p1, decide_eq_true p2, decide_eq_false d3]; rfl) | (refine (decide_eq_true c4).trans ?_; rw [good_at hk, decide_eq_true p1, decide_eq_true p2, decide_eq_true p3, decide_eq_false d4]; rfl) | (refine (decide_eq_true c5).trans ?_; rw [good_at hk, decide_eq_true p1, decide_eq_true p2, decide_eq_true p3, decide_eq_true p4, decide_eq_false d5]; rfl) | (refine (c6).trans ?_; rw [good_at hk, decide_eq_true p1, decide_eq_true p2, decide_eq_true p3, decide_eq_true p4, decide_eq_true p5, d6]; rfl) | (refine (decide_eq_true c7).trans ?_; rw [good_at hk, decide_eq_true p1, decide_eq_true p2, decide_eq_true p3, decide_eq_true p4, decide_eq_true p5, p6, decide_eq_false d7]; rfl) | (rw [good_at hk, decide_eq_true p1, decide_eq_true p2, decide_eq_true p3, decide_eq_true p4, decide_eq_true p5, p6, decide_eq_true p7]; exact (not_dec (by constructor <;> intro _ <;> omega)).symm))), (by repeat (first | exact (Agree.refl _ F25) | refine Agree.put ?_ rfl | refine Agree.sub hAL0 rfl ?_ | refine Agree.sub hACs2 rfl ?_ | refine Agree.named hF26 ?_ | refine Agree.named hF14 ?_ | refine Agree.named hF6 ?_)), rfl⟩
          · have gh2_27 := (Decidable.of_not_not (of_decide_eq_false h2_27))
            have p1 : (m.R[k]'hk).Lo = prevHi m.R k := by have := gh2_27; omega
            refine WF.seq ?_
            refine WF.region ?_
            refine WL.va rfl rfl rfl (X.fieldAddrO (off := 1) (congrFun hF26 7) Try.underlying41 rfl rfl Try.sizeOf3) ?_
            refine WL.va rfl rfl rfl (X.loadO hO7 (Ext.refl _) rfl rfl Try.isAgg3) ?_
            refine WL.va rfl rfl rfl (X.fieldAddrO (off := 0) (congrFun hF26 7) Try.underlying41 rfl rfl Try.sizeOf3) ?_
            refine WL.va rfl rfl rfl (X.loadO hO7 (Ext.refl _) rfl rfl Try.isAgg3) ?_
            refine WL.va rfl rfl rfl (X.leq rfl rfl) ?_
            refine WL.va rfl rfl rfl (X.assignB rfl) ?_
            refine WL.nil ?_
            refine thn_n ?_
            refine WF.cond rfl (fun h3_29 => ?_) (fun h3_29 => ?_)
            · have gh3_29 := (of_decide_eq_true h3_29)
              have d2 : ¬ (m.R[k]'hk).Lo < (m.R[k]'hk).Hi := by have := gh3_29; omega
              have c2 := gh3_29
              refine WF.skip ?_
              refine thn_n ?_
              exact ⟨(congrArg Value.bool (by first | (refine (decide_eq_true c1).trans ?_; rw [good_at hk, decide_eq_false d1]; rfl) | (refine (decide_eq_true c2).trans ?_; rw [good_at hk, decide_eq_true p1, decide_eq_false d2]; rfl) | (refine (decide_eq_true c3).trans ?_; rw [good_at hk, decide_eq_true p1, decide_eq_true p2, decide_eq_false d3]; rfl) | (refine (decide_eq_true c4).trans ?_; rw [good_at hk, decide_eq_true p1, decide_eq_true p2, decide_eq_true p3, decide_eq_false d4]; rfl) | (refine (decide_eq_true c5).trans ?_; rw [good_at hk, decide_eq_true p1, decide_eq_true p2, decide_eq_true p3, decide_eq_true p4, decide_eq_false d5]; rfl) | (refine (c6).trans ?_; rw [good_at hk, decide_eq_true p1, decide_eq_true p2, decide_eq_true p3, decide_eq_true p4, decide_eq_true p5, d6]; rfl) | (refine (decide_eq_true c7).trans ?_; rw [good_at hk, decide_eq_true p1, decide_eq_true p2, decide_eq_true p3, decide_eq_true p4, decide_eq_true p5, p6, decide_eq_false d7]; rfl) | (rw [good_at hk, decide_eq_true p1, decide_eq_true p2, decide_eq_true p3, decide_eq_true p4, decide_eq_true p5, p6, decide_eq_true p7]; exact (not_dec (by constructor <;> intro _ <;> omega)).symm))), (by repeat (first | exact (Agree.refl _ F25) | refine Agree.put ?_ rfl | refine Agree.sub hAL0 rfl ?_ | refine Agree.sub hACs2 rfl ?_ | refine Agree.named hF26 ?_ | refine Agree.named hF14 ?_ | refine Agree.named hF6 ?_)), rfl⟩
            · have gh3_29 := (of_decide_eq_false h3_29)
              have p2 : (m.R[k]'hk).Lo < (m.R[k]'hk).Hi := by have := gh3_29; omega
              refine WF.seq ?_
              refine WF.region ?_
              refine WL.va rfl rfl rfl (X.fieldAddrO (off := 1) (congrFun hF26 7) Try.underlying41 rfl rfl Try.sizeOf3) ?_
              refine WL.va rfl rfl rfl (X.loadO hO7 (Ext.refl _) rfl rfl Try.isAgg3) ?_
              refine WL.va rfl rfl rfl (X.gtr rfl rfl) ?_
              refine WL.va rfl rfl rfl (X.assignB rfl) ?_
              refine WL.nil ?_
              refine thn_n ?_
              refine WF.cond rfl (fun h4_31 => ?_) (fun h4_31 => ?_)
              · have gh4_31 := (of_decide_eq_true h4_31)
                have d3 : ¬ (m.R[k]'hk).Hi ≤ 64 := by have := gh4_31; omega
                have c3 := gh4_31
                refine WF.skip ?_
                refine thn_n ?_
                exact ⟨(congrArg Value.bool (by first | (refine (decide_eq_true c1).trans ?_; rw [good_at hk, decide_eq_false d1]; rfl) | (refine (decide_eq_true c2).trans ?_; rw [good_at hk, decide_eq_true p1, decide_eq_false d2]; rfl) | (refine (decide_eq_true c3).trans ?_; rw [good_at hk, decide_eq_true p1, decide_eq_true p2, decide_eq_false d3]; rfl) | (refine (decide_eq_true c4).trans ?_; rw [good_at hk, decide_eq_true p1, decide_eq_true p2, decide_eq_true p3, decide_eq_false d4]; rfl) | (refine (decide_eq_true c5).trans ?_; rw [good_at hk, decide_eq_true p1, decide_eq_true p2, decide_eq_true p3, decide_eq_true p4, decide_eq_false d5]; rfl) | (refine (c6).trans ?_; rw [good_at hk, decide_eq_true p1, decide_eq_true p2, decide_eq_true p3, decide_eq_true p4, decide_eq_true p5, d6]; rfl) | (refine (decide_eq_true c7).trans ?_; rw [good_at hk, decide_eq_true p1, decide_eq_true p2, decide_eq_true p3, decide_eq_true p4, decide_eq_true p5, p6, decide_eq_false d7]; rfl) | (rw [good_at hk, decide_eq_true p1, decide_eq_true p2, decide_eq_true p3, decide_eq_true p4, decide_eq_true p5, p6, decide_eq_true p7]; exact (not_dec (by constructor <;> intro _ <;> omega)).symm))), (by repeat (first | exact (Agree.refl _ F25) | refine Agree.put ?_ rfl | refine Agree.sub hAL0 rfl ?_ | refine Agree.sub hACs2 rfl ?_ | refine Agree.named hF26 ?_ | refine Agree.named hF14 ?_ | refine Agree.named hF6 ?_)), rfl⟩
              · have gh4_31 := (of_decide_eq_false h4_31)
                have p3 : (m.R[k]'hk).Hi ≤ 64 := by have := gh4_31; omega
                refine WF.seq ?_
                refine WF.region ?_
                refine WL.va rfl rfl rfl (X.fieldAddrO (off := 2) (congrFun hF26 7) Try.underlying41 rfl rfl Try.sizeOf3) ?_
                refine WL.va rfl rfl rfl (X.loadO hO7 (Ext.refl _) rfl rfl Try.isAgg3) ?_
                refine WL.va rfl rfl rfl (X.lss rfl rfl) ?_
                refine WL.va rfl rfl rfl (X.assignB rfl) ?_
                refine WL.nil ?_
                refine thn_n ?_
                refine WF.cond rfl (fun h5_33 => ?_) (fun h5_33 => ?_)
                · have gh5_33 := (of_decide_eq_true h5_33)
                  have d4 : ¬ 1 ≤ (m.R[k]'hk).Group := by have := gh5_33; omega
                  have c4 := gh5_33
                  refine WF.skip ?_
                  refine thn_n ?_
                  exact ⟨(congrArg Value.bool (by first | (refine (decide_eq_true c1).trans ?_; rw [good_at hk, decide_eq_false d1]; rfl) | (refine (decide_eq_true c2).trans ?_; rw [good_at hk, decide_eq_true p1, decide_eq_false d2]; rfl) | (refine (decide_eq_true c3).trans ?_; rw [good_at hk, decide_eq_true p1, decide_eq_true p2, decide_eq_false d3]; rfl) | (refine (decide_eq_true c4).trans ?_; rw [good_at hk, decide_eq_true p1, decide_eq_true p2, decide_eq_true p3, decide_eq_false d4]; rfl) | (refine (decide_eq_true c5).trans ?_; rw [good_at hk, decide_eq_true p1, decide_eq_true p2, decide_eq_true p3, decide_eq_true p4, decide_eq_false d5]; rfl) | (refine (c6).trans ?_; rw [good_at hk, decide_eq_true p1, decide_eq_true p2, decide_eq_true p3, decide_eq_true p4, decide_eq_true p5, d6]; rfl) | (refine (decide_eq_true c7).trans ?_; rw [good_at hk, decide_eq_true p1, decide_eq_true p2, decide_eq_true p3, decide_eq_true p4, decide_eq_true p5, p6, decide_eq_false d7]; rfl) | (rw [good_at hk, decide_eq_true p1, decide_eq_true p2, decide_eq_true p3, decide_eq_true p4, decide_eq_true p5, p6, decide_eq_true p7]; exact (not_dec (by constructor <;> intro _ <;> omega)).symm))), (by repeat (first | exact (Agree.refl _ F25) | refine Agree.put ?_ rfl | refine Agree.sub hAL0 rfl ?_ | refine Agree.sub hACs2 rfl ?_ | refine Agree.named hF26 ?_ | refine Agree.named hF14 ?_ | refine Agree.named hF6 ?_)), rfl⟩
                · have gh5_33 := (of_decide_eq_false h5_33)
                  have p4 : 1 ≤ (m.R[k]'hk).Group := by have := gh5_33; omega
                  refine WF.seq ?_
                  refine WF.region ?_
                  refine WL.va rfl rfl rfl (X.fieldAddrO (off := 2) (congrFun hF26 7) Try.underlying41 rfl rfl Try.sizeOf3) ?_
                  refine WL.va rfl rfl rfl (X.loadO hO7 (Ext.refl _) rfl rfl Try.isAgg3) ?_
                  refine WL.va rfl rfl rfl (X.gtr rfl rfl) ?_
                  refine WL.va rfl rfl rfl (X.assignB rfl) ?_
                  refine WL.nil ?_
                  refine thn_n ?_
                  refine WF.cond rfl (fun h6_35 => ?_) (fun h6_35 => ?_)
                  · have gh6_35 := (of_decide_eq_true h6_35)
                    have d5 : ¬ (m.R[k]'hk).Group ≤ 4 := by have := gh6_35; omega
                    have c5 := gh6_35
                    refine WF.skip ?_
                    refine thn_n ?_
                    exact ⟨(congrArg Value.bool (by first | (refine (decide_eq_true c1).trans ?_; rw [good_at hk, decide_eq_false d1]; rfl) | (refine (decide_eq_true c2).trans ?_; rw [good_at hk, decide_eq_true p1, decide_eq_false d2]; rfl) | (refine (decide_eq_true c3).trans ?_; rw [good_at hk, decide_eq_true p1, decide_eq_true p2, decide_eq_false d3]; rfl) | (refine (decide_eq_true c4).trans ?_; rw [good_at hk, decide_eq_true p1, decide_eq_true p2, decide_eq_true p3, decide_eq_false d4]; rfl) | (refine (decide_eq_true c5).trans ?_; rw [good_at hk, decide_eq_true p1, decide_eq_true p2, decide_eq_true p3, decide_eq_true p4, decide_eq_false d5]; rfl) | (refine (c6).trans ?_; rw [good_at hk, decide_eq_true p1, decide_eq_true p2, decide_eq_true p3, decide_eq_true p4, decide_eq_true p5, d6]; rfl) | (refine (decide_eq_true c7).trans ?_; rw [good_at hk, decide_eq_true p1, decide_eq_true p2, decide_eq_true p3, decide_eq_true p4, decide_eq_true p5, p6, decide_eq_false d7]; rfl) | (rw [good_at hk, decide_eq_true p1, decide_eq_true p2, decide_eq_true p3, decide_eq_true p4, decide_eq_true p5, p6, decide_eq_true p7]; exact (not_dec (by constructor <;> intro _ <;> omega)).symm))), (by repeat (first | exact (Agree.refl _ F25) | refine Agree.put ?_ rfl | refine Agree.sub hAL0 rfl ?_ | refine Agree.sub hACs2 rfl ?_ | refine Agree.named hF26 ?_ | refine Agree.named hF14 ?_ | refine Agree.named hF6 ?_)), rfl⟩
                  · have gh6_35 := (of_decide_eq_false h6_35)
                    have p5 : (m.R[k]'hk).Group ≤ 4 := by have := gh6_35; omega
                    obtain ⟨gn, hgn⟩ : ∃ n : Nat, (m.R[k]'hk).Group = (n : Int) := ⟨(m.R[k]'hk).Group.toNat, by omega⟩
                    refine WF.seq ?_
                    refine WF.region ?_
                    refine WL.va rfl rfl rfl (X.fieldAddrO (off := 2) (congrFun hF26 7) Try.underlying41 rfl rfl Try.sizeOf3) ?_
                    refine WL.va rfl rfl rfl (X.loadO hO7 (Ext.refl _) rfl rfl Try.isAgg3) ?_
                    refine WL.va rfl rfl rfl (X.idxArr ((congrFun hF26 5).trans ((hAL0.eq 5).trans (congrFun hF14 5))) (Eq.trans rfl (congrArg i64 hgn)) (by omega) Try.underlying82 Try.sizeOf4) ?_
                    refine WL.va rfl rfl rfl (X.loadO hO5 (Ext.refl _) rfl (had_at (by omega)) Try.isAgg4) ?_
                    refine WL.va rfl rfl rfl (X.assignB rfl) ?_
                    refine WL.nil ?_
                    refine thn_n ?_
                    refine WF.cond rfl (fun h7_37 => ?_) (fun h7_37 => ?_)
                    · have gh7_37 := h7_37
                      have d6 : (m.R.take k).all (fun q => decide (q.Group ≠ (m.R[k]'hk).Group)) = false := by have q := gh7_37; rw [← hgn, any_all] at q; simpa using q
                      have c6 := gh7_37
                      refine WF.skip ?_
                      refine thn_n ?_
                      exact ⟨(congrArg Value.bool (by first | (refine (decide_eq_true c1).trans ?_; rw [good_at hk, decide_eq_false d1]; rfl) | (refine (decide_eq_true c2).trans ?_; rw [good_at hk, decide_eq_true p1, decide_eq_false d2]; rfl) | (refine (decide_eq_true c3).trans ?_; rw [good_at hk, decide_eq_true p1, decide_eq_true p2, decide_eq_false d3]; rfl) | (refine (decide_eq_true c4).trans ?_; rw [good_at hk, decide_eq_true p1, decide_eq_true p2, decide_eq_true p3, decide_eq_false d4]; rfl) | (refine (decide_eq_true c5).trans ?_; rw [good_at hk, decide_eq_true p1, decide_eq_true p2, decide_eq_true p3, decide_eq_true p4, decide_eq_false d5]; rfl) | (refine (c6).trans ?_; rw [good_at hk, decide_eq_true p1, decide_eq_true p2, decide_eq_true p3, decide_eq_true p4, decide_eq_true p5, d6]; rfl) | (refine (decide_eq_true c7).trans ?_; rw [good_at hk, decide_eq_true p1, decide_eq_true p2, decide_eq_true p3, decide_eq_true p4, decide_eq_true p5, p6, decide_eq_false d7]; rfl) | (rw [good_at hk, decide_eq_true p1, decide_eq_true p2, decide_eq_true p3, decide_eq_true p4, decide_eq_true p5, p6, decide_eq_true p7]; exact (not_dec (by constructor <;> intro _ <;> omega)).symm))), (by repeat (first | exact (Agree.refl _ F25) | refine Agree.put ?_ rfl | refine Agree.sub hAL0 rfl ?_ | refine Agree.sub hACs2 rfl ?_ | refine Agree.named hF26 ?_ | refine Agree.named hF14 ?_ | refine Agree.named hF6 ?_)), rfl⟩
                    · have gh7_37 := h7_37
                      have p6 : (m.R.take k).all (fun q => decide (q.Group ≠ (m.R[k]'hk).Group)) = true := by have q := gh7_37; rw [← hgn, any_all] at q; simpa using q
                      refine WF.seq ?_
                      refine WF.region ?_
                      refine WL.va rfl rfl rfl (X.fieldAddrO (off := 3) (congrFun hF26 7) Try.underlying41 rfl rfl Try.sizeOf3) ?_
                      refine WL.va rfl rfl rfl (X.loadO hO7 (Ext.refl _) rfl rfl Try.isAgg3) ?_
                      refine WL.va rfl rfl rfl (X.lss rfl rfl) ?_
                      refine WL.va rfl rfl rfl (X.assignB rfl) ?_
                      refine WL.nil ?_
                      refine thn_n ?_
                      refine WF.cond rfl (fun h8_39 => ?_) (fun h8_39 => ?_)
                      · have gh8_39 := (of_decide_eq_true h8_39)
                        have d7 : ¬ 1 ≤ (m.R[k]'hk).Epoch := by have := gh8_39; omega
                        have c7 := gh8_39
                        refine WF.skip ?_
                        refine thn_n ?_
                        exact ⟨(congrArg Value.bool (by first | (refine (decide_eq_true c1).trans ?_; rw [good_at hk, decide_eq_false d1]; rfl) | (refine (decide_eq_true c2).trans ?_; rw [good_at hk, decide_eq_true p1, decide_eq_false d2]; rfl) | (refine (decide_eq_true c3).trans ?_; rw [good_at hk, decide_eq_true p1, decide_eq_true p2, decide_eq_false d3]; rfl) | (refine (decide_eq_true c4).trans ?_; rw [good_at hk, decide_eq_true p1, decide_eq_true p2, decide_eq_true p3, decide_eq_false d4]; rfl) | (refine (decide_eq_true c5).trans ?_; rw [good_at hk, decide_eq_true p1, decide_eq_true p2, decide_eq_true p3, decide_eq_true p4, decide_eq_false d5]; rfl) | (refine (c6).trans ?_; rw [good_at hk, decide_eq_true p1, decide_eq_true p2, decide_eq_true p3, decide_eq_true p4, decide_eq_true p5, d6]; rfl) | (refine (decide_eq_true c7).trans ?_; rw [good_at hk, decide_eq_true p1, decide_eq_true p2, decide_eq_true p3, decide_eq_true p4, decide_eq_true p5, p6, decide_eq_false d7]; rfl) | (rw [good_at hk, decide_eq_true p1, decide_eq_true p2, decide_eq_true p3, decide_eq_true p4, decide_eq_true p5, p6, decide_eq_true p7]; exact (not_dec (by constructor <;> intro _ <;> omega)).symm))), (by repeat (first | exact (Agree.refl _ F25) | refine Agree.put ?_ rfl | refine Agree.sub hAL0 rfl ?_ | refine Agree.sub hACs2 rfl ?_ | refine Agree.named hF26 ?_ | refine Agree.named hF14 ?_ | refine Agree.named hF6 ?_)), rfl⟩
                      · have gh8_39 := (of_decide_eq_false h8_39)
                        have p7 : 1 ≤ (m.R[k]'hk).Epoch := by have := gh8_39; omega
                        refine WF.region ?_
                        refine WL.va rfl rfl rfl (X.fieldAddrO (off := 3) (congrFun hF26 7) Try.underlying41 rfl rfl Try.sizeOf3) ?_
                        refine WL.va rfl rfl rfl (X.loadO hO7 (Ext.refl _) rfl rfl Try.isAgg3) ?_
                        refine WL.va rfl rfl rfl (X.moveI ((congrFun hF26 4).trans ((hAL0.eq 4).trans ((congrFun hF14 4).trans e4_Cs2)))) ?_
                        refine WL.va rfl rfl rfl (X.gtr rfl rfl) ?_
                        refine WL.va rfl rfl rfl (X.assignB rfl) ?_
                        refine WL.nil ?_
                        refine thn_n ?_
                        exact ⟨(congrArg Value.bool (by first | (refine (decide_eq_true c1).trans ?_; rw [good_at hk, decide_eq_false d1]; rfl) | (refine (decide_eq_true c2).trans ?_; rw [good_at hk, decide_eq_true p1, decide_eq_false d2]; rfl) | (refine (decide_eq_true c3).trans ?_; rw [good_at hk, decide_eq_true p1, decide_eq_true p2, decide_eq_false d3]; rfl) | (refine (decide_eq_true c4).trans ?_; rw [good_at hk, decide_eq_true p1, decide_eq_true p2, decide_eq_true p3, decide_eq_false d4]; rfl) | (refine (decide_eq_true c5).trans ?_; rw [good_at hk, decide_eq_true p1, decide_eq_true p2, decide_eq_true p3, decide_eq_true p4, decide_eq_false d5]; rfl) | (refine (c6).trans ?_; rw [good_at hk, decide_eq_true p1, decide_eq_true p2, decide_eq_true p3, decide_eq_true p4, decide_eq_true p5, d6]; rfl) | (refine (decide_eq_true c7).trans ?_; rw [good_at hk, decide_eq_true p1, decide_eq_true p2, decide_eq_true p3, decide_eq_true p4, decide_eq_true p5, p6, decide_eq_false d7]; rfl) | (rw [good_at hk, decide_eq_true p1, decide_eq_true p2, decide_eq_true p3, decide_eq_true p4, decide_eq_true p5, p6, decide_eq_true p7]; exact (not_dec (by constructor <;> intro _ <;> omega)).symm))), (by repeat (first | exact (Agree.refl _ F25) | refine Agree.put ?_ rfl | refine Agree.sub hAL0 rfl ?_ | refine Agree.sub hACs2 rfl ?_ | refine Agree.named hF26 ?_ | refine Agree.named hF14 ?_ | refine Agree.named hF6 ?_)), rfl⟩
        · rintro fCs8 wCs8 ⟨e25_Cs8, hACs8, rfl⟩
          refine WF.cond e25_Cs8 (fun h9_42 => ?_) (fun h9_42 => ?_)
          · have gh9_42 := h9_42
            have hno : checkB m = false := check_no1 (okB_no hk (by simpa using gh9_42))
            refine WF.seq ?_
            refine WF.region ?_
            refine WL.va rfl rfl rfl (X.assignI rfl) ?_
            refine WL.nil ?_
            refine thn_n ?_
            refine WF.ret ?_
            refine blk_r ?_
            refine thn_r ?_
            refine blk_r ?_
            refine thn_r ?_
            refine thn_r ?_
            refine blk_r ?_
            refine thn_r ?_
            refine fin_r ?_
            first | (rw [check_no2 hq1]; exact ⟨rfl, (Ext.trans (Ext.trans hx2 hwL0) (Ext.store hx19 hx23 (by omega)))⟩) | (rw [hno]; exact ⟨rfl, (Ext.trans (Ext.trans hx2 hwL0) (Ext.store hx19 hx23 (by omega)))⟩) | (rw [hy]; exact ⟨rfl, (Ext.trans (Ext.trans hx2 hwL0) (Ext.store hx19 hx23 (by omega)))⟩)
          · have gh9_42 := h9_42
            have hyes : goodB m.R (leastE m) k = true := by simpa using gh9_42
            obtain ⟨gn, hgn, hg5⟩ : ∃ n : Nat, (m.R[k]'hk).Group = (n : Int) ∧ n < 5 := by
              rw [good_at hk] at hyes
              simp only [Bool.and_eq_true, decide_eq_true_iff] at hyes
              exact ⟨(m.R[k]'hk).Group.toNat, by omega, by omega⟩
            refine WF.skip ?_
            refine blk_n ?_
            refine thn_n ?_
            refine WF.drawn (.q 0 (.q 1 (.q 2 (.q 3 (.q 4 (.q 5 .nil)))))) (fun w' => Ext w21 w') 6 (by kernel_rfl) (by kernel_rfl) (Ext.drew _) ?_
            have := World.grownBy.size (Ext.drew w21)
            refine WO.q rfl rfl rfl rfl (fun w' hE44 => (X.fieldAddrO (off := 2) ((hACs8.eq 7).trans (congrFun hF26 7)) Try.underlying41 rfl rfl Try.sizeOf3)) ?_
            refine WO.q rfl rfl rfl rfl (fun w' hE44 => (X.loadO hO7 hE44 rfl rfl Try.isAgg3)) ?_
            refine WO.q rfl rfl rfl rfl (fun w' hE44 => (X.fieldAddrO (off := 1) ((hACs8.eq 7).trans (congrFun hF26 7)) Try.underlying41 rfl rfl Try.sizeOf3)) ?_
            refine WO.q rfl rfl rfl rfl (fun w' hE44 => (X.loadO hO7 hE44 rfl rfl Try.isAgg3)) ?_
            refine WO.q rfl rfl rfl rfl (fun w' hE44 => (X.assignI rfl)) ?_
            refine WO.q rfl rfl rfl rfl (fun w' hE44 => (X.idxArr ((hACs8.eq 5).trans ((congrFun hF26 5).trans ((hAL0.eq 5).trans (congrFun hF14 5)))) (Eq.trans rfl (congrArg i64 hgn)) (by omega) Try.underlying82 Try.sizeOf4)) ?_
            refine WO.nil ?_
            refine WL.op rfl (OW.storeO (hO5.ext (Ext.drew _)) (by simp; omega) rfl rfl rfl Try.sizeOf4 ?_)
            intro w45 hO5 hx47
            have := World.grownBy.size hx47
            replace hO1 := (hO1.ext (Ext.drew _)).keptO hx47 (by omega)
            replace hO7 := (hO7.ext (Ext.drew _)).keptO hx47 (by omega)
            replace hO5 : Blk w45 g5 82 (hadB (m.R.take k ++ [(m.R[k]'hk)])) := by rw [← had_set (by omega) hgn]; exact hO5
            refine WL.nil ?_
            refine blk_n ?_
            refine thn_n ?_
            refine WF.region ?_
            refine WL.va rfl rfl rfl (X.add ((hACs8.eq 21).trans ((congrFun hF26 21).trans e21_L0)) rfl (w64 (by omega))) ?_
            refine WL.va rfl rfl rfl (X.moveI rfl) ?_
            refine WL.nil ?_
            exact thn_n ⟨_, (by omega), k + 1, rfl, rfl, (Eq.trans rfl (congrArg i64 (prevHi_succ hk).symm)), (by repeat (first | exact hAL0 | refine Agree.put ?_ rfl | refine Agree.sub hACs8 rfl ?_ | refine Agree.sub hACs2 rfl ?_ | refine Agree.named hF26 ?_ | refine Agree.named hF14 ?_ | refine Agree.named hF6 ?_)), (Ext.store (Ext.trans (Ext.trans hwL0 (Ext.store hx19 hx23 (by omega))) (Ext.drew _)) hx47 (by omega)), ⟨by omega, by rw [okB_succ, hok, hyes]; rfl, by rw [List.take_succ_eq_append_getElem hk]; exact hO5⟩⟩
      · have gh1_15 := (of_decide_eq_false h1_15)
        have hkn : k = m.R.length := by omega
        subst hkn
        refine WF.exit ?_
        refine thn_x ?_
        refine thn_x ?_
        refine blk_eq ?_
        refine thn_n ?_
        refine WF.seq ?_
        refine WF.seq ?_
        refine WF.region ?_
        refine WL.va rfl rfl rfl (X.moveI e3_L0) ?_
        refine WL.va rfl rfl rfl (X.neq rfl rfl) ?_
        refine WL.va rfl rfl rfl (X.moveB rfl) ?_
        refine WL.split (j := 2) rfl (fun h50 => ?_) (fun h50 => ?_)
        · have gh50 := (of_decide_eq_true h50)
          have hq1 : prevHi m.R m.R.length ≠ 64 := gh50
          refine WL.p rfl rfl rfl (congrArg some h50) ?_
          refine WL.p rfl rfl rfl (congrArg some h50) ?_
          refine WL.p rfl rfl rfl (congrArg some h50) ?_
          refine WL.va rfl rfl rfl (X.pickT rfl h50 rfl) ?_
          refine WL.nil ?_
          refine thn_n ?_
          refine WF.cond_t rfl ?_
          refine WF.seq ?_
          refine WF.region ?_
          refine WL.va rfl rfl rfl (X.assignI rfl) ?_
          refine WL.nil ?_
          refine thn_n ?_
          refine WF.ret ?_
          refine thn_r ?_
          refine fin_r ?_
          first | (rw [check_no2 hq1]; exact ⟨rfl, (Ext.trans hx2 hwL0)⟩) | (rw [hno]; exact ⟨rfl, (Ext.trans hx2 hwL0)⟩) | (rw [hy]; exact ⟨rfl, (Ext.trans hx2 hwL0)⟩)
        · have gh50 := (Decidable.of_not_not (of_decide_eq_false h50))
          have hq0 : prevHi m.R m.R.length = 64 := gh50
          refine WL.vg rfl (congrArg some h50) rfl rfl (X.fieldAddrO (off := 1) ((hAL0.eq 1).trans ((congrFun hF14 1).trans ((hACs2.eq 1).trans (congrFun hF6 1)))) Try.underlying26 rfl rfl Try.sizeOf3) ?_
          refine WL.vg rfl (congrArg some h50) rfl rfl (X.loadO hO1 hwL0 rfl rfl Try.isAgg3) ?_
          refine WL.vg rfl (congrArg some h50) rfl rfl (X.gtr rfl rfl) ?_
          refine WL.va rfl rfl rfl (X.pickF rfl h50 rfl) ?_
          refine WL.nil ?_
          refine thn_n ?_
          refine WF.cond rfl (fun h10_52 => ?_) (fun h10_52 => ?_)
          · have gh10_52 := (of_decide_eq_true h10_52)
            have hno : checkB m = false := by first | exact check_no2 hq1 | exact check_no3 (by have := gh10_52; omega)
            refine WF.seq ?_
            refine WF.region ?_
            refine WL.va rfl rfl rfl (X.assignI rfl) ?_
            refine WL.nil ?_
            refine thn_n ?_
            refine WF.ret ?_
            refine thn_r ?_
            refine fin_r ?_
            first | (rw [check_no2 hq1]; exact ⟨rfl, (Ext.trans hx2 hwL0)⟩) | (rw [hno]; exact ⟨rfl, (Ext.trans hx2 hwL0)⟩) | (rw [hy]; exact ⟨rfl, (Ext.trans hx2 hwL0)⟩)
          · have gh10_52 := (of_decide_eq_false h10_52)
            have hin := check_in hok hq0 (by have := gh10_52; omega)
            refine WF.skip ?_
            refine thn_n ?_
            refine WF.seq ?_
            refine WF.seq ?_
            refine WF.region ?_
            refine WL.va rfl rfl rfl (X.moveI ((hAL0.eq 4).trans ((congrFun hF14 4).trans e4_Cs2))) ?_
            refine WL.va rfl rfl rfl (X.fieldAddrO (off := 1) ((hAL0.eq 1).trans ((congrFun hF14 1).trans ((hACs2.eq 1).trans (congrFun hF6 1)))) Try.underlying26 rfl rfl Try.sizeOf3) ?_
            refine WL.va rfl rfl rfl (X.loadO hO1 hwL0 rfl rfl Try.isAgg3) ?_
            refine WL.va rfl rfl rfl (X.eql rfl rfl) ?_
            refine WL.nil ?_
            refine thn_n ?_
            refine WF.cond rfl (fun h11_54 => ?_) (fun h11_54 => ?_)
            · have gh11_54 := (of_decide_eq_true h11_54)
              have hM : m.M = Mv.zero := by
                by_cases q : m.M = Mv.zero
                · exact q
                · have e := gh11_54; unfold leastE at e; rw [if_neg q] at e; exact absurd e (wrap_ne hE)
              have hy : checkB m = true := by rw [hin, decide_eq_true hM]; rfl
              refine WF.seq ?_
              refine WF.region ?_
              refine WL.va rfl rfl rfl (X.assignI rfl) ?_
              refine WL.nil ?_
              refine thn_n ?_
              refine WF.ret ?_
              refine thn_r ?_
              refine fin_r ?_
              first | (rw [check_no2 hq1]; exact ⟨rfl, (Ext.trans hx2 hwL0)⟩) | (rw [hno]; exact ⟨rfl, (Ext.trans hx2 hwL0)⟩) | (rw [hy]; exact ⟨rfl, (Ext.trans hx2 hwL0)⟩)
            · have gh11_54 := (of_decide_eq_false h11_54)
              have hM : m.M ≠ Mv.zero := fun q => gh11_54 (if_pos q)
              have hlow : -9223372036854775808 ≤ leastE m := by unfold leastE; rw [if_neg hM]; exact wrap_low hE
              refine WF.skip ?_
              refine thn_n ?_
              refine WF.seq ?_
              refine WF.seq ?_
              refine WF.region ?_
              refine WL.va rfl rfl rfl (X.fieldAddrO (off := 0) ((hAL0.eq 1).trans ((congrFun hF14 1).trans ((hACs2.eq 1).trans (congrFun hF6 1)))) Try.underlying26 rfl rfl Try.sizeOf22) ?_
              refine WL.va rfl rfl rfl (X.loadO hO1 hwL0 rfl rfl Try.isAgg22) ?_
              refine WL.va rfl rfl rfl (X.moveI ((hAL0.eq 4).trans ((congrFun hF14 4).trans e4_Cs2))) ?_
              refine WL.va rfl rfl rfl (X.buildL (P := Try.prog) (t := 26) (cs := (Mp.c ⟨m.R, leastE m, Mv.zero⟩ v)) (evp_cons rfl (evp_cons rfl evp_nil)) Try.type26 Try.underlying26 rfl rfl ⟨rgs_v1 hv, rfl, trivial⟩ rfl) ?_
              refine WL.va rfl rfl rfl (X.fieldAddrO (off := 2) ((hAL0.eq 1).trans ((congrFun hF14 1).trans ((hACs2.eq 1).trans (congrFun hF6 1)))) Try.underlying26 rfl rfl Try.sizeOf24) ?_
              refine WL.va rfl rfl rfl (X.loadOP hO1 hwL0 rfl rfl rfl Try.isAgg24 Try.sizeOf24) ?_
              refine WL.c rfl rfl rfl (X.call Try.call15 (evl_cons rfl (evl_cons rfl evl_nil))) (plan_ok ⟨m.R, leastE m, Mv.zero⟩ v m.M _ (Row.ext hv (Ext.trans hx2 hwL0)) (show m.R.length ≤ 1000000 from Nat.le_trans (okB_len hok) (by decide)) hlow) ?_
              rintro v57 w56 ⟨⟨u, rfl, ou⟩, hx58⟩
              have := World.grownBy.size hx58
              refine WL.va rfl rfl rfl (X.move rfl) ?_
              refine WL.va rfl rfl rfl (X.extract rfl rfl) ?_
              refine WL.va rfl rfl rfl (X.extract rfl rfl) ?_
              refine WL.op rfl (OW.allocO (cs := [.slice none 0 0, i64 0, i64 0, i64 0, i64 0, i64 0, i64 0]) Try.zeroValue26 rfl ?_ (by decide))
              intro g8 w59 heg8 hlg8 hO8 hx61
              have := World.grownBy.size hx61
              refine WL.op rfl (OW.storeOA hO8 rfl rfl rfl (Mp.c_one (Row.of_own ou) _) Try.sizeOf26 ?_)
              intro w63 hO8 hx66
              have := World.grownBy.size hx66
              replace hO1 := (hO1.ext (Ext.trans (Ext.trans hwL0 hx58) hx61)).keptO hx66 (by omega)
              replace hO5 := (hO5.ext (Ext.trans hx58 hx61)).keptO hx66 (by omega)
              refine WL.va rfl rfl rfl (X.assignI rfl) ?_
              refine WL.nil ?_
              refine thn_n ?_
              refine WF.seq ?_
              refine WF.region ?_
              refine WL.va rfl rfl rfl (X.moveI rfl) ?_
              refine WL.va rfl rfl rfl (X.neq rfl rfl) ?_
              refine WL.va rfl rfl rfl (X.moveB rfl) ?_
              refine WL.split (j := 2) rfl (fun h69 => ?_) (fun h69 => ?_)
              · have gh69 := (of_decide_eq_true h69)
                have hpn : ¬ planned ⟨m.R, leastE m, Mv.zero⟩ m.M = 0 := fun q => gh69 (by rw [planM_yes q])
                have hno : checkB m = false := by rw [hin, decide_eq_false hM, decide_eq_false hpn]; rfl
                refine WL.p rfl rfl rfl (congrArg some h69) ?_
                refine WL.p rfl rfl rfl (congrArg some h69) ?_
                refine WL.p rfl rfl rfl (congrArg some h69) ?_
                refine WL.p rfl rfl rfl (congrArg some h69) ?_
                refine WL.p rfl rfl rfl (congrArg some h69) ?_
                refine WL.va rfl rfl rfl (X.pickT rfl h69 rfl) ?_
                refine WL.nil ?_
                refine thn_n ?_
                refine WF.cond_t rfl ?_
                refine WF.seq ?_
                refine WF.region ?_
                refine WL.va rfl rfl rfl (X.assignI rfl) ?_
                refine WL.nil ?_
                refine thn_n ?_
                refine WF.ret ?_
                refine thn_r ?_
                refine fin_r ?_
                first | (rw [check_no2 hq1]; exact ⟨rfl, (Ext.trans (Ext.trans (Ext.trans hx2 hwL0) hx58) (Ext.store hx61 hx66 (by omega)))⟩) | (rw [hno]; exact ⟨rfl, (Ext.trans (Ext.trans (Ext.trans hx2 hwL0) hx58) (Ext.store hx61 hx66 (by omega)))⟩) | (rw [hy]; exact ⟨rfl, (Ext.trans (Ext.trans (Ext.trans hx2 hwL0) hx58) (Ext.store hx61 hx66 (by omega)))⟩)
              · have gh69 := (Decidable.of_not_not (of_decide_eq_false h69))
                have hpy : planned ⟨m.R, leastE m, Mv.zero⟩ m.M = 0 := by
                  by_cases q : planned ⟨m.R, leastE m, Mv.zero⟩ m.M = 0
                  · exact q
                  · have e := gh69; rw [planM_no q] at e; exact e
                have hpe : (planM ⟨m.R, leastE m, Mv.zero⟩ m.M).1.M = { m.M with Epoch := leastE m + 1 } := by rw [planM_yes hpy]
                refine WL.vg rfl (congrArg some h69) rfl rfl (X.fieldAddrO (off := 2) rfl Try.underlying26 rfl rfl Try.sizeOf24) ?_
                refine WL.vg rfl (congrArg some h69) rfl rfl (X.loadOP hO8 (Ext.refl _) rfl rfl rfl Try.isAgg24 Try.sizeOf24) ?_
                refine WL.vg rfl (congrArg some h69) rfl rfl (X.fieldAddrO (off := 2) ((hAL0.eq 1).trans ((congrFun hF14 1).trans ((hACs2.eq 1).trans (congrFun hF6 1)))) Try.underlying26 rfl rfl Try.sizeOf24) ?_
                refine WL.vg rfl (congrArg some h69) rfl rfl (X.loadOP hO1 (Ext.refl _) rfl rfl rfl Try.isAgg24 Try.sizeOf24) ?_
                refine WL.vg rfl (congrArg some h69) rfl rfl (X.neqA (na := (planM ⟨m.R, leastE m, Mv.zero⟩ m.M).1.M.ints) (nb := m.M.ints) flatM fieldsM offsM rfl rfl rfl rfl (Mv.eqB _ _)) ?_
                refine WL.va rfl rfl rfl (X.pickF rfl h69 rfl) ?_
                refine WL.nil ?_
                refine thn_n ?_
                refine WF.cond rfl (fun h12_71 => ?_) (fun h12_71 => ?_)
                · have gh12_71 := h12_71
                  have hpm : ¬ { m.M with Epoch := leastE m + 1 } = m.M := hpe ▸ of_decide_eq_false (nt gh12_71)
                  have hno : checkB m = false := by rw [hin, decide_eq_false hM, decide_eq_true hpy, decide_eq_false hpm]; rfl
                  refine WF.seq ?_
                  refine WF.region ?_
                  refine WL.va rfl rfl rfl (X.assignI rfl) ?_
                  refine WL.nil ?_
                  refine thn_n ?_
                  refine WF.ret ?_
                  refine thn_r ?_
                  refine fin_r ?_
                  first | (rw [check_no2 hq1]; exact ⟨rfl, (Ext.trans (Ext.trans (Ext.trans hx2 hwL0) hx58) (Ext.store hx61 hx66 (by omega)))⟩) | (rw [hno]; exact ⟨rfl, (Ext.trans (Ext.trans (Ext.trans hx2 hwL0) hx58) (Ext.store hx61 hx66 (by omega)))⟩) | (rw [hy]; exact ⟨rfl, (Ext.trans (Ext.trans (Ext.trans hx2 hwL0) hx58) (Ext.store hx61 hx66 (by omega)))⟩)
                · have gh12_71 := h12_71
                  have hpm : { m.M with Epoch := leastE m + 1 } = m.M := hpe ▸ of_decide_eq_true (nf gh12_71)
                  have hy : checkB m = true := by rw [hin, decide_eq_false hM, decide_eq_true hpy, decide_eq_true hpm]; rfl
                  refine WF.skip ?_
                  refine thn_n ?_
                  refine WF.seq ?_
                  refine WF.region ?_
                  refine WL.va rfl rfl rfl (X.assignI rfl) ?_
                  refine WL.nil ?_
                  refine thn_n ?_
                  refine WF.ret ?_
                  refine fin_r ?_
                  first | (rw [check_no2 hq1]; exact ⟨rfl, (Ext.trans (Ext.trans (Ext.trans hx2 hwL0) hx58) (Ext.store hx61 hx66 (by omega)))⟩) | (rw [hno]; exact ⟨rfl, (Ext.trans (Ext.trans (Ext.trans hx2 hwL0) hx58) (Ext.store hx61 hx66 (by omega)))⟩) | (rw [hy]; exact ⟨rfl, (Ext.trans (Ext.trans (Ext.trans hx2 hwL0) hx58) (Ext.store hx61 hx66 (by omega)))⟩)

end Go.Proofs.Ytpimnlgfhpnjnaa
