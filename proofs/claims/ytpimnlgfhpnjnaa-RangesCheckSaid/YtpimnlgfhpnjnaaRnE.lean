/- The walks of the example and of RangesMove. -/
import Derived.Test.YtpimnlgfhpnjnaaRl
namespace Go.Proofs.Ytpimnlgfhpnjnaa
open Go Go.RowKit Kf
set_option maxRecDepth 20000

def twoM : Mp := ⟨[⟨0, 32, 1, 1⟩, ⟨32, 64, 2, 1⟩], 1, Mv.zero⟩
def movA : Mv := ⟨0, 1, 2, 24, 32⟩
def twoA : Mp := ⟨twoM.R, 2, ⟨2, 1, 2, 24, 32⟩⟩
def twoB : Mp := ⟨[⟨0, 24, 1, 2⟩, ⟨24, 64, 2, 2⟩], 2, Mv.zero⟩
theorem two_plan : planM twoM movA = (twoA, 0) := by decide
theorem two_moved : Moved twoA := check_moved (by decide) (by decide) (by decide)
theorem two_runs : runs (newR twoA.R twoA.M twoA.E) 64 = twoB.R := by decide +kernel
theorem two_done {m : Mp} {c : Int} (h : DonePost twoA 2 m c) : m = twoB ∧ c = 0 := by
  rcases h with ⟨h, _⟩ | ⟨_, h2, h3, h4, h5⟩
  · exact absurd h (by decide)
  · refine ⟨?_, h2⟩
    rw [Mp.eq_iff]
    exact ⟨(two_moved.runs h5).trans two_runs, h3, h4⟩
theorem two_find : findM twoB.R 24 = some ⟨24, 64, 2, 2⟩ := by decide
theorem val_len {m : Mp} (h : checkB m = true) : m.R.length ≤ 4 := okB_len (val_ok.2 (check_iff.1 h).1).1
theorem codeOf_0 {b : Bool} (h : codeOf b = 0) : b = true := by cases b <;> simp_all [codeOf]
theorem codeOf_1 {b : Bool} (h : ¬ codeOf b = 0) : b = false := by cases b <;> simp_all [codeOf]
theorem checkRef_eq {m : Mp} {v : Value} {w : World} (hv : Rgs w v m.R) (hE : -9223372036854775808 ≤ m.E ∧ m.E ≤ 9223372036854775807) : FnOk Try.prog 12 [agg (m.c v)] w (fun r w' => r = i64 (codeOf (checkB m)) ∧ Ext w w') := by
  rw [check_eq hE]; exact checkRef_ok m v w hv hE
theorem sameMap_self {a b : Mp} {va vb : Value} {w : World} (ha : Rgs w va a.R) (hb : Rgs w vb b.R) (e : a = b) : FnOk Try.prog 19 [agg (a.c va), agg (b.c vb)] w (fun r w' => r = .bool true ∧ Ext w w') := by
  have := sameMap_ok a b va vb w ha hb
  rwa [decide_eq_true e] at this
theorem doneNo_f {m : Mp} {e : Int} (h : doneNo m e = false) : 1 ≤ m.M.Epoch ∧ m.M.Epoch = e := by
  unfold doneNo at h
  simp only [Bool.or_eq_false_iff, decide_eq_false_iff_not] at h
  omega
theorem moved_of {m : Mp} {e : Int} (hE : -9223372036854775808 ≤ m.E ∧ m.E ≤ 9223372036854775807) (hc : checkB m = true) (h : doneNo m e = false) : Moved m ∧ e = m.E := by
  obtain ⟨h1, h2⟩ := doneNo_f h
  have hM := check_moved hE hc (fun q => by rw [q] at h1; exact absurd h1 (by decide))
  exact ⟨hM, h2.symm.trans hM.epoch⟩
def RefPost (m : Mp) (e : Int) (m' : Mp) (c : Int) : Prop := (doneNo m e = true ∧ m' = Mp.zero ∧ c = 6) ∨ (doneNo m e = false ∧ c = 0 ∧ m' = ⟨runs (newR m.R m.M e) 64, m.E, Mv.zero⟩)
theorem done_same {m m1 m2 : Mp} {e c1 c2 : Int} (hE : -9223372036854775808 ≤ m.E ∧ m.E ≤ 9223372036854775807) (hc : checkB m = true) (h1 : DonePost m e m1 c1) (h2 : RefPost m e m2 c2) : m1 = m2 ∧ c1 = c2 := by
  rcases h1 with ⟨a1, a2, a3⟩ | ⟨a1, a2, a3, a4, a5⟩
  · rcases h2 with ⟨_, b2, b3⟩ | ⟨b1, _⟩
    · exact ⟨a2.trans b2.symm, a3.trans b3.symm⟩
    · rw [a1] at b1; cases b1
  · rcases h2 with ⟨b1, _⟩ | ⟨_, b2, b3⟩
    · rw [a1] at b1; cases b1
    · obtain ⟨hM, he⟩ := moved_of hE hc a1
      subst he
      refine ⟨?_, a2.trans b2.symm⟩
      rw [b3, Mp.eq_iff]
      exact ⟨hM.runs a5, a3, a4⟩
theorem done_next {m m1 : Mp} {e : Int} (hE : -9223372036854775808 ≤ m.E ∧ m.E ≤ 9223372036854775807) (hc : checkB m = true) (h1 : DonePost m e m1 0) : checkB m1 = true ∧ m1.E = m.E ∧ doneNo m e = false := by
  rcases h1 with ⟨_, _, a3⟩ | ⟨a1, a2, a3, a4, a5⟩
  · cases a3
  · obtain ⟨hM, he⟩ := moved_of hE hc a1
    subst he
    have := hM.done a5
    refine ⟨?_, a3, a1⟩
    rw [show m1 = ⟨m1.R, m.E, Mv.zero⟩ from Mp.eq_iff.2 ⟨rfl, a3, a4⟩]; exact this
theorem plan_code {m : Mp} {x : Mv} (h : (planM m x).2 = 0) : planned m x = 0 := by
  by_cases q : planned m x = 0
  · exact q
  · rw [planM_no q] at h; exact h
theorem plan_next {m : Mp} {x : Mv} (hE : -9223372036854775808 ≤ m.E ∧ m.E ≤ 9223372036854775807) (hc : checkB m = true) (h : (planM m x).2 = 0) : checkB (planM m x).1 = true ∧ -9223372036854775808 ≤ (planM m x).1.E ∧ (planM m x).1.E ≤ 9223372036854775807 ∧ m.M = Mv.zero := by
  have hp := plan_code h
  have hlt := planned_lt hp
  rw [planM_yes hp]
  obtain ⟨h1, h2⟩ := check_plan hE hc hp
  exact ⟨h1, by show -9223372036854775808 ≤ m.E + 1; omega, by show m.E + 1 ≤ 9223372036854775807; omega, h2⟩
theorem zero_no {m : Mp} {e : Int} (h : m.M = Mv.zero) : doneNo m e = true := by unfold doneNo; rw [h]; rfl
def MpIn (m : Mp) : Prop := (-9223372036854775808 ≤ m.E ∧ m.E ≤ 9223372036854775807) ∧ In64 m.M.ints ∧ ∀ r ∈ m.R, In64 r.ints
abbrev Mvs (w : World) (v : Value) (l : List Mv) : Prop := Row w v l.length 5 (l.flatMap Mv.c)
theorem Mvs.el {l : List Mv} {k : Nat} (hk : k < l.length) : ((l.flatMap Mv.c).drop (k * 5)).take 5 = l[k].c := flat_el Mv.c_len hk
theorem Mvs.get {l : List Mv} {k : Nat} (hk : k < l.length) {off : Nat} (ho : off < 5) : (l.flatMap Mv.c)[k * 5 + off]? = l[k].c[off]? := flat_get Mv.c_len hk ho
theorem two_ok (w : World) : FnOk Try.prog 50 [] w (fun r w' => (∃ u, r = agg (twoM.c u) ∧ OwnR w' w.heap.size 41 u twoM.R) ∧ Ext w w') := by
  refine FnOk.enterC (rs := [.cell 0 26]) Try.func50 rfl Try.ntmps50 Try.results50 rfl rfl ?_
  refine WF.seq ?_
  refine WF.region ?_
  refine WL.op rfl (OW.allocO (cs := [.slice none 0 0, i64 0, i64 0, i64 0, i64 0, i64 0, i64 0]) Try.zeroValue26 rfl ?_ (by decide))
  intro g0 w1 heg0 hlg0 hO0 hx3
  have := World.grownBy.size hx3
  refine WL.nil ?_
  refine thn_n ?_
  refine WF.seq ?_
  refine WF.region ?_
  refine WL.va rfl rfl rfl (X.buildL (P := Try.prog) (t := 41) (cs := (Rg.c ⟨0, 32, 1, 1⟩)) (evp_cons rfl (evp_cons rfl (evp_cons rfl (evp_cons rfl evp_nil)))) Try.type41 Try.underlying41 rfl rfl ⟨rfl, rfl, rfl, rfl, trivial⟩ rfl) ?_
  refine WL.va rfl rfl rfl (X.buildL (P := Try.prog) (t := 41) (cs := (Rg.c ⟨32, 64, 2, 1⟩)) (evp_cons rfl (evp_cons rfl (evp_cons rfl (evp_cons rfl evp_nil)))) Try.type41 Try.underlying41 rfl rfl ⟨rfl, rfl, rfl, rfl, trivial⟩ rfl) ?_
  refine WL.op rfl (OW.lits (vs := [agg (Rg.c ⟨0, 32, 1, 1⟩), agg (Rg.c ⟨32, 64, 2, 1⟩)]) (evp_cons rfl (evp_cons rfl evp_nil)) Try.underlying22 Try.sizeOf41 Try.zeroValue41 ⟨rfl, rfl, trivial⟩ rfl rfl rfl ?_ (by decide))
  intro vt w5 ho7 hx6
  have := World.grownBy.size hx6
  have ot : OwnR w5 _ 41 vt twoM.R := ho7
  have otT := OwnT.of ot
  refine WL.va rfl rfl rfl (X.buildL (P := Try.prog) (t := 26) (cs := (twoM.c vt)) (evp_cons rfl (evp_cons rfl evp_nil)) Try.type26 Try.underlying26 rfl rfl ⟨own_one ot, rfl, trivial⟩ rfl) ?_
  refine WL.op rfl (OW.storeOA (hO0.ext hx6) rfl rfl rfl (Mp.c_one (Row.of_own ot) twoM) Try.sizeOf26 ?_)
  intro w8 hO0 hx10
  have := World.grownBy.size hx10
  replace otT := otT.keptO hx10 (by omega)
  refine WL.nil ?_
  refine thn_n ?_
  refine WF.ret ?_
  refine finC_r (vs := [_]) ⟨⟨_, rfl, readO hO0 Try.isAgg26 Try.sizeOf26⟩, trivial⟩ ?_
  exact ⟨⟨_, rfl, own_mono otT.own (by omega)⟩, (Ext.store (Ext.trans hx3 hx6) hx10 (by omega))⟩

theorem planT {v : Value} (w : World) (hv : Rgs w v twoM.R) : FnOk Try.prog 15 [agg (twoM.c v), agg movA.c] w (fun r w' => (∃ u, r = .tuple #[agg (twoA.c u), i64 0] ∧ OwnR w' w.heap.size 41 u twoA.R) ∧ Ext w w') := by
  have := plan_ok twoM v movA w hv (by decide) (by decide)
  rwa [two_plan] at this
theorem doneT {v : Value} (w : World) (hv : Rgs w v twoA.R) : FnOk Try.prog 17 [agg (twoA.c v), i64 2] w (fun r w' => (∃ u, r = .tuple #[agg (twoB.c u), i64 0] ∧ OwnR w' w.heap.size 41 u twoB.R) ∧ Ext w w') :=
  (doneC_ok twoA v 2 w hv (by decide)).mono fun r w' ⟨⟨u, m', c, h1, h2, h3⟩, h4⟩ => by
    obtain ⟨rfl, rfl⟩ := two_done h3
    exact ⟨⟨u, h1, h2⟩, h4⟩
theorem findT {v : Value} (w : World) (hv : Rgs w v twoB.R) : FnOk Try.prog 23 [agg (twoB.c v), i64 24] w (fun r w' => r = .tuple #[agg (Rg.c ⟨24, 64, 2, 2⟩), .bool true] ∧ Ext w w') := by
  have := findC_ok twoB v 24 w hv
  rwa [two_find] at this
set_option maxHeartbeats 2000000 in
theorem known_ok (w : World) : FnOk Try.prog 13 [] w (fun r w' => r = .bool true ∧ Ext w w') := by
  refine FnOk.enter (rs := [0]) Try.func13 rfl Try.ntmps13 Try.results13 rfl rfl ?_
  refine WF.seq ?_
  refine WF.region ?_
  refine WL.va rfl rfl rfl (X.assignB rfl) ?_
  refine WL.nil ?_
  refine thn_n ?_
  refine WF.seq ?_
  refine WF.region ?_
  refine WL.c rfl rfl rfl (X.call Try.call50 evl_nil) (two_ok _) ?_
  rintro v2 w0t ⟨⟨v0, rfl, o0⟩, hx3⟩
  refine WL.va rfl rfl rfl (X.buildL (P := Try.prog) (t := 24) (cs := (Mv.c movA)) (evp_cons rfl (evp_cons rfl (evp_cons rfl (evp_cons rfl evp_nil)))) Try.type24 Try.underlying24 rfl rfl ⟨rfl, rfl, rfl, rfl, trivial⟩ rfl) ?_
  refine WL.c rfl rfl rfl (X.call Try.call15 (evl_cons rfl (evl_cons rfl evl_nil))) (planT _ (Row.ext (Row.of_own o0) (Ext.refl w0t))) ?_
  rintro v4 wA ⟨⟨vA, rfl, oA⟩, hx5⟩
  refine WL.va rfl rfl rfl (X.move rfl) ?_
  refine WL.va rfl rfl rfl (X.extract rfl rfl) ?_
  refine WL.va rfl rfl rfl (X.extract rfl rfl) ?_
  refine WL.op rfl (OW.allocO (cs := [.slice none 0 0, i64 0, i64 0, i64 0, i64 0, i64 0, i64 0]) Try.zeroValue26 rfl ?_ (by decide))
  intro g1 w6 heg1 hlg1 hO1 hx8
  have := World.grownBy.size hx8
  refine WL.op rfl (OW.storeOA hO1 rfl rfl rfl (Mp.c_one (Row.of_own oA) twoA) Try.sizeOf26 ?_)
  intro w10 hO1 hx12
  have := World.grownBy.size hx12
  refine WL.va rfl rfl rfl (X.assignI rfl) ?_
  refine WL.nil ?_
  refine thn_n ?_
  refine WF.seq ?_
  refine WF.region ?_
  refine WL.va rfl rfl rfl (X.loadOA hO1 (Ext.refl _) rfl rfl Try.isAgg26 Try.sizeOf26) ?_
  refine WL.c rfl rfl rfl (X.call Try.call17 (evl_cons rfl (evl_cons rfl evl_nil))) (doneT _ (Row.ext (Row.of_own oA) (Ext.store hx8 hx12 (by omega)))) ?_
  rintro v14 wB ⟨⟨vB, rfl, oB⟩, hx15⟩
  have := World.grownBy.size hx15
  refine WL.va rfl rfl rfl (X.move rfl) ?_
  refine WL.va rfl rfl rfl (X.extract rfl rfl) ?_
  refine WL.va rfl rfl rfl (X.extract rfl rfl) ?_
  refine WL.op rfl (OW.allocO (cs := [.slice none 0 0, i64 0, i64 0, i64 0, i64 0, i64 0, i64 0]) Try.zeroValue26 rfl ?_ (by decide))
  intro g3 w16 heg3 hlg3 hO3 hx18
  have := World.grownBy.size hx18
  refine WL.op rfl (OW.storeOA hO3 rfl rfl rfl (Mp.c_one (Row.of_own oB) twoB) Try.sizeOf26 ?_)
  intro w20 hO3 hx22
  have := World.grownBy.size hx22
  replace hO1 := (hO1.ext (Ext.trans hx15 hx18)).keptO hx22 (by omega)
  refine WL.va rfl rfl rfl (X.assignI rfl) ?_
  refine WL.nil ?_
  refine thn_n ?_
  refine WF.seq ?_
  refine WF.region ?_
  refine WL.va rfl rfl rfl (X.loadOA hO3 (Ext.refl _) rfl rfl Try.isAgg26 Try.sizeOf26) ?_
  refine WL.c rfl rfl rfl (X.call Try.call23 (evl_cons rfl (evl_cons rfl evl_nil))) (findT _ (Row.ext (Row.of_own oB) (Ext.store hx18 hx22 (by omega)))) ?_
  rintro v25 w24 ⟨rfl, hx26⟩
  have := World.grownBy.size hx26
  refine WL.va rfl rfl rfl (X.move rfl) ?_
  refine WL.va rfl rfl rfl (X.extract rfl rfl) ?_
  refine WL.va rfl rfl rfl (X.extract rfl rfl) ?_
  refine WL.op rfl (OW.allocO (cs := [i64 0, i64 0, i64 0, i64 0]) Try.zeroValue41 rfl ?_ (by decide))
  intro g5 w28 heg5 hlg5 hO5 hx30
  have := World.grownBy.size hx30
  refine WL.op rfl (OW.storeOA hO5 rfl rfl rfl (Rg.c_one ⟨24, 64, 2, 2⟩) Try.sizeOf41 ?_)
  intro w32 hO5 hx34
  have := World.grownBy.size hx34
  replace hO1 := (hO1.ext (Ext.trans hx26 hx30)).keptO hx34 (by omega)
  replace hO3 := (hO3.ext (Ext.trans hx26 hx30)).keptO hx34 (by omega)
  refine WL.va rfl rfl rfl (X.assignB rfl) ?_
  refine WL.nil ?_
  refine thn_n ?_
  refine WF.seq ?_
  refine WF.region ?_
  refine WL.va rfl rfl rfl (X.moveI rfl) ?_
  refine WL.va rfl rfl rfl (X.eql rfl rfl) ?_
  refine WL.va rfl rfl rfl (X.moveB rfl) ?_
  refine WL.vg rfl rfl rfl rfl (X.moveI rfl) ?_
  refine WL.vg rfl rfl rfl rfl (X.eql rfl rfl) ?_
  refine WL.va rfl rfl rfl (X.pickT rfl rfl rfl) ?_
  refine WL.va rfl rfl rfl (X.moveB rfl) ?_
  refine WL.vg rfl rfl rfl rfl (X.fieldAddrO (off := 2) rfl Try.underlying26 rfl rfl Try.sizeOf24) ?_
  refine WL.vg rfl rfl rfl rfl (X.loadOP hO1 (Ext.refl _) rfl rfl rfl Try.isAgg24 Try.sizeOf24) ?_
  refine WL.vg rfl rfl rfl rfl (X.buildL (P := Try.prog) (t := 24) (cs := (Mv.c ⟨2, 1, 2, 24, 32⟩)) (evp_cons rfl (evp_cons rfl (evp_cons rfl (evp_cons rfl (evp_cons rfl evp_nil))))) Try.type24 Try.underlying24 rfl rfl ⟨rfl, rfl, rfl, rfl, rfl, trivial⟩ rfl) ?_
  refine WL.vg rfl rfl rfl rfl (X.eqlA (na := twoA.M.ints) (nb := twoA.M.ints) flatM fieldsM offsM rfl rfl rfl rfl (Mv.eqB _ _)) ?_
  refine WL.va rfl rfl rfl (X.pickT rfl rfl rfl) ?_
  refine WL.va rfl rfl rfl (X.moveB rfl) ?_
  refine WL.vg rfl rfl rfl rfl (X.moveB rfl) ?_
  refine WL.va rfl rfl rfl (X.pickT rfl rfl rfl) ?_
  refine WL.va rfl rfl rfl (X.moveB rfl) ?_
  refine WL.split (j := 15) rfl (fun h39 => ?_) (fun h39 => ?_)
  · have gh39 := h39
    refine WL.vg rfl (congrArg some h39) rfl rfl (X.loadOA hO5 (Ext.refl _) rfl rfl Try.isAgg41 Try.sizeOf41) ?_
    refine WL.vg rfl (congrArg some h39) rfl rfl (X.buildL (P := Try.prog) (t := 41) (cs := (Rg.c ⟨24, 64, 2, 2⟩)) (evp_cons rfl (evp_cons rfl (evp_cons rfl (evp_cons rfl evp_nil)))) Try.type41 Try.underlying41 rfl rfl ⟨rfl, rfl, rfl, rfl, trivial⟩ rfl) ?_
    refine WL.vg rfl (congrArg some h39) rfl rfl (X.eqlA (na := (Rg.ints ⟨24, 64, 2, 2⟩)) (nb := (Rg.ints ⟨24, 64, 2, 2⟩)) flatR fieldsR offsR rfl rfl rfl rfl (Rg.eqB _ _)) ?_
    refine WL.va rfl rfl rfl (X.pickT rfl h39 rfl) ?_
    refine WL.va rfl rfl rfl (X.moveB rfl) ?_
    refine WL.vg rfl rfl rfl rfl (X.fieldAddrO (off := 0) rfl Try.underlying26 rfl rfl Try.sizeOf22) ?_
    refine WL.vg rfl rfl rfl rfl (X.loadO hO3 (Ext.refl _) rfl rfl Try.isAgg22) ?_
    refine WL.vg rfl rfl rfl rfl (X.len (Row.of_own oB) rfl Try.underlying22) ?_
    refine WL.vg rfl rfl rfl rfl (X.eql rfl rfl) ?_
    refine WL.va rfl rfl rfl (X.pickT rfl rfl rfl) ?_
    refine WL.va rfl rfl rfl (X.assignB rfl) ?_
    refine WL.nil ?_
    refine thn_n ?_
    refine WF.ret ?_
    refine fin_r ?_
    exact ⟨rfl, (Ext.trans (Ext.trans (Ext.trans (Ext.trans (Ext.trans (Ext.trans hx3 hx5) (Ext.store hx8 hx12 (by omega))) hx15) (Ext.store hx18 hx22 (by omega))) hx26) (Ext.store hx30 hx34 (by omega)))⟩
  · have gh39 := h39
    cases gh39

set_option maxHeartbeats 16000000 in
theorem rangesMove_walk (m : Mp) (v vl : Value) (l : List Mv) (w : World) (hv : Rgs w v m.R) (hI : MpIn m) (hl : Mvs w vl l) : FnOk Try.prog 3 [agg (m.c v), vl] w (fun r w' => r = .bool true ∧ Ext w w') := by
  have hE := hI.1
  have hll : (l.length : Int) ≤ 9223372036854775807 := by obtain ⟨_, c, _, h1, h2, _⟩ := hl.shape; unfold maxLen at h2; omega
  refine FnOk.enter (rs := [4]) Try.func3 rfl Try.ntmps3 Try.results3 rfl rfl ?_
  refine WF.seq ?_
  refine WF.region ?_
  refine WL.op rfl (OW.boxA (cs := (m.c v)) rfl ?_ (by decide))
  intro g2 w1 heg2 hlg2 hO2 hx3
  have := World.grownBy.size hx3
  refine WL.va rfl rfl rfl (X.assignB rfl) ?_
  refine WL.nil ?_
  refine thn_n ?_
  refine WF.seq ?_
  refine WF.seq ?_
  refine WF.drawn (.q 0 (.q 2 (.l 1 (.l 3 (.q 4 .nil))))) (fun w' => Ext w1 w') 5 (by kernel_rfl) (by kernel_rfl) (Ext.drew _) ?_
  have := World.grownBy.size (Ext.drew w1)
  refine WO.q rfl rfl rfl rfl (fun w' hE6 => (X.loadOA hO2 hE6 rfl rfl Try.isAgg26 Try.sizeOf26)) ?_
  refine WO.q rfl rfl rfl rfl (fun w' hE6 => (X.loadOA hO2 hE6 rfl rfl Try.isAgg26 Try.sizeOf26)) ?_
  refine WO.l ?_
  refine LO.go rfl rfl (OW.enter rfl (by decide) (X.call Try.call11 (evl_cons rfl evl_nil)) (checkC_ok m v _ (Row.ext hv (Ext.trans hx3 (Ext.drew _))) hE) ?_)
  rintro v8 w7 ⟨rfl, hx9⟩
  have := World.grownBy.size hx9
  refine ⟨(Ext.trans (Ext.drew _) hx9), ?_⟩
  refine WO.l ?_
  refine LO.go rfl rfl (OW.enter rfl (by decide) (X.call Try.call12 (evl_cons rfl evl_nil)) (checkRef_eq (Row.ext hv (Ext.trans (Ext.trans hx3 (Ext.drew _)) hx9)) hE) ?_)
  rintro v11 w10 ⟨rfl, hx12⟩
  have := World.grownBy.size hx12
  refine ⟨(Ext.trans (Ext.trans (Ext.drew _) hx9) hx12), ?_⟩
  refine WO.q rfl rfl rfl rfl (fun w' hE6 => (X.neq rfl rfl)) ?_
  refine WO.nil ?_
  refine WL.nil ?_
  refine thn_n ?_
  refine WF.cond rfl (fun h0_13 => ?_) (fun h0_13 => ?_)
  · have gh0_13 := (of_decide_eq_true h0_13)
    exact absurd rfl gh0_13
  · have gh0_13 := (Decidable.of_not_not (of_decide_eq_false h0_13))
    refine WF.skip ?_
    refine thn_n ?_
    refine WF.seq ?_
    refine WF.seq ?_
    refine WF.region ?_
    refine WL.va rfl rfl rfl (X.loadOA hO2 (Ext.trans (Ext.trans (Ext.drew _) hx9) hx12) rfl rfl Try.isAgg26 Try.sizeOf26) ?_
    refine WL.c rfl rfl rfl (X.call Try.call12 (evl_cons rfl evl_nil)) (checkRef_eq (Row.ext hv (Ext.trans (Ext.trans (Ext.trans hx3 (Ext.drew _)) hx9) hx12)) hE) ?_
    rintro v16 w15 ⟨rfl, hx17⟩
    have := World.grownBy.size hx17
    refine WL.va rfl rfl rfl (X.neq rfl rfl) ?_
    refine WL.nil ?_
    refine thn_n ?_
    refine WF.cond rfl (fun h1_18 => ?_) (fun h1_18 => ?_)
    · have gh1_18 := (of_decide_eq_true h1_18)
      refine WF.seq ?_
      refine WF.region ?_
      refine WL.c rfl rfl rfl (X.call Try.call13 evl_nil) (known_ok _) ?_
      rintro v21 w20 ⟨rfl, hx22⟩
      have := World.grownBy.size hx22
      refine WL.va rfl rfl rfl (X.assignB rfl) ?_
      refine WL.nil ?_
      refine thn_n ?_
      refine WF.ret ?_
      refine thn_r ?_
      refine fin_r ?_
      exact ⟨rfl, (Ext.trans (Ext.trans (Ext.trans (Ext.trans (Ext.trans hx3 (Ext.drew _)) hx9) hx12) hx17) hx22)⟩
    · have gh1_18 := (Decidable.of_not_not (of_decide_eq_false h1_18))
      have hck : checkB m = true := codeOf_0 gh1_18
      refine WF.skip ?_
      refine thn_n ?_
      refine WF.seq ?_
      refine WF.region ?_
      refine WL.va rfl rfl rfl (X.loadOA hO2 (Ext.trans (Ext.trans (Ext.trans (Ext.drew _) hx9) hx12) hx17) rfl rfl Try.isAgg26 Try.sizeOf26) ?_
      have hzn := ((show Ext w w15 from (Ext.trans (Ext.trans (Ext.trans (Ext.trans hx3 (Ext.drew _)) hx9) hx12) hx17))).size
      refine WL.c rfl rfl rfl (X.call Try.call14 (evl_cons rfl evl_nil)) (copyMap_ok m v _ (Row.ext hv (Ext.trans (Ext.trans (Ext.trans (Ext.trans hx3 (Ext.drew _)) hx9) hx12) hx17)) (Nat.le_trans (val_len hck) (by decide))) ?_
      rintro v25 w24 ⟨⟨vn, rfl, on⟩, hx26⟩
      have := World.grownBy.size hx26
      have onT := OwnT.of (own_mono on hzn)
      refine WL.op rfl (OW.allocO (cs := [.slice none 0 0, i64 0, i64 0, i64 0, i64 0, i64 0, i64 0]) Try.zeroValue26 rfl ?_ (by decide))
      intro g5 w27 heg5 hlg5 hO5 hx29
      have := World.grownBy.size hx29
      refine WL.op rfl (OW.storeOA hO5 rfl rfl rfl (Mp.c_one (Row.of_own on) m) Try.sizeOf26 ?_)
      intro w31 hO5 hx33
      have := World.grownBy.size hx33
      replace hO2 := (hO2.ext (Ext.trans (Ext.trans (Ext.trans (Ext.trans (Ext.trans (Ext.drew _) hx9) hx12) hx17) hx26) hx29)).keptO hx33 (by omega)
      replace onT := (onT.ext hx29).keptO hx33 (by omega)
      replace hO5 : Blk _ _ _ (m.c vn) := hO5
      refine WL.nil ?_
      refine thn_n ?_
      refine WF.seq ?_
      refine WF.seq ?_
      refine WF.region ?_
      refine WL.va rfl rfl rfl (X.assignI rfl) ?_
      refine WL.nil ?_
      refine thn_n ?_
      refine WF.block ?_
      refine WF.named (fun F35 hF36 => ?_)
      refine WF.loopN (fun mL0 f' w' => ∃ (k : Nat) (now : Mp) (vn : Value), mL0 = l.length - k ∧ f' 6 = .int .i64 (k : Int) ∧ Agree [0, 1, 2, 5, 17, 18, 19, 20, 21, 22, 23, 24, 26, 27] f' F35 ∧ Ext w w' ∧ k ≤ l.length ∧ checkB now = true ∧ (-9223372036854775808 ≤ now.E ∧ now.E ≤ 9223372036854775807) ∧ Blk w' g5 26 (now.c vn) ∧ OwnR w' w.heap.size 41 vn now.R) ?_ ?_
      · exact ⟨_, 0, m, vn, rfl, (congrFun hF36 6), (Agree.refl _ _), (Ext.trans (Ext.trans (Ext.trans (Ext.trans (Ext.trans (Ext.trans hx3 (Ext.drew _)) hx9) hx12) hx17) hx26) (Ext.store hx29 hx33 (by omega))), ⟨Nat.zero_le _, hck, hE, hO5, onT.own⟩⟩
      · rintro mL0 fL0 wL0 ⟨k, now, vn, hmL0, e6_L0, hAL0, hwL0, ⟨hk0, hnc, hnE, hO5, on⟩⟩
        have := World.grownBy.size hwL0
        have t5 := hO5.lt
        have onT := OwnT.of on
        refine WF.seq ?_
        refine WF.seq ?_
        refine WF.region ?_
        refine WL.va rfl rfl rfl (X.moveI e6_L0) ?_
        refine WL.va rfl rfl rfl (X.move ((hAL0.eq 1).trans (congrFun hF36 1))) ?_
        refine WL.va rfl rfl rfl (X.len hl rfl Try.underlying27) ?_
        refine WL.va rfl rfl rfl (X.lss rfl rfl) ?_
        refine WL.va rfl rfl rfl (X.moveB rfl) ?_
        refine WL.split (j := 4) rfl (fun h38 => ?_) (fun h38 => ?_)
        · have gh38 := (of_decide_eq_true h38)
          refine WL.vg rfl (congrArg some h38) rfl rfl (X.moveI e6_L0) ?_
          refine WL.vg rfl (congrArg some h38) rfl rfl (X.lss rfl rfl) ?_
          refine WL.va rfl rfl rfl (X.pickT rfl h38 rfl) ?_
          refine WL.nil ?_
          refine thn_n ?_
          refine WF.cond rfl (fun h2_39 => ?_) (fun h2_39 => ?_)
          · have gh2_39 := (of_decide_eq_true h2_39)
            have hk : k < l.length := by omega
            refine WF.skip ?_
            refine thn_n ?_
            refine WF.seq ?_
            refine WF.block ?_
            refine WF.seq ?_
            refine WF.region ?_
            refine WL.va rfl rfl rfl (X.loadOA hO5 (Ext.refl _) ((hAL0.eq 5).trans (congrFun hF36 5)) rfl Try.isAgg26 Try.sizeOf26) ?_
            refine WL.c rfl rfl rfl (X.call Try.call14 (evl_cons rfl evl_nil)) (copyMap_ok now vn _ onT.rd (Nat.le_trans (val_len hnc) (by decide))) ?_
            rintro v42 w41 ⟨⟨vi, rfl, oi⟩, hx43⟩
            have := World.grownBy.size hx43
            have oiT := OwnT.of oi
            refine WL.op rfl (OW.allocO (cs := [.slice none 0 0, i64 0, i64 0, i64 0, i64 0, i64 0, i64 0]) Try.zeroValue26 rfl ?_ (by decide))
            intro g7 w44 heg7 hlg7 hO7 hx46
            have := World.grownBy.size hx46
            refine WL.op rfl (OW.storeOA hO7 rfl rfl rfl (Mp.c_one (Row.of_own oi) now) Try.sizeOf26 ?_)
            intro w48 hO7 hx50
            have := World.grownBy.size hx50
            replace onT := (onT.ext (Ext.trans hx43 hx46)).keptO hx50 (by omega)
            replace hO5 := (hO5.ext (Ext.trans hx43 hx46)).keptO hx50 (by omega)
            replace oiT := (oiT.ext hx46).keptO hx50 (by omega)
            replace hO7 : Blk _ _ _ (now.c vi) := hO7
            refine WL.nil ?_
            refine thn_n ?_
            refine WF.seq ?_
            refine WF.drawn (.q 0 (.q 1 (.q 2 (.q 3 (.q 4 (.b 5 9 (.q 6 (.q 7 (.q 8 (.l 9 (.l 10 (.q 11 .nil)))))) (.l 5 (.q 6 (.q 7 (.q 8 (.l 10 (.q 11 .nil)))))))))))) (fun w' => Ext w48 w') 12 (by kernel_rfl) (by kernel_rfl) (Ext.drew _) ?_
            have := World.grownBy.size (Ext.drew w48)
            refine WO.q rfl rfl rfl rfl (fun w' hE52 => (X.loadOA hO7 hE52 rfl rfl Try.isAgg26 Try.sizeOf26)) ?_
            refine WO.q rfl rfl rfl rfl (fun w' hE52 => (X.move ((hAL0.eq 1).trans (congrFun hF36 1)))) ?_
            refine WO.q rfl rfl rfl rfl (fun w' hE52 => (X.moveI e6_L0)) ?_
            refine WO.q rfl rfl rfl rfl (fun w' hE52 => (X.idx hl rfl rfl (by omega) Try.underlying27 Try.sizeOf24)) ?_
            refine WO.q rfl rfl rfl rfl (fun w' hE52 => (X.loadEl hl (Ext.trans (Ext.trans (Ext.trans hwL0 hx43) (Ext.store hx46 hx50 (by omega))) hE52) rfl (by omega) (Mvs.el hk) Try.isAgg24 Try.sizeOf24)) ?_
            refine WO.b2 ?_ ?_
            · refine LO.go rfl rfl (OW.enter rfl (by decide) (X.call Try.call15 (evl_cons rfl (evl_cons rfl evl_nil))) (plan_ok now vi (l[k]'hk) _ (oiT.ext (Ext.drew _)).rd (Nat.le_trans (val_len hnc) (by decide)) hnE.1) ?_)
              rintro v54 w53 ⟨⟨vx, rfl, ox⟩, hx55⟩
              have := World.grownBy.size hx55
              refine ⟨(Ext.trans (Ext.drew _) hx55), ?_⟩
              have oxT := OwnT.of ox
              refine WO.q rfl rfl rfl rfl (fun w' hE52 => (X.move rfl)) ?_
              refine WO.q rfl rfl rfl rfl (fun w' hE52 => (X.extract rfl rfl)) ?_
              refine WO.q rfl rfl rfl rfl (fun w' hE52 => (X.extract rfl rfl)) ?_
              refine WO.l ?_
              refine LO.go rfl rfl (OW.allocO (cs := [.slice none 0 0, i64 0, i64 0, i64 0, i64 0, i64 0, i64 0]) Try.zeroValue26 rfl ?_ (by decide))
              intro g8 w56 heg8 hlg8 hO8 hx58
              have := World.grownBy.size hx58
              refine ⟨(Ext.trans (Ext.trans (Ext.drew _) hx55) hx58), ?_⟩
              refine WO.l ?_
              refine LO.go rfl rfl (OW.storeOA hO8 rfl rfl rfl (Mp.c_one (Row.of_own ox) _) Try.sizeOf26 ?_)
              intro w60 hO8 hx62
              have := World.grownBy.size hx62
              replace onT := (onT.ext (Ext.trans (Ext.trans (Ext.drew _) hx55) hx58)).keptO hx62 (by omega)
              replace hO5 := (hO5.ext (Ext.trans (Ext.trans (Ext.drew _) hx55) hx58)).keptO hx62 (by omega)
              replace oiT := (oiT.ext (Ext.trans (Ext.trans (Ext.drew _) hx55) hx58)).keptO hx62 (by omega)
              replace hO7 := (hO7.ext (Ext.trans (Ext.trans (Ext.drew _) hx55) hx58)).keptO hx62 (by omega)
              replace oxT := (oxT.ext hx58).keptO hx62 (by omega)
              replace hO8 : Blk _ _ _ ((planM now (l[k]'hk)).1.c vx) := hO8
              refine ⟨(Ext.trans (Ext.trans (Ext.drew _) hx55) (Ext.store hx58 hx62 (by omega))), ?_⟩
              refine WO.q rfl rfl rfl rfl (fun w' hE52 => (X.assignI rfl)) ?_
              refine WO.nil ?_
              refine WL.nil ?_
              refine thn_n ?_
              refine WF.seq ?_
              refine WF.drawn (.q 0 (.q 1 (.q 2 (.q 3 (.q 4 (.b 5 9 (.q 6 (.q 7 (.q 8 (.l 9 (.l 10 (.q 11 .nil)))))) (.l 5 (.q 6 (.q 7 (.q 8 (.l 10 (.q 11 .nil)))))))))))) (fun w' => Ext w60 w') 12 (by kernel_rfl) (by kernel_rfl) (Ext.drew _) ?_
              have := World.grownBy.size (Ext.drew w60)
              refine WO.q rfl rfl rfl rfl (fun w' hE65 => (X.loadOA hO5 hE65 ((hAL0.eq 5).trans (congrFun hF36 5)) rfl Try.isAgg26 Try.sizeOf26)) ?_
              refine WO.q rfl rfl rfl rfl (fun w' hE65 => (X.move ((hAL0.eq 1).trans (congrFun hF36 1)))) ?_
              refine WO.q rfl rfl rfl rfl (fun w' hE65 => (X.moveI e6_L0)) ?_
              refine WO.q rfl rfl rfl rfl (fun w' hE65 => (X.idx hl rfl rfl (by omega) Try.underlying27 Try.sizeOf24)) ?_
              refine WO.q rfl rfl rfl rfl (fun w' hE65 => (X.loadEl hl (Ext.trans (Ext.trans (Ext.trans (Ext.trans (Ext.trans (Ext.trans hwL0 hx43) (Ext.store hx46 hx50 (by omega))) (Ext.drew _)) hx55) (Ext.store hx58 hx62 (by omega))) hE65) rfl (by omega) (Mvs.el hk) Try.isAgg24 Try.sizeOf24)) ?_
              refine WO.b2 ?_ ?_
              · refine LO.go rfl rfl (OW.enter rfl (by decide) (X.call Try.call16 (evl_cons rfl (evl_cons rfl evl_nil))) (planR_ok now vn (l[k]'hk) _ (onT.ext (Ext.drew _)).rd (Nat.le_trans (val_len hnc) (by decide)) hnE.1) ?_)
                rintro v67 w66 ⟨⟨vy, rfl, oy⟩, hx68⟩
                have := World.grownBy.size hx68
                refine ⟨(Ext.trans (Ext.drew _) hx68), ?_⟩
                have oyT := OwnT.of oy
                refine WO.q rfl rfl rfl rfl (fun w' hE65 => (X.move rfl)) ?_
                refine WO.q rfl rfl rfl rfl (fun w' hE65 => (X.extract rfl rfl)) ?_
                refine WO.q rfl rfl rfl rfl (fun w' hE65 => (X.extract rfl rfl)) ?_
                refine WO.l ?_
                refine LO.go rfl rfl (OW.allocO (cs := [.slice none 0 0, i64 0, i64 0, i64 0, i64 0, i64 0, i64 0]) Try.zeroValue26 rfl ?_ (by decide))
                intro g10 w69 heg10 hlg10 hO10 hx71
                have := World.grownBy.size hx71
                refine ⟨(Ext.trans (Ext.trans (Ext.drew _) hx68) hx71), ?_⟩
                refine WO.l ?_
                refine LO.go rfl rfl (OW.storeOA hO10 rfl rfl rfl (Mp.c_one (Row.of_own oy) _) Try.sizeOf26 ?_)
                intro w73 hO10 hx75
                have := World.grownBy.size hx75
                replace onT := (onT.ext (Ext.trans (Ext.trans (Ext.drew _) hx68) hx71)).keptO hx75 (by omega)
                replace hO5 := (hO5.ext (Ext.trans (Ext.trans (Ext.drew _) hx68) hx71)).keptO hx75 (by omega)
                replace oiT := (oiT.ext (Ext.trans (Ext.trans (Ext.drew _) hx68) hx71)).keptO hx75 (by omega)
                replace hO7 := (hO7.ext (Ext.trans (Ext.trans (Ext.drew _) hx68) hx71)).keptO hx75 (by omega)
                replace oxT := (oxT.ext (Ext.trans (Ext.trans (Ext.drew _) hx68) hx71)).keptO hx75 (by omega)
                replace hO8 := (hO8.ext (Ext.trans (Ext.trans (Ext.drew _) hx68) hx71)).keptO hx75 (by omega)
                replace oyT := (oyT.ext hx71).keptO hx75 (by omega)
                replace hO10 : Blk _ _ _ ((planM now (l[k]'hk)).1.c vy) := hO10
                refine ⟨(Ext.trans (Ext.trans (Ext.drew _) hx68) (Ext.store hx71 hx75 (by omega))), ?_⟩
                refine WO.q rfl rfl rfl rfl (fun w' hE65 => (X.assignI rfl)) ?_
                refine WO.nil ?_
                refine WL.nil ?_
                refine thn_n ?_
                refine WF.seq ?_
                refine WF.region ?_
                refine WL.va rfl rfl rfl (X.move ((hAL0.eq 1).trans (congrFun hF36 1))) ?_
                refine WL.va rfl rfl rfl (X.moveI e6_L0) ?_
                refine WL.va rfl rfl rfl (X.idx hl rfl rfl (by omega) Try.underlying27 Try.sizeOf24) ?_
                refine WL.va rfl rfl rfl (X.fieldAddrA rfl Try.underlying24 rfl rfl Try.sizeOf3) ?_
                refine WL.va rfl rfl rfl (X.loadE hl (Ext.trans (Ext.trans (Ext.trans (Ext.trans (Ext.trans (Ext.trans (Ext.trans (Ext.trans hwL0 hx43) (Ext.store hx46 hx50 (by omega))) (Ext.drew _)) hx55) (Ext.store hx58 hx62 (by omega))) (Ext.drew _)) hx68) (Ext.store hx71 hx75 (by omega))) rfl (by omega) ((Mvs.get hk (by decide)).trans rfl) Try.isAgg3) ?_
                refine WL.va rfl rfl rfl (X.assignI rfl) ?_
                refine WL.nil ?_
                refine thn_n ?_
                refine WF.named (fun F77 hF78 => ?_)
                refine WF.cut (fun f' w' => f' 12 = i64 (if (l[k]'hk).Epoch < 0 then now.M.Epoch else (l[k]'hk).Epoch) ∧ Agree [0, 1, 2, 5, 6, 7, 8, 9, 10, 11, 17, 18, 19, 20, 21, 22, 23, 24, 26, 27, 28, 29, 30, 31, 32, 33, 34, 35, 38, 39, 40, 41, 42, 43, 44, 45, 46, 47, 48, 49, 50, 51, 52, 53, 54, 55, 56, 57, 58, 59, 60, 61, 62] f' F77 ∧ w73 = w') ?_ ?_
                · refine WF.seq ?_
                  refine WF.region ?_
                  refine WL.va rfl rfl rfl (X.moveI (congrFun hF78 12)) ?_
                  refine WL.va rfl rfl rfl (X.lss rfl rfl) ?_
                  refine WL.nil ?_
                  refine thn_n ?_
                  refine WF.cond rfl (fun h3_79 => ?_) (fun h3_79 => ?_)
                  · have gh3_79 := (of_decide_eq_true h3_79)
                    have hep : now.M.Epoch = (if (l[k]'hk).Epoch < 0 then now.M.Epoch else (l[k]'hk).Epoch) := (if_pos gh3_79).symm
                    refine WF.region ?_
                    refine WL.va rfl rfl rfl (X.fieldAddrO (off := 2) ((congrFun hF78 5).trans ((hAL0.eq 5).trans (congrFun hF36 5))) Try.underlying26 rfl rfl Try.sizeOf24) ?_
                    refine WL.va rfl rfl rfl (X.fieldAddrP (off := 0) rfl Try.underlying24 rfl rfl Try.sizeOf3) ?_
                    refine WL.va rfl rfl rfl (X.loadO hO5 (Ext.refl _) rfl rfl Try.isAgg3) ?_
                    refine WL.va rfl rfl rfl (X.assignI rfl) ?_
                    refine WL.nil ?_
                    refine thn_n ?_
                    exact ⟨(Eq.trans rfl (congrArg i64 hep)), (by repeat (first | exact (Agree.refl _ F77) | refine Agree.put ?_ rfl | refine Agree.sub hAL0 rfl ?_ | refine Agree.named hF78 ?_ | refine Agree.named hF36 ?_)), rfl⟩
                  · have gh3_79 := (of_decide_eq_false h3_79)
                    have hep : (l[k]'hk).Epoch = (if (l[k]'hk).Epoch < 0 then now.M.Epoch else (l[k]'hk).Epoch) := (if_neg gh3_79).symm
                    refine WF.skip ?_
                    refine thn_n ?_
                    exact ⟨(Eq.trans (congrFun hF78 12) (congrArg i64 hep)), (by repeat (first | exact (Agree.refl _ F77) | refine Agree.put ?_ rfl | refine Agree.sub hAL0 rfl ?_ | refine Agree.named hF78 ?_ | refine Agree.named hF36 ?_)), rfl⟩
                · rintro fCs13 wCs13 ⟨e12_Cs13, hACs13, rfl⟩
                  refine WF.seq ?_
                  refine WF.region ?_
                  refine WL.va rfl rfl rfl (X.loadOA hO7 (Ext.refl _) ((hACs13.eq 7).trans (congrFun hF78 7)) rfl Try.isAgg26 Try.sizeOf26) ?_
                  refine WL.va rfl rfl rfl (X.moveI e12_Cs13) ?_
                  refine WL.c rfl rfl rfl (X.call Try.call17 (evl_cons rfl (evl_cons rfl evl_nil))) (doneC_ok now vi (if (l[k]'hk).Epoch < 0 then now.M.Epoch else (l[k]'hk).Epoch) _ oiT.rd (Nat.le_trans (val_len hnc) (by decide))) ?_
                  rintro v82 w81 ⟨⟨vu, md, cd, rfl, ou, hdp⟩, hx83⟩
                  have := World.grownBy.size hx83
                  have ouT := OwnT.of ou
                  refine WL.va rfl rfl rfl (X.move rfl) ?_
                  refine WL.va rfl rfl rfl (X.extract rfl rfl) ?_
                  refine WL.va rfl rfl rfl (X.extract rfl rfl) ?_
                  refine WL.op rfl (OW.allocO (cs := [.slice none 0 0, i64 0, i64 0, i64 0, i64 0, i64 0, i64 0]) Try.zeroValue26 rfl ?_ (by decide))
                  intro g13 w84 heg13 hlg13 hO13 hx86
                  have := World.grownBy.size hx86
                  refine WL.op rfl (OW.storeOA hO13 rfl rfl rfl (Mp.c_one (Row.of_own ou) _) Try.sizeOf26 ?_)
                  intro w88 hO13 hx90
                  have := World.grownBy.size hx90
                  replace onT := (onT.ext (Ext.trans hx83 hx86)).keptO hx90 (by omega)
                  replace hO5 := (hO5.ext (Ext.trans hx83 hx86)).keptO hx90 (by omega)
                  replace oiT := (oiT.ext (Ext.trans hx83 hx86)).keptO hx90 (by omega)
                  replace hO7 := (hO7.ext (Ext.trans hx83 hx86)).keptO hx90 (by omega)
                  replace oxT := (oxT.ext (Ext.trans hx83 hx86)).keptO hx90 (by omega)
                  replace hO8 := (hO8.ext (Ext.trans hx83 hx86)).keptO hx90 (by omega)
                  replace oyT := (oyT.ext (Ext.trans hx83 hx86)).keptO hx90 (by omega)
                  replace hO10 := (hO10.ext (Ext.trans hx83 hx86)).keptO hx90 (by omega)
                  replace ouT := (ouT.ext hx86).keptO hx90 (by omega)
                  replace hO13 : Blk _ _ _ (md.c vu) := hO13
                  refine WL.va rfl rfl rfl (X.assignI rfl) ?_
                  refine WL.nil ?_
                  refine thn_n ?_
                  refine WF.seq ?_
                  refine WF.region ?_
                  refine WL.va rfl rfl rfl (X.loadOA hO5 (Ext.refl _) ((hACs13.eq 5).trans ((congrFun hF78 5).trans ((hAL0.eq 5).trans (congrFun hF36 5)))) rfl Try.isAgg26 Try.sizeOf26) ?_
                  refine WL.va rfl rfl rfl (X.moveI e12_Cs13) ?_
                  refine WL.c rfl rfl rfl (X.call Try.call18 (evl_cons rfl (evl_cons rfl evl_nil))) (doneR_ok now vn (if (l[k]'hk).Epoch < 0 then now.M.Epoch else (l[k]'hk).Epoch) _ onT.rd) ?_
                  rintro v93 w92 ⟨⟨vv, md2, cd2, rfl, ov, hdr⟩, hx94⟩
                  have := World.grownBy.size hx94
                  obtain ⟨rfl, rfl⟩ := done_same hnE hnc hdp hdr
                  have ovT := OwnT.of ov
                  refine WL.va rfl rfl rfl (X.move rfl) ?_
                  refine WL.va rfl rfl rfl (X.extract rfl rfl) ?_
                  refine WL.va rfl rfl rfl (X.extract rfl rfl) ?_
                  refine WL.op rfl (OW.allocO (cs := [.slice none 0 0, i64 0, i64 0, i64 0, i64 0, i64 0, i64 0]) Try.zeroValue26 rfl ?_ (by decide))
                  intro g15 w95 heg15 hlg15 hO15 hx97
                  have := World.grownBy.size hx97
                  refine WL.op rfl (OW.storeOA hO15 rfl rfl rfl (Mp.c_one (Row.of_own ov) _) Try.sizeOf26 ?_)
                  intro w99 hO15 hx101
                  have := World.grownBy.size hx101
                  replace onT := (onT.ext (Ext.trans hx94 hx97)).keptO hx101 (by omega)
                  replace hO5 := (hO5.ext (Ext.trans hx94 hx97)).keptO hx101 (by omega)
                  replace oiT := (oiT.ext (Ext.trans hx94 hx97)).keptO hx101 (by omega)
                  replace hO7 := (hO7.ext (Ext.trans hx94 hx97)).keptO hx101 (by omega)
                  replace oxT := (oxT.ext (Ext.trans hx94 hx97)).keptO hx101 (by omega)
                  replace hO8 := (hO8.ext (Ext.trans hx94 hx97)).keptO hx101 (by omega)
                  replace oyT := (oyT.ext (Ext.trans hx94 hx97)).keptO hx101 (by omega)
                  replace hO10 := (hO10.ext (Ext.trans hx94 hx97)).keptO hx101 (by omega)
                  replace ouT := (ouT.ext (Ext.trans hx94 hx97)).keptO hx101 (by omega)
                  replace hO13 := (hO13.ext (Ext.trans hx94 hx97)).keptO hx101 (by omega)
                  replace ovT := (ovT.ext hx97).keptO hx101 (by omega)
                  replace hO15 : Blk _ _ _ (md.c vv) := hO15
                  refine WL.va rfl rfl rfl (X.assignI rfl) ?_
                  refine WL.nil ?_
                  refine thn_n ?_
                  refine WF.seq ?_
                  refine WF.seq ?_
                  refine WF.region ?_
                  refine WL.va rfl rfl rfl (X.moveI ((hACs13.eq 9).trans (congrFun hF78 9))) ?_
                  refine WL.va rfl rfl rfl (X.moveI ((hACs13.eq 11).trans (congrFun hF78 11))) ?_
                  refine WL.va rfl rfl rfl (X.neq rfl rfl) ?_
                  refine WL.va rfl rfl rfl (X.moveB rfl) ?_
                  refine WL.split (j := 3) rfl (fun h104 => ?_) (fun h104 => ?_)
                  · have gh104 := (of_decide_eq_true h104)
                    exact absurd rfl gh104
                  · have gh104 := (Decidable.of_not_not (of_decide_eq_false h104))
                    refine WL.vg rfl (congrArg some h104) rfl rfl (X.moveI rfl) ?_
                    refine WL.vg rfl (congrArg some h104) rfl rfl (X.moveI rfl) ?_
                    refine WL.vg rfl (congrArg some h104) rfl rfl (X.neq rfl rfl) ?_
                    refine WL.va rfl rfl rfl (X.pickF rfl h104 rfl) ?_
                    refine WL.va rfl rfl rfl (X.moveB rfl) ?_
                    refine WL.split (j := 8) rfl (fun h106 => ?_) (fun h106 => ?_)
                    · have gh106 := (of_decide_eq_true h106)
                      exact absurd rfl gh106
                    · have gh106 := (Decidable.of_not_not (of_decide_eq_false h106))
                      refine WL.vg rfl (congrArg some h106) rfl rfl (X.loadOA hO8 (Ext.refl _) ((hACs13.eq 8).trans (congrFun hF78 8)) rfl Try.isAgg26 Try.sizeOf26) ?_
                      refine WL.vg rfl (congrArg some h106) rfl rfl (X.loadOA hO10 (Ext.refl _) ((hACs13.eq 10).trans (congrFun hF78 10)) rfl Try.isAgg26 Try.sizeOf26) ?_
                      refine WL.cg rfl (congrArg some h106) rfl rfl (X.call Try.call19 (evl_cons rfl (evl_cons rfl evl_nil))) (sameMap_self oxT.rd oyT.rd rfl) ?_
                      rintro v108 w107 ⟨rfl, hx109⟩
                      have := World.grownBy.size hx109
                      refine WL.vg rfl (congrArg some h106) rfl rfl (X.not rfl) ?_
                      refine WL.va rfl rfl rfl (X.pickF rfl h106 rfl) ?_
                      refine WL.va rfl rfl rfl (X.moveB rfl) ?_
                      refine WL.vg rfl rfl rfl rfl (X.loadOA hO13 hx109 rfl rfl Try.isAgg26 Try.sizeOf26) ?_
                      refine WL.vg rfl rfl rfl rfl (X.loadOA hO15 hx109 rfl rfl Try.isAgg26 Try.sizeOf26) ?_
                      refine WL.cg rfl rfl rfl rfl (X.call Try.call19 (evl_cons rfl (evl_cons rfl evl_nil))) (sameMap_self (ouT.ext hx109).rd (ovT.ext hx109).rd rfl) ?_
                      rintro v113 w112 ⟨rfl, hx114⟩
                      have := World.grownBy.size hx114
                      refine WL.vg rfl rfl rfl rfl (X.not rfl) ?_
                      refine WL.va rfl rfl rfl (X.pickF rfl rfl rfl) ?_
                      refine WL.va rfl rfl rfl (X.moveB rfl) ?_
                      refine WL.vg rfl rfl rfl rfl (X.loadOA hO7 (Ext.trans hx109 hx114) ((hACs13.eq 7).trans (congrFun hF78 7)) rfl Try.isAgg26 Try.sizeOf26) ?_
                      refine WL.vg rfl rfl rfl rfl (X.loadOA hO5 (Ext.trans hx109 hx114) ((hACs13.eq 5).trans ((congrFun hF78 5).trans ((hAL0.eq 5).trans (congrFun hF36 5)))) rfl Try.isAgg26 Try.sizeOf26) ?_
                      refine WL.cg rfl rfl rfl rfl (X.call Try.call19 (evl_cons rfl (evl_cons rfl evl_nil))) (sameMap_self (oiT.ext (Ext.trans hx109 hx114)).rd (onT.ext (Ext.trans hx109 hx114)).rd rfl) ?_
                      rintro v118 w117 ⟨rfl, hx119⟩
                      have := World.grownBy.size hx119
                      refine WL.vg rfl rfl rfl rfl (X.not rfl) ?_
                      refine WL.va rfl rfl rfl (X.pickF rfl rfl rfl) ?_
                      refine WL.nil ?_
                      refine thn_n ?_
                      refine WF.cond_f rfl ?_
                      refine WF.skip ?_
                      refine thn_n ?_
                      refine WF.seq ?_
                      refine WF.region ?_
                      refine WL.va rfl rfl rfl (X.fieldAddrO (off := 0) ((hACs13.eq 8).trans (congrFun hF78 8)) Try.underlying26 rfl rfl Try.sizeOf22) ?_
                      refine WL.va rfl rfl rfl (X.loadO hO8 (Ext.trans (Ext.trans hx109 hx114) hx119) rfl rfl Try.isAgg22) ?_
                      refine WL.c rfl rfl rfl (X.call Try.call20 (evl_cons rfl evl_nil)) (spoilRanges_ok vx _ _ _ (oxT.ext (Ext.trans (Ext.trans hx109 hx114) hx119)).own) ?_
                      rintro v123 w122 ⟨_, hx124⟩
                      have := World.grownBy.size hx124
                      replace onT := (onT.ext (Ext.trans (Ext.trans hx109 hx114) hx119)).kept hx124 (fun b hb => by have h1 := (oxT.own.lt b hb).1; have h2 := oxT.top b hb; omega)
                      replace hO5 := (hO5.ext (Ext.trans (Ext.trans hx109 hx114) hx119)).keptR hx124 (fun b hb => by have h1 := (oxT.own.lt b hb).1; have h2 := oxT.top b hb; omega)
                      replace oiT := (oiT.ext (Ext.trans (Ext.trans hx109 hx114) hx119)).kept hx124 (fun b hb => by have h1 := (oxT.own.lt b hb).1; have h2 := oxT.top b hb; omega)
                      replace hO7 := (hO7.ext (Ext.trans (Ext.trans hx109 hx114) hx119)).keptR hx124 (fun b hb => by have h1 := (oxT.own.lt b hb).1; have h2 := oxT.top b hb; omega)
                      replace hO8 := (hO8.ext (Ext.trans (Ext.trans hx109 hx114) hx119)).keptR hx124 (fun b hb => by have h1 := (oxT.own.lt b hb).1; have h2 := oxT.top b hb; omega)
                      replace oyT := (oyT.ext (Ext.trans (Ext.trans hx109 hx114) hx119)).kept hx124 (fun b hb => by have h1 := (oxT.own.lt b hb).1; have h2 := oxT.top b hb; omega)
                      replace hO10 := (hO10.ext (Ext.trans (Ext.trans hx109 hx114) hx119)).keptR hx124 (fun b hb => by have h1 := (oxT.own.lt b hb).1; have h2 := oxT.top b hb; omega)
                      replace ouT := (ouT.ext (Ext.trans (Ext.trans hx109 hx114) hx119)).kept hx124 (fun b hb => by have h1 := (oxT.own.lt b hb).1; have h2 := oxT.top b hb; omega)
                      replace hO13 := (hO13.ext (Ext.trans (Ext.trans hx109 hx114) hx119)).keptR hx124 (fun b hb => by have h1 := (oxT.own.lt b hb).1; have h2 := oxT.top b hb; omega)
                      replace ovT := (ovT.ext (Ext.trans (Ext.trans hx109 hx114) hx119)).kept hx124 (fun b hb => by have h1 := (oxT.own.lt b hb).1; have h2 := oxT.top b hb; omega)
                      replace hO15 := (hO15.ext (Ext.trans (Ext.trans hx109 hx114) hx119)).keptR hx124 (fun b hb => by have h1 := (oxT.own.lt b hb).1; have h2 := oxT.top b hb; omega)
                      refine WL.nil ?_
                      refine thn_n ?_
                      refine WF.seq ?_
                      refine WF.region ?_
                      refine WL.va rfl rfl rfl (X.fieldAddrO (off := 0) rfl Try.underlying26 rfl rfl Try.sizeOf22) ?_
                      refine WL.va rfl rfl rfl (X.loadO hO13 (Ext.refl _) rfl rfl Try.isAgg22) ?_
                      refine WL.c rfl rfl rfl (X.call Try.call20 (evl_cons rfl evl_nil)) (spoilRanges_ok vu _ _ _ ouT.own) ?_
                      rintro v126 w125 ⟨_, hx127⟩
                      have := World.grownBy.size hx127
                      replace onT := onT.kept hx127 (fun b hb => by have h1 := (ouT.own.lt b hb).1; have h2 := ouT.top b hb; omega)
                      replace hO5 := hO5.keptR hx127 (fun b hb => by have h1 := (ouT.own.lt b hb).1; have h2 := ouT.top b hb; omega)
                      replace oiT := oiT.kept hx127 (fun b hb => by have h1 := (ouT.own.lt b hb).1; have h2 := ouT.top b hb; omega)
                      replace hO7 := hO7.keptR hx127 (fun b hb => by have h1 := (ouT.own.lt b hb).1; have h2 := ouT.top b hb; omega)
                      replace hO8 := hO8.keptR hx127 (fun b hb => by have h1 := (ouT.own.lt b hb).1; have h2 := ouT.top b hb; omega)
                      replace oyT := oyT.kept hx127 (fun b hb => by have h1 := (ouT.own.lt b hb).1; have h2 := ouT.top b hb; omega)
                      replace hO10 := hO10.keptR hx127 (fun b hb => by have h1 := (ouT.own.lt b hb).1; have h2 := ouT.top b hb; omega)
                      replace hO13 := hO13.keptR hx127 (fun b hb => by have h1 := (ouT.own.lt b hb).1; have h2 := ouT.top b hb; omega)
                      replace ovT := ovT.kept hx127 (fun b hb => by have h1 := (ouT.own.lt b hb).1; have h2 := ouT.top b hb; omega)
                      replace hO15 := hO15.keptR hx127 (fun b hb => by have h1 := (ouT.own.lt b hb).1; have h2 := ouT.top b hb; omega)
                      refine WL.nil ?_
                      refine thn_n ?_
                      refine WF.seq ?_
                      refine WF.seq ?_
                      refine WF.region ?_
                      refine WL.va rfl rfl rfl (X.loadOA hO7 (Ext.refl _) ((hACs13.eq 7).trans (congrFun hF78 7)) rfl Try.isAgg26 Try.sizeOf26) ?_
                      refine WL.va rfl rfl rfl (X.loadOA hO5 (Ext.refl _) ((hACs13.eq 5).trans ((congrFun hF78 5).trans ((hAL0.eq 5).trans (congrFun hF36 5)))) rfl Try.isAgg26 Try.sizeOf26) ?_
                      refine WL.c rfl rfl rfl (X.call Try.call19 (evl_cons rfl (evl_cons rfl evl_nil))) (sameMap_self oiT.rd onT.rd rfl) ?_
                      rintro v129 w128 ⟨rfl, hx130⟩
                      have := World.grownBy.size hx130
                      refine WL.va rfl rfl rfl (X.not rfl) ?_
                      refine WL.nil ?_
                      refine thn_n ?_
                      refine WF.cond_f rfl ?_
                      refine WF.skip ?_
                      refine thn_n ?_
                      refine WF.seq ?_
                      refine WF.seq ?_
                      refine WF.region ?_
                      refine WL.va rfl rfl rfl (X.moveI ((hACs13.eq 11).trans (congrFun hF78 11))) ?_
                      refine WL.va rfl rfl rfl (X.eql rfl rfl) ?_
                      refine WL.nil ?_
                      refine thn_n ?_
                      refine WF.cond rfl (fun h6_133 => ?_) (fun h6_133 => ?_)
                      · have gh6_133 := (of_decide_eq_true h6_133)
                        have hA := plan_next hnE hnc gh6_133
                        refine WF.region ?_
                        refine WL.va rfl rfl rfl (X.loadOA hO10 hx130 ((hACs13.eq 10).trans (congrFun hF78 10)) rfl Try.isAgg26 Try.sizeOf26) ?_
                        refine WL.op rfl (OW.storeOA (hO5.ext hx130) ((hACs13.eq 5).trans ((congrFun hF78 5).trans ((hAL0.eq 5).trans (congrFun hF36 5)))) rfl rfl (Mp.c_one (Row.of_own oy) _) Try.sizeOf26 ?_)
                        intro w135 hO5 hx137
                        have := World.grownBy.size hx137
                        replace oiT := (oiT.ext hx130).keptO hx137 (by omega)
                        replace hO7 := (hO7.ext hx130).keptO hx137 (by omega)
                        replace hO8 := (hO8.ext hx130).keptO hx137 (by omega)
                        replace oyT := (oyT.ext hx130).keptO hx137 (by omega)
                        replace hO10 := (hO10.ext hx130).keptO hx137 (by omega)
                        replace hO13 := (hO13.ext hx130).keptO hx137 (by omega)
                        replace ovT := (ovT.ext hx130).keptO hx137 (by omega)
                        replace hO15 := (hO15.ext hx130).keptO hx137 (by omega)
                        replace hO5 : Blk _ _ _ ((planM now (l[k]'hk)).1.c vy) := hO5
                        refine WL.nil ?_
                        refine thn_n ?_
                        refine WF.seq ?_
                        refine WF.region ?_
                        refine WL.va rfl rfl rfl (X.moveI rfl) ?_
                        refine WL.va rfl rfl rfl (X.eql rfl rfl) ?_
                        refine WL.nil ?_
                        refine thn_n ?_
                        refine WF.cond rfl (fun h7_139 => ?_) (fun h7_139 => ?_)
                        · have gh7_139 := (of_decide_eq_true h7_139)
                          have hcd : cd = 0 := gh7_139
                          subst hcd
                          have hB := done_next hnE hnc hdp
                          refine WF.region ?_
                          refine WL.va rfl rfl rfl (X.loadOA hO15 (Ext.refl _) rfl rfl Try.isAgg26 Try.sizeOf26) ?_
                          refine WL.op rfl (OW.storeOA hO5 ((hACs13.eq 5).trans ((congrFun hF78 5).trans ((hAL0.eq 5).trans (congrFun hF36 5)))) rfl rfl (Mp.c_one (Row.of_own ov) _) Try.sizeOf26 ?_)
                          intro w141 hO5 hx143
                          have := World.grownBy.size hx143
                          replace oiT := oiT.keptO hx143 (by omega)
                          replace hO7 := hO7.keptO hx143 (by omega)
                          replace hO8 := hO8.keptO hx143 (by omega)
                          replace oyT := oyT.keptO hx143 (by omega)
                          replace hO10 := hO10.keptO hx143 (by omega)
                          replace hO13 := hO13.keptO hx143 (by omega)
                          replace ovT := ovT.keptO hx143 (by omega)
                          replace hO15 := hO15.keptO hx143 (by omega)
                          replace hO5 : Blk _ _ _ (md.c vv) := hO5
                          refine WL.nil ?_
                          refine blk_n ?_
                          refine thn_n ?_
                          refine WF.region ?_
                          refine WL.va rfl rfl rfl (X.moveI ((hACs13.eq 6).trans ((congrFun hF78 6).trans e6_L0))) ?_
                          refine WL.va rfl rfl rfl (X.add rfl rfl (w64 (by omega))) ?_
                          refine WL.va rfl rfl rfl (X.assignI rfl) ?_
                          refine WL.nil ?_
                          first | exact thn_n ⟨_, (by omega), k + 1, md, vv, rfl, rfl, (by repeat (first | exact hAL0 | refine Agree.put ?_ rfl | refine Agree.sub hACs13 rfl ?_ | refine Agree.named hF78 ?_ | refine Agree.named hF36 ?_)), (Ext.store (Ext.store (Ext.trans (grown_trans (grown_trans (Ext.trans (Ext.trans (Ext.trans (Ext.trans (Ext.trans (Ext.trans (Ext.trans (Ext.trans (Ext.trans (Ext.trans (Ext.trans (Ext.trans (Ext.trans (Ext.trans (Ext.trans hwL0 hx43) (Ext.store hx46 hx50 (by omega))) (Ext.drew _)) hx55) (Ext.store hx58 hx62 (by omega))) (Ext.drew _)) hx68) (Ext.store hx71 hx75 (by omega))) hx83) (Ext.store hx86 hx90 (by omega))) hx94) (Ext.store hx97 hx101 (by omega))) hx109) hx114) hx119) hx124 (fun i hi => by have := (oxT.own.lt i hi).1; omega)) hx127 (fun i hi => by have := (ouT.own.lt i hi).1; omega)) hx130) hx137 (by omega)) hx143 (by omega)), ⟨by omega, hB.1, hB.2.1 ▸ hnE, hO5, own_mono ovT.own (by omega)⟩⟩ | exact thn_n ⟨_, (by omega), k + 1, (planM now (l[k]'hk)).1, vy, rfl, rfl, (by repeat (first | exact hAL0 | refine Agree.put ?_ rfl | refine Agree.sub hACs13 rfl ?_ | refine Agree.named hF78 ?_ | refine Agree.named hF36 ?_)), (Ext.store (Ext.store (Ext.trans (grown_trans (grown_trans (Ext.trans (Ext.trans (Ext.trans (Ext.trans (Ext.trans (Ext.trans (Ext.trans (Ext.trans (Ext.trans (Ext.trans (Ext.trans (Ext.trans (Ext.trans (Ext.trans (Ext.trans hwL0 hx43) (Ext.store hx46 hx50 (by omega))) (Ext.drew _)) hx55) (Ext.store hx58 hx62 (by omega))) (Ext.drew _)) hx68) (Ext.store hx71 hx75 (by omega))) hx83) (Ext.store hx86 hx90 (by omega))) hx94) (Ext.store hx97 hx101 (by omega))) hx109) hx114) hx119) hx124 (fun i hi => by have := (oxT.own.lt i hi).1; omega)) hx127 (fun i hi => by have := (ouT.own.lt i hi).1; omega)) hx130) hx137 (by omega)) hx143 (by omega)), ⟨by omega, hA.1, ⟨hA.2.1, hA.2.2.1⟩, hO5, own_mono oyT.own (by omega)⟩⟩
                        · have gh7_139 := (of_decide_eq_false h7_139)
                          refine WF.skip ?_
                          refine blk_n ?_
                          refine thn_n ?_
                          refine WF.region ?_
                          refine WL.va rfl rfl rfl (X.moveI ((hACs13.eq 6).trans ((congrFun hF78 6).trans e6_L0))) ?_
                          refine WL.va rfl rfl rfl (X.add rfl rfl (w64 (by omega))) ?_
                          refine WL.va rfl rfl rfl (X.assignI rfl) ?_
                          refine WL.nil ?_
                          first | exact thn_n ⟨_, (by omega), k + 1, md, vv, rfl, rfl, (by repeat (first | exact hAL0 | refine Agree.put ?_ rfl | refine Agree.sub hACs13 rfl ?_ | refine Agree.named hF78 ?_ | refine Agree.named hF36 ?_)), (Ext.store (Ext.trans (grown_trans (grown_trans (Ext.trans (Ext.trans (Ext.trans (Ext.trans (Ext.trans (Ext.trans (Ext.trans (Ext.trans (Ext.trans (Ext.trans (Ext.trans (Ext.trans (Ext.trans (Ext.trans (Ext.trans hwL0 hx43) (Ext.store hx46 hx50 (by omega))) (Ext.drew _)) hx55) (Ext.store hx58 hx62 (by omega))) (Ext.drew _)) hx68) (Ext.store hx71 hx75 (by omega))) hx83) (Ext.store hx86 hx90 (by omega))) hx94) (Ext.store hx97 hx101 (by omega))) hx109) hx114) hx119) hx124 (fun i hi => by have := (oxT.own.lt i hi).1; omega)) hx127 (fun i hi => by have := (ouT.own.lt i hi).1; omega)) hx130) hx137 (by omega)), ⟨by omega, hB.1, hB.2.1 ▸ hnE, hO5, own_mono ovT.own (by omega)⟩⟩ | exact thn_n ⟨_, (by omega), k + 1, (planM now (l[k]'hk)).1, vy, rfl, rfl, (by repeat (first | exact hAL0 | refine Agree.put ?_ rfl | refine Agree.sub hACs13 rfl ?_ | refine Agree.named hF78 ?_ | refine Agree.named hF36 ?_)), (Ext.store (Ext.trans (grown_trans (grown_trans (Ext.trans (Ext.trans (Ext.trans (Ext.trans (Ext.trans (Ext.trans (Ext.trans (Ext.trans (Ext.trans (Ext.trans (Ext.trans (Ext.trans (Ext.trans (Ext.trans (Ext.trans hwL0 hx43) (Ext.store hx46 hx50 (by omega))) (Ext.drew _)) hx55) (Ext.store hx58 hx62 (by omega))) (Ext.drew _)) hx68) (Ext.store hx71 hx75 (by omega))) hx83) (Ext.store hx86 hx90 (by omega))) hx94) (Ext.store hx97 hx101 (by omega))) hx109) hx114) hx119) hx124 (fun i hi => by have := (oxT.own.lt i hi).1; omega)) hx127 (fun i hi => by have := (ouT.own.lt i hi).1; omega)) hx130) hx137 (by omega)), ⟨by omega, hA.1, ⟨hA.2.1, hA.2.2.1⟩, hO5, own_mono oyT.own (by omega)⟩⟩
                      · have gh6_133 := (of_decide_eq_false h6_133)
                        refine WF.skip ?_
                        refine thn_n ?_
                        refine WF.seq ?_
                        refine WF.region ?_
                        refine WL.va rfl rfl rfl (X.moveI rfl) ?_
                        refine WL.va rfl rfl rfl (X.eql rfl rfl) ?_
                        refine WL.nil ?_
                        refine thn_n ?_
                        refine WF.cond rfl (fun h7_145 => ?_) (fun h7_145 => ?_)
                        · have gh7_145 := (of_decide_eq_true h7_145)
                          have hcd : cd = 0 := gh7_145
                          subst hcd
                          have hB := done_next hnE hnc hdp
                          refine WF.region ?_
                          refine WL.va rfl rfl rfl (X.loadOA hO15 hx130 rfl rfl Try.isAgg26 Try.sizeOf26) ?_
                          refine WL.op rfl (OW.storeOA (hO5.ext hx130) ((hACs13.eq 5).trans ((congrFun hF78 5).trans ((hAL0.eq 5).trans (congrFun hF36 5)))) rfl rfl (Mp.c_one (Row.of_own ov) _) Try.sizeOf26 ?_)
                          intro w147 hO5 hx149
                          have := World.grownBy.size hx149
                          replace oiT := (oiT.ext hx130).keptO hx149 (by omega)
                          replace hO7 := (hO7.ext hx130).keptO hx149 (by omega)
                          replace hO8 := (hO8.ext hx130).keptO hx149 (by omega)
                          replace oyT := (oyT.ext hx130).keptO hx149 (by omega)
                          replace hO10 := (hO10.ext hx130).keptO hx149 (by omega)
                          replace hO13 := (hO13.ext hx130).keptO hx149 (by omega)
                          replace ovT := (ovT.ext hx130).keptO hx149 (by omega)
                          replace hO15 := (hO15.ext hx130).keptO hx149 (by omega)
                          replace hO5 : Blk _ _ _ (md.c vv) := hO5
                          refine WL.nil ?_
                          refine blk_n ?_
                          refine thn_n ?_
                          refine WF.region ?_
                          refine WL.va rfl rfl rfl (X.moveI ((hACs13.eq 6).trans ((congrFun hF78 6).trans e6_L0))) ?_
                          refine WL.va rfl rfl rfl (X.add rfl rfl (w64 (by omega))) ?_
                          refine WL.va rfl rfl rfl (X.assignI rfl) ?_
                          refine WL.nil ?_
                          first | exact thn_n ⟨_, (by omega), k + 1, md, vv, rfl, rfl, (by repeat (first | exact hAL0 | refine Agree.put ?_ rfl | refine Agree.sub hACs13 rfl ?_ | refine Agree.named hF78 ?_ | refine Agree.named hF36 ?_)), (Ext.store (Ext.trans (grown_trans (grown_trans (Ext.trans (Ext.trans (Ext.trans (Ext.trans (Ext.trans (Ext.trans (Ext.trans (Ext.trans (Ext.trans (Ext.trans (Ext.trans (Ext.trans (Ext.trans (Ext.trans (Ext.trans hwL0 hx43) (Ext.store hx46 hx50 (by omega))) (Ext.drew _)) hx55) (Ext.store hx58 hx62 (by omega))) (Ext.drew _)) hx68) (Ext.store hx71 hx75 (by omega))) hx83) (Ext.store hx86 hx90 (by omega))) hx94) (Ext.store hx97 hx101 (by omega))) hx109) hx114) hx119) hx124 (fun i hi => by have := (oxT.own.lt i hi).1; omega)) hx127 (fun i hi => by have := (ouT.own.lt i hi).1; omega)) hx130) hx149 (by omega)), ⟨by omega, hB.1, hB.2.1 ▸ hnE, hO5, own_mono ovT.own (by omega)⟩⟩ | exact thn_n ⟨_, (by omega), k + 1, (planM now (l[k]'hk)).1, vy, rfl, rfl, (by repeat (first | exact hAL0 | refine Agree.put ?_ rfl | refine Agree.sub hACs13 rfl ?_ | refine Agree.named hF78 ?_ | refine Agree.named hF36 ?_)), (Ext.store (Ext.trans (grown_trans (grown_trans (Ext.trans (Ext.trans (Ext.trans (Ext.trans (Ext.trans (Ext.trans (Ext.trans (Ext.trans (Ext.trans (Ext.trans (Ext.trans (Ext.trans (Ext.trans (Ext.trans (Ext.trans hwL0 hx43) (Ext.store hx46 hx50 (by omega))) (Ext.drew _)) hx55) (Ext.store hx58 hx62 (by omega))) (Ext.drew _)) hx68) (Ext.store hx71 hx75 (by omega))) hx83) (Ext.store hx86 hx90 (by omega))) hx94) (Ext.store hx97 hx101 (by omega))) hx109) hx114) hx119) hx124 (fun i hi => by have := (oxT.own.lt i hi).1; omega)) hx127 (fun i hi => by have := (ouT.own.lt i hi).1; omega)) hx130) hx149 (by omega)), ⟨by omega, hA.1, ⟨hA.2.1, hA.2.2.1⟩, hO5, own_mono oyT.own (by omega)⟩⟩
                        · have gh7_145 := (of_decide_eq_false h7_145)
                          refine WF.skip ?_
                          refine blk_n ?_
                          refine thn_n ?_
                          refine WF.region ?_
                          refine WL.va rfl rfl rfl (X.moveI ((hACs13.eq 6).trans ((congrFun hF78 6).trans e6_L0))) ?_
                          refine WL.va rfl rfl rfl (X.add rfl rfl (w64 (by omega))) ?_
                          refine WL.va rfl rfl rfl (X.assignI rfl) ?_
                          refine WL.nil ?_
                          first | exact thn_n ⟨_, (by omega), k + 1, md, vv, rfl, rfl, (by repeat (first | exact hAL0 | refine Agree.put ?_ rfl | refine Agree.sub hACs13 rfl ?_ | refine Agree.named hF78 ?_ | refine Agree.named hF36 ?_)), (Ext.trans (grown_trans (grown_trans (Ext.trans (Ext.trans (Ext.trans (Ext.trans (Ext.trans (Ext.trans (Ext.trans (Ext.trans (Ext.trans (Ext.trans (Ext.trans (Ext.trans (Ext.trans (Ext.trans (Ext.trans hwL0 hx43) (Ext.store hx46 hx50 (by omega))) (Ext.drew _)) hx55) (Ext.store hx58 hx62 (by omega))) (Ext.drew _)) hx68) (Ext.store hx71 hx75 (by omega))) hx83) (Ext.store hx86 hx90 (by omega))) hx94) (Ext.store hx97 hx101 (by omega))) hx109) hx114) hx119) hx124 (fun i hi => by have := (oxT.own.lt i hi).1; omega)) hx127 (fun i hi => by have := (ouT.own.lt i hi).1; omega)) hx130), ⟨by omega, hB.1, hB.2.1 ▸ hnE, (hO5.ext hx130), own_mono (ovT.ext hx130).own (by omega)⟩⟩ | exact thn_n ⟨_, (by omega), k + 1, (planM now (l[k]'hk)).1, vy, rfl, rfl, (by repeat (first | exact hAL0 | refine Agree.put ?_ rfl | refine Agree.sub hACs13 rfl ?_ | refine Agree.named hF78 ?_ | refine Agree.named hF36 ?_)), (Ext.trans (grown_trans (grown_trans (Ext.trans (Ext.trans (Ext.trans (Ext.trans (Ext.trans (Ext.trans (Ext.trans (Ext.trans (Ext.trans (Ext.trans (Ext.trans (Ext.trans (Ext.trans (Ext.trans (Ext.trans hwL0 hx43) (Ext.store hx46 hx50 (by omega))) (Ext.drew _)) hx55) (Ext.store hx58 hx62 (by omega))) (Ext.drew _)) hx68) (Ext.store hx71 hx75 (by omega))) hx83) (Ext.store hx86 hx90 (by omega))) hx94) (Ext.store hx97 hx101 (by omega))) hx109) hx114) hx119) hx124 (fun i hi => by have := (oxT.own.lt i hi).1; omega)) hx127 (fun i hi => by have := (ouT.own.lt i hi).1; omega)) hx130), ⟨by omega, hA.1, ⟨hA.2.1, hA.2.2.1⟩, (hO5.ext hx130), own_mono (oyT.ext hx130).own (by omega)⟩⟩ | exact thn_n ⟨_, (by omega), k + 1, now, vn, rfl, rfl, (by repeat (first | exact hAL0 | refine Agree.put ?_ rfl | refine Agree.sub hACs13 rfl ?_ | refine Agree.named hF78 ?_ | refine Agree.named hF36 ?_)), (Ext.trans (grown_trans (grown_trans (Ext.trans (Ext.trans (Ext.trans (Ext.trans (Ext.trans (Ext.trans (Ext.trans (Ext.trans (Ext.trans (Ext.trans (Ext.trans (Ext.trans (Ext.trans (Ext.trans (Ext.trans hwL0 hx43) (Ext.store hx46 hx50 (by omega))) (Ext.drew _)) hx55) (Ext.store hx58 hx62 (by omega))) (Ext.drew _)) hx68) (Ext.store hx71 hx75 (by omega))) hx83) (Ext.store hx86 hx90 (by omega))) hx94) (Ext.store hx97 hx101 (by omega))) hx109) hx114) hx119) hx124 (fun i hi => by have := (oxT.own.lt i hi).1; omega)) hx127 (fun i hi => by have := (ouT.own.lt i hi).1; omega)) hx130), ⟨by omega, hnc, hnE, (hO5.ext hx130), (onT.ext hx130).own⟩⟩
              · refine LO.go rfl rfl (OW.allocO (cs := [.slice none 0 0, i64 0, i64 0, i64 0, i64 0, i64 0, i64 0]) Try.zeroValue26 rfl ?_ (by decide))
                intro g10 w151 heg10 hlg10 hO10 hx153
                have := World.grownBy.size hx153
                refine ⟨(Ext.trans (Ext.drew _) hx153), ?_⟩
                refine WO.l ?_
                refine LO.go rfl rfl (OW.enter rfl (by decide) (X.call Try.call16 (evl_cons rfl (evl_cons rfl evl_nil))) (planR_ok now vn (l[k]'hk) _ (onT.ext (Ext.trans (Ext.drew _) hx153)).rd (Nat.le_trans (val_len hnc) (by decide)) hnE.1) ?_)
                rintro v156 w155 ⟨⟨vy, rfl, oy⟩, hx157⟩
                have := World.grownBy.size hx157
                refine ⟨(Ext.trans (Ext.trans (Ext.drew _) hx153) hx157), ?_⟩
                have oyT := OwnT.of oy
                refine WO.q rfl rfl rfl rfl (fun w' hE65 => (X.move rfl)) ?_
                refine WO.q rfl rfl rfl rfl (fun w' hE65 => (X.extract rfl rfl)) ?_
                refine WO.q rfl rfl rfl rfl (fun w' hE65 => (X.extract rfl rfl)) ?_
                refine WO.l ?_
                refine LO.go rfl rfl (OW.storeOA (hO10.ext hx157) rfl rfl rfl (Mp.c_one (Row.of_own oy) _) Try.sizeOf26 ?_)
                intro w158 hO10 hx160
                have := World.grownBy.size hx160
                replace onT := (onT.ext (Ext.trans (Ext.trans (Ext.drew _) hx153) hx157)).keptO hx160 (by omega)
                replace hO5 := (hO5.ext (Ext.trans (Ext.trans (Ext.drew _) hx153) hx157)).keptO hx160 (by omega)
                replace oiT := (oiT.ext (Ext.trans (Ext.trans (Ext.drew _) hx153) hx157)).keptO hx160 (by omega)
                replace hO7 := (hO7.ext (Ext.trans (Ext.trans (Ext.drew _) hx153) hx157)).keptO hx160 (by omega)
                replace oxT := (oxT.ext (Ext.trans (Ext.trans (Ext.drew _) hx153) hx157)).keptO hx160 (by omega)
                replace hO8 := (hO8.ext (Ext.trans (Ext.trans (Ext.drew _) hx153) hx157)).keptO hx160 (by omega)
                replace oyT := oyT.keptO hx160 (by omega)
                replace hO10 : Blk _ _ _ ((planM now (l[k]'hk)).1.c vy) := hO10
                refine ⟨(Ext.trans (Ext.drew _) (Ext.store (Ext.trans hx153 hx157) hx160 (by omega))), ?_⟩
                refine WO.q rfl rfl rfl rfl (fun w' hE65 => (X.assignI rfl)) ?_
                refine WO.nil ?_
                refine WL.nil ?_
                refine thn_n ?_
                refine WF.seq ?_
                refine WF.region ?_
                refine WL.va rfl rfl rfl (X.move ((hAL0.eq 1).trans (congrFun hF36 1))) ?_
                refine WL.va rfl rfl rfl (X.moveI e6_L0) ?_
                refine WL.va rfl rfl rfl (X.idx hl rfl rfl (by omega) Try.underlying27 Try.sizeOf24) ?_
                refine WL.va rfl rfl rfl (X.fieldAddrA rfl Try.underlying24 rfl rfl Try.sizeOf3) ?_
                refine WL.va rfl rfl rfl (X.loadE hl (Ext.trans (Ext.trans (Ext.trans (Ext.trans (Ext.trans (Ext.trans (Ext.trans hwL0 hx43) (Ext.store hx46 hx50 (by omega))) (Ext.drew _)) hx55) (Ext.store hx58 hx62 (by omega))) (Ext.drew _)) (Ext.store (Ext.trans hx153 hx157) hx160 (by omega))) rfl (by omega) ((Mvs.get hk (by decide)).trans rfl) Try.isAgg3) ?_
                refine WL.va rfl rfl rfl (X.assignI rfl) ?_
                refine WL.nil ?_
                refine thn_n ?_
                refine WF.named (fun F162 hF163 => ?_)
                refine WF.cut (fun f' w' => f' 12 = i64 (if (l[k]'hk).Epoch < 0 then now.M.Epoch else (l[k]'hk).Epoch) ∧ Agree [0, 1, 2, 5, 6, 7, 8, 9, 10, 11, 17, 18, 19, 20, 21, 22, 23, 24, 26, 27, 28, 29, 30, 31, 32, 33, 34, 35, 38, 39, 40, 41, 42, 43, 44, 45, 46, 47, 48, 49, 50, 51, 52, 53, 54, 55, 56, 57, 58, 59, 60, 61, 62] f' F162 ∧ w158 = w') ?_ ?_
                · refine WF.seq ?_
                  refine WF.region ?_
                  refine WL.va rfl rfl rfl (X.moveI (congrFun hF163 12)) ?_
                  refine WL.va rfl rfl rfl (X.lss rfl rfl) ?_
                  refine WL.nil ?_
                  refine thn_n ?_
                  refine WF.cond rfl (fun h3_164 => ?_) (fun h3_164 => ?_)
                  · have gh3_164 := (of_decide_eq_true h3_164)
                    have hep : now.M.Epoch = (if (l[k]'hk).Epoch < 0 then now.M.Epoch else (l[k]'hk).Epoch) := (if_pos gh3_164).symm
                    refine WF.region ?_
                    refine WL.va rfl rfl rfl (X.fieldAddrO (off := 2) ((congrFun hF163 5).trans ((hAL0.eq 5).trans (congrFun hF36 5))) Try.underlying26 rfl rfl Try.sizeOf24) ?_
                    refine WL.va rfl rfl rfl (X.fieldAddrP (off := 0) rfl Try.underlying24 rfl rfl Try.sizeOf3) ?_
                    refine WL.va rfl rfl rfl (X.loadO hO5 (Ext.refl _) rfl rfl Try.isAgg3) ?_
                    refine WL.va rfl rfl rfl (X.assignI rfl) ?_
                    refine WL.nil ?_
                    refine thn_n ?_
                    exact ⟨(Eq.trans rfl (congrArg i64 hep)), (by repeat (first | exact (Agree.refl _ F162) | refine Agree.put ?_ rfl | refine Agree.sub hAL0 rfl ?_ | refine Agree.named hF163 ?_ | refine Agree.named hF36 ?_)), rfl⟩
                  · have gh3_164 := (of_decide_eq_false h3_164)
                    have hep : (l[k]'hk).Epoch = (if (l[k]'hk).Epoch < 0 then now.M.Epoch else (l[k]'hk).Epoch) := (if_neg gh3_164).symm
                    refine WF.skip ?_
                    refine thn_n ?_
                    exact ⟨(Eq.trans (congrFun hF163 12) (congrArg i64 hep)), (by repeat (first | exact (Agree.refl _ F162) | refine Agree.put ?_ rfl | refine Agree.sub hAL0 rfl ?_ | refine Agree.named hF163 ?_ | refine Agree.named hF36 ?_)), rfl⟩
                · rintro fCs13 wCs13 ⟨e12_Cs13, hACs13, rfl⟩
                  refine WF.seq ?_
                  refine WF.region ?_
                  refine WL.va rfl rfl rfl (X.loadOA hO7 (Ext.refl _) ((hACs13.eq 7).trans (congrFun hF163 7)) rfl Try.isAgg26 Try.sizeOf26) ?_
                  refine WL.va rfl rfl rfl (X.moveI e12_Cs13) ?_
                  refine WL.c rfl rfl rfl (X.call Try.call17 (evl_cons rfl (evl_cons rfl evl_nil))) (doneC_ok now vi (if (l[k]'hk).Epoch < 0 then now.M.Epoch else (l[k]'hk).Epoch) _ oiT.rd (Nat.le_trans (val_len hnc) (by decide))) ?_
                  rintro v167 w166 ⟨⟨vu, md, cd, rfl, ou, hdp⟩, hx168⟩
                  have := World.grownBy.size hx168
                  have ouT := OwnT.of ou
                  refine WL.va rfl rfl rfl (X.move rfl) ?_
                  refine WL.va rfl rfl rfl (X.extract rfl rfl) ?_
                  refine WL.va rfl rfl rfl (X.extract rfl rfl) ?_
                  refine WL.op rfl (OW.allocO (cs := [.slice none 0 0, i64 0, i64 0, i64 0, i64 0, i64 0, i64 0]) Try.zeroValue26 rfl ?_ (by decide))
                  intro g13 w169 heg13 hlg13 hO13 hx171
                  have := World.grownBy.size hx171
                  refine WL.op rfl (OW.storeOA hO13 rfl rfl rfl (Mp.c_one (Row.of_own ou) _) Try.sizeOf26 ?_)
                  intro w173 hO13 hx175
                  have := World.grownBy.size hx175
                  replace onT := (onT.ext (Ext.trans hx168 hx171)).keptO hx175 (by omega)
                  replace hO5 := (hO5.ext (Ext.trans hx168 hx171)).keptO hx175 (by omega)
                  replace oiT := (oiT.ext (Ext.trans hx168 hx171)).keptO hx175 (by omega)
                  replace hO7 := (hO7.ext (Ext.trans hx168 hx171)).keptO hx175 (by omega)
                  replace oxT := (oxT.ext (Ext.trans hx168 hx171)).keptO hx175 (by omega)
                  replace hO8 := (hO8.ext (Ext.trans hx168 hx171)).keptO hx175 (by omega)
                  replace hO10 := (hO10.ext (Ext.trans hx168 hx171)).keptO hx175 (by omega)
                  replace oyT := (oyT.ext (Ext.trans hx168 hx171)).keptO hx175 (by omega)
                  replace ouT := (ouT.ext hx171).keptO hx175 (by omega)
                  replace hO13 : Blk _ _ _ (md.c vu) := hO13
                  refine WL.va rfl rfl rfl (X.assignI rfl) ?_
                  refine WL.nil ?_
                  refine thn_n ?_
                  refine WF.seq ?_
                  refine WF.region ?_
                  refine WL.va rfl rfl rfl (X.loadOA hO5 (Ext.refl _) ((hACs13.eq 5).trans ((congrFun hF163 5).trans ((hAL0.eq 5).trans (congrFun hF36 5)))) rfl Try.isAgg26 Try.sizeOf26) ?_
                  refine WL.va rfl rfl rfl (X.moveI e12_Cs13) ?_
                  refine WL.c rfl rfl rfl (X.call Try.call18 (evl_cons rfl (evl_cons rfl evl_nil))) (doneR_ok now vn (if (l[k]'hk).Epoch < 0 then now.M.Epoch else (l[k]'hk).Epoch) _ onT.rd) ?_
                  rintro v178 w177 ⟨⟨vv, md2, cd2, rfl, ov, hdr⟩, hx179⟩
                  have := World.grownBy.size hx179
                  obtain ⟨rfl, rfl⟩ := done_same hnE hnc hdp hdr
                  have ovT := OwnT.of ov
                  refine WL.va rfl rfl rfl (X.move rfl) ?_
                  refine WL.va rfl rfl rfl (X.extract rfl rfl) ?_
                  refine WL.va rfl rfl rfl (X.extract rfl rfl) ?_
                  refine WL.op rfl (OW.allocO (cs := [.slice none 0 0, i64 0, i64 0, i64 0, i64 0, i64 0, i64 0]) Try.zeroValue26 rfl ?_ (by decide))
                  intro g15 w180 heg15 hlg15 hO15 hx182
                  have := World.grownBy.size hx182
                  refine WL.op rfl (OW.storeOA hO15 rfl rfl rfl (Mp.c_one (Row.of_own ov) _) Try.sizeOf26 ?_)
                  intro w184 hO15 hx186
                  have := World.grownBy.size hx186
                  replace onT := (onT.ext (Ext.trans hx179 hx182)).keptO hx186 (by omega)
                  replace hO5 := (hO5.ext (Ext.trans hx179 hx182)).keptO hx186 (by omega)
                  replace oiT := (oiT.ext (Ext.trans hx179 hx182)).keptO hx186 (by omega)
                  replace hO7 := (hO7.ext (Ext.trans hx179 hx182)).keptO hx186 (by omega)
                  replace oxT := (oxT.ext (Ext.trans hx179 hx182)).keptO hx186 (by omega)
                  replace hO8 := (hO8.ext (Ext.trans hx179 hx182)).keptO hx186 (by omega)
                  replace hO10 := (hO10.ext (Ext.trans hx179 hx182)).keptO hx186 (by omega)
                  replace oyT := (oyT.ext (Ext.trans hx179 hx182)).keptO hx186 (by omega)
                  replace ouT := (ouT.ext (Ext.trans hx179 hx182)).keptO hx186 (by omega)
                  replace hO13 := (hO13.ext (Ext.trans hx179 hx182)).keptO hx186 (by omega)
                  replace ovT := (ovT.ext hx182).keptO hx186 (by omega)
                  replace hO15 : Blk _ _ _ (md.c vv) := hO15
                  refine WL.va rfl rfl rfl (X.assignI rfl) ?_
                  refine WL.nil ?_
                  refine thn_n ?_
                  refine WF.seq ?_
                  refine WF.seq ?_
                  refine WF.region ?_
                  refine WL.va rfl rfl rfl (X.moveI ((hACs13.eq 9).trans (congrFun hF163 9))) ?_
                  refine WL.va rfl rfl rfl (X.moveI ((hACs13.eq 11).trans (congrFun hF163 11))) ?_
                  refine WL.va rfl rfl rfl (X.neq rfl rfl) ?_
                  refine WL.va rfl rfl rfl (X.moveB rfl) ?_
                  refine WL.split (j := 3) rfl (fun h189 => ?_) (fun h189 => ?_)
                  · have gh189 := (of_decide_eq_true h189)
                    exact absurd rfl gh189
                  · have gh189 := (Decidable.of_not_not (of_decide_eq_false h189))
                    refine WL.vg rfl (congrArg some h189) rfl rfl (X.moveI rfl) ?_
                    refine WL.vg rfl (congrArg some h189) rfl rfl (X.moveI rfl) ?_
                    refine WL.vg rfl (congrArg some h189) rfl rfl (X.neq rfl rfl) ?_
                    refine WL.va rfl rfl rfl (X.pickF rfl h189 rfl) ?_
                    refine WL.va rfl rfl rfl (X.moveB rfl) ?_
                    refine WL.split (j := 8) rfl (fun h191 => ?_) (fun h191 => ?_)
                    · have gh191 := (of_decide_eq_true h191)
                      exact absurd rfl gh191
                    · have gh191 := (Decidable.of_not_not (of_decide_eq_false h191))
                      refine WL.vg rfl (congrArg some h191) rfl rfl (X.loadOA hO8 (Ext.refl _) ((hACs13.eq 8).trans (congrFun hF163 8)) rfl Try.isAgg26 Try.sizeOf26) ?_
                      refine WL.vg rfl (congrArg some h191) rfl rfl (X.loadOA hO10 (Ext.refl _) ((hACs13.eq 10).trans (congrFun hF163 10)) rfl Try.isAgg26 Try.sizeOf26) ?_
                      refine WL.cg rfl (congrArg some h191) rfl rfl (X.call Try.call19 (evl_cons rfl (evl_cons rfl evl_nil))) (sameMap_self oxT.rd oyT.rd rfl) ?_
                      rintro v193 w192 ⟨rfl, hx194⟩
                      have := World.grownBy.size hx194
                      refine WL.vg rfl (congrArg some h191) rfl rfl (X.not rfl) ?_
                      refine WL.va rfl rfl rfl (X.pickF rfl h191 rfl) ?_
                      refine WL.va rfl rfl rfl (X.moveB rfl) ?_
                      refine WL.vg rfl rfl rfl rfl (X.loadOA hO13 hx194 rfl rfl Try.isAgg26 Try.sizeOf26) ?_
                      refine WL.vg rfl rfl rfl rfl (X.loadOA hO15 hx194 rfl rfl Try.isAgg26 Try.sizeOf26) ?_
                      refine WL.cg rfl rfl rfl rfl (X.call Try.call19 (evl_cons rfl (evl_cons rfl evl_nil))) (sameMap_self (ouT.ext hx194).rd (ovT.ext hx194).rd rfl) ?_
                      rintro v198 w197 ⟨rfl, hx199⟩
                      have := World.grownBy.size hx199
                      refine WL.vg rfl rfl rfl rfl (X.not rfl) ?_
                      refine WL.va rfl rfl rfl (X.pickF rfl rfl rfl) ?_
                      refine WL.va rfl rfl rfl (X.moveB rfl) ?_
                      refine WL.vg rfl rfl rfl rfl (X.loadOA hO7 (Ext.trans hx194 hx199) ((hACs13.eq 7).trans (congrFun hF163 7)) rfl Try.isAgg26 Try.sizeOf26) ?_
                      refine WL.vg rfl rfl rfl rfl (X.loadOA hO5 (Ext.trans hx194 hx199) ((hACs13.eq 5).trans ((congrFun hF163 5).trans ((hAL0.eq 5).trans (congrFun hF36 5)))) rfl Try.isAgg26 Try.sizeOf26) ?_
                      refine WL.cg rfl rfl rfl rfl (X.call Try.call19 (evl_cons rfl (evl_cons rfl evl_nil))) (sameMap_self (oiT.ext (Ext.trans hx194 hx199)).rd (onT.ext (Ext.trans hx194 hx199)).rd rfl) ?_
                      rintro v203 w202 ⟨rfl, hx204⟩
                      have := World.grownBy.size hx204
                      refine WL.vg rfl rfl rfl rfl (X.not rfl) ?_
                      refine WL.va rfl rfl rfl (X.pickF rfl rfl rfl) ?_
                      refine WL.nil ?_
                      refine thn_n ?_
                      refine WF.cond_f rfl ?_
                      refine WF.skip ?_
                      refine thn_n ?_
                      refine WF.seq ?_
                      refine WF.region ?_
                      refine WL.va rfl rfl rfl (X.fieldAddrO (off := 0) ((hACs13.eq 8).trans (congrFun hF163 8)) Try.underlying26 rfl rfl Try.sizeOf22) ?_
                      refine WL.va rfl rfl rfl (X.loadO hO8 (Ext.trans (Ext.trans hx194 hx199) hx204) rfl rfl Try.isAgg22) ?_
                      refine WL.c rfl rfl rfl (X.call Try.call20 (evl_cons rfl evl_nil)) (spoilRanges_ok vx _ _ _ (oxT.ext (Ext.trans (Ext.trans hx194 hx199) hx204)).own) ?_
                      rintro v208 w207 ⟨_, hx209⟩
                      have := World.grownBy.size hx209
                      replace onT := (onT.ext (Ext.trans (Ext.trans hx194 hx199) hx204)).kept hx209 (fun b hb => by have h1 := (oxT.own.lt b hb).1; have h2 := oxT.top b hb; omega)
                      replace hO5 := (hO5.ext (Ext.trans (Ext.trans hx194 hx199) hx204)).keptR hx209 (fun b hb => by have h1 := (oxT.own.lt b hb).1; have h2 := oxT.top b hb; omega)
                      replace oiT := (oiT.ext (Ext.trans (Ext.trans hx194 hx199) hx204)).kept hx209 (fun b hb => by have h1 := (oxT.own.lt b hb).1; have h2 := oxT.top b hb; omega)
                      replace hO7 := (hO7.ext (Ext.trans (Ext.trans hx194 hx199) hx204)).keptR hx209 (fun b hb => by have h1 := (oxT.own.lt b hb).1; have h2 := oxT.top b hb; omega)
                      replace hO8 := (hO8.ext (Ext.trans (Ext.trans hx194 hx199) hx204)).keptR hx209 (fun b hb => by have h1 := (oxT.own.lt b hb).1; have h2 := oxT.top b hb; omega)
                      replace hO10 := (hO10.ext (Ext.trans (Ext.trans hx194 hx199) hx204)).keptR hx209 (fun b hb => by have h1 := (oxT.own.lt b hb).1; have h2 := oxT.top b hb; omega)
                      replace oyT := (oyT.ext (Ext.trans (Ext.trans hx194 hx199) hx204)).kept hx209 (fun b hb => by have h1 := (oxT.own.lt b hb).1; have h2 := oxT.top b hb; omega)
                      replace ouT := (ouT.ext (Ext.trans (Ext.trans hx194 hx199) hx204)).kept hx209 (fun b hb => by have h1 := (oxT.own.lt b hb).1; have h2 := oxT.top b hb; omega)
                      replace hO13 := (hO13.ext (Ext.trans (Ext.trans hx194 hx199) hx204)).keptR hx209 (fun b hb => by have h1 := (oxT.own.lt b hb).1; have h2 := oxT.top b hb; omega)
                      replace ovT := (ovT.ext (Ext.trans (Ext.trans hx194 hx199) hx204)).kept hx209 (fun b hb => by have h1 := (oxT.own.lt b hb).1; have h2 := oxT.top b hb; omega)
                      replace hO15 := (hO15.ext (Ext.trans (Ext.trans hx194 hx199) hx204)).keptR hx209 (fun b hb => by have h1 := (oxT.own.lt b hb).1; have h2 := oxT.top b hb; omega)
                      refine WL.nil ?_
                      refine thn_n ?_
                      refine WF.seq ?_
                      refine WF.region ?_
                      refine WL.va rfl rfl rfl (X.fieldAddrO (off := 0) rfl Try.underlying26 rfl rfl Try.sizeOf22) ?_
                      refine WL.va rfl rfl rfl (X.loadO hO13 (Ext.refl _) rfl rfl Try.isAgg22) ?_
                      refine WL.c rfl rfl rfl (X.call Try.call20 (evl_cons rfl evl_nil)) (spoilRanges_ok vu _ _ _ ouT.own) ?_
                      rintro v211 w210 ⟨_, hx212⟩
                      have := World.grownBy.size hx212
                      replace onT := onT.kept hx212 (fun b hb => by have h1 := (ouT.own.lt b hb).1; have h2 := ouT.top b hb; omega)
                      replace hO5 := hO5.keptR hx212 (fun b hb => by have h1 := (ouT.own.lt b hb).1; have h2 := ouT.top b hb; omega)
                      replace oiT := oiT.kept hx212 (fun b hb => by have h1 := (ouT.own.lt b hb).1; have h2 := ouT.top b hb; omega)
                      replace hO7 := hO7.keptR hx212 (fun b hb => by have h1 := (ouT.own.lt b hb).1; have h2 := ouT.top b hb; omega)
                      replace hO8 := hO8.keptR hx212 (fun b hb => by have h1 := (ouT.own.lt b hb).1; have h2 := ouT.top b hb; omega)
                      replace hO10 := hO10.keptR hx212 (fun b hb => by have h1 := (ouT.own.lt b hb).1; have h2 := ouT.top b hb; omega)
                      replace oyT := oyT.kept hx212 (fun b hb => by have h1 := (ouT.own.lt b hb).1; have h2 := ouT.top b hb; omega)
                      replace hO13 := hO13.keptR hx212 (fun b hb => by have h1 := (ouT.own.lt b hb).1; have h2 := ouT.top b hb; omega)
                      replace ovT := ovT.kept hx212 (fun b hb => by have h1 := (ouT.own.lt b hb).1; have h2 := ouT.top b hb; omega)
                      replace hO15 := hO15.keptR hx212 (fun b hb => by have h1 := (ouT.own.lt b hb).1; have h2 := ouT.top b hb; omega)
                      refine WL.nil ?_
                      refine thn_n ?_
                      refine WF.seq ?_
                      refine WF.seq ?_
                      refine WF.region ?_
                      refine WL.va rfl rfl rfl (X.loadOA hO7 (Ext.refl _) ((hACs13.eq 7).trans (congrFun hF163 7)) rfl Try.isAgg26 Try.sizeOf26) ?_
                      refine WL.va rfl rfl rfl (X.loadOA hO5 (Ext.refl _) ((hACs13.eq 5).trans ((congrFun hF163 5).trans ((hAL0.eq 5).trans (congrFun hF36 5)))) rfl Try.isAgg26 Try.sizeOf26) ?_
                      refine WL.c rfl rfl rfl (X.call Try.call19 (evl_cons rfl (evl_cons rfl evl_nil))) (sameMap_self oiT.rd onT.rd rfl) ?_
                      rintro v214 w213 ⟨rfl, hx215⟩
                      have := World.grownBy.size hx215
                      refine WL.va rfl rfl rfl (X.not rfl) ?_
                      refine WL.nil ?_
                      refine thn_n ?_
                      refine WF.cond_f rfl ?_
                      refine WF.skip ?_
                      refine thn_n ?_
                      refine WF.seq ?_
                      refine WF.seq ?_
                      refine WF.region ?_
                      refine WL.va rfl rfl rfl (X.moveI ((hACs13.eq 11).trans (congrFun hF163 11))) ?_
                      refine WL.va rfl rfl rfl (X.eql rfl rfl) ?_
                      refine WL.nil ?_
                      refine thn_n ?_
                      refine WF.cond rfl (fun h6_218 => ?_) (fun h6_218 => ?_)
                      · have gh6_218 := (of_decide_eq_true h6_218)
                        have hA := plan_next hnE hnc gh6_218
                        refine WF.region ?_
                        refine WL.va rfl rfl rfl (X.loadOA hO10 hx215 ((hACs13.eq 10).trans (congrFun hF163 10)) rfl Try.isAgg26 Try.sizeOf26) ?_
                        refine WL.op rfl (OW.storeOA (hO5.ext hx215) ((hACs13.eq 5).trans ((congrFun hF163 5).trans ((hAL0.eq 5).trans (congrFun hF36 5)))) rfl rfl (Mp.c_one (Row.of_own oy) _) Try.sizeOf26 ?_)
                        intro w220 hO5 hx222
                        have := World.grownBy.size hx222
                        replace oiT := (oiT.ext hx215).keptO hx222 (by omega)
                        replace hO7 := (hO7.ext hx215).keptO hx222 (by omega)
                        replace hO8 := (hO8.ext hx215).keptO hx222 (by omega)
                        replace hO10 := (hO10.ext hx215).keptO hx222 (by omega)
                        replace oyT := (oyT.ext hx215).keptO hx222 (by omega)
                        replace hO13 := (hO13.ext hx215).keptO hx222 (by omega)
                        replace ovT := (ovT.ext hx215).keptO hx222 (by omega)
                        replace hO15 := (hO15.ext hx215).keptO hx222 (by omega)
                        replace hO5 : Blk _ _ _ ((planM now (l[k]'hk)).1.c vy) := hO5
                        refine WL.nil ?_
                        refine thn_n ?_
                        refine WF.seq ?_
                        refine WF.region ?_
                        refine WL.va rfl rfl rfl (X.moveI rfl) ?_
                        refine WL.va rfl rfl rfl (X.eql rfl rfl) ?_
                        refine WL.nil ?_
                        refine thn_n ?_
                        refine WF.cond rfl (fun h7_224 => ?_) (fun h7_224 => ?_)
                        · have gh7_224 := (of_decide_eq_true h7_224)
                          have hcd : cd = 0 := gh7_224
                          subst hcd
                          have hB := done_next hnE hnc hdp
                          refine WF.region ?_
                          refine WL.va rfl rfl rfl (X.loadOA hO15 (Ext.refl _) rfl rfl Try.isAgg26 Try.sizeOf26) ?_
                          refine WL.op rfl (OW.storeOA hO5 ((hACs13.eq 5).trans ((congrFun hF163 5).trans ((hAL0.eq 5).trans (congrFun hF36 5)))) rfl rfl (Mp.c_one (Row.of_own ov) _) Try.sizeOf26 ?_)
                          intro w226 hO5 hx228
                          have := World.grownBy.size hx228
                          replace oiT := oiT.keptO hx228 (by omega)
                          replace hO7 := hO7.keptO hx228 (by omega)
                          replace hO8 := hO8.keptO hx228 (by omega)
                          replace hO10 := hO10.keptO hx228 (by omega)
                          replace oyT := oyT.keptO hx228 (by omega)
                          replace hO13 := hO13.keptO hx228 (by omega)
                          replace ovT := ovT.keptO hx228 (by omega)
                          replace hO15 := hO15.keptO hx228 (by omega)
                          replace hO5 : Blk _ _ _ (md.c vv) := hO5
                          refine WL.nil ?_
                          refine blk_n ?_
                          refine thn_n ?_
                          refine WF.region ?_
                          refine WL.va rfl rfl rfl (X.moveI ((hACs13.eq 6).trans ((congrFun hF163 6).trans e6_L0))) ?_
                          refine WL.va rfl rfl rfl (X.add rfl rfl (w64 (by omega))) ?_
                          refine WL.va rfl rfl rfl (X.assignI rfl) ?_
                          refine WL.nil ?_
                          first | exact thn_n ⟨_, (by omega), k + 1, md, vv, rfl, rfl, (by repeat (first | exact hAL0 | refine Agree.put ?_ rfl | refine Agree.sub hACs13 rfl ?_ | refine Agree.named hF163 ?_ | refine Agree.named hF36 ?_)), (Ext.store (Ext.store (Ext.trans (grown_trans (grown_trans (Ext.trans (Ext.trans (Ext.trans (Ext.trans (Ext.trans (Ext.trans (Ext.trans (Ext.trans (Ext.trans (Ext.trans (Ext.trans (Ext.trans (Ext.trans (Ext.trans hwL0 hx43) (Ext.store hx46 hx50 (by omega))) (Ext.drew _)) hx55) (Ext.store hx58 hx62 (by omega))) (Ext.drew _)) (Ext.store (Ext.trans hx153 hx157) hx160 (by omega))) hx168) (Ext.store hx171 hx175 (by omega))) hx179) (Ext.store hx182 hx186 (by omega))) hx194) hx199) hx204) hx209 (fun i hi => by have := (oxT.own.lt i hi).1; omega)) hx212 (fun i hi => by have := (ouT.own.lt i hi).1; omega)) hx215) hx222 (by omega)) hx228 (by omega)), ⟨by omega, hB.1, hB.2.1 ▸ hnE, hO5, own_mono ovT.own (by omega)⟩⟩ | exact thn_n ⟨_, (by omega), k + 1, (planM now (l[k]'hk)).1, vy, rfl, rfl, (by repeat (first | exact hAL0 | refine Agree.put ?_ rfl | refine Agree.sub hACs13 rfl ?_ | refine Agree.named hF163 ?_ | refine Agree.named hF36 ?_)), (Ext.store (Ext.store (Ext.trans (grown_trans (grown_trans (Ext.trans (Ext.trans (Ext.trans (Ext.trans (Ext.trans (Ext.trans (Ext.trans (Ext.trans (Ext.trans (Ext.trans (Ext.trans (Ext.trans (Ext.trans (Ext.trans hwL0 hx43) (Ext.store hx46 hx50 (by omega))) (Ext.drew _)) hx55) (Ext.store hx58 hx62 (by omega))) (Ext.drew _)) (Ext.store (Ext.trans hx153 hx157) hx160 (by omega))) hx168) (Ext.store hx171 hx175 (by omega))) hx179) (Ext.store hx182 hx186 (by omega))) hx194) hx199) hx204) hx209 (fun i hi => by have := (oxT.own.lt i hi).1; omega)) hx212 (fun i hi => by have := (ouT.own.lt i hi).1; omega)) hx215) hx222 (by omega)) hx228 (by omega)), ⟨by omega, hA.1, ⟨hA.2.1, hA.2.2.1⟩, hO5, own_mono oyT.own (by omega)⟩⟩
                        · have gh7_224 := (of_decide_eq_false h7_224)
                          refine WF.skip ?_
                          refine blk_n ?_
                          refine thn_n ?_
                          refine WF.region ?_
                          refine WL.va rfl rfl rfl (X.moveI ((hACs13.eq 6).trans ((congrFun hF163 6).trans e6_L0))) ?_
                          refine WL.va rfl rfl rfl (X.add rfl rfl (w64 (by omega))) ?_
                          refine WL.va rfl rfl rfl (X.assignI rfl) ?_
                          refine WL.nil ?_
                          first | exact thn_n ⟨_, (by omega), k + 1, md, vv, rfl, rfl, (by repeat (first | exact hAL0 | refine Agree.put ?_ rfl | refine Agree.sub hACs13 rfl ?_ | refine Agree.named hF163 ?_ | refine Agree.named hF36 ?_)), (Ext.store (Ext.trans (grown_trans (grown_trans (Ext.trans (Ext.trans (Ext.trans (Ext.trans (Ext.trans (Ext.trans (Ext.trans (Ext.trans (Ext.trans (Ext.trans (Ext.trans (Ext.trans (Ext.trans (Ext.trans hwL0 hx43) (Ext.store hx46 hx50 (by omega))) (Ext.drew _)) hx55) (Ext.store hx58 hx62 (by omega))) (Ext.drew _)) (Ext.store (Ext.trans hx153 hx157) hx160 (by omega))) hx168) (Ext.store hx171 hx175 (by omega))) hx179) (Ext.store hx182 hx186 (by omega))) hx194) hx199) hx204) hx209 (fun i hi => by have := (oxT.own.lt i hi).1; omega)) hx212 (fun i hi => by have := (ouT.own.lt i hi).1; omega)) hx215) hx222 (by omega)), ⟨by omega, hB.1, hB.2.1 ▸ hnE, hO5, own_mono ovT.own (by omega)⟩⟩ | exact thn_n ⟨_, (by omega), k + 1, (planM now (l[k]'hk)).1, vy, rfl, rfl, (by repeat (first | exact hAL0 | refine Agree.put ?_ rfl | refine Agree.sub hACs13 rfl ?_ | refine Agree.named hF163 ?_ | refine Agree.named hF36 ?_)), (Ext.store (Ext.trans (grown_trans (grown_trans (Ext.trans (Ext.trans (Ext.trans (Ext.trans (Ext.trans (Ext.trans (Ext.trans (Ext.trans (Ext.trans (Ext.trans (Ext.trans (Ext.trans (Ext.trans (Ext.trans hwL0 hx43) (Ext.store hx46 hx50 (by omega))) (Ext.drew _)) hx55) (Ext.store hx58 hx62 (by omega))) (Ext.drew _)) (Ext.store (Ext.trans hx153 hx157) hx160 (by omega))) hx168) (Ext.store hx171 hx175 (by omega))) hx179) (Ext.store hx182 hx186 (by omega))) hx194) hx199) hx204) hx209 (fun i hi => by have := (oxT.own.lt i hi).1; omega)) hx212 (fun i hi => by have := (ouT.own.lt i hi).1; omega)) hx215) hx222 (by omega)), ⟨by omega, hA.1, ⟨hA.2.1, hA.2.2.1⟩, hO5, own_mono oyT.own (by omega)⟩⟩
                      · have gh6_218 := (of_decide_eq_false h6_218)
                        refine WF.skip ?_
                        refine thn_n ?_
                        refine WF.seq ?_
                        refine WF.region ?_
                        refine WL.va rfl rfl rfl (X.moveI rfl) ?_
                        refine WL.va rfl rfl rfl (X.eql rfl rfl) ?_
                        refine WL.nil ?_
                        refine thn_n ?_
                        refine WF.cond rfl (fun h7_230 => ?_) (fun h7_230 => ?_)
                        · have gh7_230 := (of_decide_eq_true h7_230)
                          have hcd : cd = 0 := gh7_230
                          subst hcd
                          have hB := done_next hnE hnc hdp
                          refine WF.region ?_
                          refine WL.va rfl rfl rfl (X.loadOA hO15 hx215 rfl rfl Try.isAgg26 Try.sizeOf26) ?_
                          refine WL.op rfl (OW.storeOA (hO5.ext hx215) ((hACs13.eq 5).trans ((congrFun hF163 5).trans ((hAL0.eq 5).trans (congrFun hF36 5)))) rfl rfl (Mp.c_one (Row.of_own ov) _) Try.sizeOf26 ?_)
                          intro w232 hO5 hx234
                          have := World.grownBy.size hx234
                          replace oiT := (oiT.ext hx215).keptO hx234 (by omega)
                          replace hO7 := (hO7.ext hx215).keptO hx234 (by omega)
                          replace hO8 := (hO8.ext hx215).keptO hx234 (by omega)
                          replace hO10 := (hO10.ext hx215).keptO hx234 (by omega)
                          replace oyT := (oyT.ext hx215).keptO hx234 (by omega)
                          replace hO13 := (hO13.ext hx215).keptO hx234 (by omega)
                          replace ovT := (ovT.ext hx215).keptO hx234 (by omega)
                          replace hO15 := (hO15.ext hx215).keptO hx234 (by omega)
                          replace hO5 : Blk _ _ _ (md.c vv) := hO5
                          refine WL.nil ?_
                          refine blk_n ?_
                          refine thn_n ?_
                          refine WF.region ?_
                          refine WL.va rfl rfl rfl (X.moveI ((hACs13.eq 6).trans ((congrFun hF163 6).trans e6_L0))) ?_
                          refine WL.va rfl rfl rfl (X.add rfl rfl (w64 (by omega))) ?_
                          refine WL.va rfl rfl rfl (X.assignI rfl) ?_
                          refine WL.nil ?_
                          first | exact thn_n ⟨_, (by omega), k + 1, md, vv, rfl, rfl, (by repeat (first | exact hAL0 | refine Agree.put ?_ rfl | refine Agree.sub hACs13 rfl ?_ | refine Agree.named hF163 ?_ | refine Agree.named hF36 ?_)), (Ext.store (Ext.trans (grown_trans (grown_trans (Ext.trans (Ext.trans (Ext.trans (Ext.trans (Ext.trans (Ext.trans (Ext.trans (Ext.trans (Ext.trans (Ext.trans (Ext.trans (Ext.trans (Ext.trans (Ext.trans hwL0 hx43) (Ext.store hx46 hx50 (by omega))) (Ext.drew _)) hx55) (Ext.store hx58 hx62 (by omega))) (Ext.drew _)) (Ext.store (Ext.trans hx153 hx157) hx160 (by omega))) hx168) (Ext.store hx171 hx175 (by omega))) hx179) (Ext.store hx182 hx186 (by omega))) hx194) hx199) hx204) hx209 (fun i hi => by have := (oxT.own.lt i hi).1; omega)) hx212 (fun i hi => by have := (ouT.own.lt i hi).1; omega)) hx215) hx234 (by omega)), ⟨by omega, hB.1, hB.2.1 ▸ hnE, hO5, own_mono ovT.own (by omega)⟩⟩ | exact thn_n ⟨_, (by omega), k + 1, (planM now (l[k]'hk)).1, vy, rfl, rfl, (by repeat (first | exact hAL0 | refine Agree.put ?_ rfl | refine Agree.sub hACs13 rfl ?_ | refine Agree.named hF163 ?_ | refine Agree.named hF36 ?_)), (Ext.store (Ext.trans (grown_trans (grown_trans (Ext.trans (Ext.trans (Ext.trans (Ext.trans (Ext.trans (Ext.trans (Ext.trans (Ext.trans (Ext.trans (Ext.trans (Ext.trans (Ext.trans (Ext.trans (Ext.trans hwL0 hx43) (Ext.store hx46 hx50 (by omega))) (Ext.drew _)) hx55) (Ext.store hx58 hx62 (by omega))) (Ext.drew _)) (Ext.store (Ext.trans hx153 hx157) hx160 (by omega))) hx168) (Ext.store hx171 hx175 (by omega))) hx179) (Ext.store hx182 hx186 (by omega))) hx194) hx199) hx204) hx209 (fun i hi => by have := (oxT.own.lt i hi).1; omega)) hx212 (fun i hi => by have := (ouT.own.lt i hi).1; omega)) hx215) hx234 (by omega)), ⟨by omega, hA.1, ⟨hA.2.1, hA.2.2.1⟩, hO5, own_mono oyT.own (by omega)⟩⟩
                        · have gh7_230 := (of_decide_eq_false h7_230)
                          refine WF.skip ?_
                          refine blk_n ?_
                          refine thn_n ?_
                          refine WF.region ?_
                          refine WL.va rfl rfl rfl (X.moveI ((hACs13.eq 6).trans ((congrFun hF163 6).trans e6_L0))) ?_
                          refine WL.va rfl rfl rfl (X.add rfl rfl (w64 (by omega))) ?_
                          refine WL.va rfl rfl rfl (X.assignI rfl) ?_
                          refine WL.nil ?_
                          first | exact thn_n ⟨_, (by omega), k + 1, md, vv, rfl, rfl, (by repeat (first | exact hAL0 | refine Agree.put ?_ rfl | refine Agree.sub hACs13 rfl ?_ | refine Agree.named hF163 ?_ | refine Agree.named hF36 ?_)), (Ext.trans (grown_trans (grown_trans (Ext.trans (Ext.trans (Ext.trans (Ext.trans (Ext.trans (Ext.trans (Ext.trans (Ext.trans (Ext.trans (Ext.trans (Ext.trans (Ext.trans (Ext.trans (Ext.trans hwL0 hx43) (Ext.store hx46 hx50 (by omega))) (Ext.drew _)) hx55) (Ext.store hx58 hx62 (by omega))) (Ext.drew _)) (Ext.store (Ext.trans hx153 hx157) hx160 (by omega))) hx168) (Ext.store hx171 hx175 (by omega))) hx179) (Ext.store hx182 hx186 (by omega))) hx194) hx199) hx204) hx209 (fun i hi => by have := (oxT.own.lt i hi).1; omega)) hx212 (fun i hi => by have := (ouT.own.lt i hi).1; omega)) hx215), ⟨by omega, hB.1, hB.2.1 ▸ hnE, (hO5.ext hx215), own_mono (ovT.ext hx215).own (by omega)⟩⟩ | exact thn_n ⟨_, (by omega), k + 1, (planM now (l[k]'hk)).1, vy, rfl, rfl, (by repeat (first | exact hAL0 | refine Agree.put ?_ rfl | refine Agree.sub hACs13 rfl ?_ | refine Agree.named hF163 ?_ | refine Agree.named hF36 ?_)), (Ext.trans (grown_trans (grown_trans (Ext.trans (Ext.trans (Ext.trans (Ext.trans (Ext.trans (Ext.trans (Ext.trans (Ext.trans (Ext.trans (Ext.trans (Ext.trans (Ext.trans (Ext.trans (Ext.trans hwL0 hx43) (Ext.store hx46 hx50 (by omega))) (Ext.drew _)) hx55) (Ext.store hx58 hx62 (by omega))) (Ext.drew _)) (Ext.store (Ext.trans hx153 hx157) hx160 (by omega))) hx168) (Ext.store hx171 hx175 (by omega))) hx179) (Ext.store hx182 hx186 (by omega))) hx194) hx199) hx204) hx209 (fun i hi => by have := (oxT.own.lt i hi).1; omega)) hx212 (fun i hi => by have := (ouT.own.lt i hi).1; omega)) hx215), ⟨by omega, hA.1, ⟨hA.2.1, hA.2.2.1⟩, (hO5.ext hx215), own_mono (oyT.ext hx215).own (by omega)⟩⟩ | exact thn_n ⟨_, (by omega), k + 1, now, vn, rfl, rfl, (by repeat (first | exact hAL0 | refine Agree.put ?_ rfl | refine Agree.sub hACs13 rfl ?_ | refine Agree.named hF163 ?_ | refine Agree.named hF36 ?_)), (Ext.trans (grown_trans (grown_trans (Ext.trans (Ext.trans (Ext.trans (Ext.trans (Ext.trans (Ext.trans (Ext.trans (Ext.trans (Ext.trans (Ext.trans (Ext.trans (Ext.trans (Ext.trans (Ext.trans hwL0 hx43) (Ext.store hx46 hx50 (by omega))) (Ext.drew _)) hx55) (Ext.store hx58 hx62 (by omega))) (Ext.drew _)) (Ext.store (Ext.trans hx153 hx157) hx160 (by omega))) hx168) (Ext.store hx171 hx175 (by omega))) hx179) (Ext.store hx182 hx186 (by omega))) hx194) hx199) hx204) hx209 (fun i hi => by have := (oxT.own.lt i hi).1; omega)) hx212 (fun i hi => by have := (ouT.own.lt i hi).1; omega)) hx215), ⟨by omega, hnc, hnE, (hO5.ext hx215), (onT.ext hx215).own⟩⟩
            · refine LO.go rfl rfl (OW.allocO (cs := [.slice none 0 0, i64 0, i64 0, i64 0, i64 0, i64 0, i64 0]) Try.zeroValue26 rfl ?_ (by decide))
              intro g8 w236 heg8 hlg8 hO8 hx238
              have := World.grownBy.size hx238
              refine ⟨(Ext.trans (Ext.drew _) hx238), ?_⟩
              refine WO.l ?_
              refine LO.go rfl rfl (OW.enter rfl (by decide) (X.call Try.call15 (evl_cons rfl (evl_cons rfl evl_nil))) (plan_ok now vi (l[k]'hk) _ (oiT.ext (Ext.trans (Ext.drew _) hx238)).rd (Nat.le_trans (val_len hnc) (by decide)) hnE.1) ?_)
              rintro v241 w240 ⟨⟨vx, rfl, ox⟩, hx242⟩
              have := World.grownBy.size hx242
              refine ⟨(Ext.trans (Ext.trans (Ext.drew _) hx238) hx242), ?_⟩
              have oxT := OwnT.of ox
              refine WO.q rfl rfl rfl rfl (fun w' hE52 => (X.move rfl)) ?_
              refine WO.q rfl rfl rfl rfl (fun w' hE52 => (X.extract rfl rfl)) ?_
              refine WO.q rfl rfl rfl rfl (fun w' hE52 => (X.extract rfl rfl)) ?_
              refine WO.l ?_
              refine LO.go rfl rfl (OW.storeOA (hO8.ext hx242) rfl rfl rfl (Mp.c_one (Row.of_own ox) _) Try.sizeOf26 ?_)
              intro w243 hO8 hx245
              have := World.grownBy.size hx245
              replace onT := (onT.ext (Ext.trans (Ext.trans (Ext.drew _) hx238) hx242)).keptO hx245 (by omega)
              replace hO5 := (hO5.ext (Ext.trans (Ext.trans (Ext.drew _) hx238) hx242)).keptO hx245 (by omega)
              replace oiT := (oiT.ext (Ext.trans (Ext.trans (Ext.drew _) hx238) hx242)).keptO hx245 (by omega)
              replace hO7 := (hO7.ext (Ext.trans (Ext.trans (Ext.drew _) hx238) hx242)).keptO hx245 (by omega)
              replace oxT := oxT.keptO hx245 (by omega)
              replace hO8 : Blk _ _ _ ((planM now (l[k]'hk)).1.c vx) := hO8
              refine ⟨(Ext.trans (Ext.drew _) (Ext.store (Ext.trans hx238 hx242) hx245 (by omega))), ?_⟩
              refine WO.q rfl rfl rfl rfl (fun w' hE52 => (X.assignI rfl)) ?_
              refine WO.nil ?_
              refine WL.nil ?_
              refine thn_n ?_
              refine WF.seq ?_
              refine WF.drawn (.q 0 (.q 1 (.q 2 (.q 3 (.q 4 (.b 5 9 (.q 6 (.q 7 (.q 8 (.l 9 (.l 10 (.q 11 .nil)))))) (.l 5 (.q 6 (.q 7 (.q 8 (.l 10 (.q 11 .nil)))))))))))) (fun w' => Ext w243 w') 12 (by kernel_rfl) (by kernel_rfl) (Ext.drew _) ?_
              have := World.grownBy.size (Ext.drew w243)
              refine WO.q rfl rfl rfl rfl (fun w' hE247 => (X.loadOA hO5 hE247 ((hAL0.eq 5).trans (congrFun hF36 5)) rfl Try.isAgg26 Try.sizeOf26)) ?_
              refine WO.q rfl rfl rfl rfl (fun w' hE247 => (X.move ((hAL0.eq 1).trans (congrFun hF36 1)))) ?_
              refine WO.q rfl rfl rfl rfl (fun w' hE247 => (X.moveI e6_L0)) ?_
              refine WO.q rfl rfl rfl rfl (fun w' hE247 => (X.idx hl rfl rfl (by omega) Try.underlying27 Try.sizeOf24)) ?_
              refine WO.q rfl rfl rfl rfl (fun w' hE247 => (X.loadEl hl (Ext.trans (Ext.trans (Ext.trans (Ext.trans (Ext.trans hwL0 hx43) (Ext.store hx46 hx50 (by omega))) (Ext.drew _)) (Ext.store (Ext.trans hx238 hx242) hx245 (by omega))) hE247) rfl (by omega) (Mvs.el hk) Try.isAgg24 Try.sizeOf24)) ?_
              refine WO.b2 ?_ ?_
              · refine LO.go rfl rfl (OW.enter rfl (by decide) (X.call Try.call16 (evl_cons rfl (evl_cons rfl evl_nil))) (planR_ok now vn (l[k]'hk) _ (onT.ext (Ext.drew _)).rd (Nat.le_trans (val_len hnc) (by decide)) hnE.1) ?_)
                rintro v249 w248 ⟨⟨vy, rfl, oy⟩, hx250⟩
                have := World.grownBy.size hx250
                refine ⟨(Ext.trans (Ext.drew _) hx250), ?_⟩
                have oyT := OwnT.of oy
                refine WO.q rfl rfl rfl rfl (fun w' hE247 => (X.move rfl)) ?_
                refine WO.q rfl rfl rfl rfl (fun w' hE247 => (X.extract rfl rfl)) ?_
                refine WO.q rfl rfl rfl rfl (fun w' hE247 => (X.extract rfl rfl)) ?_
                refine WO.l ?_
                refine LO.go rfl rfl (OW.allocO (cs := [.slice none 0 0, i64 0, i64 0, i64 0, i64 0, i64 0, i64 0]) Try.zeroValue26 rfl ?_ (by decide))
                intro g10 w251 heg10 hlg10 hO10 hx253
                have := World.grownBy.size hx253
                refine ⟨(Ext.trans (Ext.trans (Ext.drew _) hx250) hx253), ?_⟩
                refine WO.l ?_
                refine LO.go rfl rfl (OW.storeOA hO10 rfl rfl rfl (Mp.c_one (Row.of_own oy) _) Try.sizeOf26 ?_)
                intro w255 hO10 hx257
                have := World.grownBy.size hx257
                replace onT := (onT.ext (Ext.trans (Ext.trans (Ext.drew _) hx250) hx253)).keptO hx257 (by omega)
                replace hO5 := (hO5.ext (Ext.trans (Ext.trans (Ext.drew _) hx250) hx253)).keptO hx257 (by omega)
                replace oiT := (oiT.ext (Ext.trans (Ext.trans (Ext.drew _) hx250) hx253)).keptO hx257 (by omega)
                replace hO7 := (hO7.ext (Ext.trans (Ext.trans (Ext.drew _) hx250) hx253)).keptO hx257 (by omega)
                replace hO8 := (hO8.ext (Ext.trans (Ext.trans (Ext.drew _) hx250) hx253)).keptO hx257 (by omega)
                replace oxT := (oxT.ext (Ext.trans (Ext.trans (Ext.drew _) hx250) hx253)).keptO hx257 (by omega)
                replace oyT := (oyT.ext hx253).keptO hx257 (by omega)
                replace hO10 : Blk _ _ _ ((planM now (l[k]'hk)).1.c vy) := hO10
                refine ⟨(Ext.trans (Ext.trans (Ext.drew _) hx250) (Ext.store hx253 hx257 (by omega))), ?_⟩
                refine WO.q rfl rfl rfl rfl (fun w' hE247 => (X.assignI rfl)) ?_
                refine WO.nil ?_
                refine WL.nil ?_
                refine thn_n ?_
                refine WF.seq ?_
                refine WF.region ?_
                refine WL.va rfl rfl rfl (X.move ((hAL0.eq 1).trans (congrFun hF36 1))) ?_
                refine WL.va rfl rfl rfl (X.moveI e6_L0) ?_
                refine WL.va rfl rfl rfl (X.idx hl rfl rfl (by omega) Try.underlying27 Try.sizeOf24) ?_
                refine WL.va rfl rfl rfl (X.fieldAddrA rfl Try.underlying24 rfl rfl Try.sizeOf3) ?_
                refine WL.va rfl rfl rfl (X.loadE hl (Ext.trans (Ext.trans (Ext.trans (Ext.trans (Ext.trans (Ext.trans (Ext.trans hwL0 hx43) (Ext.store hx46 hx50 (by omega))) (Ext.drew _)) (Ext.store (Ext.trans hx238 hx242) hx245 (by omega))) (Ext.drew _)) hx250) (Ext.store hx253 hx257 (by omega))) rfl (by omega) ((Mvs.get hk (by decide)).trans rfl) Try.isAgg3) ?_
                refine WL.va rfl rfl rfl (X.assignI rfl) ?_
                refine WL.nil ?_
                refine thn_n ?_
                refine WF.named (fun F259 hF260 => ?_)
                refine WF.cut (fun f' w' => f' 12 = i64 (if (l[k]'hk).Epoch < 0 then now.M.Epoch else (l[k]'hk).Epoch) ∧ Agree [0, 1, 2, 5, 6, 7, 8, 9, 10, 11, 17, 18, 19, 20, 21, 22, 23, 24, 26, 27, 28, 29, 30, 31, 32, 33, 34, 35, 38, 39, 40, 41, 42, 43, 44, 45, 46, 47, 48, 49, 50, 51, 52, 53, 54, 55, 56, 57, 58, 59, 60, 61, 62] f' F259 ∧ w255 = w') ?_ ?_
                · refine WF.seq ?_
                  refine WF.region ?_
                  refine WL.va rfl rfl rfl (X.moveI (congrFun hF260 12)) ?_
                  refine WL.va rfl rfl rfl (X.lss rfl rfl) ?_
                  refine WL.nil ?_
                  refine thn_n ?_
                  refine WF.cond rfl (fun h3_261 => ?_) (fun h3_261 => ?_)
                  · have gh3_261 := (of_decide_eq_true h3_261)
                    have hep : now.M.Epoch = (if (l[k]'hk).Epoch < 0 then now.M.Epoch else (l[k]'hk).Epoch) := (if_pos gh3_261).symm
                    refine WF.region ?_
                    refine WL.va rfl rfl rfl (X.fieldAddrO (off := 2) ((congrFun hF260 5).trans ((hAL0.eq 5).trans (congrFun hF36 5))) Try.underlying26 rfl rfl Try.sizeOf24) ?_
                    refine WL.va rfl rfl rfl (X.fieldAddrP (off := 0) rfl Try.underlying24 rfl rfl Try.sizeOf3) ?_
                    refine WL.va rfl rfl rfl (X.loadO hO5 (Ext.refl _) rfl rfl Try.isAgg3) ?_
                    refine WL.va rfl rfl rfl (X.assignI rfl) ?_
                    refine WL.nil ?_
                    refine thn_n ?_
                    exact ⟨(Eq.trans rfl (congrArg i64 hep)), (by repeat (first | exact (Agree.refl _ F259) | refine Agree.put ?_ rfl | refine Agree.sub hAL0 rfl ?_ | refine Agree.named hF260 ?_ | refine Agree.named hF36 ?_)), rfl⟩
                  · have gh3_261 := (of_decide_eq_false h3_261)
                    have hep : (l[k]'hk).Epoch = (if (l[k]'hk).Epoch < 0 then now.M.Epoch else (l[k]'hk).Epoch) := (if_neg gh3_261).symm
                    refine WF.skip ?_
                    refine thn_n ?_
                    exact ⟨(Eq.trans (congrFun hF260 12) (congrArg i64 hep)), (by repeat (first | exact (Agree.refl _ F259) | refine Agree.put ?_ rfl | refine Agree.sub hAL0 rfl ?_ | refine Agree.named hF260 ?_ | refine Agree.named hF36 ?_)), rfl⟩
                · rintro fCs13 wCs13 ⟨e12_Cs13, hACs13, rfl⟩
                  refine WF.seq ?_
                  refine WF.region ?_
                  refine WL.va rfl rfl rfl (X.loadOA hO7 (Ext.refl _) ((hACs13.eq 7).trans (congrFun hF260 7)) rfl Try.isAgg26 Try.sizeOf26) ?_
                  refine WL.va rfl rfl rfl (X.moveI e12_Cs13) ?_
                  refine WL.c rfl rfl rfl (X.call Try.call17 (evl_cons rfl (evl_cons rfl evl_nil))) (doneC_ok now vi (if (l[k]'hk).Epoch < 0 then now.M.Epoch else (l[k]'hk).Epoch) _ oiT.rd (Nat.le_trans (val_len hnc) (by decide))) ?_
                  rintro v264 w263 ⟨⟨vu, md, cd, rfl, ou, hdp⟩, hx265⟩
                  have := World.grownBy.size hx265
                  have ouT := OwnT.of ou
                  refine WL.va rfl rfl rfl (X.move rfl) ?_
                  refine WL.va rfl rfl rfl (X.extract rfl rfl) ?_
                  refine WL.va rfl rfl rfl (X.extract rfl rfl) ?_
                  refine WL.op rfl (OW.allocO (cs := [.slice none 0 0, i64 0, i64 0, i64 0, i64 0, i64 0, i64 0]) Try.zeroValue26 rfl ?_ (by decide))
                  intro g13 w266 heg13 hlg13 hO13 hx268
                  have := World.grownBy.size hx268
                  refine WL.op rfl (OW.storeOA hO13 rfl rfl rfl (Mp.c_one (Row.of_own ou) _) Try.sizeOf26 ?_)
                  intro w270 hO13 hx272
                  have := World.grownBy.size hx272
                  replace onT := (onT.ext (Ext.trans hx265 hx268)).keptO hx272 (by omega)
                  replace hO5 := (hO5.ext (Ext.trans hx265 hx268)).keptO hx272 (by omega)
                  replace oiT := (oiT.ext (Ext.trans hx265 hx268)).keptO hx272 (by omega)
                  replace hO7 := (hO7.ext (Ext.trans hx265 hx268)).keptO hx272 (by omega)
                  replace hO8 := (hO8.ext (Ext.trans hx265 hx268)).keptO hx272 (by omega)
                  replace oxT := (oxT.ext (Ext.trans hx265 hx268)).keptO hx272 (by omega)
                  replace oyT := (oyT.ext (Ext.trans hx265 hx268)).keptO hx272 (by omega)
                  replace hO10 := (hO10.ext (Ext.trans hx265 hx268)).keptO hx272 (by omega)
                  replace ouT := (ouT.ext hx268).keptO hx272 (by omega)
                  replace hO13 : Blk _ _ _ (md.c vu) := hO13
                  refine WL.va rfl rfl rfl (X.assignI rfl) ?_
                  refine WL.nil ?_
                  refine thn_n ?_
                  refine WF.seq ?_
                  refine WF.region ?_
                  refine WL.va rfl rfl rfl (X.loadOA hO5 (Ext.refl _) ((hACs13.eq 5).trans ((congrFun hF260 5).trans ((hAL0.eq 5).trans (congrFun hF36 5)))) rfl Try.isAgg26 Try.sizeOf26) ?_
                  refine WL.va rfl rfl rfl (X.moveI e12_Cs13) ?_
                  refine WL.c rfl rfl rfl (X.call Try.call18 (evl_cons rfl (evl_cons rfl evl_nil))) (doneR_ok now vn (if (l[k]'hk).Epoch < 0 then now.M.Epoch else (l[k]'hk).Epoch) _ onT.rd) ?_
                  rintro v275 w274 ⟨⟨vv, md2, cd2, rfl, ov, hdr⟩, hx276⟩
                  have := World.grownBy.size hx276
                  obtain ⟨rfl, rfl⟩ := done_same hnE hnc hdp hdr
                  have ovT := OwnT.of ov
                  refine WL.va rfl rfl rfl (X.move rfl) ?_
                  refine WL.va rfl rfl rfl (X.extract rfl rfl) ?_
                  refine WL.va rfl rfl rfl (X.extract rfl rfl) ?_
                  refine WL.op rfl (OW.allocO (cs := [.slice none 0 0, i64 0, i64 0, i64 0, i64 0, i64 0, i64 0]) Try.zeroValue26 rfl ?_ (by decide))
                  intro g15 w277 heg15 hlg15 hO15 hx279
                  have := World.grownBy.size hx279
                  refine WL.op rfl (OW.storeOA hO15 rfl rfl rfl (Mp.c_one (Row.of_own ov) _) Try.sizeOf26 ?_)
                  intro w281 hO15 hx283
                  have := World.grownBy.size hx283
                  replace onT := (onT.ext (Ext.trans hx276 hx279)).keptO hx283 (by omega)
                  replace hO5 := (hO5.ext (Ext.trans hx276 hx279)).keptO hx283 (by omega)
                  replace oiT := (oiT.ext (Ext.trans hx276 hx279)).keptO hx283 (by omega)
                  replace hO7 := (hO7.ext (Ext.trans hx276 hx279)).keptO hx283 (by omega)
                  replace hO8 := (hO8.ext (Ext.trans hx276 hx279)).keptO hx283 (by omega)
                  replace oxT := (oxT.ext (Ext.trans hx276 hx279)).keptO hx283 (by omega)
                  replace oyT := (oyT.ext (Ext.trans hx276 hx279)).keptO hx283 (by omega)
                  replace hO10 := (hO10.ext (Ext.trans hx276 hx279)).keptO hx283 (by omega)
                  replace ouT := (ouT.ext (Ext.trans hx276 hx279)).keptO hx283 (by omega)
                  replace hO13 := (hO13.ext (Ext.trans hx276 hx279)).keptO hx283 (by omega)
                  replace ovT := (ovT.ext hx279).keptO hx283 (by omega)
                  replace hO15 : Blk _ _ _ (md.c vv) := hO15
                  refine WL.va rfl rfl rfl (X.assignI rfl) ?_
                  refine WL.nil ?_
                  refine thn_n ?_
                  refine WF.seq ?_
                  refine WF.seq ?_
                  refine WF.region ?_
                  refine WL.va rfl rfl rfl (X.moveI ((hACs13.eq 9).trans (congrFun hF260 9))) ?_
                  refine WL.va rfl rfl rfl (X.moveI ((hACs13.eq 11).trans (congrFun hF260 11))) ?_
                  refine WL.va rfl rfl rfl (X.neq rfl rfl) ?_
                  refine WL.va rfl rfl rfl (X.moveB rfl) ?_
                  refine WL.split (j := 3) rfl (fun h286 => ?_) (fun h286 => ?_)
                  · have gh286 := (of_decide_eq_true h286)
                    exact absurd rfl gh286
                  · have gh286 := (Decidable.of_not_not (of_decide_eq_false h286))
                    refine WL.vg rfl (congrArg some h286) rfl rfl (X.moveI rfl) ?_
                    refine WL.vg rfl (congrArg some h286) rfl rfl (X.moveI rfl) ?_
                    refine WL.vg rfl (congrArg some h286) rfl rfl (X.neq rfl rfl) ?_
                    refine WL.va rfl rfl rfl (X.pickF rfl h286 rfl) ?_
                    refine WL.va rfl rfl rfl (X.moveB rfl) ?_
                    refine WL.split (j := 8) rfl (fun h288 => ?_) (fun h288 => ?_)
                    · have gh288 := (of_decide_eq_true h288)
                      exact absurd rfl gh288
                    · have gh288 := (Decidable.of_not_not (of_decide_eq_false h288))
                      refine WL.vg rfl (congrArg some h288) rfl rfl (X.loadOA hO8 (Ext.refl _) ((hACs13.eq 8).trans (congrFun hF260 8)) rfl Try.isAgg26 Try.sizeOf26) ?_
                      refine WL.vg rfl (congrArg some h288) rfl rfl (X.loadOA hO10 (Ext.refl _) ((hACs13.eq 10).trans (congrFun hF260 10)) rfl Try.isAgg26 Try.sizeOf26) ?_
                      refine WL.cg rfl (congrArg some h288) rfl rfl (X.call Try.call19 (evl_cons rfl (evl_cons rfl evl_nil))) (sameMap_self oxT.rd oyT.rd rfl) ?_
                      rintro v290 w289 ⟨rfl, hx291⟩
                      have := World.grownBy.size hx291
                      refine WL.vg rfl (congrArg some h288) rfl rfl (X.not rfl) ?_
                      refine WL.va rfl rfl rfl (X.pickF rfl h288 rfl) ?_
                      refine WL.va rfl rfl rfl (X.moveB rfl) ?_
                      refine WL.vg rfl rfl rfl rfl (X.loadOA hO13 hx291 rfl rfl Try.isAgg26 Try.sizeOf26) ?_
                      refine WL.vg rfl rfl rfl rfl (X.loadOA hO15 hx291 rfl rfl Try.isAgg26 Try.sizeOf26) ?_
                      refine WL.cg rfl rfl rfl rfl (X.call Try.call19 (evl_cons rfl (evl_cons rfl evl_nil))) (sameMap_self (ouT.ext hx291).rd (ovT.ext hx291).rd rfl) ?_
                      rintro v295 w294 ⟨rfl, hx296⟩
                      have := World.grownBy.size hx296
                      refine WL.vg rfl rfl rfl rfl (X.not rfl) ?_
                      refine WL.va rfl rfl rfl (X.pickF rfl rfl rfl) ?_
                      refine WL.va rfl rfl rfl (X.moveB rfl) ?_
                      refine WL.vg rfl rfl rfl rfl (X.loadOA hO7 (Ext.trans hx291 hx296) ((hACs13.eq 7).trans (congrFun hF260 7)) rfl Try.isAgg26 Try.sizeOf26) ?_
                      refine WL.vg rfl rfl rfl rfl (X.loadOA hO5 (Ext.trans hx291 hx296) ((hACs13.eq 5).trans ((congrFun hF260 5).trans ((hAL0.eq 5).trans (congrFun hF36 5)))) rfl Try.isAgg26 Try.sizeOf26) ?_
                      refine WL.cg rfl rfl rfl rfl (X.call Try.call19 (evl_cons rfl (evl_cons rfl evl_nil))) (sameMap_self (oiT.ext (Ext.trans hx291 hx296)).rd (onT.ext (Ext.trans hx291 hx296)).rd rfl) ?_
                      rintro v300 w299 ⟨rfl, hx301⟩
                      have := World.grownBy.size hx301
                      refine WL.vg rfl rfl rfl rfl (X.not rfl) ?_
                      refine WL.va rfl rfl rfl (X.pickF rfl rfl rfl) ?_
                      refine WL.nil ?_
                      refine thn_n ?_
                      refine WF.cond_f rfl ?_
                      refine WF.skip ?_
                      refine thn_n ?_
                      refine WF.seq ?_
                      refine WF.region ?_
                      refine WL.va rfl rfl rfl (X.fieldAddrO (off := 0) ((hACs13.eq 8).trans (congrFun hF260 8)) Try.underlying26 rfl rfl Try.sizeOf22) ?_
                      refine WL.va rfl rfl rfl (X.loadO hO8 (Ext.trans (Ext.trans hx291 hx296) hx301) rfl rfl Try.isAgg22) ?_
                      refine WL.c rfl rfl rfl (X.call Try.call20 (evl_cons rfl evl_nil)) (spoilRanges_ok vx _ _ _ (oxT.ext (Ext.trans (Ext.trans hx291 hx296) hx301)).own) ?_
                      rintro v305 w304 ⟨_, hx306⟩
                      have := World.grownBy.size hx306
                      replace onT := (onT.ext (Ext.trans (Ext.trans hx291 hx296) hx301)).kept hx306 (fun b hb => by have h1 := (oxT.own.lt b hb).1; have h2 := oxT.top b hb; omega)
                      replace hO5 := (hO5.ext (Ext.trans (Ext.trans hx291 hx296) hx301)).keptR hx306 (fun b hb => by have h1 := (oxT.own.lt b hb).1; have h2 := oxT.top b hb; omega)
                      replace oiT := (oiT.ext (Ext.trans (Ext.trans hx291 hx296) hx301)).kept hx306 (fun b hb => by have h1 := (oxT.own.lt b hb).1; have h2 := oxT.top b hb; omega)
                      replace hO7 := (hO7.ext (Ext.trans (Ext.trans hx291 hx296) hx301)).keptR hx306 (fun b hb => by have h1 := (oxT.own.lt b hb).1; have h2 := oxT.top b hb; omega)
                      replace hO8 := (hO8.ext (Ext.trans (Ext.trans hx291 hx296) hx301)).keptR hx306 (fun b hb => by have h1 := (oxT.own.lt b hb).1; have h2 := oxT.top b hb; omega)
                      replace oyT := (oyT.ext (Ext.trans (Ext.trans hx291 hx296) hx301)).kept hx306 (fun b hb => by have h1 := (oxT.own.lt b hb).1; have h2 := oxT.top b hb; omega)
                      replace hO10 := (hO10.ext (Ext.trans (Ext.trans hx291 hx296) hx301)).keptR hx306 (fun b hb => by have h1 := (oxT.own.lt b hb).1; have h2 := oxT.top b hb; omega)
                      replace ouT := (ouT.ext (Ext.trans (Ext.trans hx291 hx296) hx301)).kept hx306 (fun b hb => by have h1 := (oxT.own.lt b hb).1; have h2 := oxT.top b hb; omega)
                      replace hO13 := (hO13.ext (Ext.trans (Ext.trans hx291 hx296) hx301)).keptR hx306 (fun b hb => by have h1 := (oxT.own.lt b hb).1; have h2 := oxT.top b hb; omega)
                      replace ovT := (ovT.ext (Ext.trans (Ext.trans hx291 hx296) hx301)).kept hx306 (fun b hb => by have h1 := (oxT.own.lt b hb).1; have h2 := oxT.top b hb; omega)
                      replace hO15 := (hO15.ext (Ext.trans (Ext.trans hx291 hx296) hx301)).keptR hx306 (fun b hb => by have h1 := (oxT.own.lt b hb).1; have h2 := oxT.top b hb; omega)
                      refine WL.nil ?_
                      refine thn_n ?_
                      refine WF.seq ?_
                      refine WF.region ?_
                      refine WL.va rfl rfl rfl (X.fieldAddrO (off := 0) rfl Try.underlying26 rfl rfl Try.sizeOf22) ?_
                      refine WL.va rfl rfl rfl (X.loadO hO13 (Ext.refl _) rfl rfl Try.isAgg22) ?_
                      refine WL.c rfl rfl rfl (X.call Try.call20 (evl_cons rfl evl_nil)) (spoilRanges_ok vu _ _ _ ouT.own) ?_
                      rintro v308 w307 ⟨_, hx309⟩
                      have := World.grownBy.size hx309
                      replace onT := onT.kept hx309 (fun b hb => by have h1 := (ouT.own.lt b hb).1; have h2 := ouT.top b hb; omega)
                      replace hO5 := hO5.keptR hx309 (fun b hb => by have h1 := (ouT.own.lt b hb).1; have h2 := ouT.top b hb; omega)
                      replace oiT := oiT.kept hx309 (fun b hb => by have h1 := (ouT.own.lt b hb).1; have h2 := ouT.top b hb; omega)
                      replace hO7 := hO7.keptR hx309 (fun b hb => by have h1 := (ouT.own.lt b hb).1; have h2 := ouT.top b hb; omega)
                      replace hO8 := hO8.keptR hx309 (fun b hb => by have h1 := (ouT.own.lt b hb).1; have h2 := ouT.top b hb; omega)
                      replace oyT := oyT.kept hx309 (fun b hb => by have h1 := (ouT.own.lt b hb).1; have h2 := ouT.top b hb; omega)
                      replace hO10 := hO10.keptR hx309 (fun b hb => by have h1 := (ouT.own.lt b hb).1; have h2 := ouT.top b hb; omega)
                      replace hO13 := hO13.keptR hx309 (fun b hb => by have h1 := (ouT.own.lt b hb).1; have h2 := ouT.top b hb; omega)
                      replace ovT := ovT.kept hx309 (fun b hb => by have h1 := (ouT.own.lt b hb).1; have h2 := ouT.top b hb; omega)
                      replace hO15 := hO15.keptR hx309 (fun b hb => by have h1 := (ouT.own.lt b hb).1; have h2 := ouT.top b hb; omega)
                      refine WL.nil ?_
                      refine thn_n ?_
                      refine WF.seq ?_
                      refine WF.seq ?_
                      refine WF.region ?_
                      refine WL.va rfl rfl rfl (X.loadOA hO7 (Ext.refl _) ((hACs13.eq 7).trans (congrFun hF260 7)) rfl Try.isAgg26 Try.sizeOf26) ?_
                      refine WL.va rfl rfl rfl (X.loadOA hO5 (Ext.refl _) ((hACs13.eq 5).trans ((congrFun hF260 5).trans ((hAL0.eq 5).trans (congrFun hF36 5)))) rfl Try.isAgg26 Try.sizeOf26) ?_
                      refine WL.c rfl rfl rfl (X.call Try.call19 (evl_cons rfl (evl_cons rfl evl_nil))) (sameMap_self oiT.rd onT.rd rfl) ?_
                      rintro v311 w310 ⟨rfl, hx312⟩
                      have := World.grownBy.size hx312
                      refine WL.va rfl rfl rfl (X.not rfl) ?_
                      refine WL.nil ?_
                      refine thn_n ?_
                      refine WF.cond_f rfl ?_
                      refine WF.skip ?_
                      refine thn_n ?_
                      refine WF.seq ?_
                      refine WF.seq ?_
                      refine WF.region ?_
                      refine WL.va rfl rfl rfl (X.moveI ((hACs13.eq 11).trans (congrFun hF260 11))) ?_
                      refine WL.va rfl rfl rfl (X.eql rfl rfl) ?_
                      refine WL.nil ?_
                      refine thn_n ?_
                      refine WF.cond rfl (fun h6_315 => ?_) (fun h6_315 => ?_)
                      · have gh6_315 := (of_decide_eq_true h6_315)
                        have hA := plan_next hnE hnc gh6_315
                        refine WF.region ?_
                        refine WL.va rfl rfl rfl (X.loadOA hO10 hx312 ((hACs13.eq 10).trans (congrFun hF260 10)) rfl Try.isAgg26 Try.sizeOf26) ?_
                        refine WL.op rfl (OW.storeOA (hO5.ext hx312) ((hACs13.eq 5).trans ((congrFun hF260 5).trans ((hAL0.eq 5).trans (congrFun hF36 5)))) rfl rfl (Mp.c_one (Row.of_own oy) _) Try.sizeOf26 ?_)
                        intro w317 hO5 hx319
                        have := World.grownBy.size hx319
                        replace oiT := (oiT.ext hx312).keptO hx319 (by omega)
                        replace hO7 := (hO7.ext hx312).keptO hx319 (by omega)
                        replace hO8 := (hO8.ext hx312).keptO hx319 (by omega)
                        replace oyT := (oyT.ext hx312).keptO hx319 (by omega)
                        replace hO10 := (hO10.ext hx312).keptO hx319 (by omega)
                        replace hO13 := (hO13.ext hx312).keptO hx319 (by omega)
                        replace ovT := (ovT.ext hx312).keptO hx319 (by omega)
                        replace hO15 := (hO15.ext hx312).keptO hx319 (by omega)
                        replace hO5 : Blk _ _ _ ((planM now (l[k]'hk)).1.c vy) := hO5
                        refine WL.nil ?_
                        refine thn_n ?_
                        refine WF.seq ?_
                        refine WF.region ?_
                        refine WL.va rfl rfl rfl (X.moveI rfl) ?_
                        refine WL.va rfl rfl rfl (X.eql rfl rfl) ?_
                        refine WL.nil ?_
                        refine thn_n ?_
                        refine WF.cond rfl (fun h7_321 => ?_) (fun h7_321 => ?_)
                        · have gh7_321 := (of_decide_eq_true h7_321)
                          have hcd : cd = 0 := gh7_321
                          subst hcd
                          have hB := done_next hnE hnc hdp
                          refine WF.region ?_
                          refine WL.va rfl rfl rfl (X.loadOA hO15 (Ext.refl _) rfl rfl Try.isAgg26 Try.sizeOf26) ?_
                          refine WL.op rfl (OW.storeOA hO5 ((hACs13.eq 5).trans ((congrFun hF260 5).trans ((hAL0.eq 5).trans (congrFun hF36 5)))) rfl rfl (Mp.c_one (Row.of_own ov) _) Try.sizeOf26 ?_)
                          intro w323 hO5 hx325
                          have := World.grownBy.size hx325
                          replace oiT := oiT.keptO hx325 (by omega)
                          replace hO7 := hO7.keptO hx325 (by omega)
                          replace hO8 := hO8.keptO hx325 (by omega)
                          replace oyT := oyT.keptO hx325 (by omega)
                          replace hO10 := hO10.keptO hx325 (by omega)
                          replace hO13 := hO13.keptO hx325 (by omega)
                          replace ovT := ovT.keptO hx325 (by omega)
                          replace hO15 := hO15.keptO hx325 (by omega)
                          replace hO5 : Blk _ _ _ (md.c vv) := hO5
                          refine WL.nil ?_
                          refine blk_n ?_
                          refine thn_n ?_
                          refine WF.region ?_
                          refine WL.va rfl rfl rfl (X.moveI ((hACs13.eq 6).trans ((congrFun hF260 6).trans e6_L0))) ?_
                          refine WL.va rfl rfl rfl (X.add rfl rfl (w64 (by omega))) ?_
                          refine WL.va rfl rfl rfl (X.assignI rfl) ?_
                          refine WL.nil ?_
                          first | exact thn_n ⟨_, (by omega), k + 1, md, vv, rfl, rfl, (by repeat (first | exact hAL0 | refine Agree.put ?_ rfl | refine Agree.sub hACs13 rfl ?_ | refine Agree.named hF260 ?_ | refine Agree.named hF36 ?_)), (Ext.store (Ext.store (Ext.trans (grown_trans (grown_trans (Ext.trans (Ext.trans (Ext.trans (Ext.trans (Ext.trans (Ext.trans (Ext.trans (Ext.trans (Ext.trans (Ext.trans (Ext.trans (Ext.trans (Ext.trans (Ext.trans hwL0 hx43) (Ext.store hx46 hx50 (by omega))) (Ext.drew _)) (Ext.store (Ext.trans hx238 hx242) hx245 (by omega))) (Ext.drew _)) hx250) (Ext.store hx253 hx257 (by omega))) hx265) (Ext.store hx268 hx272 (by omega))) hx276) (Ext.store hx279 hx283 (by omega))) hx291) hx296) hx301) hx306 (fun i hi => by have := (oxT.own.lt i hi).1; omega)) hx309 (fun i hi => by have := (ouT.own.lt i hi).1; omega)) hx312) hx319 (by omega)) hx325 (by omega)), ⟨by omega, hB.1, hB.2.1 ▸ hnE, hO5, own_mono ovT.own (by omega)⟩⟩ | exact thn_n ⟨_, (by omega), k + 1, (planM now (l[k]'hk)).1, vy, rfl, rfl, (by repeat (first | exact hAL0 | refine Agree.put ?_ rfl | refine Agree.sub hACs13 rfl ?_ | refine Agree.named hF260 ?_ | refine Agree.named hF36 ?_)), (Ext.store (Ext.store (Ext.trans (grown_trans (grown_trans (Ext.trans (Ext.trans (Ext.trans (Ext.trans (Ext.trans (Ext.trans (Ext.trans (Ext.trans (Ext.trans (Ext.trans (Ext.trans (Ext.trans (Ext.trans (Ext.trans hwL0 hx43) (Ext.store hx46 hx50 (by omega))) (Ext.drew _)) (Ext.store (Ext.trans hx238 hx242) hx245 (by omega))) (Ext.drew _)) hx250) (Ext.store hx253 hx257 (by omega))) hx265) (Ext.store hx268 hx272 (by omega))) hx276) (Ext.store hx279 hx283 (by omega))) hx291) hx296) hx301) hx306 (fun i hi => by have := (oxT.own.lt i hi).1; omega)) hx309 (fun i hi => by have := (ouT.own.lt i hi).1; omega)) hx312) hx319 (by omega)) hx325 (by omega)), ⟨by omega, hA.1, ⟨hA.2.1, hA.2.2.1⟩, hO5, own_mono oyT.own (by omega)⟩⟩
                        · have gh7_321 := (of_decide_eq_false h7_321)
                          refine WF.skip ?_
                          refine blk_n ?_
                          refine thn_n ?_
                          refine WF.region ?_
                          refine WL.va rfl rfl rfl (X.moveI ((hACs13.eq 6).trans ((congrFun hF260 6).trans e6_L0))) ?_
                          refine WL.va rfl rfl rfl (X.add rfl rfl (w64 (by omega))) ?_
                          refine WL.va rfl rfl rfl (X.assignI rfl) ?_
                          refine WL.nil ?_
                          first | exact thn_n ⟨_, (by omega), k + 1, md, vv, rfl, rfl, (by repeat (first | exact hAL0 | refine Agree.put ?_ rfl | refine Agree.sub hACs13 rfl ?_ | refine Agree.named hF260 ?_ | refine Agree.named hF36 ?_)), (Ext.store (Ext.trans (grown_trans (grown_trans (Ext.trans (Ext.trans (Ext.trans (Ext.trans (Ext.trans (Ext.trans (Ext.trans (Ext.trans (Ext.trans (Ext.trans (Ext.trans (Ext.trans (Ext.trans (Ext.trans hwL0 hx43) (Ext.store hx46 hx50 (by omega))) (Ext.drew _)) (Ext.store (Ext.trans hx238 hx242) hx245 (by omega))) (Ext.drew _)) hx250) (Ext.store hx253 hx257 (by omega))) hx265) (Ext.store hx268 hx272 (by omega))) hx276) (Ext.store hx279 hx283 (by omega))) hx291) hx296) hx301) hx306 (fun i hi => by have := (oxT.own.lt i hi).1; omega)) hx309 (fun i hi => by have := (ouT.own.lt i hi).1; omega)) hx312) hx319 (by omega)), ⟨by omega, hB.1, hB.2.1 ▸ hnE, hO5, own_mono ovT.own (by omega)⟩⟩ | exact thn_n ⟨_, (by omega), k + 1, (planM now (l[k]'hk)).1, vy, rfl, rfl, (by repeat (first | exact hAL0 | refine Agree.put ?_ rfl | refine Agree.sub hACs13 rfl ?_ | refine Agree.named hF260 ?_ | refine Agree.named hF36 ?_)), (Ext.store (Ext.trans (grown_trans (grown_trans (Ext.trans (Ext.trans (Ext.trans (Ext.trans (Ext.trans (Ext.trans (Ext.trans (Ext.trans (Ext.trans (Ext.trans (Ext.trans (Ext.trans (Ext.trans (Ext.trans hwL0 hx43) (Ext.store hx46 hx50 (by omega))) (Ext.drew _)) (Ext.store (Ext.trans hx238 hx242) hx245 (by omega))) (Ext.drew _)) hx250) (Ext.store hx253 hx257 (by omega))) hx265) (Ext.store hx268 hx272 (by omega))) hx276) (Ext.store hx279 hx283 (by omega))) hx291) hx296) hx301) hx306 (fun i hi => by have := (oxT.own.lt i hi).1; omega)) hx309 (fun i hi => by have := (ouT.own.lt i hi).1; omega)) hx312) hx319 (by omega)), ⟨by omega, hA.1, ⟨hA.2.1, hA.2.2.1⟩, hO5, own_mono oyT.own (by omega)⟩⟩
                      · have gh6_315 := (of_decide_eq_false h6_315)
                        refine WF.skip ?_
                        refine thn_n ?_
                        refine WF.seq ?_
                        refine WF.region ?_
                        refine WL.va rfl rfl rfl (X.moveI rfl) ?_
                        refine WL.va rfl rfl rfl (X.eql rfl rfl) ?_
                        refine WL.nil ?_
                        refine thn_n ?_
                        refine WF.cond rfl (fun h7_327 => ?_) (fun h7_327 => ?_)
                        · have gh7_327 := (of_decide_eq_true h7_327)
                          have hcd : cd = 0 := gh7_327
                          subst hcd
                          have hB := done_next hnE hnc hdp
                          refine WF.region ?_
                          refine WL.va rfl rfl rfl (X.loadOA hO15 hx312 rfl rfl Try.isAgg26 Try.sizeOf26) ?_
                          refine WL.op rfl (OW.storeOA (hO5.ext hx312) ((hACs13.eq 5).trans ((congrFun hF260 5).trans ((hAL0.eq 5).trans (congrFun hF36 5)))) rfl rfl (Mp.c_one (Row.of_own ov) _) Try.sizeOf26 ?_)
                          intro w329 hO5 hx331
                          have := World.grownBy.size hx331
                          replace oiT := (oiT.ext hx312).keptO hx331 (by omega)
                          replace hO7 := (hO7.ext hx312).keptO hx331 (by omega)
                          replace hO8 := (hO8.ext hx312).keptO hx331 (by omega)
                          replace oyT := (oyT.ext hx312).keptO hx331 (by omega)
                          replace hO10 := (hO10.ext hx312).keptO hx331 (by omega)
                          replace hO13 := (hO13.ext hx312).keptO hx331 (by omega)
                          replace ovT := (ovT.ext hx312).keptO hx331 (by omega)
                          replace hO15 := (hO15.ext hx312).keptO hx331 (by omega)
                          replace hO5 : Blk _ _ _ (md.c vv) := hO5
                          refine WL.nil ?_
                          refine blk_n ?_
                          refine thn_n ?_
                          refine WF.region ?_
                          refine WL.va rfl rfl rfl (X.moveI ((hACs13.eq 6).trans ((congrFun hF260 6).trans e6_L0))) ?_
                          refine WL.va rfl rfl rfl (X.add rfl rfl (w64 (by omega))) ?_
                          refine WL.va rfl rfl rfl (X.assignI rfl) ?_
                          refine WL.nil ?_
                          first | exact thn_n ⟨_, (by omega), k + 1, md, vv, rfl, rfl, (by repeat (first | exact hAL0 | refine Agree.put ?_ rfl | refine Agree.sub hACs13 rfl ?_ | refine Agree.named hF260 ?_ | refine Agree.named hF36 ?_)), (Ext.store (Ext.trans (grown_trans (grown_trans (Ext.trans (Ext.trans (Ext.trans (Ext.trans (Ext.trans (Ext.trans (Ext.trans (Ext.trans (Ext.trans (Ext.trans (Ext.trans (Ext.trans (Ext.trans (Ext.trans hwL0 hx43) (Ext.store hx46 hx50 (by omega))) (Ext.drew _)) (Ext.store (Ext.trans hx238 hx242) hx245 (by omega))) (Ext.drew _)) hx250) (Ext.store hx253 hx257 (by omega))) hx265) (Ext.store hx268 hx272 (by omega))) hx276) (Ext.store hx279 hx283 (by omega))) hx291) hx296) hx301) hx306 (fun i hi => by have := (oxT.own.lt i hi).1; omega)) hx309 (fun i hi => by have := (ouT.own.lt i hi).1; omega)) hx312) hx331 (by omega)), ⟨by omega, hB.1, hB.2.1 ▸ hnE, hO5, own_mono ovT.own (by omega)⟩⟩ | exact thn_n ⟨_, (by omega), k + 1, (planM now (l[k]'hk)).1, vy, rfl, rfl, (by repeat (first | exact hAL0 | refine Agree.put ?_ rfl | refine Agree.sub hACs13 rfl ?_ | refine Agree.named hF260 ?_ | refine Agree.named hF36 ?_)), (Ext.store (Ext.trans (grown_trans (grown_trans (Ext.trans (Ext.trans (Ext.trans (Ext.trans (Ext.trans (Ext.trans (Ext.trans (Ext.trans (Ext.trans (Ext.trans (Ext.trans (Ext.trans (Ext.trans (Ext.trans hwL0 hx43) (Ext.store hx46 hx50 (by omega))) (Ext.drew _)) (Ext.store (Ext.trans hx238 hx242) hx245 (by omega))) (Ext.drew _)) hx250) (Ext.store hx253 hx257 (by omega))) hx265) (Ext.store hx268 hx272 (by omega))) hx276) (Ext.store hx279 hx283 (by omega))) hx291) hx296) hx301) hx306 (fun i hi => by have := (oxT.own.lt i hi).1; omega)) hx309 (fun i hi => by have := (ouT.own.lt i hi).1; omega)) hx312) hx331 (by omega)), ⟨by omega, hA.1, ⟨hA.2.1, hA.2.2.1⟩, hO5, own_mono oyT.own (by omega)⟩⟩
                        · have gh7_327 := (of_decide_eq_false h7_327)
                          refine WF.skip ?_
                          refine blk_n ?_
                          refine thn_n ?_
                          refine WF.region ?_
                          refine WL.va rfl rfl rfl (X.moveI ((hACs13.eq 6).trans ((congrFun hF260 6).trans e6_L0))) ?_
                          refine WL.va rfl rfl rfl (X.add rfl rfl (w64 (by omega))) ?_
                          refine WL.va rfl rfl rfl (X.assignI rfl) ?_
                          refine WL.nil ?_
                          first | exact thn_n ⟨_, (by omega), k + 1, md, vv, rfl, rfl, (by repeat (first | exact hAL0 | refine Agree.put ?_ rfl | refine Agree.sub hACs13 rfl ?_ | refine Agree.named hF260 ?_ | refine Agree.named hF36 ?_)), (Ext.trans (grown_trans (grown_trans (Ext.trans (Ext.trans (Ext.trans (Ext.trans (Ext.trans (Ext.trans (Ext.trans (Ext.trans (Ext.trans (Ext.trans (Ext.trans (Ext.trans (Ext.trans (Ext.trans hwL0 hx43) (Ext.store hx46 hx50 (by omega))) (Ext.drew _)) (Ext.store (Ext.trans hx238 hx242) hx245 (by omega))) (Ext.drew _)) hx250) (Ext.store hx253 hx257 (by omega))) hx265) (Ext.store hx268 hx272 (by omega))) hx276) (Ext.store hx279 hx283 (by omega))) hx291) hx296) hx301) hx306 (fun i hi => by have := (oxT.own.lt i hi).1; omega)) hx309 (fun i hi => by have := (ouT.own.lt i hi).1; omega)) hx312), ⟨by omega, hB.1, hB.2.1 ▸ hnE, (hO5.ext hx312), own_mono (ovT.ext hx312).own (by omega)⟩⟩ | exact thn_n ⟨_, (by omega), k + 1, (planM now (l[k]'hk)).1, vy, rfl, rfl, (by repeat (first | exact hAL0 | refine Agree.put ?_ rfl | refine Agree.sub hACs13 rfl ?_ | refine Agree.named hF260 ?_ | refine Agree.named hF36 ?_)), (Ext.trans (grown_trans (grown_trans (Ext.trans (Ext.trans (Ext.trans (Ext.trans (Ext.trans (Ext.trans (Ext.trans (Ext.trans (Ext.trans (Ext.trans (Ext.trans (Ext.trans (Ext.trans (Ext.trans hwL0 hx43) (Ext.store hx46 hx50 (by omega))) (Ext.drew _)) (Ext.store (Ext.trans hx238 hx242) hx245 (by omega))) (Ext.drew _)) hx250) (Ext.store hx253 hx257 (by omega))) hx265) (Ext.store hx268 hx272 (by omega))) hx276) (Ext.store hx279 hx283 (by omega))) hx291) hx296) hx301) hx306 (fun i hi => by have := (oxT.own.lt i hi).1; omega)) hx309 (fun i hi => by have := (ouT.own.lt i hi).1; omega)) hx312), ⟨by omega, hA.1, ⟨hA.2.1, hA.2.2.1⟩, (hO5.ext hx312), own_mono (oyT.ext hx312).own (by omega)⟩⟩ | exact thn_n ⟨_, (by omega), k + 1, now, vn, rfl, rfl, (by repeat (first | exact hAL0 | refine Agree.put ?_ rfl | refine Agree.sub hACs13 rfl ?_ | refine Agree.named hF260 ?_ | refine Agree.named hF36 ?_)), (Ext.trans (grown_trans (grown_trans (Ext.trans (Ext.trans (Ext.trans (Ext.trans (Ext.trans (Ext.trans (Ext.trans (Ext.trans (Ext.trans (Ext.trans (Ext.trans (Ext.trans (Ext.trans (Ext.trans hwL0 hx43) (Ext.store hx46 hx50 (by omega))) (Ext.drew _)) (Ext.store (Ext.trans hx238 hx242) hx245 (by omega))) (Ext.drew _)) hx250) (Ext.store hx253 hx257 (by omega))) hx265) (Ext.store hx268 hx272 (by omega))) hx276) (Ext.store hx279 hx283 (by omega))) hx291) hx296) hx301) hx306 (fun i hi => by have := (oxT.own.lt i hi).1; omega)) hx309 (fun i hi => by have := (ouT.own.lt i hi).1; omega)) hx312), ⟨by omega, hnc, hnE, (hO5.ext hx312), (onT.ext hx312).own⟩⟩
              · refine LO.go rfl rfl (OW.allocO (cs := [.slice none 0 0, i64 0, i64 0, i64 0, i64 0, i64 0, i64 0]) Try.zeroValue26 rfl ?_ (by decide))
                intro g10 w333 heg10 hlg10 hO10 hx335
                have := World.grownBy.size hx335
                refine ⟨(Ext.trans (Ext.drew _) hx335), ?_⟩
                refine WO.l ?_
                refine LO.go rfl rfl (OW.enter rfl (by decide) (X.call Try.call16 (evl_cons rfl (evl_cons rfl evl_nil))) (planR_ok now vn (l[k]'hk) _ (onT.ext (Ext.trans (Ext.drew _) hx335)).rd (Nat.le_trans (val_len hnc) (by decide)) hnE.1) ?_)
                rintro v338 w337 ⟨⟨vy, rfl, oy⟩, hx339⟩
                have := World.grownBy.size hx339
                refine ⟨(Ext.trans (Ext.trans (Ext.drew _) hx335) hx339), ?_⟩
                have oyT := OwnT.of oy
                refine WO.q rfl rfl rfl rfl (fun w' hE247 => (X.move rfl)) ?_
                refine WO.q rfl rfl rfl rfl (fun w' hE247 => (X.extract rfl rfl)) ?_
                refine WO.q rfl rfl rfl rfl (fun w' hE247 => (X.extract rfl rfl)) ?_
                refine WO.l ?_
                refine LO.go rfl rfl (OW.storeOA (hO10.ext hx339) rfl rfl rfl (Mp.c_one (Row.of_own oy) _) Try.sizeOf26 ?_)
                intro w340 hO10 hx342
                have := World.grownBy.size hx342
                replace onT := (onT.ext (Ext.trans (Ext.trans (Ext.drew _) hx335) hx339)).keptO hx342 (by omega)
                replace hO5 := (hO5.ext (Ext.trans (Ext.trans (Ext.drew _) hx335) hx339)).keptO hx342 (by omega)
                replace oiT := (oiT.ext (Ext.trans (Ext.trans (Ext.drew _) hx335) hx339)).keptO hx342 (by omega)
                replace hO7 := (hO7.ext (Ext.trans (Ext.trans (Ext.drew _) hx335) hx339)).keptO hx342 (by omega)
                replace hO8 := (hO8.ext (Ext.trans (Ext.trans (Ext.drew _) hx335) hx339)).keptO hx342 (by omega)
                replace oxT := (oxT.ext (Ext.trans (Ext.trans (Ext.drew _) hx335) hx339)).keptO hx342 (by omega)
                replace oyT := oyT.keptO hx342 (by omega)
                replace hO10 : Blk _ _ _ ((planM now (l[k]'hk)).1.c vy) := hO10
                refine ⟨(Ext.trans (Ext.drew _) (Ext.store (Ext.trans hx335 hx339) hx342 (by omega))), ?_⟩
                refine WO.q rfl rfl rfl rfl (fun w' hE247 => (X.assignI rfl)) ?_
                refine WO.nil ?_
                refine WL.nil ?_
                refine thn_n ?_
                refine WF.seq ?_
                refine WF.region ?_
                refine WL.va rfl rfl rfl (X.move ((hAL0.eq 1).trans (congrFun hF36 1))) ?_
                refine WL.va rfl rfl rfl (X.moveI e6_L0) ?_
                refine WL.va rfl rfl rfl (X.idx hl rfl rfl (by omega) Try.underlying27 Try.sizeOf24) ?_
                refine WL.va rfl rfl rfl (X.fieldAddrA rfl Try.underlying24 rfl rfl Try.sizeOf3) ?_
                refine WL.va rfl rfl rfl (X.loadE hl (Ext.trans (Ext.trans (Ext.trans (Ext.trans (Ext.trans (Ext.trans hwL0 hx43) (Ext.store hx46 hx50 (by omega))) (Ext.drew _)) (Ext.store (Ext.trans hx238 hx242) hx245 (by omega))) (Ext.drew _)) (Ext.store (Ext.trans hx335 hx339) hx342 (by omega))) rfl (by omega) ((Mvs.get hk (by decide)).trans rfl) Try.isAgg3) ?_
                refine WL.va rfl rfl rfl (X.assignI rfl) ?_
                refine WL.nil ?_
                refine thn_n ?_
                refine WF.named (fun F344 hF345 => ?_)
                refine WF.cut (fun f' w' => f' 12 = i64 (if (l[k]'hk).Epoch < 0 then now.M.Epoch else (l[k]'hk).Epoch) ∧ Agree [0, 1, 2, 5, 6, 7, 8, 9, 10, 11, 17, 18, 19, 20, 21, 22, 23, 24, 26, 27, 28, 29, 30, 31, 32, 33, 34, 35, 38, 39, 40, 41, 42, 43, 44, 45, 46, 47, 48, 49, 50, 51, 52, 53, 54, 55, 56, 57, 58, 59, 60, 61, 62] f' F344 ∧ w340 = w') ?_ ?_
                · refine WF.seq ?_
                  refine WF.region ?_
                  refine WL.va rfl rfl rfl (X.moveI (congrFun hF345 12)) ?_
                  refine WL.va rfl rfl rfl (X.lss rfl rfl) ?_
                  refine WL.nil ?_
                  refine thn_n ?_
                  refine WF.cond rfl (fun h3_346 => ?_) (fun h3_346 => ?_)
                  · have gh3_346 := (of_decide_eq_true h3_346)
                    have hep : now.M.Epoch = (if (l[k]'hk).Epoch < 0 then now.M.Epoch else (l[k]'hk).Epoch) := (if_pos gh3_346).symm
                    refine WF.region ?_
                    refine WL.va rfl rfl rfl (X.fieldAddrO (off := 2) ((congrFun hF345 5).trans ((hAL0.eq 5).trans (congrFun hF36 5))) Try.underlying26 rfl rfl Try.sizeOf24) ?_
                    refine WL.va rfl rfl rfl (X.fieldAddrP (off := 0) rfl Try.underlying24 rfl rfl Try.sizeOf3) ?_
                    refine WL.va rfl rfl rfl (X.loadO hO5 (Ext.refl _) rfl rfl Try.isAgg3) ?_
                    refine WL.va rfl rfl rfl (X.assignI rfl) ?_
                    refine WL.nil ?_
                    refine thn_n ?_
                    exact ⟨(Eq.trans rfl (congrArg i64 hep)), (by repeat (first | exact (Agree.refl _ F344) | refine Agree.put ?_ rfl | refine Agree.sub hAL0 rfl ?_ | refine Agree.named hF345 ?_ | refine Agree.named hF36 ?_)), rfl⟩
                  · have gh3_346 := (of_decide_eq_false h3_346)
                    have hep : (l[k]'hk).Epoch = (if (l[k]'hk).Epoch < 0 then now.M.Epoch else (l[k]'hk).Epoch) := (if_neg gh3_346).symm
                    refine WF.skip ?_
                    refine thn_n ?_
                    exact ⟨(Eq.trans (congrFun hF345 12) (congrArg i64 hep)), (by repeat (first | exact (Agree.refl _ F344) | refine Agree.put ?_ rfl | refine Agree.sub hAL0 rfl ?_ | refine Agree.named hF345 ?_ | refine Agree.named hF36 ?_)), rfl⟩
                · rintro fCs13 wCs13 ⟨e12_Cs13, hACs13, rfl⟩
                  refine WF.seq ?_
                  refine WF.region ?_
                  refine WL.va rfl rfl rfl (X.loadOA hO7 (Ext.refl _) ((hACs13.eq 7).trans (congrFun hF345 7)) rfl Try.isAgg26 Try.sizeOf26) ?_
                  refine WL.va rfl rfl rfl (X.moveI e12_Cs13) ?_
                  refine WL.c rfl rfl rfl (X.call Try.call17 (evl_cons rfl (evl_cons rfl evl_nil))) (doneC_ok now vi (if (l[k]'hk).Epoch < 0 then now.M.Epoch else (l[k]'hk).Epoch) _ oiT.rd (Nat.le_trans (val_len hnc) (by decide))) ?_
                  rintro v349 w348 ⟨⟨vu, md, cd, rfl, ou, hdp⟩, hx350⟩
                  have := World.grownBy.size hx350
                  have ouT := OwnT.of ou
                  refine WL.va rfl rfl rfl (X.move rfl) ?_
                  refine WL.va rfl rfl rfl (X.extract rfl rfl) ?_
                  refine WL.va rfl rfl rfl (X.extract rfl rfl) ?_
                  refine WL.op rfl (OW.allocO (cs := [.slice none 0 0, i64 0, i64 0, i64 0, i64 0, i64 0, i64 0]) Try.zeroValue26 rfl ?_ (by decide))
                  intro g13 w351 heg13 hlg13 hO13 hx353
                  have := World.grownBy.size hx353
                  refine WL.op rfl (OW.storeOA hO13 rfl rfl rfl (Mp.c_one (Row.of_own ou) _) Try.sizeOf26 ?_)
                  intro w355 hO13 hx357
                  have := World.grownBy.size hx357
                  replace onT := (onT.ext (Ext.trans hx350 hx353)).keptO hx357 (by omega)
                  replace hO5 := (hO5.ext (Ext.trans hx350 hx353)).keptO hx357 (by omega)
                  replace oiT := (oiT.ext (Ext.trans hx350 hx353)).keptO hx357 (by omega)
                  replace hO7 := (hO7.ext (Ext.trans hx350 hx353)).keptO hx357 (by omega)
                  replace hO8 := (hO8.ext (Ext.trans hx350 hx353)).keptO hx357 (by omega)
                  replace oxT := (oxT.ext (Ext.trans hx350 hx353)).keptO hx357 (by omega)
                  replace hO10 := (hO10.ext (Ext.trans hx350 hx353)).keptO hx357 (by omega)
                  replace oyT := (oyT.ext (Ext.trans hx350 hx353)).keptO hx357 (by omega)
                  replace ouT := (ouT.ext hx353).keptO hx357 (by omega)
                  replace hO13 : Blk _ _ _ (md.c vu) := hO13
                  refine WL.va rfl rfl rfl (X.assignI rfl) ?_
                  refine WL.nil ?_
                  refine thn_n ?_
                  refine WF.seq ?_
                  refine WF.region ?_
                  refine WL.va rfl rfl rfl (X.loadOA hO5 (Ext.refl _) ((hACs13.eq 5).trans ((congrFun hF345 5).trans ((hAL0.eq 5).trans (congrFun hF36 5)))) rfl Try.isAgg26 Try.sizeOf26) ?_
                  refine WL.va rfl rfl rfl (X.moveI e12_Cs13) ?_
                  refine WL.c rfl rfl rfl (X.call Try.call18 (evl_cons rfl (evl_cons rfl evl_nil))) (doneR_ok now vn (if (l[k]'hk).Epoch < 0 then now.M.Epoch else (l[k]'hk).Epoch) _ onT.rd) ?_
                  rintro v360 w359 ⟨⟨vv, md2, cd2, rfl, ov, hdr⟩, hx361⟩
                  have := World.grownBy.size hx361
                  obtain ⟨rfl, rfl⟩ := done_same hnE hnc hdp hdr
                  have ovT := OwnT.of ov
                  refine WL.va rfl rfl rfl (X.move rfl) ?_
                  refine WL.va rfl rfl rfl (X.extract rfl rfl) ?_
                  refine WL.va rfl rfl rfl (X.extract rfl rfl) ?_
                  refine WL.op rfl (OW.allocO (cs := [.slice none 0 0, i64 0, i64 0, i64 0, i64 0, i64 0, i64 0]) Try.zeroValue26 rfl ?_ (by decide))
                  intro g15 w362 heg15 hlg15 hO15 hx364
                  have := World.grownBy.size hx364
                  refine WL.op rfl (OW.storeOA hO15 rfl rfl rfl (Mp.c_one (Row.of_own ov) _) Try.sizeOf26 ?_)
                  intro w366 hO15 hx368
                  have := World.grownBy.size hx368
                  replace onT := (onT.ext (Ext.trans hx361 hx364)).keptO hx368 (by omega)
                  replace hO5 := (hO5.ext (Ext.trans hx361 hx364)).keptO hx368 (by omega)
                  replace oiT := (oiT.ext (Ext.trans hx361 hx364)).keptO hx368 (by omega)
                  replace hO7 := (hO7.ext (Ext.trans hx361 hx364)).keptO hx368 (by omega)
                  replace hO8 := (hO8.ext (Ext.trans hx361 hx364)).keptO hx368 (by omega)
                  replace oxT := (oxT.ext (Ext.trans hx361 hx364)).keptO hx368 (by omega)
                  replace hO10 := (hO10.ext (Ext.trans hx361 hx364)).keptO hx368 (by omega)
                  replace oyT := (oyT.ext (Ext.trans hx361 hx364)).keptO hx368 (by omega)
                  replace ouT := (ouT.ext (Ext.trans hx361 hx364)).keptO hx368 (by omega)
                  replace hO13 := (hO13.ext (Ext.trans hx361 hx364)).keptO hx368 (by omega)
                  replace ovT := (ovT.ext hx364).keptO hx368 (by omega)
                  replace hO15 : Blk _ _ _ (md.c vv) := hO15
                  refine WL.va rfl rfl rfl (X.assignI rfl) ?_
                  refine WL.nil ?_
                  refine thn_n ?_
                  refine WF.seq ?_
                  refine WF.seq ?_
                  refine WF.region ?_
                  refine WL.va rfl rfl rfl (X.moveI ((hACs13.eq 9).trans (congrFun hF345 9))) ?_
                  refine WL.va rfl rfl rfl (X.moveI ((hACs13.eq 11).trans (congrFun hF345 11))) ?_
                  refine WL.va rfl rfl rfl (X.neq rfl rfl) ?_
                  refine WL.va rfl rfl rfl (X.moveB rfl) ?_
                  refine WL.split (j := 3) rfl (fun h371 => ?_) (fun h371 => ?_)
                  · have gh371 := (of_decide_eq_true h371)
                    exact absurd rfl gh371
                  · have gh371 := (Decidable.of_not_not (of_decide_eq_false h371))
                    refine WL.vg rfl (congrArg some h371) rfl rfl (X.moveI rfl) ?_
                    refine WL.vg rfl (congrArg some h371) rfl rfl (X.moveI rfl) ?_
                    refine WL.vg rfl (congrArg some h371) rfl rfl (X.neq rfl rfl) ?_
                    refine WL.va rfl rfl rfl (X.pickF rfl h371 rfl) ?_
                    refine WL.va rfl rfl rfl (X.moveB rfl) ?_
                    refine WL.split (j := 8) rfl (fun h373 => ?_) (fun h373 => ?_)
                    · have gh373 := (of_decide_eq_true h373)
                      exact absurd rfl gh373
                    · have gh373 := (Decidable.of_not_not (of_decide_eq_false h373))
                      refine WL.vg rfl (congrArg some h373) rfl rfl (X.loadOA hO8 (Ext.refl _) ((hACs13.eq 8).trans (congrFun hF345 8)) rfl Try.isAgg26 Try.sizeOf26) ?_
                      refine WL.vg rfl (congrArg some h373) rfl rfl (X.loadOA hO10 (Ext.refl _) ((hACs13.eq 10).trans (congrFun hF345 10)) rfl Try.isAgg26 Try.sizeOf26) ?_
                      refine WL.cg rfl (congrArg some h373) rfl rfl (X.call Try.call19 (evl_cons rfl (evl_cons rfl evl_nil))) (sameMap_self oxT.rd oyT.rd rfl) ?_
                      rintro v375 w374 ⟨rfl, hx376⟩
                      have := World.grownBy.size hx376
                      refine WL.vg rfl (congrArg some h373) rfl rfl (X.not rfl) ?_
                      refine WL.va rfl rfl rfl (X.pickF rfl h373 rfl) ?_
                      refine WL.va rfl rfl rfl (X.moveB rfl) ?_
                      refine WL.vg rfl rfl rfl rfl (X.loadOA hO13 hx376 rfl rfl Try.isAgg26 Try.sizeOf26) ?_
                      refine WL.vg rfl rfl rfl rfl (X.loadOA hO15 hx376 rfl rfl Try.isAgg26 Try.sizeOf26) ?_
                      refine WL.cg rfl rfl rfl rfl (X.call Try.call19 (evl_cons rfl (evl_cons rfl evl_nil))) (sameMap_self (ouT.ext hx376).rd (ovT.ext hx376).rd rfl) ?_
                      rintro v380 w379 ⟨rfl, hx381⟩
                      have := World.grownBy.size hx381
                      refine WL.vg rfl rfl rfl rfl (X.not rfl) ?_
                      refine WL.va rfl rfl rfl (X.pickF rfl rfl rfl) ?_
                      refine WL.va rfl rfl rfl (X.moveB rfl) ?_
                      refine WL.vg rfl rfl rfl rfl (X.loadOA hO7 (Ext.trans hx376 hx381) ((hACs13.eq 7).trans (congrFun hF345 7)) rfl Try.isAgg26 Try.sizeOf26) ?_
                      refine WL.vg rfl rfl rfl rfl (X.loadOA hO5 (Ext.trans hx376 hx381) ((hACs13.eq 5).trans ((congrFun hF345 5).trans ((hAL0.eq 5).trans (congrFun hF36 5)))) rfl Try.isAgg26 Try.sizeOf26) ?_
                      refine WL.cg rfl rfl rfl rfl (X.call Try.call19 (evl_cons rfl (evl_cons rfl evl_nil))) (sameMap_self (oiT.ext (Ext.trans hx376 hx381)).rd (onT.ext (Ext.trans hx376 hx381)).rd rfl) ?_
                      rintro v385 w384 ⟨rfl, hx386⟩
                      have := World.grownBy.size hx386
                      refine WL.vg rfl rfl rfl rfl (X.not rfl) ?_
                      refine WL.va rfl rfl rfl (X.pickF rfl rfl rfl) ?_
                      refine WL.nil ?_
                      refine thn_n ?_
                      refine WF.cond_f rfl ?_
                      refine WF.skip ?_
                      refine thn_n ?_
                      refine WF.seq ?_
                      refine WF.region ?_
                      refine WL.va rfl rfl rfl (X.fieldAddrO (off := 0) ((hACs13.eq 8).trans (congrFun hF345 8)) Try.underlying26 rfl rfl Try.sizeOf22) ?_
                      refine WL.va rfl rfl rfl (X.loadO hO8 (Ext.trans (Ext.trans hx376 hx381) hx386) rfl rfl Try.isAgg22) ?_
                      refine WL.c rfl rfl rfl (X.call Try.call20 (evl_cons rfl evl_nil)) (spoilRanges_ok vx _ _ _ (oxT.ext (Ext.trans (Ext.trans hx376 hx381) hx386)).own) ?_
                      rintro v390 w389 ⟨_, hx391⟩
                      have := World.grownBy.size hx391
                      replace onT := (onT.ext (Ext.trans (Ext.trans hx376 hx381) hx386)).kept hx391 (fun b hb => by have h1 := (oxT.own.lt b hb).1; have h2 := oxT.top b hb; omega)
                      replace hO5 := (hO5.ext (Ext.trans (Ext.trans hx376 hx381) hx386)).keptR hx391 (fun b hb => by have h1 := (oxT.own.lt b hb).1; have h2 := oxT.top b hb; omega)
                      replace oiT := (oiT.ext (Ext.trans (Ext.trans hx376 hx381) hx386)).kept hx391 (fun b hb => by have h1 := (oxT.own.lt b hb).1; have h2 := oxT.top b hb; omega)
                      replace hO7 := (hO7.ext (Ext.trans (Ext.trans hx376 hx381) hx386)).keptR hx391 (fun b hb => by have h1 := (oxT.own.lt b hb).1; have h2 := oxT.top b hb; omega)
                      replace hO8 := (hO8.ext (Ext.trans (Ext.trans hx376 hx381) hx386)).keptR hx391 (fun b hb => by have h1 := (oxT.own.lt b hb).1; have h2 := oxT.top b hb; omega)
                      replace hO10 := (hO10.ext (Ext.trans (Ext.trans hx376 hx381) hx386)).keptR hx391 (fun b hb => by have h1 := (oxT.own.lt b hb).1; have h2 := oxT.top b hb; omega)
                      replace oyT := (oyT.ext (Ext.trans (Ext.trans hx376 hx381) hx386)).kept hx391 (fun b hb => by have h1 := (oxT.own.lt b hb).1; have h2 := oxT.top b hb; omega)
                      replace ouT := (ouT.ext (Ext.trans (Ext.trans hx376 hx381) hx386)).kept hx391 (fun b hb => by have h1 := (oxT.own.lt b hb).1; have h2 := oxT.top b hb; omega)
                      replace hO13 := (hO13.ext (Ext.trans (Ext.trans hx376 hx381) hx386)).keptR hx391 (fun b hb => by have h1 := (oxT.own.lt b hb).1; have h2 := oxT.top b hb; omega)
                      replace ovT := (ovT.ext (Ext.trans (Ext.trans hx376 hx381) hx386)).kept hx391 (fun b hb => by have h1 := (oxT.own.lt b hb).1; have h2 := oxT.top b hb; omega)
                      replace hO15 := (hO15.ext (Ext.trans (Ext.trans hx376 hx381) hx386)).keptR hx391 (fun b hb => by have h1 := (oxT.own.lt b hb).1; have h2 := oxT.top b hb; omega)
                      refine WL.nil ?_
                      refine thn_n ?_
                      refine WF.seq ?_
                      refine WF.region ?_
                      refine WL.va rfl rfl rfl (X.fieldAddrO (off := 0) rfl Try.underlying26 rfl rfl Try.sizeOf22) ?_
                      refine WL.va rfl rfl rfl (X.loadO hO13 (Ext.refl _) rfl rfl Try.isAgg22) ?_
                      refine WL.c rfl rfl rfl (X.call Try.call20 (evl_cons rfl evl_nil)) (spoilRanges_ok vu _ _ _ ouT.own) ?_
                      rintro v393 w392 ⟨_, hx394⟩
                      have := World.grownBy.size hx394
                      replace onT := onT.kept hx394 (fun b hb => by have h1 := (ouT.own.lt b hb).1; have h2 := ouT.top b hb; omega)
                      replace hO5 := hO5.keptR hx394 (fun b hb => by have h1 := (ouT.own.lt b hb).1; have h2 := ouT.top b hb; omega)
                      replace oiT := oiT.kept hx394 (fun b hb => by have h1 := (ouT.own.lt b hb).1; have h2 := ouT.top b hb; omega)
                      replace hO7 := hO7.keptR hx394 (fun b hb => by have h1 := (ouT.own.lt b hb).1; have h2 := ouT.top b hb; omega)
                      replace hO8 := hO8.keptR hx394 (fun b hb => by have h1 := (ouT.own.lt b hb).1; have h2 := ouT.top b hb; omega)
                      replace hO10 := hO10.keptR hx394 (fun b hb => by have h1 := (ouT.own.lt b hb).1; have h2 := ouT.top b hb; omega)
                      replace oyT := oyT.kept hx394 (fun b hb => by have h1 := (ouT.own.lt b hb).1; have h2 := ouT.top b hb; omega)
                      replace hO13 := hO13.keptR hx394 (fun b hb => by have h1 := (ouT.own.lt b hb).1; have h2 := ouT.top b hb; omega)
                      replace ovT := ovT.kept hx394 (fun b hb => by have h1 := (ouT.own.lt b hb).1; have h2 := ouT.top b hb; omega)
                      replace hO15 := hO15.keptR hx394 (fun b hb => by have h1 := (ouT.own.lt b hb).1; have h2 := ouT.top b hb; omega)
                      refine WL.nil ?_
                      refine thn_n ?_
                      refine WF.seq ?_
                      refine WF.seq ?_
                      refine WF.region ?_
                      refine WL.va rfl rfl rfl (X.loadOA hO7 (Ext.refl _) ((hACs13.eq 7).trans (congrFun hF345 7)) rfl Try.isAgg26 Try.sizeOf26) ?_
                      refine WL.va rfl rfl rfl (X.loadOA hO5 (Ext.refl _) ((hACs13.eq 5).trans ((congrFun hF345 5).trans ((hAL0.eq 5).trans (congrFun hF36 5)))) rfl Try.isAgg26 Try.sizeOf26) ?_
                      refine WL.c rfl rfl rfl (X.call Try.call19 (evl_cons rfl (evl_cons rfl evl_nil))) (sameMap_self oiT.rd onT.rd rfl) ?_
                      rintro v396 w395 ⟨rfl, hx397⟩
                      have := World.grownBy.size hx397
                      refine WL.va rfl rfl rfl (X.not rfl) ?_
                      refine WL.nil ?_
                      refine thn_n ?_
                      refine WF.cond_f rfl ?_
                      refine WF.skip ?_
                      refine thn_n ?_
                      refine WF.seq ?_
                      refine WF.seq ?_
                      refine WF.region ?_
                      refine WL.va rfl rfl rfl (X.moveI ((hACs13.eq 11).trans (congrFun hF345 11))) ?_
                      refine WL.va rfl rfl rfl (X.eql rfl rfl) ?_
                      refine WL.nil ?_
                      refine thn_n ?_
                      refine WF.cond rfl (fun h6_400 => ?_) (fun h6_400 => ?_)
                      · have gh6_400 := (of_decide_eq_true h6_400)
                        have hA := plan_next hnE hnc gh6_400
                        refine WF.region ?_
                        refine WL.va rfl rfl rfl (X.loadOA hO10 hx397 ((hACs13.eq 10).trans (congrFun hF345 10)) rfl Try.isAgg26 Try.sizeOf26) ?_
                        refine WL.op rfl (OW.storeOA (hO5.ext hx397) ((hACs13.eq 5).trans ((congrFun hF345 5).trans ((hAL0.eq 5).trans (congrFun hF36 5)))) rfl rfl (Mp.c_one (Row.of_own oy) _) Try.sizeOf26 ?_)
                        intro w402 hO5 hx404
                        have := World.grownBy.size hx404
                        replace oiT := (oiT.ext hx397).keptO hx404 (by omega)
                        replace hO7 := (hO7.ext hx397).keptO hx404 (by omega)
                        replace hO8 := (hO8.ext hx397).keptO hx404 (by omega)
                        replace hO10 := (hO10.ext hx397).keptO hx404 (by omega)
                        replace oyT := (oyT.ext hx397).keptO hx404 (by omega)
                        replace hO13 := (hO13.ext hx397).keptO hx404 (by omega)
                        replace ovT := (ovT.ext hx397).keptO hx404 (by omega)
                        replace hO15 := (hO15.ext hx397).keptO hx404 (by omega)
                        replace hO5 : Blk _ _ _ ((planM now (l[k]'hk)).1.c vy) := hO5
                        refine WL.nil ?_
                        refine thn_n ?_
                        refine WF.seq ?_
                        refine WF.region ?_
                        refine WL.va rfl rfl rfl (X.moveI rfl) ?_
                        refine WL.va rfl rfl rfl (X.eql rfl rfl) ?_
                        refine WL.nil ?_
                        refine thn_n ?_
                        refine WF.cond rfl (fun h7_406 => ?_) (fun h7_406 => ?_)
                        · have gh7_406 := (of_decide_eq_true h7_406)
                          have hcd : cd = 0 := gh7_406
                          subst hcd
                          have hB := done_next hnE hnc hdp
                          refine WF.region ?_
                          refine WL.va rfl rfl rfl (X.loadOA hO15 (Ext.refl _) rfl rfl Try.isAgg26 Try.sizeOf26) ?_
                          refine WL.op rfl (OW.storeOA hO5 ((hACs13.eq 5).trans ((congrFun hF345 5).trans ((hAL0.eq 5).trans (congrFun hF36 5)))) rfl rfl (Mp.c_one (Row.of_own ov) _) Try.sizeOf26 ?_)
                          intro w408 hO5 hx410
                          have := World.grownBy.size hx410
                          replace oiT := oiT.keptO hx410 (by omega)
                          replace hO7 := hO7.keptO hx410 (by omega)
                          replace hO8 := hO8.keptO hx410 (by omega)
                          replace hO10 := hO10.keptO hx410 (by omega)
                          replace oyT := oyT.keptO hx410 (by omega)
                          replace hO13 := hO13.keptO hx410 (by omega)
                          replace ovT := ovT.keptO hx410 (by omega)
                          replace hO15 := hO15.keptO hx410 (by omega)
                          replace hO5 : Blk _ _ _ (md.c vv) := hO5
                          refine WL.nil ?_
                          refine blk_n ?_
                          refine thn_n ?_
                          refine WF.region ?_
                          refine WL.va rfl rfl rfl (X.moveI ((hACs13.eq 6).trans ((congrFun hF345 6).trans e6_L0))) ?_
                          refine WL.va rfl rfl rfl (X.add rfl rfl (w64 (by omega))) ?_
                          refine WL.va rfl rfl rfl (X.assignI rfl) ?_
                          refine WL.nil ?_
                          first | exact thn_n ⟨_, (by omega), k + 1, md, vv, rfl, rfl, (by repeat (first | exact hAL0 | refine Agree.put ?_ rfl | refine Agree.sub hACs13 rfl ?_ | refine Agree.named hF345 ?_ | refine Agree.named hF36 ?_)), (Ext.store (Ext.store (Ext.trans (grown_trans (grown_trans (Ext.trans (Ext.trans (Ext.trans (Ext.trans (Ext.trans (Ext.trans (Ext.trans (Ext.trans (Ext.trans (Ext.trans (Ext.trans (Ext.trans (Ext.trans hwL0 hx43) (Ext.store hx46 hx50 (by omega))) (Ext.drew _)) (Ext.store (Ext.trans hx238 hx242) hx245 (by omega))) (Ext.drew _)) (Ext.store (Ext.trans hx335 hx339) hx342 (by omega))) hx350) (Ext.store hx353 hx357 (by omega))) hx361) (Ext.store hx364 hx368 (by omega))) hx376) hx381) hx386) hx391 (fun i hi => by have := (oxT.own.lt i hi).1; omega)) hx394 (fun i hi => by have := (ouT.own.lt i hi).1; omega)) hx397) hx404 (by omega)) hx410 (by omega)), ⟨by omega, hB.1, hB.2.1 ▸ hnE, hO5, own_mono ovT.own (by omega)⟩⟩ | exact thn_n ⟨_, (by omega), k + 1, (planM now (l[k]'hk)).1, vy, rfl, rfl, (by repeat (first | exact hAL0 | refine Agree.put ?_ rfl | refine Agree.sub hACs13 rfl ?_ | refine Agree.named hF345 ?_ | refine Agree.named hF36 ?_)), (Ext.store (Ext.store (Ext.trans (grown_trans (grown_trans (Ext.trans (Ext.trans (Ext.trans (Ext.trans (Ext.trans (Ext.trans (Ext.trans (Ext.trans (Ext.trans (Ext.trans (Ext.trans (Ext.trans (Ext.trans hwL0 hx43) (Ext.store hx46 hx50 (by omega))) (Ext.drew _)) (Ext.store (Ext.trans hx238 hx242) hx245 (by omega))) (Ext.drew _)) (Ext.store (Ext.trans hx335 hx339) hx342 (by omega))) hx350) (Ext.store hx353 hx357 (by omega))) hx361) (Ext.store hx364 hx368 (by omega))) hx376) hx381) hx386) hx391 (fun i hi => by have := (oxT.own.lt i hi).1; omega)) hx394 (fun i hi => by have := (ouT.own.lt i hi).1; omega)) hx397) hx404 (by omega)) hx410 (by omega)), ⟨by omega, hA.1, ⟨hA.2.1, hA.2.2.1⟩, hO5, own_mono oyT.own (by omega)⟩⟩
                        · have gh7_406 := (of_decide_eq_false h7_406)
                          refine WF.skip ?_
                          refine blk_n ?_
                          refine thn_n ?_
                          refine WF.region ?_
                          refine WL.va rfl rfl rfl (X.moveI ((hACs13.eq 6).trans ((congrFun hF345 6).trans e6_L0))) ?_
                          refine WL.va rfl rfl rfl (X.add rfl rfl (w64 (by omega))) ?_
                          refine WL.va rfl rfl rfl (X.assignI rfl) ?_
                          refine WL.nil ?_
                          first | exact thn_n ⟨_, (by omega), k + 1, md, vv, rfl, rfl, (by repeat (first | exact hAL0 | refine Agree.put ?_ rfl | refine Agree.sub hACs13 rfl ?_ | refine Agree.named hF345 ?_ | refine Agree.named hF36 ?_)), (Ext.store (Ext.trans (grown_trans (grown_trans (Ext.trans (Ext.trans (Ext.trans (Ext.trans (Ext.trans (Ext.trans (Ext.trans (Ext.trans (Ext.trans (Ext.trans (Ext.trans (Ext.trans (Ext.trans hwL0 hx43) (Ext.store hx46 hx50 (by omega))) (Ext.drew _)) (Ext.store (Ext.trans hx238 hx242) hx245 (by omega))) (Ext.drew _)) (Ext.store (Ext.trans hx335 hx339) hx342 (by omega))) hx350) (Ext.store hx353 hx357 (by omega))) hx361) (Ext.store hx364 hx368 (by omega))) hx376) hx381) hx386) hx391 (fun i hi => by have := (oxT.own.lt i hi).1; omega)) hx394 (fun i hi => by have := (ouT.own.lt i hi).1; omega)) hx397) hx404 (by omega)), ⟨by omega, hB.1, hB.2.1 ▸ hnE, hO5, own_mono ovT.own (by omega)⟩⟩ | exact thn_n ⟨_, (by omega), k + 1, (planM now (l[k]'hk)).1, vy, rfl, rfl, (by repeat (first | exact hAL0 | refine Agree.put ?_ rfl | refine Agree.sub hACs13 rfl ?_ | refine Agree.named hF345 ?_ | refine Agree.named hF36 ?_)), (Ext.store (Ext.trans (grown_trans (grown_trans (Ext.trans (Ext.trans (Ext.trans (Ext.trans (Ext.trans (Ext.trans (Ext.trans (Ext.trans (Ext.trans (Ext.trans (Ext.trans (Ext.trans (Ext.trans hwL0 hx43) (Ext.store hx46 hx50 (by omega))) (Ext.drew _)) (Ext.store (Ext.trans hx238 hx242) hx245 (by omega))) (Ext.drew _)) (Ext.store (Ext.trans hx335 hx339) hx342 (by omega))) hx350) (Ext.store hx353 hx357 (by omega))) hx361) (Ext.store hx364 hx368 (by omega))) hx376) hx381) hx386) hx391 (fun i hi => by have := (oxT.own.lt i hi).1; omega)) hx394 (fun i hi => by have := (ouT.own.lt i hi).1; omega)) hx397) hx404 (by omega)), ⟨by omega, hA.1, ⟨hA.2.1, hA.2.2.1⟩, hO5, own_mono oyT.own (by omega)⟩⟩
                      · have gh6_400 := (of_decide_eq_false h6_400)
                        refine WF.skip ?_
                        refine thn_n ?_
                        refine WF.seq ?_
                        refine WF.region ?_
                        refine WL.va rfl rfl rfl (X.moveI rfl) ?_
                        refine WL.va rfl rfl rfl (X.eql rfl rfl) ?_
                        refine WL.nil ?_
                        refine thn_n ?_
                        refine WF.cond rfl (fun h7_412 => ?_) (fun h7_412 => ?_)
                        · have gh7_412 := (of_decide_eq_true h7_412)
                          have hcd : cd = 0 := gh7_412
                          subst hcd
                          have hB := done_next hnE hnc hdp
                          refine WF.region ?_
                          refine WL.va rfl rfl rfl (X.loadOA hO15 hx397 rfl rfl Try.isAgg26 Try.sizeOf26) ?_
                          refine WL.op rfl (OW.storeOA (hO5.ext hx397) ((hACs13.eq 5).trans ((congrFun hF345 5).trans ((hAL0.eq 5).trans (congrFun hF36 5)))) rfl rfl (Mp.c_one (Row.of_own ov) _) Try.sizeOf26 ?_)
                          intro w414 hO5 hx416
                          have := World.grownBy.size hx416
                          replace oiT := (oiT.ext hx397).keptO hx416 (by omega)
                          replace hO7 := (hO7.ext hx397).keptO hx416 (by omega)
                          replace hO8 := (hO8.ext hx397).keptO hx416 (by omega)
                          replace hO10 := (hO10.ext hx397).keptO hx416 (by omega)
                          replace oyT := (oyT.ext hx397).keptO hx416 (by omega)
                          replace hO13 := (hO13.ext hx397).keptO hx416 (by omega)
                          replace ovT := (ovT.ext hx397).keptO hx416 (by omega)
                          replace hO15 := (hO15.ext hx397).keptO hx416 (by omega)
                          replace hO5 : Blk _ _ _ (md.c vv) := hO5
                          refine WL.nil ?_
                          refine blk_n ?_
                          refine thn_n ?_
                          refine WF.region ?_
                          refine WL.va rfl rfl rfl (X.moveI ((hACs13.eq 6).trans ((congrFun hF345 6).trans e6_L0))) ?_
                          refine WL.va rfl rfl rfl (X.add rfl rfl (w64 (by omega))) ?_
                          refine WL.va rfl rfl rfl (X.assignI rfl) ?_
                          refine WL.nil ?_
                          first | exact thn_n ⟨_, (by omega), k + 1, md, vv, rfl, rfl, (by repeat (first | exact hAL0 | refine Agree.put ?_ rfl | refine Agree.sub hACs13 rfl ?_ | refine Agree.named hF345 ?_ | refine Agree.named hF36 ?_)), (Ext.store (Ext.trans (grown_trans (grown_trans (Ext.trans (Ext.trans (Ext.trans (Ext.trans (Ext.trans (Ext.trans (Ext.trans (Ext.trans (Ext.trans (Ext.trans (Ext.trans (Ext.trans (Ext.trans hwL0 hx43) (Ext.store hx46 hx50 (by omega))) (Ext.drew _)) (Ext.store (Ext.trans hx238 hx242) hx245 (by omega))) (Ext.drew _)) (Ext.store (Ext.trans hx335 hx339) hx342 (by omega))) hx350) (Ext.store hx353 hx357 (by omega))) hx361) (Ext.store hx364 hx368 (by omega))) hx376) hx381) hx386) hx391 (fun i hi => by have := (oxT.own.lt i hi).1; omega)) hx394 (fun i hi => by have := (ouT.own.lt i hi).1; omega)) hx397) hx416 (by omega)), ⟨by omega, hB.1, hB.2.1 ▸ hnE, hO5, own_mono ovT.own (by omega)⟩⟩ | exact thn_n ⟨_, (by omega), k + 1, (planM now (l[k]'hk)).1, vy, rfl, rfl, (by repeat (first | exact hAL0 | refine Agree.put ?_ rfl | refine Agree.sub hACs13 rfl ?_ | refine Agree.named hF345 ?_ | refine Agree.named hF36 ?_)), (Ext.store (Ext.trans (grown_trans (grown_trans (Ext.trans (Ext.trans (Ext.trans (Ext.trans (Ext.trans (Ext.trans (Ext.trans (Ext.trans (Ext.trans (Ext.trans (Ext.trans (Ext.trans (Ext.trans hwL0 hx43) (Ext.store hx46 hx50 (by omega))) (Ext.drew _)) (Ext.store (Ext.trans hx238 hx242) hx245 (by omega))) (Ext.drew _)) (Ext.store (Ext.trans hx335 hx339) hx342 (by omega))) hx350) (Ext.store hx353 hx357 (by omega))) hx361) (Ext.store hx364 hx368 (by omega))) hx376) hx381) hx386) hx391 (fun i hi => by have := (oxT.own.lt i hi).1; omega)) hx394 (fun i hi => by have := (ouT.own.lt i hi).1; omega)) hx397) hx416 (by omega)), ⟨by omega, hA.1, ⟨hA.2.1, hA.2.2.1⟩, hO5, own_mono oyT.own (by omega)⟩⟩
                        · have gh7_412 := (of_decide_eq_false h7_412)
                          refine WF.skip ?_
                          refine blk_n ?_
                          refine thn_n ?_
                          refine WF.region ?_
                          refine WL.va rfl rfl rfl (X.moveI ((hACs13.eq 6).trans ((congrFun hF345 6).trans e6_L0))) ?_
                          refine WL.va rfl rfl rfl (X.add rfl rfl (w64 (by omega))) ?_
                          refine WL.va rfl rfl rfl (X.assignI rfl) ?_
                          refine WL.nil ?_
                          first | exact thn_n ⟨_, (by omega), k + 1, md, vv, rfl, rfl, (by repeat (first | exact hAL0 | refine Agree.put ?_ rfl | refine Agree.sub hACs13 rfl ?_ | refine Agree.named hF345 ?_ | refine Agree.named hF36 ?_)), (Ext.trans (grown_trans (grown_trans (Ext.trans (Ext.trans (Ext.trans (Ext.trans (Ext.trans (Ext.trans (Ext.trans (Ext.trans (Ext.trans (Ext.trans (Ext.trans (Ext.trans (Ext.trans hwL0 hx43) (Ext.store hx46 hx50 (by omega))) (Ext.drew _)) (Ext.store (Ext.trans hx238 hx242) hx245 (by omega))) (Ext.drew _)) (Ext.store (Ext.trans hx335 hx339) hx342 (by omega))) hx350) (Ext.store hx353 hx357 (by omega))) hx361) (Ext.store hx364 hx368 (by omega))) hx376) hx381) hx386) hx391 (fun i hi => by have := (oxT.own.lt i hi).1; omega)) hx394 (fun i hi => by have := (ouT.own.lt i hi).1; omega)) hx397), ⟨by omega, hB.1, hB.2.1 ▸ hnE, (hO5.ext hx397), own_mono (ovT.ext hx397).own (by omega)⟩⟩ | exact thn_n ⟨_, (by omega), k + 1, (planM now (l[k]'hk)).1, vy, rfl, rfl, (by repeat (first | exact hAL0 | refine Agree.put ?_ rfl | refine Agree.sub hACs13 rfl ?_ | refine Agree.named hF345 ?_ | refine Agree.named hF36 ?_)), (Ext.trans (grown_trans (grown_trans (Ext.trans (Ext.trans (Ext.trans (Ext.trans (Ext.trans (Ext.trans (Ext.trans (Ext.trans (Ext.trans (Ext.trans (Ext.trans (Ext.trans (Ext.trans hwL0 hx43) (Ext.store hx46 hx50 (by omega))) (Ext.drew _)) (Ext.store (Ext.trans hx238 hx242) hx245 (by omega))) (Ext.drew _)) (Ext.store (Ext.trans hx335 hx339) hx342 (by omega))) hx350) (Ext.store hx353 hx357 (by omega))) hx361) (Ext.store hx364 hx368 (by omega))) hx376) hx381) hx386) hx391 (fun i hi => by have := (oxT.own.lt i hi).1; omega)) hx394 (fun i hi => by have := (ouT.own.lt i hi).1; omega)) hx397), ⟨by omega, hA.1, ⟨hA.2.1, hA.2.2.1⟩, (hO5.ext hx397), own_mono (oyT.ext hx397).own (by omega)⟩⟩ | exact thn_n ⟨_, (by omega), k + 1, now, vn, rfl, rfl, (by repeat (first | exact hAL0 | refine Agree.put ?_ rfl | refine Agree.sub hACs13 rfl ?_ | refine Agree.named hF345 ?_ | refine Agree.named hF36 ?_)), (Ext.trans (grown_trans (grown_trans (Ext.trans (Ext.trans (Ext.trans (Ext.trans (Ext.trans (Ext.trans (Ext.trans (Ext.trans (Ext.trans (Ext.trans (Ext.trans (Ext.trans (Ext.trans hwL0 hx43) (Ext.store hx46 hx50 (by omega))) (Ext.drew _)) (Ext.store (Ext.trans hx238 hx242) hx245 (by omega))) (Ext.drew _)) (Ext.store (Ext.trans hx335 hx339) hx342 (by omega))) hx350) (Ext.store hx353 hx357 (by omega))) hx361) (Ext.store hx364 hx368 (by omega))) hx376) hx381) hx386) hx391 (fun i hi => by have := (oxT.own.lt i hi).1; omega)) hx394 (fun i hi => by have := (ouT.own.lt i hi).1; omega)) hx397), ⟨by omega, hnc, hnE, (hO5.ext hx397), (onT.ext hx397).own⟩⟩
          · have gh2_39 := (of_decide_eq_false h2_39)
            refine WF.exit ?_
            refine thn_x ?_
            refine thn_x ?_
            refine blk_eq ?_
            refine thn_n ?_
            refine WF.seq ?_
            refine WF.region ?_
            refine WL.c rfl rfl rfl (X.call Try.call13 evl_nil) (known_ok _) ?_
            rintro v419 w418 ⟨rfl, hx420⟩
            have := World.grownBy.size hx420
            refine WL.va rfl rfl rfl (X.assignB rfl) ?_
            refine WL.nil ?_
            refine thn_n ?_
            refine WF.ret ?_
            refine fin_r ?_
            exact ⟨rfl, (Ext.trans hwL0 hx420)⟩
        · have gh38 := (of_decide_eq_false h38)
          refine WL.p rfl rfl rfl (congrArg some h38) ?_
          refine WL.p rfl rfl rfl (congrArg some h38) ?_
          refine WL.va rfl rfl rfl (X.pickF rfl h38 rfl) ?_
          refine WL.nil ?_
          refine thn_n ?_
          refine WF.cond_f rfl ?_
          refine WF.exit ?_
          refine thn_x ?_
          refine thn_x ?_
          refine blk_eq ?_
          refine thn_n ?_
          refine WF.seq ?_
          refine WF.region ?_
          refine WL.c rfl rfl rfl (X.call Try.call13 evl_nil) (known_ok _) ?_
          rintro v424 w423 ⟨rfl, hx425⟩
          have := World.grownBy.size hx425
          refine WL.va rfl rfl rfl (X.assignB rfl) ?_
          refine WL.nil ?_
          refine thn_n ?_
          refine WF.ret ?_
          refine fin_r ?_
          exact ⟨rfl, (Ext.trans hwL0 hx425)⟩

end Go.Proofs.Ytpimnlgfhpnjnaa
