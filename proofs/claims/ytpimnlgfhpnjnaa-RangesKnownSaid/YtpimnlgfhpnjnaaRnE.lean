/- The walks of the example and of RangesMove. -/
import Derived.Test.YtpimnlgfhpnjnaaRl
namespace Go.Proofs.Ytpimnlgfhpnjnaa
open Go Go.RowKit Kf
set_option maxRecDepth 20000

def twoM : Mp := ⟨[⟨0, 32, 1, 1⟩, ⟨32, 64, 2, 1⟩], 1, Mv.zero⟩
def movA : Mv := ⟨0, 1, 2, 24, 32⟩
def twoA : Mp := ⟨twoM.R, 2, ⟨2, 1, 2, 24, 32⟩⟩
def twoB : Mp := ⟨[⟨0, 24, 1, 2⟩, ⟨24, 64, 2, 2⟩], 2, Mv.zero⟩
theorem two_plan : planM twoM movA = (twoA, 0) := by decide
theorem two_moved : Moved twoA := check_moved (by decide) (by decide) (by decide)
theorem two_runs : runs (newR twoA.R twoA.M twoA.E) 64 = twoB.R := by decide +kernel
theorem two_done {m : Mp} {c : Int} (h : DonePost twoA 2 m c) : m = twoB ∧ c = 0 := by
  rcases h with ⟨h, _⟩ | ⟨_, h2, h3, h4, h5⟩
  · exact absurd h (by decide)
  · refine ⟨?_, h2⟩
    rw [Mp.eq_iff]
    exact ⟨(two_moved.runs h5).trans two_runs, h3, h4⟩
theorem two_find : findM twoB.R 24 = some ⟨24, 64, 2, 2⟩ := by decide
theorem val_len {m : Mp} (h : checkB m = true) : m.R.length ≤ 4 := okB_len (val_ok.2 (check_iff.1 h).1).1
theorem codeOf_0 {b : Bool} (h : codeOf b = 0) : b = true := by cases b <;> simp_all [codeOf]
theorem codeOf_1 {b : Bool} (h : ¬ codeOf b = 0) : b = false := by cases b <;> simp_all [codeOf]
theorem checkRef_eq {m : Mp} {v : Value} {w : World} (hv : Rgs w v m.R) (hE : -9223372036854775808 ≤ m.E ∧ m.E ≤ 9223372036854775807) : FnOk Try.prog 12 [agg (m.c v)] w (fun r w' => r = i64 (codeOf (checkB m)) ∧ Ext w w') := by
  rw [check_eq hE]; exact checkRef_ok m v w hv hE
theorem sameMap_self {a b : Mp} {va vb : Value} {w : World} (ha : Rgs w va a.R) (hb : Rgs w vb b.R) (e : a = b) : FnOk Try.prog 19 [agg (a.c va), agg (b.c vb)] w (fun r w' => r = .bool true ∧ Ext w w') := by
  have := sameMap_ok a b va vb w ha hb
  rwa [decide_eq_true e] at this
theorem doneNo_f {m : Mp} {e : Int} (h : doneNo m e = false) : 1 ≤ m.M.Epoch ∧ m.M.Epoch = e := by
  unfold doneNo at h
  simp only [Bool.or_eq_false_iff, decide_eq_false_iff_not] at h
  omega
theorem moved_of {m : Mp} {e : Int} (hE : -9223372036854775808 ≤ m.E ∧ m.E ≤ 9223372036854775807) (hc : checkB m = true) (h : doneNo m e = false) : Moved m ∧ e = m.E := by
  obtain ⟨h1, h2⟩ := doneNo_f h
  have hM := check_moved hE hc (fun q => by rw [q] at h1; exact absurd h1 (by decide))
  exact ⟨hM, h2.symm.trans hM.epoch⟩
def RefPost (m : Mp) (e : Int) (m' : Mp) (c : Int) : Prop := (doneNo m e = true ∧ m' = Mp.zero ∧ c = 6) ∨ (doneNo m e = false ∧ c = 0 ∧ m' = ⟨runs (newR m.R m.M e) 64, m.E, Mv.zero⟩)
theorem done_same {m m1 m2 : Mp} {e c1 c2 : Int} (hE : -9223372036854775808 ≤ m.E ∧ m.E ≤ 9223372036854775807) (hc : checkB m = true) (h1 : DonePost m e m1 c1) (h2 : RefPost m e m2 c2) : m1 = m2 ∧ c1 = c2 := by
  rcases h1 with ⟨a1, a2, a3⟩ | ⟨a1, a2, a3, a4, a5⟩
  · rcases h2 with ⟨_, b2, b3⟩ | ⟨b1, _⟩
    · exact ⟨a2.trans b2.symm, a3.trans b3.symm⟩
    · rw [a1] at b1; cases b1
  · rcases h2 with ⟨b1, _⟩ | ⟨_, b2, b3⟩
    · rw [a1] at b1; cases b1
    · obtain ⟨hM, he⟩ := moved_of hE hc a1
      subst he
      refine ⟨?_, a2.trans b2.symm⟩
      rw [b3, Mp.eq_iff]
      exact ⟨hM.runs a5, a3, a4⟩
theorem done_next {m m1 : Mp} {e : Int} (hE : -9223372036854775808 ≤ m.E ∧ m.E ≤ 9223372036854775807) (hc : checkB m = true) (h1 : DonePost m e m1 0) : checkB m1 = true ∧ m1.E = m.E ∧ doneNo m e = false := by
  rcases h1 with ⟨_, _, a3⟩ | ⟨a1, a2, a3, a4, a5⟩
  · cases a3
  · obtain ⟨hM, he⟩ := moved_of hE hc a1
    subst he
    have := hM.done a5
    refine ⟨?_, a3, a1⟩
    rw [show m1 = ⟨m1.R, m.E, Mv.zero⟩ from Mp.eq_iff.2 ⟨rfl, a3, a4⟩]; exact this
theorem plan_code {m : Mp} {x : Mv} (h : (planM m x).2 = 0) : planned m x = 0 := by
  by_cases q : planned m x = 0
  · exact q
  · rw [planM_no q] at h; exact h
theorem plan_next {m : Mp} {x : Mv} (hE : -9223372036854775808 ≤ m.E ∧ m.E ≤ 9223372036854775807) (hc : checkB m = true) (h : (planM m x).2 = 0) : checkB (planM m x).1 = true ∧ -9223372036854775808 ≤ (planM m x).1.E ∧ (planM m x).1.E ≤ 9223372036854775807 ∧ m.M = Mv.zero := by
  have hp := plan_code h
  have hlt := planned_lt hp
  rw [planM_yes hp]
  obtain ⟨h1, h2⟩ := check_plan hE hc hp
  exact ⟨h1, by show -9223372036854775808 ≤ m.E + 1; omega, by show m.E + 1 ≤ 9223372036854775807; omega, h2⟩
theorem zero_no {m : Mp} {e : Int} (h : m.M = Mv.zero) : doneNo m e = true := by unfold doneNo; rw [h]; rfl
def MpIn (m : Mp) : Prop := (-9223372036854775808 ≤ m.E ∧ m.E ≤ 9223372036854775807) ∧ In64 m.M.ints ∧ ∀ r ∈ m.R, In64 r.ints
abbrev Mvs (w : World) (v : Value) (l : List Mv) : Prop := Row w v l.length 5 (l.flatMap Mv.c)
theorem Mvs.el {l : List Mv} {k : Nat} (hk : k < l.length) : ((l.flatMap Mv.c).drop (k * 5)).take 5 = l[k].c := flat_el Mv.c_len hk
theorem Mvs.get {l : List Mv} {k : Nat} (hk : k < l.length) {off : Nat} (ho : off < 5) : (l.flatMap Mv.c)[k * 5 + off]? = l[k].c[off]? := flat_get Mv.c_len hk ho
theorem two_ok (w : World) : FnOk Try.prog 50 [] w (fun r w' => (∃ u, r = agg (twoM.c u) ∧ OwnR w' w.heap.size 41 u twoM.R) ∧ Ext w w') := by
  refine FnOk.enterC (rs := [.cell 0 26]) Try.func50 rfl Try.ntmps50 Try.results50 rfl rfl ?_
  refine WF.seq ?_
  refine WF.region ?_
  refine WL.op rfl (OW.allocO (cs := [.slice none 0 0, i64 0, i64 0, i64 0, i64 0, i64 0, i64 0]) Try.zeroValue26 rfl ?_ (by decide))
  intro g0 w1 heg0 hlg0 hO0 hx3
  have := World.grownBy.size hx3
  refine WL.nil ?_
  refine thn_n ?_
  refine WF.seq ?_
  refine WF.region ?_
  refine WL.va rfl rfl rfl (X.buildL (P := Try.prog) (t := 41) (cs := (Rg.c ⟨0, 32, 1, 1⟩)) (evp_cons rfl (evp_cons rfl (evp_cons rfl (evp_cons rfl evp_nil)))) Try.type41 Try.underlying41 rfl rfl ⟨rfl, rfl, rfl, rfl, trivial⟩ rfl) ?_
  refine WL.va rfl rfl rfl (X.buildL (P := Try.prog) (t := 41) (cs := (Rg.c ⟨32, 64, 2, 1⟩)) (evp_cons rfl (evp_cons rfl (evp_cons rfl (evp_cons rfl evp_nil)))) Try.type41 Try.underlying41 rfl rfl ⟨rfl, rfl, rfl, rfl, trivial⟩ rfl) ?_
  refine WL.op rfl (OW.lits (vs := [agg (Rg.c ⟨0, 32, 1, 1⟩), agg (Rg.c ⟨32, 64, 2, 1⟩)]) (evp_cons rfl (evp_cons rfl evp_nil)) Try.underlying22 Try.sizeOf41 Try.zeroValue41 ⟨rfl, rfl, trivial⟩ rfl rfl rfl ?_ (by decide))
  intro vt w5 ho7 hx6
  have := World.grownBy.size hx6
  have ot : OwnR w5 _ 41 vt twoM.R := ho7
  have otT := OwnT.of ot
  refine WL.va rfl rfl rfl (X.buildL (P := Try.prog) (t := 26) (cs := (twoM.c vt)) (evp_cons rfl (evp_cons rfl evp_nil)) Try.type26 Try.underlying26 rfl rfl ⟨own_one ot, rfl, trivial⟩ rfl) ?_
  refine WL.op rfl (OW.storeOA (hO0.ext hx6) rfl rfl rfl (Mp.c_one (Row.of_own ot) twoM) Try.sizeOf26 ?_)
  intro w8 hO0 hx10
  have := World.grownBy.size hx10
  replace otT := otT.keptO hx10 (by omega)
  refine WL.nil ?_
  refine thn_n ?_
  refine WF.ret ?_
  refine finC_r (vs := [_]) ⟨⟨_, rfl, readO hO0 Try.isAgg26 Try.sizeOf26⟩, trivial⟩ ?_
  exact ⟨⟨_, rfl, own_mono otT.own (by omega)⟩, (Ext.store (Ext.trans hx3 hx6) hx10 (by omega))⟩

theorem planT {v : Value} (w : World) (hv : Rgs w v twoM.R) : FnOk Try.prog 15 [agg (twoM.c v), agg movA.c] w (fun r w' => (∃ u, r = .tuple #[agg (twoA.c u), i64 0] ∧ OwnR w' w.heap.size 41 u twoA.R) ∧ Ext w w') := by
  have := plan_ok twoM v movA w hv (by decide) (by decide)
  rwa [two_plan] at this
theorem doneT {v : Value} (w : World) (hv : Rgs w v twoA.R) : FnOk Try.prog 17 [agg (twoA.c v), i64 2] w (fun r w' => (∃ u, r = .tuple #[agg (twoB.c u), i64 0] ∧ OwnR w' w.heap.size 41 u twoB.R) ∧ Ext w w') :=
  (doneC_ok twoA v 2 w hv (by decide)).mono fun r w' ⟨⟨u, m', c, h1, h2, h3⟩, h4⟩ => by
    obtain ⟨rfl, rfl⟩ := two_done h3
    exact ⟨⟨u, h1, h2⟩, h4⟩
theorem findT {v : Value} (w : World) (hv : Rgs w v twoB.R) : FnOk Try.prog 23 [agg (twoB.c v), i64 24] w (fun r w' => r = .tuple #[agg (Rg.c ⟨24, 64, 2, 2⟩), .bool true] ∧ Ext w w') := by
  have := findC_ok twoB v 24 w hv
  rwa [two_find] at this
set_option maxHeartbeats 2000000 in
theorem known_ok (w : World) : FnOk Try.prog 13 [] w (fun r w' => r = .bool true ∧ Ext w w') := by
  refine FnOk.enter (rs := [0]) Try.func13 rfl Try.ntmps13 Try.results13 rfl rfl ?_
  refine WF.seq ?_
  refine WF.region ?_
  refine WL.va rfl rfl rfl (X.assignB rfl) ?_
  refine WL.nil ?_
  refine thn_n ?_
  refine WF.seq ?_
  refine WF.region ?_
  refine WL.c rfl rfl rfl (X.call Try.call50 evl_nil) (two_ok _) ?_
  rintro v2 w0t ⟨⟨v0, rfl, o0⟩, hx3⟩
  refine WL.va rfl rfl rfl (X.buildL (P := Try.prog) (t := 24) (cs := (Mv.c movA)) (evp_cons rfl (evp_cons rfl (evp_cons rfl (evp_cons rfl evp_nil)))) Try.type24 Try.underlying24 rfl rfl ⟨rfl, rfl, rfl, rfl, trivial⟩ rfl) ?_
  refine WL.c rfl rfl rfl (X.call Try.call15 (evl_cons rfl (evl_cons rfl evl_nil))) (planT _ (Row.ext (Row.of_own o0) (Ext.refl w0t))) ?_
  rintro v4 wA ⟨⟨vA, rfl, oA⟩, hx5⟩
  refine WL.va rfl rfl rfl (X.move rfl) ?_
  refine WL.va rfl rfl rfl (X.extract rfl rfl) ?_
  refine WL.va rfl rfl rfl (X.extract rfl rfl) ?_
  refine WL.op rfl (OW.allocO (cs := [.slice none 0 0, i64 0, i64 0, i64 0, i64 0, i64 0, i64 0]) Try.zeroValue26 rfl ?_ (by decide))
  intro g1 w6 heg1 hlg1 hO1 hx8
  have := World.grownBy.size hx8
  refine WL.op rfl (OW.storeOA hO1 rfl rfl rfl (Mp.c_one (Row.of_own oA) twoA) Try.sizeOf26 ?_)
  intro w10 hO1 hx12
  have := World.grownBy.size hx12
  refine WL.va rfl rfl rfl (X.assignI rfl) ?_
  refine WL.nil ?_
  refine thn_n ?_
  refine WF.seq ?_
  refine WF.region ?_
  refine WL.va rfl rfl rfl (X.loadOA hO1 (Ext.refl _) rfl rfl Try.isAgg26 Try.sizeOf26) ?_
  refine WL.c rfl rfl rfl (X.call Try.call17 (evl_cons rfl (evl_cons rfl evl_nil))) (doneT _ (Row.ext (Row.of_own oA) (Ext.store hx8 hx12 (by omega)))) ?_
  rintro v14 wB ⟨⟨vB, rfl, oB⟩, hx15⟩
  have := World.grownBy.size hx15
  refine WL.va rfl rfl rfl (X.move rfl) ?_
  refine WL.va rfl rfl rfl (X.extract rfl rfl) ?_
  refine WL.va rfl rfl rfl (X.extract rfl rfl) ?_
  refine WL.op rfl (OW.allocO (cs := [.slice none 0 0, i64 0, i64 0, i64 0, i64 0, i64 0, i64 0]) Try.zeroValue26 rfl ?_ (by decide))
  intro g3 w16 heg3 hlg3 hO3 hx18
  have := World.grownBy.size hx18
  refine WL.op rfl (OW.storeOA hO3 rfl rfl rfl (Mp.c_one (Row.of_own oB) twoB) Try.sizeOf26 ?_)
  intro w20 hO3 hx22
  have := World.grownBy.size hx22
  replace hO1 := (hO1.ext (Ext.trans hx15 hx18)).keptO hx22 (by omega)
  refine WL.va rfl rfl rfl (X.assignI rfl) ?_
  refine WL.nil ?_
  refine thn_n ?_
  refine WF.seq ?_
  refine WF.region ?_
  refine WL.va rfl rfl rfl (X.loadOA hO3 (Ext.refl _) rfl rfl Try.isAgg26 Try.sizeOf26) ?_
  refine WL.c rfl rfl rfl (X.call Try.call23 (evl_cons rfl (evl_cons rfl evl_nil))) (findT _ (Row.ext (Row.of_own oB) (Ext.store hx18 hx22 (by omega)))) ?_
  rintro v25 w24 ⟨rfl, hx26⟩
  have := World.grownBy.size hx26
  refine WL.va rfl rfl rfl (X.move rfl) ?_
  refine WL.va rfl rfl rfl (X.extract rfl rfl) ?_
  refine WL.va rfl rfl rfl (X.extract rfl rfl) ?_
  refine WL.op rfl (OW.allocO (cs := [i64 0, i64 0, i64 0, i64 0]) Try.zeroValue41 rfl ?_ (by decide))
  intro g5 w28 heg5 hlg5 hO5 hx30
  have := World.grownBy.size hx30
  refine WL.op rfl (OW.storeOA hO5 rfl rfl rfl (Rg.c_one ⟨24, 64, 2, 2⟩) Try.sizeOf41 ?_)
  intro w32 hO5 hx34
  have := World.grownBy.size hx34
  replace hO1 := (hO1.ext (Ext.trans hx26 hx30)).keptO hx34 (by omega)
  replace hO3 := (hO3.ext (Ext.trans hx26 hx30)).keptO hx34 (by omega)
  refine WL.va rfl rfl rfl (X.assignB rfl) ?_
  refine WL.nil ?_
  refine thn_n ?_
  refine WF.seq ?_
  refine WF.region ?_
  refine WL.va rfl rfl rfl (X.moveI rfl) ?_
  refine WL.va rfl rfl rfl (X.eql rfl rfl) ?_
  refine WL.va rfl rfl rfl (X.moveB rfl) ?_
  refine WL.vg rfl rfl rfl rfl (X.moveI rfl) ?_
  refine WL.vg rfl rfl rfl rfl (X.eql rfl rfl) ?_
  refine WL.va rfl rfl rfl (X.pickT rfl rfl rfl) ?_
  refine WL.va rfl rfl rfl (X.moveB rfl) ?_
  refine WL.vg rfl rfl rfl rfl (X.fieldAddrO (off := 2) rfl Try.underlying26 rfl rfl Try.sizeOf24) ?_
  refine WL.vg rfl rfl rfl rfl (X.loadOP hO1 (Ext.refl _) rfl rfl rfl Try.isAgg24 Try.sizeOf24) ?_
  refine WL.vg rfl rfl rfl rfl (X.buildL (P := Try.prog) (t := 24) (cs := (Mv.c ⟨2, 1, 2, 24, 32⟩)) (evp_cons rfl (evp_cons rfl (evp_cons rfl (evp_cons rfl (evp_cons rfl evp_nil))))) Try.type24 Try.underlying24 rfl rfl ⟨rfl, rfl, rfl, rfl, rfl, trivial⟩ rfl) ?_
  refine WL.vg rfl rfl rfl rfl (X.eqlA (na := twoA.M.ints) (nb := twoA.M.ints) flatM fieldsM offsM rfl rfl rfl rfl (Mv.eqB _ _)) ?_
  refine WL.va rfl rfl rfl (X.pickT rfl rfl rfl) ?_
  refine WL.va rfl rfl rfl (X.moveB rfl) ?_
  refine WL.vg rfl rfl rfl rfl (X.moveB rfl) ?_
  refine WL.va rfl rfl rfl (X.pickT rfl rfl rfl) ?_
  refine WL.va rfl rfl rfl (X.moveB rfl) ?_
  refine WL.split (j := 15) rfl (fun h39 => ?_) (fun h39 => ?_)
  · have gh39 := h39
    refine WL.vg rfl (congrArg some h39) rfl rfl (X.loadOA hO5 (Ext.refl _) rfl rfl Try.isAgg41 Try.sizeOf41) ?_
    refine WL.vg rfl (congrArg some h39) rfl rfl (X.buildL (P := Try.prog) (t := 41) (cs := (Rg.c ⟨24, 64, 2, 2⟩)) (evp_cons rfl (evp_cons rfl (evp_cons rfl (evp_cons rfl evp_nil)))) Try.type41 Try.underlying41 rfl rfl ⟨rfl, rfl, rfl, rfl, trivial⟩ rfl) ?_
    refine WL.vg rfl (congrArg some h39) rfl rfl (X.eqlA (na := (Rg.ints ⟨24, 64, 2, 2⟩)) (nb := (Rg.ints ⟨24, 64, 2, 2⟩)) flatR fieldsR offsR rfl rfl rfl rfl (Rg.eqB _ _)) ?_
    refine WL.va rfl rfl rfl (X.pickT rfl h39 rfl) ?_
    refine WL.va rfl rfl rfl (X.moveB rfl) ?_
    refine WL.vg rfl rfl rfl rfl (X.fieldAddrO (off := 0) rfl Try.underlying26 rfl rfl Try.sizeOf22) ?_
    refine WL.vg rfl rfl rfl rfl (X.loadO hO3 (Ext.refl _) rfl rfl Try.isAgg22) ?_
    refine WL.vg rfl rfl rfl rfl (X.len (Row.of_own oB) rfl Try.underlying22) ?_
    refine WL.vg rfl rfl rfl rfl (X.eql rfl rfl) ?_
    refine WL.va rfl rfl rfl (X.pickT rfl rfl rfl) ?_
    refine WL.va rfl rfl rfl (X.assignB rfl) ?_
    refine WL.nil ?_
    refine thn_n ?_
    refine WF.ret ?_
    refine fin_r ?_
    exact ⟨rfl, (Ext.trans (Ext.trans (Ext.trans (Ext.trans (Ext.trans (Ext.trans hx3 hx5) (Ext.store hx8 hx12 (by omega))) hx15) (Ext.store hx18 hx22 (by omega))) hx26) (Ext.store hx30 hx34 (by omega)))⟩
  · have gh39 := h39
    cases gh39

end Go.Proofs.Ytpimnlgfhpnjnaa
