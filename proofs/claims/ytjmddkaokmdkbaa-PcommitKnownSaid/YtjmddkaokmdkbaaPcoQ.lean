/- The walk of PcommitKnown. -/
import Derived.Test.YtjmddkaokmdkbaaPcoP
namespace Go.Proofs.Ytjmddkaokmdkbaa
open Go Go.RowKit Kf
set_option maxRecDepth 20000

theorem X.neqPNN {P : Program} {f : Fr} {w : World} {dst : Option Tmp} {ty t e t' : TypeId} {pos : String} {aft : Array Edge} {gd : Option (Nat × Bool)} {x y : Operand} (hx : ev f x = .pointer none) (hy : ev f y = .pointer none) (ht : P.underlying t = some (.pointer e)) : (execOp (ev f) ⟨dst, .binOp .neq t x y t', ty, pos, aft, gd⟩).run P w = .ok (.value (.bool false)) w := by
  simp [execOp, hx, hy, eqGuard, binOp, run_equal_ptr_nn ht]
theorem keep_none {F F' : Fp Rl} {w : World} {B sz n : Nat} {e : TypeId} {v : Value} {cs : List Value} (o : w.ownsRow B e sz v n cs) (hn : ∀ b, v.ownBlock = some b → F b = none) (hle : F.le w F') : ∀ b, v.ownBlock = some b → F' b = none := fun b hb => by
  cases e1 : F' b with
  | none => rfl
  | some q =>
    rcases hle.new b (by rw [e1]; simp) with h | h
    · exact absurd (hn b hb) h
    · have := (o.lt b hb).2; omega
theorem OwnM.n {w : World} {B : Nat} {e : TypeId} {v : Value} {l : List Msg} {n : Nat} (h : OwnM w B e v l) (hn : l.length = n) : w.ownsRow B e 17 v n (l.flatMap Msg.bare) := by subst hn; exact h
theorem step_to {F : Fp Rl} {g : Nat} {c : CC} {m : Msg} {w : World} {l : List Msg} (h : CAt w F g c) (hok : c.ok) (e : (c.step m).2 = l) : FnOk Try.prog 14 [at_ g, agg m.bare] w (fun r w' => OwnM w' w.heap.size 40 r l ∧ CPost w w' F g (c.step m).1 r) := by
  have := step_ok F g c m nilS nilS w h hok
  rwa [e] at this
theorem start_to {F : Fp Rl} {g : Nat} {c : CC} {b : Int} {w : World} {l : List Msg} (h : CAt w F g c) (hok : c.ok) (e : c.startM b = l) : FnOk Try.prog 12 [at_ g, i64 b] w (fun r w' => OwnM w' w.heap.size 40 r l ∧ CPost w w' F g (c.started b) r) := by
  have := start_ok F g c b w h hok
  rwa [e] at this
theorem top_at {F : Fp Rl} {g : Nat} {c : CC} {w : World} {v : Int} (h : CAt w F g c) (e : c.top = v) : FnOk Try.prog 19 [at_ g] w (fun r w' => r = i64 v ∧ Ext w w') := by
  have := top_ok F g c w h
  rwa [e] at this
def km0 : Msg := { Msg.zero with Txn := 5, Kind := 9, From := 1, Part := 3, Ballot := 9, Ok := true }
def km1 : Msg := { Msg.zero with Txn := 5, Kind := 9, From := 1, Part := 3, Ballot := 9, Ok := true }
def km2 : Msg := { Msg.zero with Txn := 5, Kind := 9, From := 3, Part := 3, Ballot := 8, Ok := true, Value := 2 }
def km3 : Msg := { Msg.zero with Txn := 5, Kind := 9, From := 2, Part := 3, Ballot := 9, Ok := true, Value := 1 }
def km4 : Msg := { Msg.zero with Txn := 5, Kind := 9, From := 3, Part := 3, Ballot := 9, Ok := true, Index := 4, Value := 2 }
def km5 : Msg := { Msg.zero with Txn := 5, Kind := 9, From := 2, Part := 1, Ballot := 9, Ok := true }
def km6 : Msg := { Msg.zero with Txn := 5, Kind := 9, From := 3, Part := 1, Ballot := 9, Ok := true }
def km7 : Msg := { Msg.zero with Txn := 5, Kind := 11, From := 1, Part := 1, Ballot := 9, Ok := true, Value := 2 }
def km8 : Msg := { Msg.zero with Txn := 5, Kind := 11, From := 1, Part := 1, Ballot := 9, Ok := true, Value := 2 }
def km9 : Msg := { Msg.zero with Txn := 5, Kind := 11, From := 2, Part := 1, Ballot := 8, Ok := true, Value := 2 }
def km10 : Msg := { Msg.zero with Txn := 5, Kind := 11, From := 4, Part := 1, Ballot := 9, Ok := true, Value := 2 }
def km11 : Msg := { Msg.zero with Txn := 5, Kind := 9, From := 2, Part := 1, Ballot := 9, Index := 40 }
def km12 : Msg := { Msg.zero with Txn := 5, Kind := 11, From := 2, Part := 1, Ballot := 9, Index := 30, Value := 2 }
def km13 : Msg := { Msg.zero with Txn := 5, Kind := 11, From := 4, Part := 1, Ballot := 9, Index := 50 }
def km14 : Msg := { Msg.zero with Txn := 5, Kind := 11, From := 3, Part := 1, Ballot := 9, Ok := true, Value := 2 }
def kq0 : CC := kc0.started 9
def kq1 : CC := (kq0.step km0).1
def kq2 : CC := (kq1.step km1).1
def kq3 : CC := (kq2.step km2).1
def kq4 : CC := (kq3.step km3).1
def kq5 : CC := (kq4.step km4).1
def kq6 : CC := (kq5.step km5).1
def kq7 : CC := (kq6.step km6).1
def kq8 : CC := (kq7.step km7).1
def kq9 : CC := (kq8.step km8).1
def kq10 : CC := (kq9.step km9).1
def kq11 : CC := (kq10.step km10).1
def kq12 : CC := (kq11.step km11).1
def kq13 : CC := (kq12.step km12).1
def kq14 : CC := (kq13.step km13).1
def kq15 : CC := (kq14.step km14).1
theorem kqok0 : kq0.ok := kok0.started 9
theorem kqok1 : kq1.ok := kqok0.step
theorem kqok2 : kq2.ok := kqok1.step
theorem kqok3 : kq3.ok := kqok2.step
theorem kqok4 : kq4.ok := kqok3.step
theorem kqok5 : kq5.ok := kqok4.step
theorem kqok6 : kq6.ok := kqok5.step
theorem kqok7 : kq7.ok := kqok6.step
theorem kqok8 : kq8.ok := kqok7.step
theorem kqok9 : kq9.ok := kqok8.step
theorem kqok10 : kq10.ok := kqok9.step
theorem kqok11 : kq11.ok := kqok10.step
theorem kqok12 : kq12.ok := kqok11.step
theorem kqok13 : kq13.ok := kqok12.step
theorem kqok14 : kq14.ok := kqok13.step
theorem kqok15 : kq15.ok := kqok14.step
def outA : List Msg := allM 101 5 9 3 (asks 1) ++ allM 101 5 9 3 (asks 3)
def outT : List Msg := allM 101 5 9 3 (says 3 1)
def outF : List Msg := allM 101 5 9 3 (says 1 2)
def outB : List Msg := allM 101 5 17 3 (asks 3)
theorem outA_eq : kc0.startM 9 = outA := by decide
theorem outB_eq : kq15.startM 17 = outB := by decide
theorem kout0 : (kq0.step km0).2 = [] := by decide
theorem kout1 : (kq1.step km1).2 = [] := by decide
theorem kout2 : (kq2.step km2).2 = [] := by decide
theorem kout3 : (kq3.step km3).2 = outT := by decide
theorem kout4 : (kq4.step km4).2 = [] := by decide
theorem kout5 : (kq5.step km5).2 = [] := by decide
theorem kout6 : (kq6.step km6).2 = outF := by decide
theorem kout7 : (kq7.step km7).2 = [] := by decide
theorem kout8 : (kq8.step km8).2 = [] := by decide
theorem kout9 : (kq9.step km9).2 = [] := by decide
theorem kout10 : (kq10.step km10).2 = [] := by decide
theorem kout11 : (kq11.step km11).2 = [] := by decide
theorem kout12 : (kq12.step km12).2 = [] := by decide
theorem kout13 : (kq13.step km13).2 = [] := by decide
theorem kout14 : (kq14.step km14).2 = [] := by decide
theorem kval14 : kq14.value = 0 := by decide
theorem kval15 : kq15.value = 2 := by decide
theorem ktop : kq15.top = 40 := by decide
/-- what is refused -/
abbrev BadE := (Int × Int × Int × List Int) × Value
abbrev BadE.c (e : BadE) : List Value := [i64 e.1.1, i64 e.1.2.1, i64 e.1.2.2.1, e.2]
theorem BadE.c_len (e : BadE) : e.c.length = 4 := rfl
def badL : List (Int × Int × Int × List Int) := [(0, 5, 3, [1]), (200, 5, 3, [1]), (1, 0, 3, [1]), (1, 5, 3, []), (1, 5, 3, [3, 1]), (1, 5, 3, [0]), (1, 5, 3, [5]), (1, 5, 4, [1]), (1, 5, 9, [1]), (1, 5, -1, [1]), (1, 5, 3, [2, 2])]
theorem bad_no : ∀ x ∈ badL, newOk x.1 x.2.1 x.2.2.1 x.2.2.2 = false := by decide
theorem newB_ok {me txn nac : Int} {l : List Int} {v : Value} {w : World} (hb : Ints w v l) (h : newOk me txn nac l = false) : FnOk Try.prog 8 [i64 me, i64 txn, v, i64 nac] w (fun r w' => r = .tuple #[.pointer none, i64 3] ∧ Ext w w') := newN_ok me txn nac v l w hb h
set_option maxHeartbeats 8000000 in
theorem pcommitKnown_walk (w : World) : FnOk Try.prog 4 [] w (fun r w' => r = .bool true ∧ Ext w w') := by
  refine FnOk.enter (rs := [0]) Try.func4 rfl Try.ntmps4 Try.results4 rfl rfl ?_
  refine WF.seq ?_
  refine WF.region ?_
  refine WL.va rfl rfl rfl (X.assignB rfl) ?_
  refine WL.nil ?_
  refine thn_n ?_
  refine WF.seq ?_
  refine WF.region ?_
  refine WL.op rfl (OW.lits (vs := [_]) (evp_cons rfl evp_nil) Try.underlying22 Try.sizeOf3 Try.zeroValue3 ⟨rfl, trivial⟩ rfl rfl rfl ?_ (by decide))
  intro vs15 wb15 ho3 hx2
  have hs15 : Ints wb15 vs15 [1] := Row.of_own ho3
  refine WL.va rfl rfl rfl (X.buildT (P := Try.prog) (t := 24) (cs := (BadE.c ((0, 5, 3, [1]), vs15))) (zs := [i64 0, i64 0, i64 0, .slice none 0 0]) (places := [(0, 1), (1, 1), (2, 1), (3, 1)]) (n := 4) (evp_cons rfl (evp_cons rfl (evp_cons rfl (evp_cons rfl evp_nil)))) Try.type24 Try.underlying24 rfl rfl ⟨rfl, rfl, rfl, Row.one hs15, trivial⟩ rfl rfl rfl) ?_
  refine WL.op rfl (OW.lits (vs := [_]) (evp_cons rfl evp_nil) Try.underlying22 Try.sizeOf3 Try.zeroValue3 ⟨rfl, trivial⟩ rfl rfl rfl ?_ (by decide))
  intro vs17 wb17 ho5 hx4
  have hs17 : Ints wb17 vs17 [1] := Row.of_own ho5
  refine WL.va rfl rfl rfl (X.buildT (P := Try.prog) (t := 24) (cs := (BadE.c ((200, 5, 3, [1]), vs17))) (zs := [i64 0, i64 0, i64 0, .slice none 0 0]) (places := [(0, 1), (1, 1), (2, 1), (3, 1)]) (n := 4) (evp_cons rfl (evp_cons rfl (evp_cons rfl (evp_cons rfl evp_nil)))) Try.type24 Try.underlying24 rfl rfl ⟨rfl, rfl, rfl, Row.one hs17, trivial⟩ rfl rfl rfl) ?_
  refine WL.op rfl (OW.lits (vs := [_]) (evp_cons rfl evp_nil) Try.underlying22 Try.sizeOf3 Try.zeroValue3 ⟨rfl, trivial⟩ rfl rfl rfl ?_ (by decide))
  intro vs19 wb19 ho7 hx6
  have hs19 : Ints wb19 vs19 [1] := Row.of_own ho7
  refine WL.va rfl rfl rfl (X.buildT (P := Try.prog) (t := 24) (cs := (BadE.c ((1, 0, 3, [1]), vs19))) (zs := [i64 0, i64 0, i64 0, .slice none 0 0]) (places := [(0, 1), (1, 1), (2, 1), (3, 1)]) (n := 4) (evp_cons rfl (evp_cons rfl (evp_cons rfl (evp_cons rfl evp_nil)))) Try.type24 Try.underlying24 rfl rfl ⟨rfl, rfl, rfl, Row.one hs19, trivial⟩ rfl rfl rfl) ?_
  refine WL.va rfl rfl rfl (X.buildT (P := Try.prog) (t := 24) (cs := (BadE.c ((1, 5, 3, []), nilS))) (zs := [i64 0, i64 0, i64 0, .slice none 0 0]) (places := [(0, 1), (1, 1), (2, 1), (3, 1)]) (n := 4) (evp_cons rfl (evp_cons rfl (evp_cons rfl evp_nil))) Try.type24 Try.underlying24 rfl rfl ⟨rfl, rfl, rfl, trivial⟩ rfl rfl rfl) ?_
  refine WL.op rfl (OW.lits (vs := [_, _]) (evp_cons rfl (evp_cons rfl evp_nil)) Try.underlying22 Try.sizeOf3 Try.zeroValue3 ⟨rfl, rfl, trivial⟩ rfl rfl rfl ?_ (by decide))
  intro vs22 wb22 ho9 hx8
  have hs22 : Ints wb22 vs22 [3, 1] := Row.of_own ho9
  refine WL.va rfl rfl rfl (X.buildT (P := Try.prog) (t := 24) (cs := (BadE.c ((1, 5, 3, [3, 1]), vs22))) (zs := [i64 0, i64 0, i64 0, .slice none 0 0]) (places := [(0, 1), (1, 1), (2, 1), (3, 1)]) (n := 4) (evp_cons rfl (evp_cons rfl (evp_cons rfl (evp_cons rfl evp_nil)))) Try.type24 Try.underlying24 rfl rfl ⟨rfl, rfl, rfl, Row.one hs22, trivial⟩ rfl rfl rfl) ?_
  refine WL.op rfl (OW.lits (vs := [_]) (evp_cons rfl evp_nil) Try.underlying22 Try.sizeOf3 Try.zeroValue3 ⟨rfl, trivial⟩ rfl rfl rfl ?_ (by decide))
  intro vs24 wb24 ho11 hx10
  have hs24 : Ints wb24 vs24 [0] := Row.of_own ho11
  refine WL.va rfl rfl rfl (X.buildT (P := Try.prog) (t := 24) (cs := (BadE.c ((1, 5, 3, [0]), vs24))) (zs := [i64 0, i64 0, i64 0, .slice none 0 0]) (places := [(0, 1), (1, 1), (2, 1), (3, 1)]) (n := 4) (evp_cons rfl (evp_cons rfl (evp_cons rfl (evp_cons rfl evp_nil)))) Try.type24 Try.underlying24 rfl rfl ⟨rfl, rfl, rfl, Row.one hs24, trivial⟩ rfl rfl rfl) ?_
  refine WL.op rfl (OW.lits (vs := [_]) (evp_cons rfl evp_nil) Try.underlying22 Try.sizeOf3 Try.zeroValue3 ⟨rfl, trivial⟩ rfl rfl rfl ?_ (by decide))
  intro vs26 wb26 ho13 hx12
  have hs26 : Ints wb26 vs26 [5] := Row.of_own ho13
  refine WL.va rfl rfl rfl (X.buildT (P := Try.prog) (t := 24) (cs := (BadE.c ((1, 5, 3, [5]), vs26))) (zs := [i64 0, i64 0, i64 0, .slice none 0 0]) (places := [(0, 1), (1, 1), (2, 1), (3, 1)]) (n := 4) (evp_cons rfl (evp_cons rfl (evp_cons rfl (evp_cons rfl evp_nil)))) Try.type24 Try.underlying24 rfl rfl ⟨rfl, rfl, rfl, Row.one hs26, trivial⟩ rfl rfl rfl) ?_
  refine WL.op rfl (OW.lits (vs := [_]) (evp_cons rfl evp_nil) Try.underlying22 Try.sizeOf3 Try.zeroValue3 ⟨rfl, trivial⟩ rfl rfl rfl ?_ (by decide))
  intro vs28 wb28 ho15 hx14
  have hs28 : Ints wb28 vs28 [1] := Row.of_own ho15
  refine WL.va rfl rfl rfl (X.buildT (P := Try.prog) (t := 24) (cs := (BadE.c ((1, 5, 4, [1]), vs28))) (zs := [i64 0, i64 0, i64 0, .slice none 0 0]) (places := [(0, 1), (1, 1), (2, 1), (3, 1)]) (n := 4) (evp_cons rfl (evp_cons rfl (evp_cons rfl (evp_cons rfl evp_nil)))) Try.type24 Try.underlying24 rfl rfl ⟨rfl, rfl, rfl, Row.one hs28, trivial⟩ rfl rfl rfl) ?_
  refine WL.op rfl (OW.lits (vs := [_]) (evp_cons rfl evp_nil) Try.underlying22 Try.sizeOf3 Try.zeroValue3 ⟨rfl, trivial⟩ rfl rfl rfl ?_ (by decide))
  intro vs30 wb30 ho17 hx16
  have hs30 : Ints wb30 vs30 [1] := Row.of_own ho17
  refine WL.va rfl rfl rfl (X.buildT (P := Try.prog) (t := 24) (cs := (BadE.c ((1, 5, 9, [1]), vs30))) (zs := [i64 0, i64 0, i64 0, .slice none 0 0]) (places := [(0, 1), (1, 1), (2, 1), (3, 1)]) (n := 4) (evp_cons rfl (evp_cons rfl (evp_cons rfl (evp_cons rfl evp_nil)))) Try.type24 Try.underlying24 rfl rfl ⟨rfl, rfl, rfl, Row.one hs30, trivial⟩ rfl rfl rfl) ?_
  refine WL.op rfl (OW.lits (vs := [_]) (evp_cons rfl evp_nil) Try.underlying22 Try.sizeOf3 Try.zeroValue3 ⟨rfl, trivial⟩ rfl rfl rfl ?_ (by decide))
  intro vs32 wb32 ho19 hx18
  have hs32 : Ints wb32 vs32 [1] := Row.of_own ho19
  refine WL.va rfl rfl rfl (X.buildT (P := Try.prog) (t := 24) (cs := (BadE.c ((1, 5, -1, [1]), vs32))) (zs := [i64 0, i64 0, i64 0, .slice none 0 0]) (places := [(0, 1), (1, 1), (2, 1), (3, 1)]) (n := 4) (evp_cons rfl (evp_cons rfl (evp_cons rfl (evp_cons rfl evp_nil)))) Try.type24 Try.underlying24 rfl rfl ⟨rfl, rfl, rfl, Row.one hs32, trivial⟩ rfl rfl rfl) ?_
  refine WL.op rfl (OW.lits (vs := [_, _]) (evp_cons rfl (evp_cons rfl evp_nil)) Try.underlying22 Try.sizeOf3 Try.zeroValue3 ⟨rfl, rfl, trivial⟩ rfl rfl rfl ?_ (by decide))
  intro vs34 wb34 ho21 hx20
  have hs34 : Ints wb34 vs34 [2, 2] := Row.of_own ho21
  refine WL.va rfl rfl rfl (X.buildT (P := Try.prog) (t := 24) (cs := (BadE.c ((1, 5, 3, [2, 2]), vs34))) (zs := [i64 0, i64 0, i64 0, .slice none 0 0]) (places := [(0, 1), (1, 1), (2, 1), (3, 1)]) (n := 4) (evp_cons rfl (evp_cons rfl (evp_cons rfl (evp_cons rfl evp_nil)))) Try.type24 Try.underlying24 rfl rfl ⟨rfl, rfl, rfl, Row.one hs34, trivial⟩ rfl rfl rfl) ?_
  refine WL.op rfl (OW.lits (vs := [agg (BadE.c ((0, 5, 3, [1]), vs15)), agg (BadE.c ((200, 5, 3, [1]), vs17)), agg (BadE.c ((1, 0, 3, [1]), vs19)), agg (BadE.c ((1, 5, 3, []), nilS)), agg (BadE.c ((1, 5, 3, [3, 1]), vs22)), agg (BadE.c ((1, 5, 3, [0]), vs24)), agg (BadE.c ((1, 5, 3, [5]), vs26)), agg (BadE.c ((1, 5, 4, [1]), vs28)), agg (BadE.c ((1, 5, 9, [1]), vs30)), agg (BadE.c ((1, 5, -1, [1]), vs32)), agg (BadE.c ((1, 5, 3, [2, 2]), vs34))]) (evp_cons rfl (evp_cons rfl (evp_cons rfl (evp_cons rfl (evp_cons rfl (evp_cons rfl (evp_cons rfl (evp_cons rfl (evp_cons rfl (evp_cons rfl (evp_cons rfl evp_nil))))))))))) Try.underlying53 Try.sizeOf24 Try.zeroValue24 ⟨rfl, rfl, rfl, rfl, rfl, rfl, rfl, rfl, rfl, rfl, rfl, trivial⟩ rfl rfl rfl ?_ (by decide))
  intro vB wB ho23 hx22
  obtain ⟨EB, hEB⟩ : ∃ E : List BadE, E = [((0, 5, 3, [1]), vs15), ((200, 5, 3, [1]), vs17), ((1, 0, 3, [1]), vs19), ((1, 5, 3, []), nilS), ((1, 5, 3, [3, 1]), vs22), ((1, 5, 3, [0]), vs24), ((1, 5, 3, [5]), vs26), ((1, 5, 4, [1]), vs28), ((1, 5, 9, [1]), vs30), ((1, 5, -1, [1]), vs32), ((1, 5, 3, [2, 2]), vs34)] := ⟨_, rfl⟩
  have hEL : EB.length = 11 := by rw [hEB]; rfl
  have hBr : Row wB vB 11 4 (EB.flatMap BadE.c) := by rw [hEB]; exact Row.of_own ho23
  have hBm : EB.map Prod.fst = badL := by rw [hEB]; rfl
  have hBI : ∀ e ∈ EB, Ints wB e.2 e.1.2.2.2 := by
    rw [hEB]
    intro e he
    simp only [List.mem_cons, List.not_mem_nil, or_false] at he
    rcases he with rfl | rfl | rfl | rfl | rfl | rfl | rfl | rfl | rfl | rfl | rfl
    · exact Row.ext hs15 (show Ext wb15 wB from (Ext.trans (Ext.trans (Ext.trans (Ext.trans (Ext.trans (Ext.trans (Ext.trans (Ext.trans (Ext.trans hx4 hx6) hx8) hx10) hx12) hx14) hx16) hx18) hx20) hx22))
    · exact Row.ext hs17 (show Ext wb17 wB from (Ext.trans (Ext.trans (Ext.trans (Ext.trans (Ext.trans (Ext.trans (Ext.trans (Ext.trans hx6 hx8) hx10) hx12) hx14) hx16) hx18) hx20) hx22))
    · exact Row.ext hs19 (show Ext wb19 wB from (Ext.trans (Ext.trans (Ext.trans (Ext.trans (Ext.trans (Ext.trans (Ext.trans hx8 hx10) hx12) hx14) hx16) hx18) hx20) hx22))
    · exact Ints.nil _
    · exact Row.ext hs22 (show Ext wb22 wB from (Ext.trans (Ext.trans (Ext.trans (Ext.trans (Ext.trans (Ext.trans hx10 hx12) hx14) hx16) hx18) hx20) hx22))
    · exact Row.ext hs24 (show Ext wb24 wB from (Ext.trans (Ext.trans (Ext.trans (Ext.trans (Ext.trans hx12 hx14) hx16) hx18) hx20) hx22))
    · exact Row.ext hs26 (show Ext wb26 wB from (Ext.trans (Ext.trans (Ext.trans (Ext.trans hx14 hx16) hx18) hx20) hx22))
    · exact Row.ext hs28 (show Ext wb28 wB from (Ext.trans (Ext.trans (Ext.trans hx16 hx18) hx20) hx22))
    · exact Row.ext hs30 (show Ext wb30 wB from (Ext.trans (Ext.trans hx18 hx20) hx22))
    · exact Row.ext hs32 (show Ext wb32 wB from (Ext.trans hx20 hx22))
    · exact Row.ext hs34 (show Ext wb34 wB from hx22)
  refine WL.va rfl rfl rfl (X.assign rfl) ?_
  refine WL.nil ?_
  refine thn_n ?_
  refine WF.seq ?_
  refine WF.seq ?_
  refine WF.region ?_
  refine WL.va rfl rfl rfl (X.assignI rfl) ?_
  refine WL.nil ?_
  refine thn_n ?_
  refine WF.block ?_
  refine WF.named (fun F24 hF25 => ?_)
  refine WF.loopN (fun mL0 f' w' => ∃ (k : Nat), mL0 = 11 - k ∧ f' 2 = .int .i64 (k : Int) ∧ Agree [1, 15, 16, 17, 18, 19, 20, 21, 22, 23, 24, 25, 26, 27, 28, 29, 30, 31, 32, 33, 34, 35, 36] f' F24 ∧ Ext wB w' ∧ k ≤ 11) ?_ ?_
  · exact ⟨_, 0, rfl, (congrFun hF25 2), (Agree.refl _ _), (Ext.refl _), (Nat.zero_le _)⟩
  · rintro mL0 fL0 wL0 ⟨k, hmL0, e2_L0, hAL0, hwL0, hk0⟩
    refine WF.seq ?_
    refine WF.seq ?_
    refine WF.region ?_
    refine WL.va rfl rfl rfl (X.moveI e2_L0) ?_
    refine WL.va rfl rfl rfl (X.move ((hAL0.eq 1).trans (congrFun hF25 1))) ?_
    refine WL.va rfl rfl rfl (X.len hBr rfl Try.underlying53) ?_
    refine WL.va rfl rfl rfl (X.lss rfl rfl) ?_
    refine WL.nil ?_
    refine thn_n ?_
    refine WF.cond rfl (fun h0_26 => ?_) (fun h0_26 => ?_)
    · have gh0_26 := (of_decide_eq_true h0_26)
      have hk11 : k < 11 := by omega
      have hk : k < EB.length := by omega
      refine WF.skip ?_
      refine thn_n ?_
      refine WF.seq ?_
      refine WF.block ?_
      refine WF.seq ?_
      refine WF.drawn (.q 0 (.q 1 (.q 2 (.q 3 (.q 4 (.q 5 (.q 6 (.q 7 (.q 8 (.q 9 (.q 10 (.q 11 (.q 12 (.q 13 (.q 14 (.q 15 (.q 16 (.q 17 (.q 18 (.q 19 (.l 20 (.q 21 (.q 22 (.q 23 (.q 24 (.q 25 .nil)))))))))))))))))))))))))) (fun w' => Ext wL0 w') 26 (by kernel_rfl) (by kernel_rfl) (Ext.drew _) ?_
      refine WO.q rfl rfl rfl rfl (fun w' hE28 => (X.move ((hAL0.eq 1).trans (congrFun hF25 1)))) ?_
      refine WO.q rfl rfl rfl rfl (fun w' hE28 => (X.moveI e2_L0)) ?_
      refine WO.q rfl rfl rfl rfl (fun w' hE28 => (X.idx hBr rfl rfl (by omega) Try.underlying53 Try.sizeOf24)) ?_
      refine WO.q rfl rfl rfl rfl (fun w' hE28 => (X.fieldAddrA rfl Try.underlying24 rfl rfl Try.sizeOf3)) ?_
      refine WO.q rfl rfl rfl rfl (fun w' hE28 => (X.loadE hBr (Ext.trans hwL0 hE28) rfl (by omega) ((flat_get BadE.c_len (l := EB) (k := k) (hEL ▸ hk11) (by decide)).trans rfl) Try.isAgg3)) ?_
      refine WO.q rfl rfl rfl rfl (fun w' hE28 => (X.move ((hAL0.eq 1).trans (congrFun hF25 1)))) ?_
      refine WO.q rfl rfl rfl rfl (fun w' hE28 => (X.moveI e2_L0)) ?_
      refine WO.q rfl rfl rfl rfl (fun w' hE28 => (X.idx hBr rfl rfl (by omega) Try.underlying53 Try.sizeOf24)) ?_
      refine WO.q rfl rfl rfl rfl (fun w' hE28 => (X.fieldAddrA rfl Try.underlying24 rfl rfl Try.sizeOf3)) ?_
      refine WO.q rfl rfl rfl rfl (fun w' hE28 => (X.loadE hBr (Ext.trans hwL0 hE28) rfl (by omega) ((flat_get BadE.c_len (l := EB) (k := k) (hEL ▸ hk11) (by decide)).trans rfl) Try.isAgg3)) ?_
      refine WO.q rfl rfl rfl rfl (fun w' hE28 => (X.move ((hAL0.eq 1).trans (congrFun hF25 1)))) ?_
      refine WO.q rfl rfl rfl rfl (fun w' hE28 => (X.moveI e2_L0)) ?_
      refine WO.q rfl rfl rfl rfl (fun w' hE28 => (X.idx hBr rfl rfl (by omega) Try.underlying53 Try.sizeOf24)) ?_
      refine WO.q rfl rfl rfl rfl (fun w' hE28 => (X.fieldAddrA rfl Try.underlying24 rfl rfl Try.sizeOf22)) ?_
      refine WO.q rfl rfl rfl rfl (fun w' hE28 => (X.loadE hBr (Ext.trans hwL0 hE28) rfl (by omega) ((flat_get BadE.c_len (l := EB) (k := k) (hEL ▸ hk11) (by decide)).trans rfl) Try.isAgg22)) ?_
      refine WO.q rfl rfl rfl rfl (fun w' hE28 => (X.move ((hAL0.eq 1).trans (congrFun hF25 1)))) ?_
      refine WO.q rfl rfl rfl rfl (fun w' hE28 => (X.moveI e2_L0)) ?_
      refine WO.q rfl rfl rfl rfl (fun w' hE28 => (X.idx hBr rfl rfl (by omega) Try.underlying53 Try.sizeOf24)) ?_
      refine WO.q rfl rfl rfl rfl (fun w' hE28 => (X.fieldAddrA rfl Try.underlying24 rfl rfl Try.sizeOf3)) ?_
      refine WO.q rfl rfl rfl rfl (fun w' hE28 => (X.loadE hBr (Ext.trans hwL0 hE28) rfl (by omega) ((flat_get BadE.c_len (l := EB) (k := k) (hEL ▸ hk11) (by decide)).trans rfl) Try.isAgg3)) ?_
      refine WO.l ?_
      refine LO.go rfl rfl (OW.enter rfl (by decide) (X.call Try.call8 (evl_cons rfl (evl_cons rfl (evl_cons rfl (evl_cons rfl evl_nil))))) (newB_ok (Row.ext (hBI _ (List.getElem_mem hk)) (Ext.trans hwL0 (Ext.drew _))) (bad_no _ (hBm ▸ List.mem_map_of_mem (List.getElem_mem hk)))) ?_)
      rintro v30 w29 ⟨rfl, hx31⟩
      refine ⟨(Ext.trans (Ext.drew _) hx31), ?_⟩
      refine WO.q rfl rfl rfl rfl (fun w' hE28 => (X.move rfl)) ?_
      refine WO.q rfl rfl rfl rfl (fun w' hE28 => (X.extract rfl rfl)) ?_
      refine WO.q rfl rfl rfl rfl (fun w' hE28 => (X.extract rfl rfl)) ?_
      refine WO.q rfl rfl rfl rfl (fun w' hE28 => (X.assign rfl)) ?_
      refine WO.q rfl rfl rfl rfl (fun w' hE28 => (X.assignI rfl)) ?_
      refine WO.nil ?_
      refine WL.nil ?_
      refine thn_n ?_
      refine WF.seq ?_
      refine WF.region ?_
      refine WL.va rfl rfl rfl (X.moveI rfl) ?_
      refine WL.va rfl rfl rfl (X.neq rfl rfl) ?_
      refine WL.va rfl rfl rfl (X.moveB rfl) ?_
      refine WL.vg rfl rfl rfl rfl (X.move rfl) ?_
      refine WL.vg rfl rfl rfl rfl (X.neqPNN rfl rfl Try.underlying27) ?_
      refine WL.va rfl rfl rfl (X.pickF rfl rfl rfl) ?_
      refine WL.nil ?_
      refine thn_n ?_
      refine WF.cond_f rfl ?_
      refine WF.skip ?_
      refine blk_n ?_
      refine thn_n ?_
      refine WF.region ?_
      refine WL.va rfl rfl rfl (X.moveI e2_L0) ?_
      refine WL.va rfl rfl rfl (X.add rfl rfl (w64 (by omega))) ?_
      refine WL.va rfl rfl rfl (X.assignI rfl) ?_
      refine WL.nil ?_
      exact thn_n ⟨_, (by omega), k + 1, rfl, rfl, (by repeat (first | exact hAL0 | refine Agree.put ?_ rfl | refine Agree.named hF25 ?_)), (Ext.trans (Ext.trans hwL0 (Ext.drew _)) hx31), (by omega)⟩
    · have gh0_26 := (of_decide_eq_false h0_26)
      refine WF.exit ?_
      refine thn_x ?_
      refine thn_x ?_
      refine blk_eq ?_
      refine thn_n ?_
      refine WF.seq ?_
      refine WF.region ?_
      refine WL.op rfl (OW.lits (vs := [_, _]) (evp_cons rfl (evp_cons rfl evp_nil)) Try.underlying22 Try.sizeOf3 Try.zeroValue3 ⟨rfl, rfl, trivial⟩ rfl rfl rfl ?_ (by decide))
      intro v35 w34 ho37 hx36
      have hzz := ((show Ext w w34 from (Ext.trans (Ext.trans (Ext.trans (Ext.trans (Ext.trans (Ext.trans (Ext.trans (Ext.trans (Ext.trans (Ext.trans (Ext.trans (Ext.trans hx2 hx4) hx6) hx8) hx10) hx12) hx14) hx16) hx18) hx20) hx22) hwL0) hx36))).size
      refine WL.c rfl rfl rfl (X.call Try.call8 (evl_cons rfl (evl_cons rfl (evl_cons rfl (evl_cons rfl evl_nil))))) (newY_ok 101 5 3 _ [1, 3] _ (show Ints _ _ [1, 3] from Row.of_own ho37) (by decide)) ?_
      rintro v38 wSN ⟨⟨g, FN, rfl, hCN, hlo⟩, hx39⟩
      replace hCN : CAt wSN FN g kc0 := hCN
      have hFN := fun b hb => Nat.le_trans hzz (hlo b hb)
      refine WL.va rfl rfl rfl (X.move rfl) ?_
      refine WL.va rfl rfl rfl (X.extract rfl rfl) ?_
      refine WL.va rfl rfl rfl (X.extract rfl rfl) ?_
      refine WL.va rfl rfl rfl (X.assign rfl) ?_
      refine WL.va rfl rfl rfl (X.assignI rfl) ?_
      refine WL.nil ?_
      refine thn_n ?_
      refine WF.seq ?_
      refine WF.seq ?_
      refine WF.region ?_
      refine WL.va rfl rfl rfl (X.moveI rfl) ?_
      refine WL.va rfl rfl rfl (X.neq rfl rfl) ?_
      refine WL.nil ?_
      refine thn_n ?_
      refine WF.cond_f rfl ?_
      refine WF.skip ?_
      refine thn_n ?_
      refine WF.seq ?_
      refine WF.region ?_
      refine WL.va rfl rfl rfl (X.move rfl) ?_
      have hzN := ((show Ext w wSN from (Ext.trans (Ext.trans (Ext.trans (Ext.trans (Ext.trans (Ext.trans (Ext.trans (Ext.trans (Ext.trans (Ext.trans (Ext.trans (Ext.trans (Ext.trans hx2 hx4) hx6) hx8) hx10) hx12) hx14) hx16) hx18) hx20) hx22) hwL0) hx36) hx39))).size
      refine WL.c rfl rfl rfl (X.call Try.call12 (evl_cons rfl (evl_cons rfl evl_nil))) (start_to (hCN.ext (Ext.refl wSN)) kok0 outA_eq) ?_
      rintro voA wS0 ⟨obA, F0, hle0, hC0, hq0, nA0⟩
      have hF0 := low_step hle0 hzN hFN
      replace hC0 : CAt wS0 F0 g kq0 := hC0
      have oA0 := OwnM.n obA (n := 6) (by decide)
      refine WL.va rfl rfl rfl (X.assign rfl) ?_
      refine WL.nil ?_
      refine thn_n ?_
      refine WF.seq ?_
      refine WF.region ?_
      refine WL.va rfl rfl rfl (X.move rfl) ?_
      refine WL.va rfl rfl rfl (X.buildT (P := Try.prog) (t := 40) (cs := (Msg.bare km0)) (zs := [i64 0, i64 0, i64 0, i64 0, i64 0, i64 0, i64 0, i64 0, i64 0, i64 0, i64 0, i64 0, i64 0, i64 0, .bool false, .slice none 0 0, .slice none 0 0]) (places := [(0, 1), (1, 1), (2, 1), (3, 1), (4, 1), (5, 1), (6, 1), (7, 1), (8, 1), (9, 1), (10, 1), (11, 1), (12, 1), (13, 1), (14, 1), (15, 1), (16, 1)]) (n := 17) (evp_cons rfl (evp_cons rfl (evp_cons rfl (evp_cons rfl (evp_cons rfl (evp_cons rfl evp_nil)))))) Try.type40 Try.underlying40 rfl rfl ⟨rfl, rfl, rfl, rfl, rfl, rfl, trivial⟩ rfl rfl rfl) ?_
      have hz0 := ((show Ext w wS0 from (ChgS.toExt (Ext.trans (Ext.trans (Ext.trans (Ext.trans (Ext.trans (Ext.trans (Ext.trans (Ext.trans (Ext.trans (Ext.trans (Ext.trans (Ext.trans (Ext.trans hx2 hx4) hx6) hx8) hx10) hx12) hx14) hx16) hx18) hx20) hx22) hwL0) hx36) hx39) hq0 hFN))).size
      refine WL.c rfl rfl rfl (X.call Try.call14 (evl_cons rfl (evl_cons rfl evl_nil))) (step_to (hC0.ext (Ext.refl wS0)) kqok0 kout0) ?_
      rintro vo1 wS1 ⟨ob1, F1, hle1, hC1, hq1, hn1⟩
      have hF1 := low_step hle1 hz0 hF0
      have oA1 := own_chgS oA0 hq1 (fun b hb q => q (nA0 b hb))
      have nA1 := keep_none oA0 nA0 hle1
      replace hC1 : CAt wS1 F1 g kq1 := hC1
      refine WL.va rfl rfl rfl (X.assign rfl) ?_
      refine WL.nil ?_
      refine thn_n ?_
      refine WF.seq ?_
      refine WF.region ?_
      refine WL.va rfl rfl rfl (X.move rfl) ?_
      refine WL.va rfl rfl rfl (X.buildT (P := Try.prog) (t := 40) (cs := (Msg.bare km1)) (zs := [i64 0, i64 0, i64 0, i64 0, i64 0, i64 0, i64 0, i64 0, i64 0, i64 0, i64 0, i64 0, i64 0, i64 0, .bool false, .slice none 0 0, .slice none 0 0]) (places := [(0, 1), (1, 1), (2, 1), (3, 1), (4, 1), (5, 1), (6, 1), (7, 1), (8, 1), (9, 1), (10, 1), (11, 1), (12, 1), (13, 1), (14, 1), (15, 1), (16, 1)]) (n := 17) (evp_cons rfl (evp_cons rfl (evp_cons rfl (evp_cons rfl (evp_cons rfl (evp_cons rfl evp_nil)))))) Try.type40 Try.underlying40 rfl rfl ⟨rfl, rfl, rfl, rfl, rfl, rfl, trivial⟩ rfl rfl rfl) ?_
      have hz1 := ((show Ext w wS1 from (ChgS.toExt (ChgS.toExt (Ext.trans (Ext.trans (Ext.trans (Ext.trans (Ext.trans (Ext.trans (Ext.trans (Ext.trans (Ext.trans (Ext.trans (Ext.trans (Ext.trans (Ext.trans hx2 hx4) hx6) hx8) hx10) hx12) hx14) hx16) hx18) hx20) hx22) hwL0) hx36) hx39) hq0 hFN) hq1 hF0))).size
      refine WL.c rfl rfl rfl (X.call Try.call14 (evl_cons rfl (evl_cons rfl evl_nil))) (step_to (hC1.ext (Ext.refl wS1)) kqok1 kout1) ?_
      rintro vo2 wS2 ⟨ob2, F2, hle2, hC2, hq2, hn2⟩
      have hF2 := low_step hle2 hz1 hF1
      have oA2 := own_chgS oA1 hq2 (fun b hb q => q (nA1 b hb))
      have nA2 := keep_none oA1 nA1 hle2
      replace hC2 : CAt wS2 F2 g kq2 := hC2
      refine WL.va rfl rfl rfl (X.assign rfl) ?_
      refine WL.nil ?_
      refine thn_n ?_
      refine WF.seq ?_
      refine WF.region ?_
      refine WL.va rfl rfl rfl (X.move rfl) ?_
      refine WL.va rfl rfl rfl (X.buildT (P := Try.prog) (t := 40) (cs := (Msg.bare km2)) (zs := [i64 0, i64 0, i64 0, i64 0, i64 0, i64 0, i64 0, i64 0, i64 0, i64 0, i64 0, i64 0, i64 0, i64 0, .bool false, .slice none 0 0, .slice none 0 0]) (places := [(0, 1), (1, 1), (2, 1), (3, 1), (4, 1), (5, 1), (6, 1), (7, 1), (8, 1), (9, 1), (10, 1), (11, 1), (12, 1), (13, 1), (14, 1), (15, 1), (16, 1)]) (n := 17) (evp_cons rfl (evp_cons rfl (evp_cons rfl (evp_cons rfl (evp_cons rfl (evp_cons rfl (evp_cons rfl evp_nil))))))) Try.type40 Try.underlying40 rfl rfl ⟨rfl, rfl, rfl, rfl, rfl, rfl, rfl, trivial⟩ rfl rfl rfl) ?_
      have hz2 := ((show Ext w wS2 from (ChgS.toExt (ChgS.toExt (ChgS.toExt (Ext.trans (Ext.trans (Ext.trans (Ext.trans (Ext.trans (Ext.trans (Ext.trans (Ext.trans (Ext.trans (Ext.trans (Ext.trans (Ext.trans (Ext.trans hx2 hx4) hx6) hx8) hx10) hx12) hx14) hx16) hx18) hx20) hx22) hwL0) hx36) hx39) hq0 hFN) hq1 hF0) hq2 hF1))).size
      refine WL.c rfl rfl rfl (X.call Try.call14 (evl_cons rfl (evl_cons rfl evl_nil))) (step_to (hC2.ext (Ext.refl wS2)) kqok2 kout2) ?_
      rintro vo3 wS3 ⟨ob3, F3, hle3, hC3, hq3, hn3⟩
      have hF3 := low_step hle3 hz2 hF2
      have oA3 := own_chgS oA2 hq3 (fun b hb q => q (nA2 b hb))
      have nA3 := keep_none oA2 nA2 hle3
      replace hC3 : CAt wS3 F3 g kq3 := hC3
      refine WL.va rfl rfl rfl (X.assign rfl) ?_
      refine WL.nil ?_
      refine thn_n ?_
      refine WF.seq ?_
      refine WF.region ?_
      refine WL.va rfl rfl rfl (X.move rfl) ?_
      refine WL.va rfl rfl rfl (X.buildT (P := Try.prog) (t := 40) (cs := (Msg.bare km3)) (zs := [i64 0, i64 0, i64 0, i64 0, i64 0, i64 0, i64 0, i64 0, i64 0, i64 0, i64 0, i64 0, i64 0, i64 0, .bool false, .slice none 0 0, .slice none 0 0]) (places := [(0, 1), (1, 1), (2, 1), (3, 1), (4, 1), (5, 1), (6, 1), (7, 1), (8, 1), (9, 1), (10, 1), (11, 1), (12, 1), (13, 1), (14, 1), (15, 1), (16, 1)]) (n := 17) (evp_cons rfl (evp_cons rfl (evp_cons rfl (evp_cons rfl (evp_cons rfl (evp_cons rfl (evp_cons rfl evp_nil))))))) Try.type40 Try.underlying40 rfl rfl ⟨rfl, rfl, rfl, rfl, rfl, rfl, rfl, trivial⟩ rfl rfl rfl) ?_
      have hz3 := ((show Ext w wS3 from (ChgS.toExt (ChgS.toExt (ChgS.toExt (ChgS.toExt (Ext.trans (Ext.trans (Ext.trans (Ext.trans (Ext.trans (Ext.trans (Ext.trans (Ext.trans (Ext.trans (Ext.trans (Ext.trans (Ext.trans (Ext.trans hx2 hx4) hx6) hx8) hx10) hx12) hx14) hx16) hx18) hx20) hx22) hwL0) hx36) hx39) hq0 hFN) hq1 hF0) hq2 hF1) hq3 hF2))).size
      refine WL.c rfl rfl rfl (X.call Try.call14 (evl_cons rfl (evl_cons rfl evl_nil))) (step_to (hC3.ext (Ext.refl wS3)) kqok3 kout3) ?_
      rintro vo4 wS4 ⟨ob4, F4, hle4, hC4, hq4, hn4⟩
      have hF4 := low_step hle4 hz3 hF3
      have oA4 := own_chgS oA3 hq4 (fun b hb q => q (nA3 b hb))
      have nA4 := keep_none oA3 nA3 hle4
      replace hC4 : CAt wS4 F4 g kq4 := hC4
      have oT4 := OwnM.n ob4 (n := 3) (by decide)
      have nT4 := hn4
      refine WL.va rfl rfl rfl (X.assign rfl) ?_
      refine WL.nil ?_
      refine thn_n ?_
      refine WF.seq ?_
      refine WF.region ?_
      refine WL.va rfl rfl rfl (X.move rfl) ?_
      refine WL.va rfl rfl rfl (X.buildT (P := Try.prog) (t := 40) (cs := (Msg.bare km4)) (zs := [i64 0, i64 0, i64 0, i64 0, i64 0, i64 0, i64 0, i64 0, i64 0, i64 0, i64 0, i64 0, i64 0, i64 0, .bool false, .slice none 0 0, .slice none 0 0]) (places := [(0, 1), (1, 1), (2, 1), (3, 1), (4, 1), (5, 1), (6, 1), (7, 1), (8, 1), (9, 1), (10, 1), (11, 1), (12, 1), (13, 1), (14, 1), (15, 1), (16, 1)]) (n := 17) (evp_cons rfl (evp_cons rfl (evp_cons rfl (evp_cons rfl (evp_cons rfl (evp_cons rfl (evp_cons rfl (evp_cons rfl evp_nil)))))))) Try.type40 Try.underlying40 rfl rfl ⟨rfl, rfl, rfl, rfl, rfl, rfl, rfl, rfl, trivial⟩ rfl rfl rfl) ?_
      have hz4 := ((show Ext w wS4 from (ChgS.toExt (ChgS.toExt (ChgS.toExt (ChgS.toExt (ChgS.toExt (Ext.trans (Ext.trans (Ext.trans (Ext.trans (Ext.trans (Ext.trans (Ext.trans (Ext.trans (Ext.trans (Ext.trans (Ext.trans (Ext.trans (Ext.trans hx2 hx4) hx6) hx8) hx10) hx12) hx14) hx16) hx18) hx20) hx22) hwL0) hx36) hx39) hq0 hFN) hq1 hF0) hq2 hF1) hq3 hF2) hq4 hF3))).size
      refine WL.c rfl rfl rfl (X.call Try.call14 (evl_cons rfl (evl_cons rfl evl_nil))) (step_to (hC4.ext (Ext.refl wS4)) kqok4 kout4) ?_
      rintro vo5 wS5 ⟨ob5, F5, hle5, hC5, hq5, hn5⟩
      have hF5 := low_step hle5 hz4 hF4
      have oA5 := own_chgS oA4 hq5 (fun b hb q => q (nA4 b hb))
      have nA5 := keep_none oA4 nA4 hle5
      have oT5 := own_chgS oT4 hq5 (fun b hb q => q (nT4 b hb))
      have nT5 := keep_none oT4 nT4 hle5
      replace hC5 : CAt wS5 F5 g kq5 := hC5
      refine WL.va rfl rfl rfl (X.assign rfl) ?_
      refine WL.nil ?_
      refine thn_n ?_
      refine WF.seq ?_
      refine WF.region ?_
      refine WL.va rfl rfl rfl (X.move rfl) ?_
      refine WL.va rfl rfl rfl (X.buildT (P := Try.prog) (t := 40) (cs := (Msg.bare km5)) (zs := [i64 0, i64 0, i64 0, i64 0, i64 0, i64 0, i64 0, i64 0, i64 0, i64 0, i64 0, i64 0, i64 0, i64 0, .bool false, .slice none 0 0, .slice none 0 0]) (places := [(0, 1), (1, 1), (2, 1), (3, 1), (4, 1), (5, 1), (6, 1), (7, 1), (8, 1), (9, 1), (10, 1), (11, 1), (12, 1), (13, 1), (14, 1), (15, 1), (16, 1)]) (n := 17) (evp_cons rfl (evp_cons rfl (evp_cons rfl (evp_cons rfl (evp_cons rfl (evp_cons rfl evp_nil)))))) Try.type40 Try.underlying40 rfl rfl ⟨rfl, rfl, rfl, rfl, rfl, rfl, trivial⟩ rfl rfl rfl) ?_
      have hz5 := ((show Ext w wS5 from (ChgS.toExt (ChgS.toExt (ChgS.toExt (ChgS.toExt (ChgS.toExt (ChgS.toExt (Ext.trans (Ext.trans (Ext.trans (Ext.trans (Ext.trans (Ext.trans (Ext.trans (Ext.trans (Ext.trans (Ext.trans (Ext.trans (Ext.trans (Ext.trans hx2 hx4) hx6) hx8) hx10) hx12) hx14) hx16) hx18) hx20) hx22) hwL0) hx36) hx39) hq0 hFN) hq1 hF0) hq2 hF1) hq3 hF2) hq4 hF3) hq5 hF4))).size
      refine WL.c rfl rfl rfl (X.call Try.call14 (evl_cons rfl (evl_cons rfl evl_nil))) (step_to (hC5.ext (Ext.refl wS5)) kqok5 kout5) ?_
      rintro vo6 wS6 ⟨ob6, F6, hle6, hC6, hq6, hn6⟩
      have hF6 := low_step hle6 hz5 hF5
      have oA6 := own_chgS oA5 hq6 (fun b hb q => q (nA5 b hb))
      have nA6 := keep_none oA5 nA5 hle6
      have oT6 := own_chgS oT5 hq6 (fun b hb q => q (nT5 b hb))
      have nT6 := keep_none oT5 nT5 hle6
      replace hC6 : CAt wS6 F6 g kq6 := hC6
      refine WL.nil ?_
      refine thn_n ?_
      refine WF.seq ?_
      refine WF.region ?_
      refine WL.va rfl rfl rfl (X.move rfl) ?_
      refine WL.va rfl rfl rfl (X.buildT (P := Try.prog) (t := 40) (cs := (Msg.bare km6)) (zs := [i64 0, i64 0, i64 0, i64 0, i64 0, i64 0, i64 0, i64 0, i64 0, i64 0, i64 0, i64 0, i64 0, i64 0, .bool false, .slice none 0 0, .slice none 0 0]) (places := [(0, 1), (1, 1), (2, 1), (3, 1), (4, 1), (5, 1), (6, 1), (7, 1), (8, 1), (9, 1), (10, 1), (11, 1), (12, 1), (13, 1), (14, 1), (15, 1), (16, 1)]) (n := 17) (evp_cons rfl (evp_cons rfl (evp_cons rfl (evp_cons rfl (evp_cons rfl (evp_cons rfl evp_nil)))))) Try.type40 Try.underlying40 rfl rfl ⟨rfl, rfl, rfl, rfl, rfl, rfl, trivial⟩ rfl rfl rfl) ?_
      have hz6 := ((show Ext w wS6 from (ChgS.toExt (ChgS.toExt (ChgS.toExt (ChgS.toExt (ChgS.toExt (ChgS.toExt (ChgS.toExt (Ext.trans (Ext.trans (Ext.trans (Ext.trans (Ext.trans (Ext.trans (Ext.trans (Ext.trans (Ext.trans (Ext.trans (Ext.trans (Ext.trans (Ext.trans hx2 hx4) hx6) hx8) hx10) hx12) hx14) hx16) hx18) hx20) hx22) hwL0) hx36) hx39) hq0 hFN) hq1 hF0) hq2 hF1) hq3 hF2) hq4 hF3) hq5 hF4) hq6 hF5))).size
      refine WL.c rfl rfl rfl (X.call Try.call14 (evl_cons rfl (evl_cons rfl evl_nil))) (step_to (hC6.ext (Ext.refl wS6)) kqok6 kout6) ?_
      rintro vo7 wS7 ⟨ob7, F7, hle7, hC7, hq7, hn7⟩
      have hF7 := low_step hle7 hz6 hF6
      have oA7 := own_chgS oA6 hq7 (fun b hb q => q (nA6 b hb))
      have nA7 := keep_none oA6 nA6 hle7
      have oT7 := own_chgS oT6 hq7 (fun b hb q => q (nT6 b hb))
      have nT7 := keep_none oT6 nT6 hle7
      replace hC7 : CAt wS7 F7 g kq7 := hC7
      have oG7 := OwnM.n ob7 (n := 3) (by decide)
      refine WL.va rfl rfl rfl (X.assign rfl) ?_
      refine WL.nil ?_
      refine thn_n ?_
      refine WF.seq ?_
      refine WF.seq ?_
      refine WF.region ?_
      refine WL.va rfl rfl rfl (X.move rfl) ?_
      refine WL.va rfl rfl rfl (X.len (Row.of_own oA7) rfl Try.underlying36) ?_
      refine WL.va rfl rfl rfl (X.neq rfl rfl) ?_
      refine WL.va rfl rfl rfl (X.moveB rfl) ?_
      refine WL.vg rfl rfl rfl rfl (X.move rfl) ?_
      refine WL.vg rfl rfl rfl rfl (X.idx (k := 0) (Row.of_own oA7) rfl rfl (by omega) Try.underlying36 Try.sizeOf40) ?_
      refine WL.vg rfl rfl rfl rfl (X.fieldAddrA rfl Try.underlying40 rfl rfl Try.sizeOf3) ?_
      refine WL.vg rfl rfl rfl rfl (X.loadE (Row.of_own oA7) (Ext.refl _) rfl (by omega) (show _ = some (i64 8) from (Msg.get (l := outA) (k := 0) (off := 0) (by decide) (by decide)).trans (by kernel_rfl)) Try.isAgg3) ?_
      refine WL.vg rfl rfl rfl rfl (X.neq rfl rfl) ?_
      refine WL.va rfl rfl rfl (X.pickF rfl rfl rfl) ?_
      refine WL.va rfl rfl rfl (X.moveB rfl) ?_
      refine WL.vg rfl rfl rfl rfl (X.move rfl) ?_
      refine WL.vg rfl rfl rfl rfl (X.idx (k := 0) (Row.of_own oA7) rfl rfl (by omega) Try.underlying36 Try.sizeOf40) ?_
      refine WL.vg rfl rfl rfl rfl (X.fieldAddrA rfl Try.underlying40 rfl rfl Try.sizeOf3) ?_
      refine WL.vg rfl rfl rfl rfl (X.loadE (Row.of_own oA7) (Ext.refl _) rfl (by omega) (show _ = some (i64 1) from (Msg.get (l := outA) (k := 0) (off := 10) (by decide) (by decide)).trans (by kernel_rfl)) Try.isAgg3) ?_
      refine WL.vg rfl rfl rfl rfl (X.neq rfl rfl) ?_
      refine WL.va rfl rfl rfl (X.pickF rfl rfl rfl) ?_
      refine WL.va rfl rfl rfl (X.moveB rfl) ?_
      refine WL.vg rfl rfl rfl rfl (X.move rfl) ?_
      refine WL.vg rfl rfl rfl rfl (X.idx (k := 0) (Row.of_own oA7) rfl rfl (by omega) Try.underlying36 Try.sizeOf40) ?_
      refine WL.vg rfl rfl rfl rfl (X.fieldAddrA rfl Try.underlying40 rfl rfl Try.sizeOf3) ?_
      refine WL.vg rfl rfl rfl rfl (X.loadE (Row.of_own oA7) (Ext.refl _) rfl (by omega) (show _ = some (i64 1) from (Msg.get (l := outA) (k := 0) (off := 2) (by decide) (by decide)).trans (by kernel_rfl)) Try.isAgg3) ?_
      refine WL.vg rfl rfl rfl rfl (X.neq rfl rfl) ?_
      refine WL.va rfl rfl rfl (X.pickF rfl rfl rfl) ?_
      refine WL.va rfl rfl rfl (X.moveB rfl) ?_
      refine WL.vg rfl rfl rfl rfl (X.move rfl) ?_
      refine WL.vg rfl rfl rfl rfl (X.idx (k := 5) (Row.of_own oA7) rfl rfl (by omega) Try.underlying36 Try.sizeOf40) ?_
      refine WL.vg rfl rfl rfl rfl (X.fieldAddrA rfl Try.underlying40 rfl rfl Try.sizeOf3) ?_
      refine WL.vg rfl rfl rfl rfl (X.loadE (Row.of_own oA7) (Ext.refl _) rfl (by omega) (show _ = some (i64 3) from (Msg.get (l := outA) (k := 5) (off := 10) (by decide) (by decide)).trans (by kernel_rfl)) Try.isAgg3) ?_
      refine WL.vg rfl rfl rfl rfl (X.neq rfl rfl) ?_
      refine WL.va rfl rfl rfl (X.pickF rfl rfl rfl) ?_
      refine WL.va rfl rfl rfl (X.moveB rfl) ?_
      refine WL.vg rfl rfl rfl rfl (X.move rfl) ?_
      refine WL.vg rfl rfl rfl rfl (X.idx (k := 5) (Row.of_own oA7) rfl rfl (by omega) Try.underlying36 Try.sizeOf40) ?_
      refine WL.vg rfl rfl rfl rfl (X.fieldAddrA rfl Try.underlying40 rfl rfl Try.sizeOf3) ?_
      refine WL.vg rfl rfl rfl rfl (X.loadE (Row.of_own oA7) (Ext.refl _) rfl (by omega) (show _ = some (i64 3) from (Msg.get (l := outA) (k := 5) (off := 2) (by decide) (by decide)).trans (by kernel_rfl)) Try.isAgg3) ?_
      refine WL.vg rfl rfl rfl rfl (X.neq rfl rfl) ?_
      refine WL.va rfl rfl rfl (X.pickF rfl rfl rfl) ?_
      refine WL.va rfl rfl rfl (X.moveB rfl) ?_
      refine WL.vg rfl rfl rfl rfl (X.move rfl) ?_
      refine WL.vg rfl rfl rfl rfl (X.idx (k := 5) (Row.of_own oA7) rfl rfl (by omega) Try.underlying36 Try.sizeOf40) ?_
      refine WL.vg rfl rfl rfl rfl (X.fieldAddrA rfl Try.underlying40 rfl rfl Try.sizeOf3) ?_
      refine WL.vg rfl rfl rfl rfl (X.loadE (Row.of_own oA7) (Ext.refl _) rfl (by omega) (show _ = some (i64 9) from (Msg.get (l := outA) (k := 5) (off := 11) (by decide) (by decide)).trans (by kernel_rfl)) Try.isAgg3) ?_
      refine WL.vg rfl rfl rfl rfl (X.neq rfl rfl) ?_
      refine WL.va rfl rfl rfl (X.pickF rfl rfl rfl) ?_
      refine WL.va rfl rfl rfl (X.moveB rfl) ?_
      refine WL.vg rfl rfl rfl rfl (X.move rfl) ?_
      refine WL.vg rfl rfl rfl rfl (X.len (Row.of_own (OwnM.n ob1 (n := 0) (by decide))) rfl Try.underlying36) ?_
      refine WL.vg rfl rfl rfl rfl (X.move rfl) ?_
      refine WL.vg rfl rfl rfl rfl (X.len (Row.of_own (OwnM.n ob2 (n := 0) (by decide))) rfl Try.underlying36) ?_
      refine WL.vg rfl rfl rfl rfl (X.add rfl rfl (w64 (by omega))) ?_
      refine WL.vg rfl rfl rfl rfl (X.move rfl) ?_
      refine WL.vg rfl rfl rfl rfl (X.len (Row.of_own (OwnM.n ob3 (n := 0) (by decide))) rfl Try.underlying36) ?_
      refine WL.vg rfl rfl rfl rfl (X.add rfl rfl (w64 (by omega))) ?_
      refine WL.vg rfl rfl rfl rfl (X.move rfl) ?_
      refine WL.vg rfl rfl rfl rfl (X.len (Row.of_own (OwnM.n ob5 (n := 0) (by decide))) rfl Try.underlying36) ?_
      refine WL.vg rfl rfl rfl rfl (X.add rfl rfl (w64 (by omega))) ?_
      refine WL.vg rfl rfl rfl rfl (X.neq rfl rfl) ?_
      refine WL.va rfl rfl rfl (X.pickF rfl rfl rfl) ?_
      refine WL.nil ?_
      refine thn_n ?_
      refine WF.cond_f rfl ?_
      refine WF.skip ?_
      refine thn_n ?_
      refine WF.seq ?_
      refine WF.seq ?_
      refine WF.region ?_
      refine WL.va rfl rfl rfl (X.move rfl) ?_
      refine WL.va rfl rfl rfl (X.len (Row.of_own oT7) rfl Try.underlying36) ?_
      refine WL.va rfl rfl rfl (X.neq rfl rfl) ?_
      refine WL.va rfl rfl rfl (X.moveB rfl) ?_
      refine WL.vg rfl rfl rfl rfl (X.move rfl) ?_
      refine WL.vg rfl rfl rfl rfl (X.idx (k := 2) (Row.of_own oT7) rfl rfl (by omega) Try.underlying36 Try.sizeOf40) ?_
      refine WL.vg rfl rfl rfl rfl (X.fieldAddrA rfl Try.underlying40 rfl rfl Try.sizeOf3) ?_
      refine WL.vg rfl rfl rfl rfl (X.loadE (Row.of_own oT7) (Ext.refl _) rfl (by omega) (show _ = some (i64 10) from (Msg.get (l := outT) (k := 2) (off := 0) (by decide) (by decide)).trans (by kernel_rfl)) Try.isAgg3) ?_
      refine WL.vg rfl rfl rfl rfl (X.neq rfl rfl) ?_
      refine WL.va rfl rfl rfl (X.pickF rfl rfl rfl) ?_
      refine WL.va rfl rfl rfl (X.moveB rfl) ?_
      refine WL.vg rfl rfl rfl rfl (X.move rfl) ?_
      refine WL.vg rfl rfl rfl rfl (X.idx (k := 2) (Row.of_own oT7) rfl rfl (by omega) Try.underlying36 Try.sizeOf40) ?_
      refine WL.vg rfl rfl rfl rfl (X.fieldAddrA rfl Try.underlying40 rfl rfl Try.sizeOf3) ?_
      refine WL.vg rfl rfl rfl rfl (X.loadE (Row.of_own oT7) (Ext.refl _) rfl (by omega) (show _ = some (i64 1) from (Msg.get (l := outT) (k := 2) (off := 12) (by decide) (by decide)).trans (by kernel_rfl)) Try.isAgg3) ?_
      refine WL.vg rfl rfl rfl rfl (X.neq rfl rfl) ?_
      refine WL.va rfl rfl rfl (X.pickF rfl rfl rfl) ?_
      refine WL.va rfl rfl rfl (X.moveB rfl) ?_
      refine WL.vg rfl rfl rfl rfl (X.move rfl) ?_
      refine WL.vg rfl rfl rfl rfl (X.idx (k := 2) (Row.of_own oT7) rfl rfl (by omega) Try.underlying36 Try.sizeOf40) ?_
      refine WL.vg rfl rfl rfl rfl (X.fieldAddrA rfl Try.underlying40 rfl rfl Try.sizeOf3) ?_
      refine WL.vg rfl rfl rfl rfl (X.loadE (Row.of_own oT7) (Ext.refl _) rfl (by omega) (show _ = some (i64 3) from (Msg.get (l := outT) (k := 2) (off := 2) (by decide) (by decide)).trans (by kernel_rfl)) Try.isAgg3) ?_
      refine WL.vg rfl rfl rfl rfl (X.neq rfl rfl) ?_
      refine WL.va rfl rfl rfl (X.pickF rfl rfl rfl) ?_
      refine WL.va rfl rfl rfl (X.moveB rfl) ?_
      refine WL.vg rfl rfl rfl rfl (X.move rfl) ?_
      refine WL.vg rfl rfl rfl rfl (X.idx (k := 2) (Row.of_own oT7) rfl rfl (by omega) Try.underlying36 Try.sizeOf40) ?_
      refine WL.vg rfl rfl rfl rfl (X.fieldAddrA rfl Try.underlying40 rfl rfl Try.sizeOf3) ?_
      refine WL.vg rfl rfl rfl rfl (X.loadE (Row.of_own oT7) (Ext.refl _) rfl (by omega) (show _ = some (i64 9) from (Msg.get (l := outT) (k := 2) (off := 11) (by decide) (by decide)).trans (by kernel_rfl)) Try.isAgg3) ?_
      refine WL.vg rfl rfl rfl rfl (X.neq rfl rfl) ?_
      refine WL.va rfl rfl rfl (X.pickF rfl rfl rfl) ?_
      refine WL.va rfl rfl rfl (X.moveB rfl) ?_
      refine WL.vg rfl rfl rfl rfl (X.move rfl) ?_
      refine WL.vg rfl rfl rfl rfl (X.idx (k := 2) (Row.of_own oT7) rfl rfl (by omega) Try.underlying36 Try.sizeOf40) ?_
      refine WL.vg rfl rfl rfl rfl (X.fieldAddrA rfl Try.underlying40 rfl rfl Try.sizeOf3) ?_
      refine WL.vg rfl rfl rfl rfl (X.loadE (Row.of_own oT7) (Ext.refl _) rfl (by omega) (show _ = some (i64 101) from (Msg.get (l := outT) (k := 2) (off := 1) (by decide) (by decide)).trans (by kernel_rfl)) Try.isAgg3) ?_
      refine WL.vg rfl rfl rfl rfl (X.neq rfl rfl) ?_
      refine WL.va rfl rfl rfl (X.pickF rfl rfl rfl) ?_
      refine WL.va rfl rfl rfl (X.moveB rfl) ?_
      refine WL.vg rfl rfl rfl rfl (X.move rfl) ?_
      refine WL.vg rfl rfl rfl rfl (X.len (Row.of_own (OwnM.n ob7 (n := 3) (by decide))) rfl Try.underlying36) ?_
      refine WL.vg rfl rfl rfl rfl (X.neq rfl rfl) ?_
      refine WL.va rfl rfl rfl (X.pickF rfl rfl rfl) ?_
      refine WL.va rfl rfl rfl (X.moveB rfl) ?_
      refine WL.vg rfl rfl rfl rfl (X.move rfl) ?_
      refine WL.vg rfl rfl rfl rfl (X.idx (k := 0) (Row.of_own (OwnM.n ob7 (n := 3) (by decide))) rfl rfl (by omega) Try.underlying36 Try.sizeOf40) ?_
      refine WL.vg rfl rfl rfl rfl (X.fieldAddrA rfl Try.underlying40 rfl rfl Try.sizeOf3) ?_
      refine WL.vg rfl rfl rfl rfl (X.loadE (Row.of_own (OwnM.n ob7 (n := 3) (by decide))) (Ext.refl _) rfl (by omega) (show _ = some (i64 2) from (Msg.get (l := outF) (k := 0) (off := 12) (by decide) (by decide)).trans (by kernel_rfl)) Try.isAgg3) ?_
      refine WL.vg rfl rfl rfl rfl (X.neq rfl rfl) ?_
      refine WL.va rfl rfl rfl (X.pickF rfl rfl rfl) ?_
      refine WL.va rfl rfl rfl (X.moveB rfl) ?_
      refine WL.vg rfl rfl rfl rfl (X.move rfl) ?_
      refine WL.vg rfl rfl rfl rfl (X.idx (k := 0) (Row.of_own (OwnM.n ob7 (n := 3) (by decide))) rfl rfl (by omega) Try.underlying36 Try.sizeOf40) ?_
      refine WL.vg rfl rfl rfl rfl (X.fieldAddrA rfl Try.underlying40 rfl rfl Try.sizeOf3) ?_
      refine WL.vg rfl rfl rfl rfl (X.loadE (Row.of_own (OwnM.n ob7 (n := 3) (by decide))) (Ext.refl _) rfl (by omega) (show _ = some (i64 1) from (Msg.get (l := outF) (k := 0) (off := 10) (by decide) (by decide)).trans (by kernel_rfl)) Try.isAgg3) ?_
      refine WL.vg rfl rfl rfl rfl (X.neq rfl rfl) ?_
      refine WL.va rfl rfl rfl (X.pickF rfl rfl rfl) ?_
      refine WL.nil ?_
      refine thn_n ?_
      refine WF.cond_f rfl ?_
      refine WF.skip ?_
      refine thn_n ?_
      refine WF.seq ?_
      refine WF.region ?_
      refine WL.va rfl rfl rfl (X.move rfl) ?_
      refine WL.va rfl rfl rfl (X.buildT (P := Try.prog) (t := 40) (cs := (Msg.bare km7)) (zs := [i64 0, i64 0, i64 0, i64 0, i64 0, i64 0, i64 0, i64 0, i64 0, i64 0, i64 0, i64 0, i64 0, i64 0, .bool false, .slice none 0 0, .slice none 0 0]) (places := [(0, 1), (1, 1), (2, 1), (3, 1), (4, 1), (5, 1), (6, 1), (7, 1), (8, 1), (9, 1), (10, 1), (11, 1), (12, 1), (13, 1), (14, 1), (15, 1), (16, 1)]) (n := 17) (evp_cons rfl (evp_cons rfl (evp_cons rfl (evp_cons rfl (evp_cons rfl (evp_cons rfl (evp_cons rfl evp_nil))))))) Try.type40 Try.underlying40 rfl rfl ⟨rfl, rfl, rfl, rfl, rfl, rfl, rfl, trivial⟩ rfl rfl rfl) ?_
      have hz7 := ((show Ext w wS7 from (ChgS.toExt (ChgS.toExt (ChgS.toExt (ChgS.toExt (ChgS.toExt (ChgS.toExt (ChgS.toExt (ChgS.toExt (Ext.trans (Ext.trans (Ext.trans (Ext.trans (Ext.trans (Ext.trans (Ext.trans (Ext.trans (Ext.trans (Ext.trans (Ext.trans (Ext.trans (Ext.trans hx2 hx4) hx6) hx8) hx10) hx12) hx14) hx16) hx18) hx20) hx22) hwL0) hx36) hx39) hq0 hFN) hq1 hF0) hq2 hF1) hq3 hF2) hq4 hF3) hq5 hF4) hq6 hF5) hq7 hF6))).size
      refine WL.c rfl rfl rfl (X.call Try.call14 (evl_cons rfl (evl_cons rfl evl_nil))) (step_to (hC7.ext (Ext.refl wS7)) kqok7 kout7) ?_
      rintro vo8 wS8 ⟨ob8, F8, hle8, hC8, hq8, hn8⟩
      have hF8 := low_step hle8 hz7 hF7
      replace hC8 : CAt wS8 F8 g kq8 := hC8
      refine WL.nil ?_
      refine thn_n ?_
      refine WF.seq ?_
      refine WF.region ?_
      refine WL.va rfl rfl rfl (X.move rfl) ?_
      refine WL.va rfl rfl rfl (X.buildT (P := Try.prog) (t := 40) (cs := (Msg.bare km8)) (zs := [i64 0, i64 0, i64 0, i64 0, i64 0, i64 0, i64 0, i64 0, i64 0, i64 0, i64 0, i64 0, i64 0, i64 0, .bool false, .slice none 0 0, .slice none 0 0]) (places := [(0, 1), (1, 1), (2, 1), (3, 1), (4, 1), (5, 1), (6, 1), (7, 1), (8, 1), (9, 1), (10, 1), (11, 1), (12, 1), (13, 1), (14, 1), (15, 1), (16, 1)]) (n := 17) (evp_cons rfl (evp_cons rfl (evp_cons rfl (evp_cons rfl (evp_cons rfl (evp_cons rfl (evp_cons rfl evp_nil))))))) Try.type40 Try.underlying40 rfl rfl ⟨rfl, rfl, rfl, rfl, rfl, rfl, rfl, trivial⟩ rfl rfl rfl) ?_
      have hz8 := ((show Ext w wS8 from (ChgS.toExt (ChgS.toExt (ChgS.toExt (ChgS.toExt (ChgS.toExt (ChgS.toExt (ChgS.toExt (ChgS.toExt (ChgS.toExt (Ext.trans (Ext.trans (Ext.trans (Ext.trans (Ext.trans (Ext.trans (Ext.trans (Ext.trans (Ext.trans (Ext.trans (Ext.trans (Ext.trans (Ext.trans hx2 hx4) hx6) hx8) hx10) hx12) hx14) hx16) hx18) hx20) hx22) hwL0) hx36) hx39) hq0 hFN) hq1 hF0) hq2 hF1) hq3 hF2) hq4 hF3) hq5 hF4) hq6 hF5) hq7 hF6) hq8 hF7))).size
      refine WL.c rfl rfl rfl (X.call Try.call14 (evl_cons rfl (evl_cons rfl evl_nil))) (step_to (hC8.ext (Ext.refl wS8)) kqok8 kout8) ?_
      rintro vo9 wS9 ⟨ob9, F9, hle9, hC9, hq9, hn9⟩
      have hF9 := low_step hle9 hz8 hF8
      replace hC9 : CAt wS9 F9 g kq9 := hC9
      refine WL.nil ?_
      refine thn_n ?_
      refine WF.seq ?_
      refine WF.region ?_
      refine WL.va rfl rfl rfl (X.move rfl) ?_
      refine WL.va rfl rfl rfl (X.buildT (P := Try.prog) (t := 40) (cs := (Msg.bare km9)) (zs := [i64 0, i64 0, i64 0, i64 0, i64 0, i64 0, i64 0, i64 0, i64 0, i64 0, i64 0, i64 0, i64 0, i64 0, .bool false, .slice none 0 0, .slice none 0 0]) (places := [(0, 1), (1, 1), (2, 1), (3, 1), (4, 1), (5, 1), (6, 1), (7, 1), (8, 1), (9, 1), (10, 1), (11, 1), (12, 1), (13, 1), (14, 1), (15, 1), (16, 1)]) (n := 17) (evp_cons rfl (evp_cons rfl (evp_cons rfl (evp_cons rfl (evp_cons rfl (evp_cons rfl (evp_cons rfl evp_nil))))))) Try.type40 Try.underlying40 rfl rfl ⟨rfl, rfl, rfl, rfl, rfl, rfl, rfl, trivial⟩ rfl rfl rfl) ?_
      have hz9 := ((show Ext w wS9 from (ChgS.toExt (ChgS.toExt (ChgS.toExt (ChgS.toExt (ChgS.toExt (ChgS.toExt (ChgS.toExt (ChgS.toExt (ChgS.toExt (ChgS.toExt (Ext.trans (Ext.trans (Ext.trans (Ext.trans (Ext.trans (Ext.trans (Ext.trans (Ext.trans (Ext.trans (Ext.trans (Ext.trans (Ext.trans (Ext.trans hx2 hx4) hx6) hx8) hx10) hx12) hx14) hx16) hx18) hx20) hx22) hwL0) hx36) hx39) hq0 hFN) hq1 hF0) hq2 hF1) hq3 hF2) hq4 hF3) hq5 hF4) hq6 hF5) hq7 hF6) hq8 hF7) hq9 hF8))).size
      refine WL.c rfl rfl rfl (X.call Try.call14 (evl_cons rfl (evl_cons rfl evl_nil))) (step_to (hC9.ext (Ext.refl wS9)) kqok9 kout9) ?_
      rintro vo10 wS10 ⟨ob10, F10, hle10, hC10, hq10, hn10⟩
      have hF10 := low_step hle10 hz9 hF9
      replace hC10 : CAt wS10 F10 g kq10 := hC10
      refine WL.nil ?_
      refine thn_n ?_
      refine WF.seq ?_
      refine WF.region ?_
      refine WL.va rfl rfl rfl (X.move rfl) ?_
      refine WL.va rfl rfl rfl (X.buildT (P := Try.prog) (t := 40) (cs := (Msg.bare km10)) (zs := [i64 0, i64 0, i64 0, i64 0, i64 0, i64 0, i64 0, i64 0, i64 0, i64 0, i64 0, i64 0, i64 0, i64 0, .bool false, .slice none 0 0, .slice none 0 0]) (places := [(0, 1), (1, 1), (2, 1), (3, 1), (4, 1), (5, 1), (6, 1), (7, 1), (8, 1), (9, 1), (10, 1), (11, 1), (12, 1), (13, 1), (14, 1), (15, 1), (16, 1)]) (n := 17) (evp_cons rfl (evp_cons rfl (evp_cons rfl (evp_cons rfl (evp_cons rfl (evp_cons rfl (evp_cons rfl evp_nil))))))) Try.type40 Try.underlying40 rfl rfl ⟨rfl, rfl, rfl, rfl, rfl, rfl, rfl, trivial⟩ rfl rfl rfl) ?_
      have hz10 := ((show Ext w wS10 from (ChgS.toExt (ChgS.toExt (ChgS.toExt (ChgS.toExt (ChgS.toExt (ChgS.toExt (ChgS.toExt (ChgS.toExt (ChgS.toExt (ChgS.toExt (ChgS.toExt (Ext.trans (Ext.trans (Ext.trans (Ext.trans (Ext.trans (Ext.trans (Ext.trans (Ext.trans (Ext.trans (Ext.trans (Ext.trans (Ext.trans (Ext.trans hx2 hx4) hx6) hx8) hx10) hx12) hx14) hx16) hx18) hx20) hx22) hwL0) hx36) hx39) hq0 hFN) hq1 hF0) hq2 hF1) hq3 hF2) hq4 hF3) hq5 hF4) hq6 hF5) hq7 hF6) hq8 hF7) hq9 hF8) hq10 hF9))).size
      refine WL.c rfl rfl rfl (X.call Try.call14 (evl_cons rfl (evl_cons rfl evl_nil))) (step_to (hC10.ext (Ext.refl wS10)) kqok10 kout10) ?_
      rintro vo11 wS11 ⟨ob11, F11, hle11, hC11, hq11, hn11⟩
      have hF11 := low_step hle11 hz10 hF10
      replace hC11 : CAt wS11 F11 g kq11 := hC11
      refine WL.nil ?_
      refine thn_n ?_
      refine WF.seq ?_
      refine WF.region ?_
      refine WL.va rfl rfl rfl (X.move rfl) ?_
      refine WL.va rfl rfl rfl (X.buildT (P := Try.prog) (t := 40) (cs := (Msg.bare km11)) (zs := [i64 0, i64 0, i64 0, i64 0, i64 0, i64 0, i64 0, i64 0, i64 0, i64 0, i64 0, i64 0, i64 0, i64 0, .bool false, .slice none 0 0, .slice none 0 0]) (places := [(0, 1), (1, 1), (2, 1), (3, 1), (4, 1), (5, 1), (6, 1), (7, 1), (8, 1), (9, 1), (10, 1), (11, 1), (12, 1), (13, 1), (14, 1), (15, 1), (16, 1)]) (n := 17) (evp_cons rfl (evp_cons rfl (evp_cons rfl (evp_cons rfl (evp_cons rfl (evp_cons rfl evp_nil)))))) Try.type40 Try.underlying40 rfl rfl ⟨rfl, rfl, rfl, rfl, rfl, rfl, trivial⟩ rfl rfl rfl) ?_
      have hz11 := ((show Ext w wS11 from (ChgS.toExt (ChgS.toExt (ChgS.toExt (ChgS.toExt (ChgS.toExt (ChgS.toExt (ChgS.toExt (ChgS.toExt (ChgS.toExt (ChgS.toExt (ChgS.toExt (ChgS.toExt (Ext.trans (Ext.trans (Ext.trans (Ext.trans (Ext.trans (Ext.trans (Ext.trans (Ext.trans (Ext.trans (Ext.trans (Ext.trans (Ext.trans (Ext.trans hx2 hx4) hx6) hx8) hx10) hx12) hx14) hx16) hx18) hx20) hx22) hwL0) hx36) hx39) hq0 hFN) hq1 hF0) hq2 hF1) hq3 hF2) hq4 hF3) hq5 hF4) hq6 hF5) hq7 hF6) hq8 hF7) hq9 hF8) hq10 hF9) hq11 hF10))).size
      refine WL.c rfl rfl rfl (X.call Try.call14 (evl_cons rfl (evl_cons rfl evl_nil))) (step_to (hC11.ext (Ext.refl wS11)) kqok11 kout11) ?_
      rintro vo12 wS12 ⟨ob12, F12, hle12, hC12, hq12, hn12⟩
      have hF12 := low_step hle12 hz11 hF11
      replace hC12 : CAt wS12 F12 g kq12 := hC12
      refine WL.nil ?_
      refine thn_n ?_
      refine WF.seq ?_
      refine WF.region ?_
      refine WL.va rfl rfl rfl (X.move rfl) ?_
      refine WL.va rfl rfl rfl (X.buildT (P := Try.prog) (t := 40) (cs := (Msg.bare km12)) (zs := [i64 0, i64 0, i64 0, i64 0, i64 0, i64 0, i64 0, i64 0, i64 0, i64 0, i64 0, i64 0, i64 0, i64 0, .bool false, .slice none 0 0, .slice none 0 0]) (places := [(0, 1), (1, 1), (2, 1), (3, 1), (4, 1), (5, 1), (6, 1), (7, 1), (8, 1), (9, 1), (10, 1), (11, 1), (12, 1), (13, 1), (14, 1), (15, 1), (16, 1)]) (n := 17) (evp_cons rfl (evp_cons rfl (evp_cons rfl (evp_cons rfl (evp_cons rfl (evp_cons rfl (evp_cons rfl evp_nil))))))) Try.type40 Try.underlying40 rfl rfl ⟨rfl, rfl, rfl, rfl, rfl, rfl, rfl, trivial⟩ rfl rfl rfl) ?_
      have hz12 := ((show Ext w wS12 from (ChgS.toExt (ChgS.toExt (ChgS.toExt (ChgS.toExt (ChgS.toExt (ChgS.toExt (ChgS.toExt (ChgS.toExt (ChgS.toExt (ChgS.toExt (ChgS.toExt (ChgS.toExt (ChgS.toExt (Ext.trans (Ext.trans (Ext.trans (Ext.trans (Ext.trans (Ext.trans (Ext.trans (Ext.trans (Ext.trans (Ext.trans (Ext.trans (Ext.trans (Ext.trans hx2 hx4) hx6) hx8) hx10) hx12) hx14) hx16) hx18) hx20) hx22) hwL0) hx36) hx39) hq0 hFN) hq1 hF0) hq2 hF1) hq3 hF2) hq4 hF3) hq5 hF4) hq6 hF5) hq7 hF6) hq8 hF7) hq9 hF8) hq10 hF9) hq11 hF10) hq12 hF11))).size
      refine WL.c rfl rfl rfl (X.call Try.call14 (evl_cons rfl (evl_cons rfl evl_nil))) (step_to (hC12.ext (Ext.refl wS12)) kqok12 kout12) ?_
      rintro vo13 wS13 ⟨ob13, F13, hle13, hC13, hq13, hn13⟩
      have hF13 := low_step hle13 hz12 hF12
      replace hC13 : CAt wS13 F13 g kq13 := hC13
      refine WL.nil ?_
      refine thn_n ?_
      refine WF.seq ?_
      refine WF.region ?_
      refine WL.va rfl rfl rfl (X.move rfl) ?_
      refine WL.va rfl rfl rfl (X.buildT (P := Try.prog) (t := 40) (cs := (Msg.bare km13)) (zs := [i64 0, i64 0, i64 0, i64 0, i64 0, i64 0, i64 0, i64 0, i64 0, i64 0, i64 0, i64 0, i64 0, i64 0, .bool false, .slice none 0 0, .slice none 0 0]) (places := [(0, 1), (1, 1), (2, 1), (3, 1), (4, 1), (5, 1), (6, 1), (7, 1), (8, 1), (9, 1), (10, 1), (11, 1), (12, 1), (13, 1), (14, 1), (15, 1), (16, 1)]) (n := 17) (evp_cons rfl (evp_cons rfl (evp_cons rfl (evp_cons rfl (evp_cons rfl (evp_cons rfl evp_nil)))))) Try.type40 Try.underlying40 rfl rfl ⟨rfl, rfl, rfl, rfl, rfl, rfl, trivial⟩ rfl rfl rfl) ?_
      have hz13 := ((show Ext w wS13 from (ChgS.toExt (ChgS.toExt (ChgS.toExt (ChgS.toExt (ChgS.toExt (ChgS.toExt (ChgS.toExt (ChgS.toExt (ChgS.toExt (ChgS.toExt (ChgS.toExt (ChgS.toExt (ChgS.toExt (ChgS.toExt (Ext.trans (Ext.trans (Ext.trans (Ext.trans (Ext.trans (Ext.trans (Ext.trans (Ext.trans (Ext.trans (Ext.trans (Ext.trans (Ext.trans (Ext.trans hx2 hx4) hx6) hx8) hx10) hx12) hx14) hx16) hx18) hx20) hx22) hwL0) hx36) hx39) hq0 hFN) hq1 hF0) hq2 hF1) hq3 hF2) hq4 hF3) hq5 hF4) hq6 hF5) hq7 hF6) hq8 hF7) hq9 hF8) hq10 hF9) hq11 hF10) hq12 hF11) hq13 hF12))).size
      refine WL.c rfl rfl rfl (X.call Try.call14 (evl_cons rfl (evl_cons rfl evl_nil))) (step_to (hC13.ext (Ext.refl wS13)) kqok13 kout13) ?_
      rintro vo14 wS14 ⟨ob14, F14, hle14, hC14, hq14, hn14⟩
      have hF14 := low_step hle14 hz13 hF13
      replace hC14 : CAt wS14 F14 g kq14 := hC14
      refine WL.nil ?_
      refine thn_n ?_
      refine WF.seq ?_
      refine WF.region ?_
      refine WL.va rfl rfl rfl (X.move rfl) ?_
      refine WL.c rfl rfl rfl (X.call Try.call17 (evl_cons rfl evl_nil)) (value_at (hC14.ext (Ext.refl wS14)) kqok14 kval14) ?_
      rintro v75 w74 ⟨rfl, hx76⟩
      refine WL.va rfl rfl rfl (X.assignI rfl) ?_
      refine WL.nil ?_
      refine thn_n ?_
      refine WF.seq ?_
      refine WF.region ?_
      refine WL.va rfl rfl rfl (X.move rfl) ?_
      refine WL.va rfl rfl rfl (X.buildT (P := Try.prog) (t := 40) (cs := (Msg.bare km14)) (zs := [i64 0, i64 0, i64 0, i64 0, i64 0, i64 0, i64 0, i64 0, i64 0, i64 0, i64 0, i64 0, i64 0, i64 0, .bool false, .slice none 0 0, .slice none 0 0]) (places := [(0, 1), (1, 1), (2, 1), (3, 1), (4, 1), (5, 1), (6, 1), (7, 1), (8, 1), (9, 1), (10, 1), (11, 1), (12, 1), (13, 1), (14, 1), (15, 1), (16, 1)]) (n := 17) (evp_cons rfl (evp_cons rfl (evp_cons rfl (evp_cons rfl (evp_cons rfl (evp_cons rfl (evp_cons rfl evp_nil))))))) Try.type40 Try.underlying40 rfl rfl ⟨rfl, rfl, rfl, rfl, rfl, rfl, rfl, trivial⟩ rfl rfl rfl) ?_
      have hz14 := ((show Ext w w74 from (Ext.trans (ChgS.toExt (ChgS.toExt (ChgS.toExt (ChgS.toExt (ChgS.toExt (ChgS.toExt (ChgS.toExt (ChgS.toExt (ChgS.toExt (ChgS.toExt (ChgS.toExt (ChgS.toExt (ChgS.toExt (ChgS.toExt (ChgS.toExt (Ext.trans (Ext.trans (Ext.trans (Ext.trans (Ext.trans (Ext.trans (Ext.trans (Ext.trans (Ext.trans (Ext.trans (Ext.trans (Ext.trans (Ext.trans hx2 hx4) hx6) hx8) hx10) hx12) hx14) hx16) hx18) hx20) hx22) hwL0) hx36) hx39) hq0 hFN) hq1 hF0) hq2 hF1) hq3 hF2) hq4 hF3) hq5 hF4) hq6 hF5) hq7 hF6) hq8 hF7) hq9 hF8) hq10 hF9) hq11 hF10) hq12 hF11) hq13 hF12) hq14 hF13) hx76))).size
      refine WL.c rfl rfl rfl (X.call Try.call14 (evl_cons rfl (evl_cons rfl evl_nil))) (step_to (hC14.ext hx76) kqok14 kout14) ?_
      rintro vo15 wS15 ⟨ob15, F15, hle15, hC15, hq15, hn15⟩
      have hF15 := low_step hle15 hz14 hF14
      replace hC15 : CAt wS15 F15 g kq15 := hC15
      refine WL.nil ?_
      refine thn_n ?_
      refine WF.seq ?_
      refine WF.region ?_
      refine WL.va rfl rfl rfl (X.move rfl) ?_
      refine WL.c rfl rfl rfl (X.call Try.call19 (evl_cons rfl evl_nil)) (top_at (hC15.ext (Ext.refl wS15)) ktop) ?_
      rintro v79 w78 ⟨rfl, hx80⟩
      refine WL.va rfl rfl rfl (X.eql rfl rfl) ?_
      refine WL.va rfl rfl rfl (X.moveB rfl) ?_
      refine WL.vg rfl rfl rfl rfl (X.moveI rfl) ?_
      refine WL.vg rfl rfl rfl rfl (X.eql rfl rfl) ?_
      refine WL.va rfl rfl rfl (X.pickT rfl rfl rfl) ?_
      refine WL.va rfl rfl rfl (X.moveB rfl) ?_
      refine WL.vg rfl rfl rfl rfl (X.move rfl) ?_
      refine WL.cg rfl rfl rfl rfl (X.call Try.call17 (evl_cons rfl evl_nil)) (value_at (hC15.ext hx80) kqok15 kval15) ?_
      rintro v84 w83 ⟨rfl, hx85⟩
      refine WL.vg rfl rfl rfl rfl (X.eql rfl rfl) ?_
      refine WL.va rfl rfl rfl (X.pickT rfl rfl rfl) ?_
      refine WL.va rfl rfl rfl (X.moveB rfl) ?_
      refine WL.vg rfl rfl rfl rfl (X.move rfl) ?_
      refine WL.cg rfl rfl rfl rfl (X.call Try.call12 (evl_cons rfl (evl_cons rfl evl_nil))) (start_to (hC15.ext (Ext.trans hx80 hx85)) kqok15 outB_eq) ?_
      rintro voB wSB ⟨obB, FB, hleB, hCB, hqB, _⟩
      refine WL.vg rfl rfl rfl rfl (X.len (Row.of_own (OwnM.n obB (n := 3) (by decide))) rfl Try.underlying36) ?_
      refine WL.vg rfl rfl rfl rfl (X.eql rfl rfl) ?_
      refine WL.va rfl rfl rfl (X.pickT rfl rfl rfl) ?_
      refine WL.va rfl rfl rfl (X.moveB rfl) ?_
      refine WL.cg rfl rfl rfl rfl (X.call Try.call21 evl_nil) (known_ok _) ?_
      rintro v90 w89 ⟨rfl, hx91⟩
      refine WL.va rfl rfl rfl (X.pickT rfl rfl rfl) ?_
      refine WL.va rfl rfl rfl (X.assignB rfl) ?_
      refine WL.nil ?_
      refine thn_n ?_
      refine WF.ret ?_
      refine fin_r ?_
      exact ⟨rfl, (Ext.trans (ChgS.toExt (Ext.trans (Ext.trans (ChgS.toExt (Ext.trans (ChgS.toExt (ChgS.toExt (ChgS.toExt (ChgS.toExt (ChgS.toExt (ChgS.toExt (ChgS.toExt (ChgS.toExt (ChgS.toExt (ChgS.toExt (ChgS.toExt (ChgS.toExt (ChgS.toExt (ChgS.toExt (ChgS.toExt (Ext.trans (Ext.trans (Ext.trans (Ext.trans (Ext.trans (Ext.trans (Ext.trans (Ext.trans (Ext.trans (Ext.trans (Ext.trans (Ext.trans (Ext.trans hx2 hx4) hx6) hx8) hx10) hx12) hx14) hx16) hx18) hx20) hx22) hwL0) hx36) hx39) hq0 hFN) hq1 hF0) hq2 hF1) hq3 hF2) hq4 hF3) hq5 hF4) hq6 hF5) hq7 hF6) hq8 hF7) hq9 hF8) hq10 hF9) hq11 hF10) hq12 hF11) hq13 hF12) hq14 hF13) hx76) hq15 hF14) hx80) hx85) hqB hF15) hx91)⟩

end Go.Proofs.Ytjmddkaokmdkbaa
