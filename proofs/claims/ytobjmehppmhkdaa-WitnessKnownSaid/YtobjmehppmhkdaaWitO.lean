/- The walks of done, wrote, read and ended. -/
import Derived.Test.YtobjmehppmhkdaaWitN
import Derived.Test.YtobjmehppmhkdaaEvO
import Derived.Test.YtobjmehppmhkdaaBld
namespace Go.Proofs.Ytobjmehppmhkdaa
open Go Go.RowKit Kf
set_option maxRecDepth 20000

def doneL (t : Int) (c : Ca) (a : An) : List Ev := [⟨1, 1, t, c, An.zero⟩, ⟨2, 1, t, c, a⟩]
def wroteC (b : Int) (x : UInt8) : Ca := ⟨3, b, 0, 0, 0, 0, 0, 0, 0, 0, 0, 0, [x, 0, 0, 1]⟩
def readC (b : Int) : Ca := ⟨2, b, 0, 0, 0, 0, 0, 0, 0, 0, 0, 0, []⟩
def commitC : Ca := ⟨4, 0, 0, 0, 0, 0, 0, 0, 0, 0, 0, 0, []⟩
def chosenE (t : Int) : Ev := ⟨3, 0, t, Ca.zero, An.zero⟩
def wroteL (t b : Int) (x : UInt8) : List Ev := doneL t (wroteC b x) An.zero
def readL (t b : Int) (d : List UInt8) : List Ev := doneL t (readC b) ⟨0, 0, d⟩
def endedL (t : Int) (ch : Bool) : List Ev := if ch then [⟨1, 1, t, commitC, An.zero⟩, chosenE t, ⟨2, 1, t, commitC, An.zero⟩] else doneL t commitC An.zero
theorem nilO (w : World) (D : Nat) : OwnB w D 5 (.slice none 0 0) [] := World.ownsRow_nil _ _ _ _
theorem nilA (v : Value) : Apart (.slice none 0 0) v := fun b h => by cases h
set_option maxHeartbeats 4000000 in
theorem done_ok (t : Int) (c : Ca) (a : An) (dc da : Value) (D : Nat) (w : World) (hc : OwnB w D 5 dc c.Data) (ha : OwnB w D 5 da a.Data) : FnOk Try.prog 19 [i64 t, agg (c.c dc), agg (a.c da)] w (fun r w' => (∃ E, E.map Prod.fst = doneL t c a ∧ EvO w' D w.heap.size r E) ∧ Ext w w') := by
  refine FnOk.enter (rs := [6]) Try.func19 rfl Try.ntmps19 Try.results19 rfl rfl ?_
  refine WF.seq ?_
  refine WF.region ?_
  refine WL.op rfl (OW.boxA (cs := (c.c dc)) rfl ?_ (by decide))
  intro g4 w1 heg4 hlg4 hO4 hx3
  have := World.grownBy.size hx3
  refine WL.op rfl (OW.boxA (cs := (a.c da)) rfl ?_ (by decide))
  intro g5 w5 heg5 hlg5 hO5 hx7
  have := World.grownBy.size hx7
  refine WL.va rfl rfl rfl (X.assign rfl) ?_
  refine WL.nil ?_
  refine thn_n ?_
  refine WF.seq ?_
  refine WF.region ?_
  refine WL.va rfl rfl rfl (X.moveI rfl) ?_
  refine WL.va rfl rfl rfl (X.loadOA hO4 hx7 rfl rfl Try.isAgg38 Try.sizeOf38) ?_
  refine WL.va rfl rfl rfl (X.buildG (P := Try.prog) (t := 42) (cs := (EvV.c (((⟨1, 1, t, c, An.zero⟩ : Ev), dc, (.slice none 0 0)) : EvV))) (zs := [i64 0, i64 0, i64 0, i64 0, i64 0, i64 0, i64 0, i64 0, i64 0, i64 0, i64 0, i64 0, i64 0, i64 0, i64 0, .slice none 0 0, i64 0, i64 0, .slice none 0 0]) (places := [(0, 1), (1, 1), (2, 1), (3, 13), (16, 3)]) (ws := [(0, [i64 1]), (1, [i64 1]), (2, [i64 t]), (3, c.c dc)]) (evp_cons rfl (evp_cons rfl (evp_cons rfl (evp_cons rfl evp_nil)))) Try.type42 Try.underlying42 rfl rfl rfl ⟨⟨rfl, rfl⟩, ⟨rfl, rfl⟩, ⟨rfl, rfl⟩, ⟨rfl, rfl⟩, trivial⟩ rfl) ?_
  refine WL.va rfl rfl rfl (X.moveI rfl) ?_
  refine WL.va rfl rfl rfl (X.loadOA hO4 hx7 rfl rfl Try.isAgg38 Try.sizeOf38) ?_
  refine WL.va rfl rfl rfl (X.loadOA hO5 (Ext.refl _) rfl rfl Try.isAgg40 Try.sizeOf40) ?_
  refine WL.va rfl rfl rfl (X.buildG (P := Try.prog) (t := 42) (cs := (EvV.c (((⟨2, 1, t, c, a⟩ : Ev), dc, da) : EvV))) (zs := [i64 0, i64 0, i64 0, i64 0, i64 0, i64 0, i64 0, i64 0, i64 0, i64 0, i64 0, i64 0, i64 0, i64 0, i64 0, .slice none 0 0, i64 0, i64 0, .slice none 0 0]) (places := [(0, 1), (1, 1), (2, 1), (3, 13), (16, 3)]) (ws := [(0, [i64 2]), (1, [i64 1]), (2, [i64 t]), (3, c.c dc), (4, a.c da)]) (evp_cons rfl (evp_cons rfl (evp_cons rfl (evp_cons rfl (evp_cons rfl evp_nil))))) Try.type42 Try.underlying42 rfl rfl rfl ⟨⟨rfl, rfl⟩, ⟨rfl, rfl⟩, ⟨rfl, rfl⟩, ⟨rfl, rfl⟩, ⟨rfl, rfl⟩, trivial⟩ rfl) ?_
  have hg0 := (show Ext w w5 from (Ext.trans hx3 hx7))
  have hz0 := World.grownBy.size hg0
  refine WL.op rfl (OW.lits (vs := [agg (EvV.c (((⟨1, 1, t, c, An.zero⟩ : Ev), dc, (.slice none 0 0)) : EvV)), agg (EvV.c (((⟨2, 1, t, c, a⟩ : Ev), dc, da) : EvV))]) (evp_cons rfl (evp_cons rfl evp_nil)) Try.underlying26 Try.sizeOf42 Try.zeroValue42 ⟨rfl, rfl, trivial⟩ rfl rfl rfl ?_ (by decide))
  intro v10 w9 ho12 hx11
  have := World.grownBy.size hx11
  have hws := World.grownBy.size (show Ext w w9 from (Ext.trans (Ext.trans hx3 hx7) hx11))
  have hr0 : World.ownsRow w9 _ 42 19 v10 2 (EvV.c (((⟨1, 1, t, c, An.zero⟩ : Ev), dc, (.slice none 0 0)) : EvV) ++ (EvV.c (((⟨2, 1, t, c, a⟩ : Ev), dc, da) : EvV) ++ [])) := ho12
  have hgx := hx11
  refine WL.va rfl rfl rfl (X.assign rfl) ?_
  refine WL.nil ?_
  refine thn_n ?_
  refine WF.ret ?_
  refine fin_r ?_
  have hE : EvO w9 D w.heap.size _ [(((⟨1, 1, t, c, An.zero⟩ : Ev), dc, (.slice none 0 0)) : EvV), (((⟨2, 1, t, c, a⟩ : Ev), dc, da) : EvV)] := EvO.new (w := w) (fun e he => by simp only [List.mem_cons, List.not_mem_nil, or_false] at he; rcases he with rfl | rfl <;> exact hc) (fun e he => by simp only [List.mem_cons, List.not_mem_nil, or_false] at he; rcases he with rfl | rfl; exact nilO _ _; exact ha) (own_mono hr0 hz0) (Ext.trans (Ext.trans hx3 hx7) hx11) (Nat.le_refl _)
  exact ⟨⟨_, rfl, hE⟩, (Ext.trans (Ext.trans hx3 hx7) hx11)⟩

set_option maxHeartbeats 4000000 in
theorem wrote_ok (t b : Int) (x : UInt8) (w : World) : FnOk Try.prog 16 [i64 t, i64 b, u8 x] w (fun r w' => (∃ E, E.map Prod.fst = wroteL t b x ∧ EvO w' w.heap.size w.heap.size r E) ∧ Ext w w') := by
  refine FnOk.enter (rs := [6]) Try.func16 rfl Try.ntmps16 Try.results16 rfl rfl ?_
  refine WF.seq ?_
  refine WF.region ?_
  refine WL.va rfl rfl rfl (X.assign rfl) ?_
  refine WL.nil ?_
  refine thn_n ?_
  refine WF.seq ?_
  refine WF.region ?_
  refine WL.va rfl rfl rfl (X.moveI rfl) ?_
  refine WL.va rfl rfl rfl (X.moveI rfl) ?_
  refine WL.va rfl rfl rfl (X.moveI rfl) ?_
  refine WL.op rfl (OW.lits (vs := [u8 x, u8 0, u8 0, u8 1]) (evp_cons rfl (evp_cons rfl (evp_cons rfl (evp_cons rfl evp_nil)))) Try.underlying36 Try.sizeOf5 Try.zeroValue5 ⟨rfl, rfl, rfl, rfl, trivial⟩ rfl rfl rfl ?_ (by decide))
  intro vD w1 ho3 hx2
  have hD : OwnB w1 w.heap.size 5 vD [x, 0, 0, 1] := ho3
  have hzD := ((show Ext w w1 from hx2)).size
  refine WL.va rfl rfl rfl (X.buildL (P := Try.prog) (t := 38) (cs := ((wroteC b x).c vD)) (evp_cons rfl (evp_cons rfl (evp_cons rfl evp_nil))) Try.type38 Try.underlying38 rfl rfl ⟨rfl, rfl, own_one hD, trivial⟩ rfl) ?_
  refine WL.va rfl rfl rfl (X.buildL (P := Try.prog) (t := 40) (cs := (An.zero.c (.slice none 0 0))) evp_nil Try.type40 Try.underlying40 rfl rfl trivial rfl) ?_
  refine WL.c rfl rfl rfl (X.call Try.call19 (evl_cons rfl (evl_cons rfl (evl_cons rfl evl_nil)))) (done_ok t (wroteC b x) An.zero vD (.slice none 0 0) w.heap.size _ hD (nilO _ _)) ?_
  rintro v5 w4 ⟨⟨E, hE, oE⟩, hx6⟩
  refine WL.va rfl rfl rfl (X.assign rfl) ?_
  refine WL.nil ?_
  refine thn_n ?_
  refine WF.ret ?_
  refine fin_r ?_
  exact ⟨⟨E, hE, oE.mono (Nat.le_refl _) (by omega)⟩, (Ext.trans hx2 hx6)⟩

set_option maxHeartbeats 4000000 in
theorem read_ok (t b : Int) (v : Value) (d : List UInt8) (D : Nat) (w : World) (hd : OwnB w D 5 v d) : FnOk Try.prog 17 [i64 t, i64 b, v] w (fun r w' => (∃ E, E.map Prod.fst = readL t b d ∧ EvO w' D w.heap.size r E) ∧ Ext w w') := by
  refine FnOk.enter (rs := [6]) Try.func17 rfl Try.ntmps17 Try.results17 rfl rfl ?_
  refine WF.seq ?_
  refine WF.region ?_
  refine WL.va rfl rfl rfl (X.assign rfl) ?_
  refine WL.nil ?_
  refine thn_n ?_
  refine WF.seq ?_
  refine WF.region ?_
  refine WL.va rfl rfl rfl (X.moveI rfl) ?_
  refine WL.va rfl rfl rfl (X.moveI rfl) ?_
  refine WL.va rfl rfl rfl (X.buildL (P := Try.prog) (t := 38) (cs := ((readC b).c (.slice none 0 0))) (evp_cons rfl (evp_cons rfl evp_nil)) Try.type38 Try.underlying38 rfl rfl ⟨rfl, rfl, trivial⟩ rfl) ?_
  refine WL.va rfl rfl rfl (X.move rfl) ?_
  refine WL.va rfl rfl rfl (X.buildL (P := Try.prog) (t := 40) (cs := ((⟨0, 0, d⟩ : An).c v)) (evp_cons rfl evp_nil) Try.type40 Try.underlying40 rfl rfl ⟨own_one hd, trivial⟩ rfl) ?_
  refine WL.c rfl rfl rfl (X.call Try.call19 (evl_cons rfl (evl_cons rfl (evl_cons rfl evl_nil)))) (done_ok t (readC b) ⟨0, 0, d⟩ (.slice none 0 0) v D _ (nilO _ _) (own_ext hd (Ext.refl w))) ?_
  rintro v2 w1 ⟨⟨E, hE, oE⟩, hx3⟩
  refine WL.va rfl rfl rfl (X.assign rfl) ?_
  refine WL.nil ?_
  refine thn_n ?_
  refine WF.ret ?_
  refine fin_r ?_
  exact ⟨⟨E, hE, oE⟩, hx3⟩

set_option maxHeartbeats 4000000 in
theorem ended_ok (t : Int) (ch : Bool) (w : World) : FnOk Try.prog 18 [i64 t, .bool ch] w (fun r w' => (∃ E, E.map Prod.fst = endedL t ch ∧ EvO w' w.heap.size w.heap.size r E) ∧ Ext w w') := by
  refine FnOk.enter (rs := [4]) Try.func18 rfl Try.ntmps18 Try.results18 rfl rfl ?_
  refine WF.seq ?_
  refine WF.region ?_
  refine WL.va rfl rfl rfl (X.assign rfl) ?_
  refine WL.nil ?_
  refine thn_n ?_
  refine WF.seq ?_
  refine WF.region ?_
  refine WL.va rfl rfl rfl (X.moveI rfl) ?_
  refine WL.va rfl rfl rfl (X.buildL (P := Try.prog) (t := 38) (cs := (commitC.c (.slice none 0 0))) (evp_cons rfl evp_nil) Try.type38 Try.underlying38 rfl rfl ⟨rfl, trivial⟩ rfl) ?_
  refine WL.va rfl rfl rfl (X.buildL (P := Try.prog) (t := 40) (cs := (An.zero.c (.slice none 0 0))) evp_nil Try.type40 Try.underlying40 rfl rfl trivial rfl) ?_
  refine WL.c rfl rfl rfl (X.call Try.call19 (evl_cons rfl (evl_cons rfl (evl_cons rfl evl_nil)))) (done_ok t commitC An.zero (.slice none 0 0) (.slice none 0 0) w.heap.size _ (nilO _ _) (nilO _ _)) ?_
  rintro v2 w1 ⟨⟨E, hE, oE⟩, hx3⟩
  obtain ⟨d0, c0, d1, c1, rfl⟩ := two_of hE
  have hz1 := World.grownBy.size (show Ext w w1 from hx3)
  refine WL.va rfl rfl rfl (X.assign rfl) ?_
  refine WL.nil ?_
  refine thn_n ?_
  refine WF.seq ?_
  refine WF.seq ?_
  refine WF.region ?_
  refine WL.va rfl rfl rfl (X.moveB rfl) ?_
  refine WL.nil ?_
  refine thn_n ?_
  refine WF.cond rfl (fun h0_3 => ?_) (fun h0_3 => ?_)
  · have gh0_3 := h0_3
    have hch : ch = true := gh0_3
    refine WF.seq ?_
    refine WF.drawn (.q 0 (.q 1 (.q 2 (.q 3 (.q 4 (.q 5 (.q 6 (.q 7 (.l 8 (.q 9 .nil)))))))))) (fun w' => Ext w1 w') 10 (by kernel_rfl) (by kernel_rfl) (Ext.drew _) ?_
    refine WO.q rfl rfl rfl rfl (fun w' hE5 => (X.move rfl)) ?_
    refine WO.q rfl rfl rfl rfl (fun w' hE5 => (X.idx (k := 0) (show Row _ _ 2 19 (EvV.c (((⟨1, 1, t, commitC, An.zero⟩ : Ev), d0, c0) : EvV) ++ (EvV.c (((⟨2, 1, t, commitC, An.zero⟩ : Ev), d1, c1) : EvV) ++ [])) from Row.of_own oE.row) rfl rfl (by omega) Try.underlying26 Try.sizeOf42)) ?_
    refine WO.q rfl rfl rfl rfl (fun w' hE5 => (X.loadEl (show Row _ _ 2 19 (EvV.c (((⟨1, 1, t, commitC, An.zero⟩ : Ev), d0, c0) : EvV) ++ (EvV.c (((⟨2, 1, t, commitC, An.zero⟩ : Ev), d1, c1) : EvV) ++ [])) from Row.of_own oE.row) hE5 rfl (by omega) rfl Try.isAgg42 Try.sizeOf42)) ?_
    refine WO.q rfl rfl rfl rfl (fun w' hE5 => (X.moveI rfl)) ?_
    refine WO.q rfl rfl rfl rfl (fun w' hE5 => (X.buildL (P := Try.prog) (t := 42) (cs := (EvV.c ((chosenE t, (.slice none 0 0), (.slice none 0 0)) : EvV))) (evp_cons rfl (evp_cons rfl evp_nil)) Try.type42 Try.underlying42 rfl rfl ⟨rfl, rfl, trivial⟩ rfl)) ?_
    refine WO.q rfl rfl rfl rfl (fun w' hE5 => (X.move rfl)) ?_
    refine WO.q rfl rfl rfl rfl (fun w' hE5 => (X.idx (k := 1) (show Row _ _ 2 19 (EvV.c (((⟨1, 1, t, commitC, An.zero⟩ : Ev), d0, c0) : EvV) ++ (EvV.c (((⟨2, 1, t, commitC, An.zero⟩ : Ev), d1, c1) : EvV) ++ [])) from Row.of_own oE.row) rfl rfl (by omega) Try.underlying26 Try.sizeOf42)) ?_
    refine WO.q rfl rfl rfl rfl (fun w' hE5 => (X.loadEl (show Row _ _ 2 19 (EvV.c (((⟨1, 1, t, commitC, An.zero⟩ : Ev), d0, c0) : EvV) ++ (EvV.c (((⟨2, 1, t, commitC, An.zero⟩ : Ev), d1, c1) : EvV) ++ [])) from Row.of_own oE.row) hE5 rfl (by omega) rfl Try.isAgg42 Try.sizeOf42)) ?_
    refine WO.l ?_
    have hd1 := World.grownBy.size (show Ext w1 w1.drew from (Ext.drew _))
    refine LO.go rfl rfl (OW.lits (vs := [agg (EvV.c (((⟨1, 1, t, commitC, An.zero⟩ : Ev), d0, c0) : EvV)), agg (EvV.c ((chosenE t, (.slice none 0 0), (.slice none 0 0)) : EvV)), agg (EvV.c (((⟨2, 1, t, commitC, An.zero⟩ : Ev), d1, c1) : EvV))]) (evp_cons rfl (evp_cons rfl (evp_cons rfl evp_nil))) Try.underlying26 Try.sizeOf42 Try.zeroValue42 ⟨rfl, rfl, rfl, trivial⟩ rfl rfl rfl ?_ (by decide))
    intro v7 w6 ho9 hx8
    have hr0 : World.ownsRow w6 _ 42 19 v7 3 (EvV.c (((⟨1, 1, t, commitC, An.zero⟩ : Ev), d0, c0) : EvV) ++ (EvV.c ((chosenE t, (.slice none 0 0), (.slice none 0 0)) : EvV) ++ (EvV.c (((⟨2, 1, t, commitC, An.zero⟩ : Ev), d1, c1) : EvV) ++ []))) := ho9
    refine ⟨(Ext.trans (Ext.drew _) hx8), ?_⟩
    refine WO.q rfl rfl rfl rfl (fun w' hE5 => (X.assign rfl)) ?_
    refine WO.nil ?_
    refine WL.nil ?_
    refine thn_n ?_
    refine WF.ret ?_
    refine thn_r ?_
    refine fin_r ?_
    have hE3 : EvO w6 w.heap.size w1.heap.size _ [(((⟨1, 1, t, commitC, An.zero⟩ : Ev), d0, c0) : EvV), ((chosenE t, (.slice none 0 0), (.slice none 0 0)) : EvV), (((⟨2, 1, t, commitC, An.zero⟩ : Ev), d1, c1) : EvV)] := oE.lay (F := [(((⟨1, 1, t, commitC, An.zero⟩ : Ev), d0, c0) : EvV), ((chosenE t, (.slice none 0 0), (.slice none 0 0)) : EvV), (((⟨2, 1, t, commitC, An.zero⟩ : Ev), d1, c1) : EvV)]) (own_mono hr0 hd1) (Ext.trans (Ext.drew _) hx8) (Nat.le_refl _) (fun e he => by simp only [List.mem_cons, List.not_mem_nil, or_false] at he; rcases he with rfl | rfl | rfl; exact .inl (by simp); exact .inr ⟨nilO _ _, nilO _ _⟩; exact .inl (by simp))
    exact ⟨⟨_, by rw [hch]; rfl, hE3.mono (Nat.le_refl _) hz1⟩, (Ext.trans (Ext.trans hx3 (Ext.drew _)) hx8)⟩
  · have gh0_3 := h0_3
    have hch : ch = false := gh0_3
    refine WF.skip ?_
    refine thn_n ?_
    refine WF.seq ?_
    refine WF.region ?_
    refine WL.va rfl rfl rfl (X.move rfl) ?_
    refine WL.va rfl rfl rfl (X.assign rfl) ?_
    refine WL.nil ?_
    refine thn_n ?_
    refine WF.ret ?_
    refine fin_r ?_
    exact ⟨⟨_, by rw [hE, hch]; rfl, oE⟩, hx3⟩

end Go.Proofs.Ytobjmehppmhkdaa
