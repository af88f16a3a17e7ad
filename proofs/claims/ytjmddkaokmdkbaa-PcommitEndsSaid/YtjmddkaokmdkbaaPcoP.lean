/- The walks of the example and of PcommitPlays. -/
import Derived.Test.YtjmddkaokmdkbaaPl
namespace Go.Proofs.Ytjmddkaokmdkbaa
open Go Go.RowKit Kf
set_option maxRecDepth 20000

/-- what is done: a Start, or a message -/
structure Act where
  Start : Bool
  N : Int
  M : Msg
def ActR (_w : World) (cs : List Value) (a : Act) : Prop := ∃ e d, cs = .bool a.Start :: i64 a.N :: a.M.c e d
abbrev Acts (w : World) (v : Value) (l : List Act) : Prop := Recs ActR 19 w v l
theorem act_msg {cs : List Value} {k : Nat} {x y : Value} {l : List Value} (h : el cs 19 k = x :: y :: l) : (cs.drop (k * 19 + 2)).take 17 = l := by
  have h2 := congrArg (fun z => z.drop 2) h
  simp only [el, List.drop_take, List.drop_drop, List.drop_succ_cons, List.drop_zero] at h2
  exact h2
section
variable {P : Program} {f : Fr} {w w' : World} {dst : Option Tmp} {ty t e t' : TypeId} {pos : String} {aft : Array Edge} {gd : Option (Nat × Bool)} {x y : Operand}
theorem X.eqlPN {a : Addr} (hx : ev f x = .pointer (some a)) (hy : ev f y = .pointer none) (ht : P.underlying t = some (.pointer e)) : (execOp (ev f) ⟨dst, .binOp .eql t x y t', ty, pos, aft, gd⟩).run P w = .ok (.value (.bool false)) w := by
  simp [execOp, hx, hy, eqGuard, binOp, X.run_equal_ptr_nil ht]
theorem run_equal_ptr_nn (ht : P.underlying t = some (.pointer e)) : (Op.equal t (.pointer none) (.pointer none)).run P w = .ok true w := by
  unfold Op.equal
  rw [show Op.maxDepth = 9999 + 1 from rfl, Op.equalIn]
  simp only [Sem.run_bind, run_underlying ht, Result.andThen]
  rfl
theorem X.eqlPNN (hx : ev f x = .pointer none) (hy : ev f y = .pointer none) (ht : P.underlying t = some (.pointer e)) : (execOp (ev f) ⟨dst, .binOp .eql t x y t', ty, pos, aft, gd⟩).run P w = .ok (.value (.bool true)) w := by
  simp [execOp, hx, hy, eqGuard, binOp, run_equal_ptr_nn ht]
/-- a write into a list of messages meets no coordinator -/
theorem blk_ne {g b : Nat} {e : TypeId} {cs : List Value} {cur : Array Value} (h : Blk w g e cs) (o : w.heap[b]? = some (.cells cur 40 (0, 0))) (he : e ≠ 40) : b ≠ g := fun q => by
  subst q
  have := h.heap.symm.trans o
  injection this with this; injection this with _ h2 _; exact he h2
theorem map_ne {κ : Type} {enc : κ → Value} {g b : Nat} {l : List (κ × Value)} {cur : Array Value} (h : MapB enc w g l) (o : w.heap[b]? = some (.cells cur 40 (0, 0))) : b ≠ g := fun q => by
  subst q
  obtain ⟨es, c, h1, _⟩ := h.heap
  have := h1.symm.trans o
  injection this with this; cases this
theorem row_ne {B sz n b : Nat} {e : TypeId} {v : Value} {xs : List Value} {cur : Array Value} (h : w.ownsRow B e sz v n xs) (o : w.heap[b]? = some (.cells cur 40 (0, 0))) (he : e ≠ 40) : v.ownBlock ≠ some b := fun q => by
  rcases h.2 with ⟨rfl, _⟩ | ⟨g, cap, cur', rfl, _, hg, _⟩
  · cases q
  · injection q with q; subst q
    have := hg.symm.trans o
    injection this with this; injection this with _ h2 _; exact he h2
theorem _root_.Go.Proofs.Ytjmddkaokmdkbaa.Kf.RowF.spoil {F : Fp Rl} {r : Rl} {e : TypeId} {sz n b : Nat} {v : Value} {cs : List Value} {cur : Array Value} (h : RowF w F r e sz v n cs) (o : w.heap[b]? = some (.cells cur 40 (0, 0))) (he : e ≠ 40) (k : w.grownBy w' (some b)) : RowF w' F r e sz v n cs :=
  ⟨own_chgS h.own ((ChgS.refl (fun i => i = b) w).row1 k (.inl rfl)) (fun q hq e => row_ne h.own o he (e ▸ hq)), h.fp⟩
end
section
variable {w w' : World} {F : Fp Rl} {g B n b : Nat} {c : CC} {r : RC} {v : Value} {cs : List Value}
theorem IntB.spoil {f : Int → Int} {cur : Array Value} (h : IntB w g f) (o : w.heap[b]? = some (.cells cur 40 (0, 0))) (k : w.grownBy w' (some b)) : IntB w' g f := by
  obtain ⟨L, h1, h2⟩ := h; exact ⟨L, h1.keptO k (map_ne h1 o), h2⟩
theorem CAt.spoil (h : CAt w F g c) (o : w.ownsRow B 40 17 v n cs) (k : w.grownBy w' v.ownBlock) : CAt w' F g c := by
  rcases o.2 with ⟨rfl, _⟩ | ⟨b, cap, cur, rfl, _, hb, _⟩
  · exact h.ext k
  · replace k : w.grownBy w' (some b) := k
    obtain ⟨vp, ga, gc, vr, vo, h⟩ := h
    refine ⟨vp, ga, gc, vr, vo, Fp.below_le h.below k.size, h.at_, h.obj.keptO k (blk_ne h.obj hb (by decide)), h.fa, h.fc, h.parts.spoil hb (by decide) k, ?_, h.ch.spoil hb k, fun e => ?_⟩
    · obtain ⟨L, G, h1, h2, h3, h4⟩ := h.acc
      exact ⟨L, G, h1.keptO k (map_ne h1 hb), h2, h3, fun q gi e => ⟨(h4 q gi e).1, (h4 q gi e).2.keptO k (map_ne (h4 q gi e).2 hb)⟩⟩
    · obtain ⟨gr, go, e1, e2, f1, f2, ⟨L, V, p1, p2, p3⟩, p4⟩ := h.run e
      exact ⟨gr, go, e1, e2, f1, f2, ⟨L, V, p1.keptO k (map_ne p1 hb), p2, fun q => (p3 q).spoil hb (by decide) k⟩, p4.spoil hb k⟩
theorem RAt.spoil (h : RAt w F g r) (o : w.ownsRow B 40 17 v n cs) (k : w.grownBy w' v.ownBlock) : RAt w' F g r := by
  rcases o.2 with ⟨rfl, _⟩ | ⟨b, cap, cur, rfl, _, hb, _⟩
  · exact h.ext k
  · replace k : w.grownBy w' (some b) := k
    obtain ⟨vp, va, vr, vo, h⟩ := h
    exact ⟨vp, va, vr, vo, Fp.below_le h.below k.size, h.at_, h.obj.keptO k (blk_ne h.obj hb (by decide)), h.parts.spoil hb (by decide) k, h.acc.spoil hb (by decide) k, h.prom.spoil hb (by decide) k, h.prop.spoil hb (by decide) k⟩
/-- two that stand apart -/
theorem dis_step {F1 F1a F2 : Fp Rl} (hle : F1.le w F1a) (hb : F2.below w) (hd : ∀ b, F2 b ≠ none → F1 b = none) : ∀ b, F2 b ≠ none → F1a b = none := fun b h => by
  cases e : F1a b with
  | none => rfl
  | some q =>
    rcases hle.new b (by rw [e]; simp) with h1 | h1
    · exact absurd (hd b h) h1
    · have := hb b h; omega
theorem dis_sym {F1 F2 : Fp Rl} (hd : ∀ b, F2 b ≠ none → F1 b = none) : ∀ b, F1 b ≠ none → F2 b = none := fun b h => by
  cases e : F2 b with
  | none => rfl
  | some q => exact absurd (hd b (by rw [e]; simp)) h
theorem low_step {F1 F1a : Fp Rl} {m : Nat} (hle : F1.le w F1a) (hm : m ≤ w.heap.size) (hl : ∀ b, F1 b ≠ none → m ≤ b) : ∀ b, F1a b ≠ none → m ≤ b := fun b h => by
  rcases hle.new b h with h1 | h1
  · exact hl b h1
  · omega
theorem allM_bare {me txn num nac : Int} {m : Msg} (h : Bare m) : ∀ x ∈ allM me txn num nac m, Bare x := fun x hx => by
  obtain ⟨i, _, rfl⟩ := List.mem_map.1 hx; exact h
theorem startM_bare {c : CC} {b : Int} : ∀ x ∈ c.startM b, Bare x := fun x hx => by
  obtain ⟨p, _, hx⟩ := List.mem_flatMap.1 hx
  split at hx
  · exact allM_bare ⟨rfl, rfl⟩ x hx
  · cases hx
theorem step_bare {c : CC} {m : Msg} : ∀ x ∈ (c.step m).2, Bare x := fun x hx => by
  unfold CC.step at hx
  split at hx
  · cases hx
  · split at hx
    · cases hx
    · split at hx
      · cases hx
      · split at hx
        · cases hx
        · unfold CC.promise at hx
          split at hx
          · cases hx
          · split at hx
            · cases hx
            · simp only at hx
              split at hx
              · cases hx
              · exact allM_bare ⟨rfl, rfl⟩ x hx
theorem newY_ok (me txn nac : Int) (v : Value) (l : List Int) (w : World) (hb : Ints w v l) (h : newOk me txn nac l = true) : FnOk Try.prog 8 [i64 me, i64 txn, v, i64 nac] w (fun r w' => (∃ g F, r = .tuple #[at_ g, i64 0] ∧ CAt w' F g (CC.new me txn nac l) ∧ ∀ b, F b ≠ none → w.heap.size ≤ b) ∧ Ext w w') :=
  (new_ok me txn nac v l w hb).mono fun _ _ ⟨_, h2, h3⟩ => ⟨h2 h, h3⟩
theorem newN_ok (me txn nac : Int) (v : Value) (l : List Int) (w : World) (hb : Ints w v l) (h : newOk me txn nac l = false) : FnOk Try.prog 8 [i64 me, i64 txn, v, i64 nac] w (fun r w' => r = .tuple #[.pointer none, i64 3] ∧ Ext w w') :=
  (new_ok me txn nac v l w hb).mono fun _ _ ⟨h1, _, h3⟩ => ⟨h1 h, h3⟩
theorem newRY_ok (me txn nac : Int) (v : Value) (l : List Int) (w : World) (hb : Ints w v l) (hz : l.length ≤ 17592186043904) (h : newOk me txn nac l = true) : FnOk Try.prog 9 [i64 me, i64 txn, v, i64 nac] w (fun r w' => (∃ g F, r = .tuple #[at_ g, i64 0] ∧ RAt w' F g (RC.new me txn nac l) ∧ ∀ b, F b ≠ none → w.heap.size ≤ b) ∧ Ext w w') :=
  (newR_ok me txn nac v l w hb hz).mono fun _ _ ⟨_, h2, h3⟩ => ⟨h2 (new_eq me txn nac l ▸ h), h3⟩
theorem newRN_ok (me txn nac : Int) (v : Value) (l : List Int) (w : World) (hb : Ints w v l) (hz : l.length ≤ 17592186043904) (h : newOk me txn nac l = false) : FnOk Try.prog 9 [i64 me, i64 txn, v, i64 nac] w (fun r w' => r = .tuple #[.pointer none, i64 3] ∧ Ext w w') :=
  (newR_ok me txn nac v l w hb hz).mono fun _ _ ⟨h1, _, h3⟩ => ⟨h1 (new_eq me txn nac l ▸ h), h3⟩
theorem keptI_self {va vl : Value} {l : List Int} (ha : Ints w va (l ++ List.replicate 5 (-77))) (hb : Ints w vl l) (hm : l.length ≤ 17592186043904) : FnOk Try.prog 10 [va, vl] w (fun r w' => r = .bool true ∧ Ext w w') := by
  have := keptInts_ok va vl _ l w ha hb (by omega)
  rwa [decide_eq_true rfl] at this
theorem sameMsgs_self {va vb : Value} {l : List Msg} (h1 : Msgs w va l) (h2 : Msgs w vb l) : FnOk Try.prog 16 [va, vb] w (fun r w' => r = .bool true ∧ Ext w w') := by
  have := sameMsgs_ok va vb l l w h1 h2
  rwa [decide_eq_true rfl] at this
theorem OwnM.msgs {B : Nat} {v : Value} {l : List Msg} (h : OwnM w B 40 v l) (hb : ∀ m ∈ l, Bare m) : Msgs w v l := msgs_of_row (Row.of_own h) hb
theorem valueR_eq (F : Fp Rl) (g : Nat) (c : CC) (r : RC) (w : World) (h : RAt w F g r) (hok : r.ok) (e : c.value = r.value) : FnOk Try.prog 18 [at_ g] w (fun q w' => q = i64 c.value ∧ Ext w w') := by
  rw [e]; exact valueR_ok F g r w h hok
end
def accM (p f v : Int) : Msg := { Msg.zero with Kind := 11, From := f, To := 101, Txn := 5, Part := p, Ok := true, Value := v }
theorem accLit_ok (p f v : Int) (w : World) : FnOk Try.prog 41 [i64 p, i64 f, i64 v] w (fun r w' => r = agg (accM p f v).bare ∧ Ext w w') := by
  refine FnOk.enterC (rs := [.cell 6 40]) Try.func41 rfl Try.ntmps41 Try.results41 rfl rfl ?_
  refine WF.seq ?_
  refine WF.region ?_
  refine WL.op rfl (OW.allocO (cs := [i64 0, i64 0, i64 0, i64 0, i64 0, i64 0, i64 0, i64 0, i64 0, i64 0, i64 0, i64 0, i64 0, i64 0, .bool false, .slice none 0 0, .slice none 0 0]) Try.zeroValue40 rfl ?_ (by decide))
  intro g6 w1 heg6 hlg6 hO6 hx3
  have := World.grownBy.size hx3
  refine WL.nil ?_
  refine thn_n ?_
  refine WF.seq ?_
  refine WF.region ?_
  refine WL.va rfl rfl rfl (X.moveI rfl) ?_
  refine WL.va rfl rfl rfl (X.moveI rfl) ?_
  refine WL.va rfl rfl rfl (X.moveI rfl) ?_
  refine WL.va rfl rfl rfl (X.buildT (P := Try.prog) (t := 40) (cs := (Msg.bare (accM p f v))) (zs := [i64 0, i64 0, i64 0, i64 0, i64 0, i64 0, i64 0, i64 0, i64 0, i64 0, i64 0, i64 0, i64 0, i64 0, .bool false, .slice none 0 0, .slice none 0 0]) (places := [(0, 1), (1, 1), (2, 1), (3, 1), (4, 1), (5, 1), (6, 1), (7, 1), (8, 1), (9, 1), (10, 1), (11, 1), (12, 1), (13, 1), (14, 1), (15, 1), (16, 1)]) (n := 17) (evp_cons rfl (evp_cons rfl (evp_cons rfl (evp_cons rfl (evp_cons rfl (evp_cons rfl (evp_cons rfl evp_nil))))))) Try.type40 Try.underlying40 rfl rfl ⟨rfl, rfl, rfl, rfl, rfl, rfl, rfl, trivial⟩ rfl rfl rfl) ?_
  refine WL.op rfl (OW.storeOA hO6 rfl rfl rfl (Msg.bare_one _) Try.sizeOf40 ?_)
  intro w5 hO6 hx7
  have := World.grownBy.size hx7
  refine WL.nil ?_
  refine thn_n ?_
  refine WF.ret ?_
  refine finC_r (vs := [_]) ⟨⟨_, rfl, readO hO6 Try.isAgg40 Try.sizeOf40⟩, trivial⟩ ?_
  exact ⟨rfl, (Ext.store hx3 hx7 (by omega))⟩

def kc0 : CC := CC.new 101 5 3 [1, 3]
def kc1 : CC := (kc0.step (accM 1 1 1)).1
def kc2 : CC := (kc1.step (accM 1 2 1)).1
def kc3 : CC := (kc2.step (accM 3 1 1)).1
def kc4 : CC := (kc3.step (accM 3 3 1)).1
theorem kok0 : kc0.ok := (Rel.new (by decide)).ok
theorem kok1 : kc1.ok := kok0.step
theorem kok2 : kc2.ok := kok1.step
theorem kok3 : kc3.ok := kok2.step
theorem kok4 : kc4.ok := kok3.step
theorem kv3 : kc3.value = 0 := by decide
theorem kv4 : kc4.value = 1 := by decide
theorem value_at {F : Fp Rl} {g : Nat} {c : CC} {w : World} {v : Int} (h : CAt w F g c) (hok : c.ok) (e : c.value = v) : FnOk Try.prog 17 [at_ g] w (fun r w' => r = i64 v ∧ Ext w w') := by
  have := value_ok F g c w h hok
  rwa [e] at this
set_option maxHeartbeats 1000000 in
theorem known_ok (w : World) : FnOk Try.prog 21 [] w (fun r w' => r = .bool true ∧ Ext w w') := by
  refine FnOk.enter (rs := [0]) Try.func21 rfl Try.ntmps21 Try.results21 rfl rfl ?_
  refine WF.seq ?_
  refine WF.region ?_
  refine WL.va rfl rfl rfl (X.assignB rfl) ?_
  refine WL.nil ?_
  refine thn_n ?_
  refine WF.seq ?_
  refine WF.region ?_
  refine WL.op rfl (OW.lits (vs := [_, _]) (evp_cons rfl (evp_cons rfl evp_nil)) Try.underlying22 Try.sizeOf3 Try.zeroValue3 ⟨rfl, rfl, trivial⟩ rfl rfl rfl ?_ (by decide))
  intro v3 w2 ho5 hx4
  have hzz := ((show Ext w w2 from hx4)).size
  refine WL.c rfl rfl rfl (X.call Try.call8 (evl_cons rfl (evl_cons rfl (evl_cons rfl (evl_cons rfl evl_nil))))) (newY_ok 101 5 3 _ [1, 3] _ (show Ints _ _ [1, 3] from Row.of_own ho5) (by decide)) ?_
  rintro v6 wS0 ⟨⟨g, F0, rfl, hC0, hlo⟩, hx7⟩
  replace hC0 : CAt wS0 F0 g kc0 := hC0
  have hF0 := fun b hb => Nat.le_trans hzz (hlo b hb)
  refine WL.va rfl rfl rfl (X.move rfl) ?_
  refine WL.va rfl rfl rfl (X.extract rfl rfl) ?_
  refine WL.va rfl rfl rfl (X.extract rfl rfl) ?_
  refine WL.va rfl rfl rfl (X.assign rfl) ?_
  refine WL.va rfl rfl rfl (X.assignI rfl) ?_
  refine WL.nil ?_
  refine thn_n ?_
  refine WF.seq ?_
  refine WF.seq ?_
  refine WF.region ?_
  refine WL.va rfl rfl rfl (X.moveI rfl) ?_
  refine WL.va rfl rfl rfl (X.neq rfl rfl) ?_
  refine WL.va rfl rfl rfl (X.moveB rfl) ?_
  refine WL.vg rfl rfl rfl rfl (X.move rfl) ?_
  refine WL.vg rfl rfl rfl rfl (X.eqlPN rfl rfl Try.underlying27) ?_
  refine WL.va rfl rfl rfl (X.pickF rfl rfl rfl) ?_
  refine WL.nil ?_
  refine thn_n ?_
  refine WF.cond_f rfl ?_
  refine WF.skip ?_
  refine thn_n ?_
  refine WF.seq ?_
  refine WF.region ?_
  refine WL.va rfl rfl rfl (X.move rfl) ?_
  refine WL.c rfl rfl rfl (X.call Try.call41 (evl_cons rfl (evl_cons rfl (evl_cons rfl evl_nil)))) (accLit_ok _ _ _ _) ?_
  rintro v11 w10 ⟨rfl, hx12⟩
  have hz0 := ((show Ext w w10 from (Ext.trans (Ext.trans hx4 hx7) hx12))).size
  refine WL.c rfl rfl rfl (X.call Try.call14 (evl_cons rfl (evl_cons rfl evl_nil))) (step_ok F0 g kc0 (accM 1 1 1) nilS nilS _ (hC0.ext hx12) kok0) ?_
  rintro v13 wS1 ⟨_, F1, hle1, hC1, hq1, _⟩
  have hF1 := low_step hle1 hz0 hF0
  refine WL.nil ?_
  refine thn_n ?_
  refine WF.seq ?_
  refine WF.region ?_
  refine WL.va rfl rfl rfl (X.move rfl) ?_
  refine WL.c rfl rfl rfl (X.call Try.call41 (evl_cons rfl (evl_cons rfl (evl_cons rfl evl_nil)))) (accLit_ok _ _ _ _) ?_
  rintro v16 w15 ⟨rfl, hx17⟩
  have hz1 := ((show Ext w w15 from (Ext.trans (ChgS.toExt (Ext.trans (Ext.trans hx4 hx7) hx12) hq1 hF0) hx17))).size
  refine WL.c rfl rfl rfl (X.call Try.call14 (evl_cons rfl (evl_cons rfl evl_nil))) (step_ok F1 g kc1 (accM 1 2 1) nilS nilS _ (hC1.ext hx17) kok1) ?_
  rintro v18 wS2 ⟨_, F2, hle2, hC2, hq2, _⟩
  have hF2 := low_step hle2 hz1 hF1
  refine WL.nil ?_
  refine thn_n ?_
  refine WF.seq ?_
  refine WF.region ?_
  refine WL.va rfl rfl rfl (X.move rfl) ?_
  refine WL.c rfl rfl rfl (X.call Try.call41 (evl_cons rfl (evl_cons rfl (evl_cons rfl evl_nil)))) (accLit_ok _ _ _ _) ?_
  rintro v21 w20 ⟨rfl, hx22⟩
  have hz2 := ((show Ext w w20 from (Ext.trans (ChgS.toExt (Ext.trans (ChgS.toExt (Ext.trans (Ext.trans hx4 hx7) hx12) hq1 hF0) hx17) hq2 hF1) hx22))).size
  refine WL.c rfl rfl rfl (X.call Try.call14 (evl_cons rfl (evl_cons rfl evl_nil))) (step_ok F2 g kc2 (accM 3 1 1) nilS nilS _ (hC2.ext hx22) kok2) ?_
  rintro v23 wS3 ⟨_, F3, hle3, hC3, hq3, _⟩
  have hF3 := low_step hle3 hz2 hF2
  refine WL.nil ?_
  refine thn_n ?_
  refine WF.seq ?_
  refine WF.region ?_
  refine WL.va rfl rfl rfl (X.move rfl) ?_
  refine WL.c rfl rfl rfl (X.call Try.call17 (evl_cons rfl evl_nil)) (value_at (hC3.ext (Ext.refl wS3)) kok3 kv3) ?_
  rintro v26 w25 ⟨rfl, hx27⟩
  refine WL.va rfl rfl rfl (X.assignI rfl) ?_
  refine WL.nil ?_
  refine thn_n ?_
  refine WF.seq ?_
  refine WF.region ?_
  refine WL.va rfl rfl rfl (X.move rfl) ?_
  refine WL.c rfl rfl rfl (X.call Try.call41 (evl_cons rfl (evl_cons rfl (evl_cons rfl evl_nil)))) (accLit_ok _ _ _ _) ?_
  rintro v29 w28 ⟨rfl, hx30⟩
  have hz3 := ((show Ext w w28 from (Ext.trans (Ext.trans (ChgS.toExt (Ext.trans (ChgS.toExt (Ext.trans (ChgS.toExt (Ext.trans (Ext.trans hx4 hx7) hx12) hq1 hF0) hx17) hq2 hF1) hx22) hq3 hF2) hx27) hx30))).size
  refine WL.c rfl rfl rfl (X.call Try.call14 (evl_cons rfl (evl_cons rfl evl_nil))) (step_ok F3 g kc3 (accM 3 3 1) nilS nilS _ (hC3.ext (Ext.trans hx27 hx30)) kok3) ?_
  rintro v31 wS4 ⟨_, F4, hle4, hC4, hq4, _⟩
  have hF4 := low_step hle4 hz3 hF3
  refine WL.nil ?_
  refine thn_n ?_
  refine WF.seq ?_
  refine WF.region ?_
  refine WL.va rfl rfl rfl (X.moveI rfl) ?_
  refine WL.va rfl rfl rfl (X.eql rfl rfl) ?_
  refine WL.va rfl rfl rfl (X.moveB rfl) ?_
  refine WL.vg rfl rfl rfl rfl (X.move rfl) ?_
  refine WL.cg rfl rfl rfl rfl (X.call Try.call17 (evl_cons rfl evl_nil)) (value_at (hC4.ext (Ext.refl wS4)) kok4 kv4) ?_
  rintro v35 w34 ⟨rfl, hx36⟩
  refine WL.vg rfl rfl rfl rfl (X.eql rfl rfl) ?_
  refine WL.va rfl rfl rfl (X.pickT rfl rfl rfl) ?_
  refine WL.va rfl rfl rfl (X.assignB rfl) ?_
  refine WL.nil ?_
  refine thn_n ?_
  refine WF.ret ?_
  refine fin_r ?_
  exact ⟨rfl, (Ext.trans (ChgS.toExt (Ext.trans (Ext.trans (ChgS.toExt (Ext.trans (ChgS.toExt (Ext.trans (ChgS.toExt (Ext.trans (Ext.trans hx4 hx7) hx12) hq1 hF0) hx17) hq2 hF1) hx22) hq3 hF2) hx27) hx30) hq4 hF3) hx36)⟩

set_option maxHeartbeats 8000000 in
theorem playsN_ok (me txn nac : Int) (vp : Value) (pl : List Int) (v : Value) (l : List Act) (w : World) (hb : Ints w vp pl) (hz : pl.length ≤ 17592186043904) (hl : Acts w v l) (hnw : newOk me txn nac pl = false) : FnOk Try.prog 3 [agg [i64 me, i64 txn, i64 nac, vp], v] w (fun r w' => r = .bool true ∧ Ext w w') := by
  have hll := hl.le
  obtain ⟨cs, hr, hA⟩ := hl
  refine FnOk.enter (rs := [4]) Try.func3 rfl Try.ntmps3 Try.results3 rfl rfl ?_
  refine WF.seq ?_
  refine WF.region ?_
  refine WL.op rfl (OW.boxA (cs := [i64 me, i64 txn, i64 nac, vp]) rfl ?_ (by decide))
  intro g2 w1 heg2 hlg2 hO2 hx3
  have := World.grownBy.size hx3
  refine WL.va rfl rfl rfl (X.assignB rfl) ?_
  refine WL.nil ?_
  refine thn_n ?_
  refine WF.seq ?_
  refine WF.region ?_
  refine WL.va rfl rfl rfl (X.fieldAddrO (off := 3) rfl Try.underlying24 rfl rfl Try.sizeOf22) ?_
  refine WL.va rfl rfl rfl (X.loadO hO2 (Ext.refl _) rfl rfl Try.isAgg22) ?_
  refine WL.c rfl rfl rfl (X.call Try.call7 (evl_cons rfl evl_nil)) (lentInts_ok _ pl _ (Row.ext hb hx3) (by omega)) ?_
  rintro v6 wl ⟨ol, hx7⟩
  have := World.grownBy.size hx7
  refine WL.va rfl rfl rfl (X.assign rfl) ?_
  refine WL.nil ?_
  refine thn_n ?_
  refine WF.seq ?_
  refine WF.drawn (.q 0 (.q 1 (.q 2 (.q 3 (.q 4 (.q 5 (.q 6 (.q 7 (.q 8 (.q 9 (.q 10 (.l 11 (.q 12 (.q 13 (.q 14 (.q 15 (.q 16 .nil))))))))))))))))) (fun w' => Ext wl w') 17 (by kernel_rfl) (by kernel_rfl) (Ext.drew _) ?_
  have := World.grownBy.size (Ext.drew wl)
  refine WO.q rfl rfl rfl rfl (fun w' hE8 => (X.fieldAddrO (off := 0) rfl Try.underlying24 rfl rfl Try.sizeOf3)) ?_
  refine WO.q rfl rfl rfl rfl (fun w' hE8 => (X.loadO hO2 (Ext.trans hx7 hE8) rfl rfl Try.isAgg3)) ?_
  refine WO.q rfl rfl rfl rfl (fun w' hE8 => (X.fieldAddrO (off := 1) rfl Try.underlying24 rfl rfl Try.sizeOf3)) ?_
  refine WO.q rfl rfl rfl rfl (fun w' hE8 => (X.loadO hO2 (Ext.trans hx7 hE8) rfl rfl Try.isAgg3)) ?_
  refine WO.q rfl rfl rfl rfl (fun w' hE8 => (X.move rfl)) ?_
  refine WO.q rfl rfl rfl rfl (fun w' hE8 => (X.fieldAddrO (off := 3) rfl Try.underlying24 rfl rfl Try.sizeOf22)) ?_
  refine WO.q rfl rfl rfl rfl (fun w' hE8 => (X.loadO hO2 (Ext.trans hx7 hE8) rfl rfl Try.isAgg22)) ?_
  refine WO.q rfl rfl rfl rfl (fun w' hE8 => (X.len hb rfl Try.underlying22)) ?_
  refine WO.q rfl rfl rfl rfl (fun w' hE8 => (X.slH (Ints.of_own ol) rfl rfl (by simp) Try.underlying22 Try.sizeOf3)) ?_
  refine WO.q rfl rfl rfl rfl (fun w' hE8 => (X.fieldAddrO (off := 2) rfl Try.underlying24 rfl rfl Try.sizeOf3)) ?_
  refine WO.q rfl rfl rfl rfl (fun w' hE8 => (X.loadO hO2 (Ext.trans hx7 hE8) rfl rfl Try.isAgg3)) ?_
  refine WO.l ?_
  refine LO.go rfl rfl (OW.enter rfl (by decide) (X.call Try.call8 (evl_cons rfl (evl_cons rfl (evl_cons rfl (evl_cons rfl evl_nil))))) (newN_ok me txn nac _ pl _ (lentI_part (own_ext ol (Ext.drew _))) hnw) ?_)
  rintro v10 w9 ⟨rfl, hx11⟩
  have := World.grownBy.size hx11
  refine ⟨(Ext.trans (Ext.drew _) hx11), ?_⟩
  refine WO.q rfl rfl rfl rfl (fun w' hE8 => (X.move rfl)) ?_
  refine WO.q rfl rfl rfl rfl (fun w' hE8 => (X.extract rfl rfl)) ?_
  refine WO.q rfl rfl rfl rfl (fun w' hE8 => (X.extract rfl rfl)) ?_
  refine WO.q rfl rfl rfl rfl (fun w' hE8 => (X.assign rfl)) ?_
  refine WO.q rfl rfl rfl rfl (fun w' hE8 => (X.assignI rfl)) ?_
  refine WO.nil ?_
  refine WL.nil ?_
  refine thn_n ?_
  refine WF.seq ?_
  refine WF.region ?_
  refine WL.va rfl rfl rfl (X.fieldAddrO (off := 0) rfl Try.underlying24 rfl rfl Try.sizeOf3) ?_
  refine WL.va rfl rfl rfl (X.loadO hO2 (Ext.trans (Ext.trans hx7 (Ext.drew _)) hx11) rfl rfl Try.isAgg3) ?_
  refine WL.va rfl rfl rfl (X.fieldAddrO (off := 1) rfl Try.underlying24 rfl rfl Try.sizeOf3) ?_
  refine WL.va rfl rfl rfl (X.loadO hO2 (Ext.trans (Ext.trans hx7 (Ext.drew _)) hx11) rfl rfl Try.isAgg3) ?_
  refine WL.va rfl rfl rfl (X.fieldAddrO (off := 3) rfl Try.underlying24 rfl rfl Try.sizeOf22) ?_
  refine WL.va rfl rfl rfl (X.loadO hO2 (Ext.trans (Ext.trans hx7 (Ext.drew _)) hx11) rfl rfl Try.isAgg22) ?_
  refine WL.va rfl rfl rfl (X.fieldAddrO (off := 2) rfl Try.underlying24 rfl rfl Try.sizeOf3) ?_
  refine WL.va rfl rfl rfl (X.loadO hO2 (Ext.trans (Ext.trans hx7 (Ext.drew _)) hx11) rfl rfl Try.isAgg3) ?_
  refine WL.c rfl rfl rfl (X.call Try.call9 (evl_cons rfl (evl_cons rfl (evl_cons rfl (evl_cons rfl evl_nil))))) (newRN_ok me txn nac _ pl _ (Row.ext hb (Ext.trans (Ext.trans (Ext.trans hx3 hx7) (Ext.drew _)) hx11)) hz hnw) ?_
  rintro v13 w12 ⟨rfl, hx14⟩
  have := World.grownBy.size hx14
  refine WL.va rfl rfl rfl (X.move rfl) ?_
  refine WL.va rfl rfl rfl (X.extract rfl rfl) ?_
  refine WL.va rfl rfl rfl (X.extract rfl rfl) ?_
  refine WL.va rfl rfl rfl (X.assign rfl) ?_
  refine WL.va rfl rfl rfl (X.assignI rfl) ?_
  refine WL.nil ?_
  refine thn_n ?_
  refine WF.seq ?_
  refine WF.seq ?_
  refine WF.region ?_
  refine WL.va rfl rfl rfl (X.moveI rfl) ?_
  refine WL.va rfl rfl rfl (X.moveI rfl) ?_
  refine WL.va rfl rfl rfl (X.neq rfl rfl) ?_
  refine WL.va rfl rfl rfl (X.moveB rfl) ?_
  refine WL.vg rfl rfl rfl rfl (X.move rfl) ?_
  refine WL.vg rfl rfl rfl rfl (X.eqlPNN rfl rfl Try.underlying27) ?_
  refine WL.vg rfl rfl rfl rfl (X.moveI rfl) ?_
  refine WL.vg rfl rfl rfl rfl (X.neq rfl rfl) ?_
  refine WL.vg rfl rfl rfl rfl (X.neqB rfl rfl Try.underlying4) ?_
  refine WL.va rfl rfl rfl (X.pickF rfl rfl rfl) ?_
  refine WL.va rfl rfl rfl (X.moveB rfl) ?_
  refine WL.vg rfl rfl rfl rfl (X.move rfl) ?_
  refine WL.vg rfl rfl rfl rfl (X.fieldAddrO (off := 3) rfl Try.underlying24 rfl rfl Try.sizeOf22) ?_
  refine WL.vg rfl rfl rfl rfl (X.loadO hO2 (Ext.trans (Ext.trans (Ext.trans hx7 (Ext.drew _)) hx11) hx14) rfl rfl Try.isAgg22) ?_
  refine WL.cg rfl rfl rfl rfl (X.call Try.call10 (evl_cons rfl (evl_cons rfl evl_nil))) (keptI_self (Ints.of_own (own_ext ol (Ext.trans (Ext.trans (Ext.drew _) hx11) hx14))) (Row.ext hb (Ext.trans (Ext.trans (Ext.trans (Ext.trans hx3 hx7) (Ext.drew _)) hx11) hx14)) hz) ?_
  rintro v20 w19 ⟨rfl, hx21⟩
  have := World.grownBy.size hx21
  refine WL.vg rfl rfl rfl rfl (X.not rfl) ?_
  refine WL.va rfl rfl rfl (X.pickF rfl rfl rfl) ?_
  refine WL.nil ?_
  refine thn_n ?_
  refine WF.cond_f rfl ?_
  refine WF.skip ?_
  refine thn_n ?_
  refine WF.seq ?_
  refine WF.region ?_
  refine WL.va rfl rfl rfl (X.move rfl) ?_
  refine WL.c rfl rfl rfl (X.call Try.call11 (evl_cons rfl evl_nil)) (spoilInts_ok _ _ _ _ (own_ext ol (Ext.trans (Ext.trans (Ext.trans (Ext.drew _) hx11) hx14) hx21))) ?_
  rintro v25 w24 ⟨_, hx26⟩
  have := World.grownBy.size hx26
  replace hO2 := (hO2.ext (Ext.trans (Ext.trans (Ext.trans (Ext.trans hx7 (Ext.drew _)) hx11) hx14) hx21)).keptR hx26 (fun b hb => by have := ((own_ext ol (Ext.trans (Ext.trans (Ext.trans (Ext.drew _) hx11) hx14) hx21)).lt b hb).1; omega)
  refine WL.nil ?_
  refine thn_n ?_
  refine WF.seq ?_
  refine WF.seq ?_
  refine WF.region ?_
  refine WL.va rfl rfl rfl (X.assignI rfl) ?_
  refine WL.nil ?_
  refine thn_n ?_
  refine WF.block ?_
  refine WF.named (fun F27 hF28 => ?_)
  refine WF.loopN (fun mL0 f' w' => mL0 = 0 ∧ f' 10 = .int .i64 0 ∧ Agree [0, 1, 2, 5, 6, 7, 8, 9, 13, 14, 15, 16, 17, 18, 19, 20, 21, 22, 23, 24, 25, 26, 27, 28, 29, 30, 31, 32, 33, 34, 35, 36, 37, 38, 39, 40, 41, 42, 43, 44, 45, 46, 47, 48, 49, 50, 51, 52, 53, 54, 55, 56, 57, 58, 59, 60] f' F27 ∧ Ext w w') ?_ ?_
  · exact ⟨_, rfl, (congrFun hF28 10), (Agree.refl _ _), (grown_trans (Ext.trans (Ext.trans (Ext.trans (Ext.trans (Ext.trans hx3 hx7) (Ext.drew _)) hx11) hx14) hx21) hx26 (fun i hi => by have := ((own_ext ol (Ext.trans (Ext.trans (Ext.trans (Ext.drew _) hx11) hx14) hx21)).lt i hi).1; omega))⟩
  · rintro mL0 fL0 wL0 ⟨hmL0, e10_L0, hAL0, hwL0⟩
    have := World.grownBy.size hwL0
    refine WF.seq ?_
    refine WF.seq ?_
    refine WF.region ?_
    refine WL.va rfl rfl rfl (X.moveI ((hAL0.eq 7).trans (congrFun hF28 7))) ?_
    refine WL.va rfl rfl rfl (X.eql rfl rfl) ?_
    refine WL.va rfl rfl rfl (X.moveB rfl) ?_
    refine WL.p rfl rfl rfl rfl ?_
    refine WL.p rfl rfl rfl rfl ?_
    refine WL.p rfl rfl rfl rfl ?_
    refine WL.p rfl rfl rfl rfl ?_
    refine WL.va rfl rfl rfl (X.pickF rfl rfl rfl) ?_
    refine WL.va rfl rfl rfl (X.moveB rfl) ?_
    refine WL.p rfl rfl rfl rfl ?_
    refine WL.p rfl rfl rfl rfl ?_
    refine WL.va rfl rfl rfl (X.pickF rfl rfl rfl) ?_
    refine WL.nil ?_
    refine thn_n ?_
    refine WF.cond_f rfl ?_
    refine WF.exit ?_
    refine thn_x ?_
    refine thn_x ?_
    refine blk_eq ?_
    refine thn_n ?_
    refine WF.seq ?_
    refine WF.region ?_
    refine WL.c rfl rfl rfl (X.call Try.call21 evl_nil) (known_ok _) ?_
    rintro v33 w32 ⟨rfl, hx34⟩
    have := World.grownBy.size hx34
    refine WL.va rfl rfl rfl (X.assignB rfl) ?_
    refine WL.nil ?_
    refine thn_n ?_
    refine WF.ret ?_
    refine fin_r ?_
    exact ⟨rfl, (Ext.trans hwL0 hx34)⟩

set_option maxHeartbeats 8000000 in
theorem playsY_ok (me txn nac : Int) (vp : Value) (pl : List Int) (v : Value) (l : List Act) (w : World) (hb : Ints w vp pl) (hz : pl.length ≤ 17592186043904) (hl : Acts w v l) (hnw : newOk me txn nac pl = true) : FnOk Try.prog 3 [agg [i64 me, i64 txn, i64 nac, vp], v] w (fun r w' => r = .bool true ∧ Ext w w') := by
  have hll := hl.le
  obtain ⟨cs, hr, hA⟩ := hl
  refine FnOk.enter (rs := [4]) Try.func3 rfl Try.ntmps3 Try.results3 rfl rfl ?_
  refine WF.seq ?_
  refine WF.region ?_
  refine WL.op rfl (OW.boxA (cs := [i64 me, i64 txn, i64 nac, vp]) rfl ?_ (by decide))
  intro g2 w1 heg2 hlg2 hO2 hx3
  have := World.grownBy.size hx3
  refine WL.va rfl rfl rfl (X.assignB rfl) ?_
  refine WL.nil ?_
  refine thn_n ?_
  refine WF.seq ?_
  refine WF.region ?_
  refine WL.va rfl rfl rfl (X.fieldAddrO (off := 3) rfl Try.underlying24 rfl rfl Try.sizeOf22) ?_
  refine WL.va rfl rfl rfl (X.loadO hO2 (Ext.refl _) rfl rfl Try.isAgg22) ?_
  refine WL.c rfl rfl rfl (X.call Try.call7 (evl_cons rfl evl_nil)) (lentInts_ok _ pl _ (Row.ext hb hx3) (by omega)) ?_
  rintro v6 wl ⟨ol, hx7⟩
  have := World.grownBy.size hx7
  refine WL.va rfl rfl rfl (X.assign rfl) ?_
  refine WL.nil ?_
  refine thn_n ?_
  refine WF.seq ?_
  refine WF.drawn (.q 0 (.q 1 (.q 2 (.q 3 (.q 4 (.q 5 (.q 6 (.q 7 (.q 8 (.q 9 (.q 10 (.l 11 (.q 12 (.q 13 (.q 14 (.q 15 (.q 16 .nil))))))))))))))))) (fun w' => Ext wl w') 17 (by kernel_rfl) (by kernel_rfl) (Ext.drew _) ?_
  have := World.grownBy.size (Ext.drew wl)
  refine WO.q rfl rfl rfl rfl (fun w' hE8 => (X.fieldAddrO (off := 0) rfl Try.underlying24 rfl rfl Try.sizeOf3)) ?_
  refine WO.q rfl rfl rfl rfl (fun w' hE8 => (X.loadO hO2 (Ext.trans hx7 hE8) rfl rfl Try.isAgg3)) ?_
  refine WO.q rfl rfl rfl rfl (fun w' hE8 => (X.fieldAddrO (off := 1) rfl Try.underlying24 rfl rfl Try.sizeOf3)) ?_
  refine WO.q rfl rfl rfl rfl (fun w' hE8 => (X.loadO hO2 (Ext.trans hx7 hE8) rfl rfl Try.isAgg3)) ?_
  refine WO.q rfl rfl rfl rfl (fun w' hE8 => (X.move rfl)) ?_
  refine WO.q rfl rfl rfl rfl (fun w' hE8 => (X.fieldAddrO (off := 3) rfl Try.underlying24 rfl rfl Try.sizeOf22)) ?_
  refine WO.q rfl rfl rfl rfl (fun w' hE8 => (X.loadO hO2 (Ext.trans hx7 hE8) rfl rfl Try.isAgg22)) ?_
  refine WO.q rfl rfl rfl rfl (fun w' hE8 => (X.len hb rfl Try.underlying22)) ?_
  refine WO.q rfl rfl rfl rfl (fun w' hE8 => (X.slH (Ints.of_own ol) rfl rfl (by simp) Try.underlying22 Try.sizeOf3)) ?_
  refine WO.q rfl rfl rfl rfl (fun w' hE8 => (X.fieldAddrO (off := 2) rfl Try.underlying24 rfl rfl Try.sizeOf3)) ?_
  refine WO.q rfl rfl rfl rfl (fun w' hE8 => (X.loadO hO2 (Ext.trans hx7 hE8) rfl rfl Try.isAgg3)) ?_
  refine WO.l ?_
  have hzA := ((show Ext w wl.drew from (Ext.trans (Ext.trans hx3 hx7) (Ext.drew _)))).size
  have hzl := ((show Ext wl wl.drew from (Ext.drew _))).size
  refine LO.go rfl rfl (OW.enter rfl (by decide) (X.call Try.call8 (evl_cons rfl (evl_cons rfl (evl_cons rfl (evl_cons rfl evl_nil))))) (newY_ok me txn nac _ pl _ (lentI_part (own_ext ol (Ext.drew _))) hnw) ?_)
  rintro v9 wA ⟨⟨g, F1, rfl, hC, hlo1⟩, hx10⟩
  have := World.grownBy.size hx10
  refine ⟨(Ext.trans (Ext.drew _) hx10), ?_⟩
  have hF1 := fun b hb => Nat.le_trans hzA (hlo1 b hb)
  refine WO.q rfl rfl rfl rfl (fun w' hE8 => (X.move rfl)) ?_
  refine WO.q rfl rfl rfl rfl (fun w' hE8 => (X.extract rfl rfl)) ?_
  refine WO.q rfl rfl rfl rfl (fun w' hE8 => (X.extract rfl rfl)) ?_
  refine WO.q rfl rfl rfl rfl (fun w' hE8 => (X.assign rfl)) ?_
  refine WO.q rfl rfl rfl rfl (fun w' hE8 => (X.assignI rfl)) ?_
  refine WO.nil ?_
  refine WL.nil ?_
  refine thn_n ?_
  refine WF.seq ?_
  refine WF.region ?_
  refine WL.va rfl rfl rfl (X.fieldAddrO (off := 0) rfl Try.underlying24 rfl rfl Try.sizeOf3) ?_
  refine WL.va rfl rfl rfl (X.loadO hO2 (Ext.trans (Ext.trans hx7 (Ext.drew _)) hx10) rfl rfl Try.isAgg3) ?_
  refine WL.va rfl rfl rfl (X.fieldAddrO (off := 1) rfl Try.underlying24 rfl rfl Try.sizeOf3) ?_
  refine WL.va rfl rfl rfl (X.loadO hO2 (Ext.trans (Ext.trans hx7 (Ext.drew _)) hx10) rfl rfl Try.isAgg3) ?_
  refine WL.va rfl rfl rfl (X.fieldAddrO (off := 3) rfl Try.underlying24 rfl rfl Try.sizeOf22) ?_
  refine WL.va rfl rfl rfl (X.loadO hO2 (Ext.trans (Ext.trans hx7 (Ext.drew _)) hx10) rfl rfl Try.isAgg22) ?_
  refine WL.va rfl rfl rfl (X.fieldAddrO (off := 2) rfl Try.underlying24 rfl rfl Try.sizeOf3) ?_
  refine WL.va rfl rfl rfl (X.loadO hO2 (Ext.trans (Ext.trans hx7 (Ext.drew _)) hx10) rfl rfl Try.isAgg3) ?_
  have hzB := ((show Ext w wA from (Ext.trans (Ext.trans (Ext.trans hx3 hx7) (Ext.drew _)) hx10))).size
  have hCB := hC.ext (Ext.refl wA)
  have hzl2 := ((show Ext wl wA from (Ext.trans (Ext.drew _) hx10))).size
  refine WL.c rfl rfl rfl (X.call Try.call9 (evl_cons rfl (evl_cons rfl (evl_cons rfl (evl_cons rfl evl_nil))))) (newRY_ok me txn nac _ pl _ (Row.ext hb (Ext.trans (Ext.trans (Ext.trans hx3 hx7) (Ext.drew _)) hx10)) hz hnw) ?_
  rintro v11 wB ⟨⟨gr, F2, rfl, hR, hlo2⟩, hx12⟩
  have := World.grownBy.size hx12
  have hF2 := fun b hb => Nat.le_trans hzB (hlo2 b hb)
  have hdis : ∀ b, F2 b ≠ none → F1 b = none := fun b hb2 => by
    cases e : F1 b with
    | none => rfl
    | some q => have h1 := hCB.below b (by rw [e]; simp); have h2 := hlo2 b hb2; omega
  replace hC := hCB.ext hx12
  refine WL.va rfl rfl rfl (X.move rfl) ?_
  refine WL.va rfl rfl rfl (X.extract rfl rfl) ?_
  refine WL.va rfl rfl rfl (X.extract rfl rfl) ?_
  refine WL.va rfl rfl rfl (X.assign rfl) ?_
  refine WL.va rfl rfl rfl (X.assignI rfl) ?_
  refine WL.nil ?_
  refine thn_n ?_
  refine WF.seq ?_
  refine WF.seq ?_
  refine WF.region ?_
  refine WL.va rfl rfl rfl (X.moveI rfl) ?_
  refine WL.va rfl rfl rfl (X.moveI rfl) ?_
  refine WL.va rfl rfl rfl (X.neq rfl rfl) ?_
  refine WL.va rfl rfl rfl (X.moveB rfl) ?_
  refine WL.vg rfl rfl rfl rfl (X.move rfl) ?_
  refine WL.vg rfl rfl rfl rfl (X.eqlPN rfl rfl Try.underlying27) ?_
  refine WL.vg rfl rfl rfl rfl (X.moveI rfl) ?_
  refine WL.vg rfl rfl rfl rfl (X.neq rfl rfl) ?_
  refine WL.vg rfl rfl rfl rfl (X.neqB rfl rfl Try.underlying4) ?_
  refine WL.va rfl rfl rfl (X.pickF rfl rfl rfl) ?_
  refine WL.va rfl rfl rfl (X.moveB rfl) ?_
  refine WL.vg rfl rfl rfl rfl (X.move rfl) ?_
  refine WL.vg rfl rfl rfl rfl (X.fieldAddrO (off := 3) rfl Try.underlying24 rfl rfl Try.sizeOf22) ?_
  refine WL.vg rfl rfl rfl rfl (X.loadO hO2 (Ext.trans (Ext.trans (Ext.trans hx7 (Ext.drew _)) hx10) hx12) rfl rfl Try.isAgg22) ?_
  refine WL.cg rfl rfl rfl rfl (X.call Try.call10 (evl_cons rfl (evl_cons rfl evl_nil))) (keptI_self (Ints.of_own (own_ext ol (Ext.trans (Ext.trans (Ext.drew _) hx10) hx12))) (Row.ext hb (Ext.trans (Ext.trans (Ext.trans (Ext.trans hx3 hx7) (Ext.drew _)) hx10) hx12)) hz) ?_
  rintro v18 w17 ⟨rfl, hx19⟩
  have := World.grownBy.size hx19
  refine WL.vg rfl rfl rfl rfl (X.not rfl) ?_
  refine WL.va rfl rfl rfl (X.pickF rfl rfl rfl) ?_
  refine WL.nil ?_
  refine thn_n ?_
  refine WF.cond_f rfl ?_
  refine WF.skip ?_
  refine thn_n ?_
  refine WF.seq ?_
  refine WF.region ?_
  refine WL.va rfl rfl rfl (X.move rfl) ?_
  have hzC := ((show Ext w w17 from (Ext.trans (Ext.trans (Ext.trans (Ext.trans (Ext.trans hx3 hx7) (Ext.drew _)) hx10) hx12) hx19))).size
  have hCC := hC.ext hx19
  have hRR := hR.ext hx19
  refine WL.c rfl rfl rfl (X.call Try.call11 (evl_cons rfl evl_nil)) (spoilInts_ok _ _ _ _ (own_ext ol (Ext.trans (Ext.trans (Ext.trans (Ext.drew _) hx10) hx12) hx19))) ?_
  rintro v22 wL ⟨_, hx23⟩
  have := World.grownBy.size hx23
  replace hO2 := (hO2.ext (Ext.trans (Ext.trans (Ext.trans (Ext.trans hx7 (Ext.drew _)) hx10) hx12) hx19)).keptR hx23 (fun b hb => by have := ((own_ext ol (Ext.trans (Ext.trans (Ext.trans (Ext.drew _) hx10) hx12) hx19)).lt b hb).1; omega)
  have tl := fun b hb => (ol.lt b hb).2
  have hCL : CAt wL F1 g (CC.new me txn nac pl) := hCC.chgS ((ChgS.refl (fun i => i < wl.heap.size) _).row hx23 (fun b hb => .inl (by have := (ol.lt b hb).2; omega))) (fun b hb q => by have := hlo1 b hb; have := hzl; omega)
  have hRL : RAt wL F2 gr (RC.new me txn nac pl) := hRR.chgS ((ChgS.refl (fun i => i < wl.heap.size) _).row hx23 (fun b hb => .inl (by have := (ol.lt b hb).2; omega))) (fun b hb q => by have := hlo2 b hb; have := hzl2; omega)
  refine WL.nil ?_
  refine thn_n ?_
  refine WF.seq ?_
  refine WF.seq ?_
  refine WF.region ?_
  refine WL.va rfl rfl rfl (X.assignI rfl) ?_
  refine WL.nil ?_
  refine thn_n ?_
  refine WF.block ?_
  refine WF.named (fun F24 hF25 => ?_)
  refine WF.loopN (fun mL0 f' w' => ∃ (k : Nat) (c : CC) (r : RC) (F1 F2 : Fp Rl), mL0 = l.length - k ∧ f' 10 = .int .i64 (k : Int) ∧ Agree [0, 1, 2, 5, 6, 7, 8, 9, 13, 14, 15, 16, 17, 18, 19, 20, 21, 22, 23, 24, 25, 26, 27, 28, 29, 30, 31, 32, 33, 34, 35, 36, 37, 38, 39, 40, 41, 42, 43, 44, 45, 46, 47, 48, 49, 50, 51, 52, 53, 54, 55, 56, 57, 58, 59, 60] f' F24 ∧ Ext w w' ∧ k ≤ l.length ∧ k ≤ 200 ∧ CAt w' F1 g c ∧ RAt w' F2 gr r ∧ Rel c r ∧ r.sz k ∧ (∀ b, F2 b ≠ none → F1 b = none) ∧ (∀ b, F1 b ≠ none → w.heap.size ≤ b) ∧ (∀ b, F2 b ≠ none → w.heap.size ≤ b)) ?_ ?_
  · exact ⟨_, 0, _, _, F1, F2, rfl, (congrFun hF25 10), (Agree.refl _ _), (grown_trans (Ext.trans (Ext.trans (Ext.trans (Ext.trans (Ext.trans hx3 hx7) (Ext.drew _)) hx10) hx12) hx19) hx23 (fun i hi => by have := ((own_ext ol (Ext.trans (Ext.trans (Ext.trans (Ext.drew _) hx10) hx12) hx19)).lt i hi).1; omega)), ⟨Nat.zero_le _, Nat.zero_le _, hCL, hRL, Rel.new hnw, ⟨Nat.zero_le _, Nat.zero_le _, Nat.zero_le _⟩, hdis, hF1, hF2⟩⟩
  · rintro mL0 fL0 wL0 ⟨k, c, r, F1, F2, hmL0, e10_L0, hAL0, hwL0, ⟨hk0, hk2, hC, hR, hrel, hsz, hdis, hF1, hF2⟩⟩
    have := World.grownBy.size hwL0
    refine WF.seq ?_
    refine WF.seq ?_
    refine WF.region ?_
    refine WL.va rfl rfl rfl (X.moveI ((hAL0.eq 7).trans (congrFun hF25 7))) ?_
    refine WL.va rfl rfl rfl (X.eql rfl rfl) ?_
    refine WL.va rfl rfl rfl (X.moveB rfl) ?_
    refine WL.vg rfl rfl rfl rfl (X.moveI e10_L0) ?_
    refine WL.vg rfl rfl rfl rfl (X.move ((hAL0.eq 1).trans (congrFun hF25 1))) ?_
    refine WL.vg rfl rfl rfl rfl (X.len hr rfl Try.underlying25) ?_
    refine WL.vg rfl rfl rfl rfl (X.lss rfl rfl) ?_
    refine WL.va rfl rfl rfl (X.pickT rfl rfl rfl) ?_
    refine WL.va rfl rfl rfl (X.moveB rfl) ?_
    refine WL.split (j := 8) rfl (fun h28 => ?_) (fun h28 => ?_)
    · have gh28 := (of_decide_eq_true h28)
      refine WL.vg rfl (congrArg some h28) rfl rfl (X.moveI e10_L0) ?_
      refine WL.vg rfl (congrArg some h28) rfl rfl (X.lss rfl rfl) ?_
      refine WL.va rfl rfl rfl (X.pickT rfl h28 rfl) ?_
      refine WL.nil ?_
      refine thn_n ?_
      refine WF.cond rfl (fun h1_29 => ?_) (fun h1_29 => ?_)
      · have gh1_29 := (of_decide_eq_true h1_29)
        have hk : k < l.length := by omega
        obtain ⟨em, dm, xk⟩ := hA k hk
        refine WF.skip ?_
        refine thn_n ?_
        refine WF.seq ?_
        refine WF.block ?_
        refine WF.seq ?_
        refine WF.region ?_
        refine WL.va rfl rfl rfl (X.assign rfl) ?_
        refine WL.va rfl rfl rfl (X.assign rfl) ?_
        refine WL.nil ?_
        refine thn_n ?_
        refine WF.named (fun F31 hF32 => ?_)
        refine WF.cut (fun f' w' => ∃ (va vb : Value) (c2m : List Msg) (c2 : CC) (r2 : RC) (F1b F2b : Fp Rl), f' 11 = va ∧ f' 12 = vb ∧ Agree [0, 1, 2, 5, 6, 7, 8, 9, 10, 13, 14, 15, 16, 17, 18, 19, 20, 21, 22, 23, 24, 25, 26, 27, 28, 29, 30, 31, 32, 33, 34, 35, 36, 37, 38, 39, 40, 41, 42, 43, 44, 45, 46, 47, 48, 49, 50, 51, 52, 53, 54, 55, 56, 57, 58, 59, 60, 62, 63, 64, 65, 66, 67, 68, 69, 70, 71, 72, 73] f' F31 ∧ Ext w w' ∧ OwnM w' wL0.heap.size 40 va c2m ∧ (∃ B, OwnM w' B 40 vb c2m) ∧ (∀ x ∈ c2m, Bare x) ∧ CAt w' F1b g c2 ∧ RAt w' F2b gr r2 ∧ Rel c2 r2 ∧ r2.sz (k + 1) ∧ (∀ b, F2b b ≠ none → F1b b = none) ∧ (∀ b, F1b b ≠ none → w.heap.size ≤ b) ∧ (∀ b, F2b b ≠ none → w.heap.size ≤ b)) ?_ ?_
        · refine WF.seq ?_
          refine WF.region ?_
          refine WL.va rfl rfl rfl (X.move ((congrFun hF32 1).trans ((hAL0.eq 1).trans (congrFun hF25 1)))) ?_
          refine WL.va rfl rfl rfl (X.moveI ((congrFun hF32 10).trans e10_L0)) ?_
          refine WL.va rfl rfl rfl (X.idx hr rfl rfl (by omega) Try.underlying25 Try.sizeOf42) ?_
          refine WL.va rfl rfl rfl (X.fieldAddrA rfl Try.underlying42 rfl rfl Try.sizeOf4) ?_
          refine WL.va rfl rfl rfl (X.loadE hr hwL0 rfl (by omega) ((el_get xk 0 (by decide)).trans rfl) Try.isAgg4) ?_
          refine WL.nil ?_
          refine thn_n ?_
          refine WF.cond rfl (fun h2_33 => ?_) (fun h2_33 => ?_)
          · have gh2_33 := h2_33
            refine WF.seq ?_
            refine WF.region ?_
            refine WL.va rfl rfl rfl (X.move ((congrFun hF32 6).trans ((hAL0.eq 6).trans (congrFun hF25 6)))) ?_
            refine WL.va rfl rfl rfl (X.move ((congrFun hF32 1).trans ((hAL0.eq 1).trans (congrFun hF25 1)))) ?_
            refine WL.va rfl rfl rfl (X.moveI ((congrFun hF32 10).trans e10_L0)) ?_
            refine WL.va rfl rfl rfl (X.idx hr rfl rfl (by omega) Try.underlying25 Try.sizeOf42) ?_
            refine WL.va rfl rfl rfl (X.fieldAddrA rfl Try.underlying42 rfl rfl Try.sizeOf3) ?_
            refine WL.va rfl rfl rfl (X.loadE hr hwL0 rfl (by omega) ((el_get xk 1 (by decide)).trans rfl) Try.isAgg3) ?_
            have hzs := ((show Ext w wL0 from hwL0)).size
            refine WL.c rfl rfl rfl (X.call Try.call12 (evl_cons rfl (evl_cons rfl evl_nil))) (start_ok F1 g c (l[k]'hk).N _ (hC.ext (Ext.refl wL0)) hrel.ok) ?_
            rintro va wS1 ⟨oa, F1a, hle1, hC1, hxa, _⟩
            have hlow1 := low_step hle1 hzs hF1
            have hd1 := dis_step hle1 (Fp.below_le hR.below (Nat.le_refl _)) hdis
            have hR1 := hR.chgS hxa (fun b hb q => q (hdis b hb))
            refine WL.va rfl rfl rfl (X.assign rfl) ?_
            refine WL.nil ?_
            refine thn_n ?_
            refine WF.region ?_
            refine WL.va rfl rfl rfl (X.move ((congrFun hF32 8).trans ((hAL0.eq 8).trans (congrFun hF25 8)))) ?_
            refine WL.va rfl rfl rfl (X.move ((congrFun hF32 1).trans ((hAL0.eq 1).trans (congrFun hF25 1)))) ?_
            refine WL.va rfl rfl rfl (X.moveI ((congrFun hF32 10).trans e10_L0)) ?_
            refine WL.va rfl rfl rfl (X.idx hr rfl rfl (by omega) Try.underlying25 Try.sizeOf42) ?_
            refine WL.va rfl rfl rfl (X.fieldAddrA rfl Try.underlying42 rfl rfl Try.sizeOf3) ?_
            refine WL.va rfl rfl rfl (X.loadE hr (ChgS.toExt hwL0 hxa hF1) rfl (by omega) ((el_get xk 1 (by decide)).trans rfl) Try.isAgg3) ?_
            have hzt := ((show Ext w wS1 from (ChgS.toExt hwL0 hxa hF1))).size
            refine WL.c rfl rfl rfl (X.call Try.call13 (evl_cons rfl (evl_cons rfl evl_nil))) (startR_ok F2 gr r (l[k]'hk).N _ hR1 (hrel.okR hsz (by omega))) ?_
            rintro vb wS2 ⟨ob, F2a, hle2, hR2, hxb⟩
            have hlow2 := low_step hle2 hzt hF2
            have hd2 := dis_sym (dis_step hle2 hC1.below (dis_sym hd1))
            have hC2 := hC1.chgS hxb (fun b hb q => q (dis_sym hd1 b hb))
            have oa2 := own_chgS oa hxb (fun b hb q => by have h1 := (oa.lt b hb).1; have h2 := hR.below b q; omega)
            obtain ⟨hrel2, hms⟩ := hrel.start (l[k]'hk).N
            rw [← hms] at ob
            have hsz2 := hsz.start (l[k]'hk).N
            refine WL.va rfl rfl rfl (X.assign rfl) ?_
            refine WL.nil ?_
            refine thn_n ?_
            exact ⟨_, _, _, _, _, _, _, rfl, rfl, (by repeat (first | exact (Agree.refl _ F31) | refine Agree.put ?_ rfl | refine Agree.sub hAL0 rfl ?_ | refine Agree.named hF32 ?_ | refine Agree.named hF25 ?_)), (ChgS.toExt (ChgS.toExt hwL0 hxa hF1) hxb hF2), ⟨oa2, ⟨_, ob⟩, (by first | exact startM_bare | exact step_bare), hC2, hR2, hrel2, hsz2, (fun b hb => by first | exact hd2 b hb | exact dis_sym hd2 b hb), hlow1, hlow2⟩⟩
          · have gh2_33 := h2_33
            refine WF.seq ?_
            refine WF.region ?_
            refine WL.va rfl rfl rfl (X.move ((congrFun hF32 6).trans ((hAL0.eq 6).trans (congrFun hF25 6)))) ?_
            refine WL.va rfl rfl rfl (X.move ((congrFun hF32 1).trans ((hAL0.eq 1).trans (congrFun hF25 1)))) ?_
            refine WL.va rfl rfl rfl (X.moveI ((congrFun hF32 10).trans e10_L0)) ?_
            refine WL.va rfl rfl rfl (X.idx hr rfl rfl (by omega) Try.underlying25 Try.sizeOf42) ?_
            refine WL.va rfl rfl rfl (X.fieldAddrA rfl Try.underlying42 rfl rfl Try.sizeOf40) ?_
            refine WL.va rfl rfl rfl (X.loadEP hr hwL0 rfl (by omega) (act_msg xk) rfl Try.isAgg40 Try.sizeOf40) ?_
            have hzs := ((show Ext w wL0 from hwL0)).size
            refine WL.c rfl rfl rfl (X.call Try.call14 (evl_cons rfl (evl_cons rfl evl_nil))) (step_ok F1 g c (l[k]'hk).M em dm _ (hC.ext (Ext.refl wL0)) hrel.ok) ?_
            rintro va wS1 ⟨oa, F1a, hle1, hC1, hxa, _⟩
            have hlow1 := low_step hle1 hzs hF1
            have hd1 := dis_step hle1 (Fp.below_le hR.below (Nat.le_refl _)) hdis
            have hR1 := hR.chgS hxa (fun b hb q => q (hdis b hb))
            refine WL.va rfl rfl rfl (X.assign rfl) ?_
            refine WL.nil ?_
            refine thn_n ?_
            refine WF.region ?_
            refine WL.va rfl rfl rfl (X.move ((congrFun hF32 8).trans ((hAL0.eq 8).trans (congrFun hF25 8)))) ?_
            refine WL.va rfl rfl rfl (X.move ((congrFun hF32 1).trans ((hAL0.eq 1).trans (congrFun hF25 1)))) ?_
            refine WL.va rfl rfl rfl (X.moveI ((congrFun hF32 10).trans e10_L0)) ?_
            refine WL.va rfl rfl rfl (X.idx hr rfl rfl (by omega) Try.underlying25 Try.sizeOf42) ?_
            refine WL.va rfl rfl rfl (X.fieldAddrA rfl Try.underlying42 rfl rfl Try.sizeOf40) ?_
            refine WL.va rfl rfl rfl (X.loadEP hr (ChgS.toExt hwL0 hxa hF1) rfl (by omega) (act_msg xk) rfl Try.isAgg40 Try.sizeOf40) ?_
            have hzt := ((show Ext w wS1 from (ChgS.toExt hwL0 hxa hF1))).size
            refine WL.c rfl rfl rfl (X.call Try.call15 (evl_cons rfl (evl_cons rfl evl_nil))) (stepR_ok F2 gr r (l[k]'hk).M em dm _ hR1 (hrel.okR hsz (by omega))) ?_
            rintro vb wS2 ⟨ob, F2a, hle2, hR2, hxb⟩
            have hlow2 := low_step hle2 hzt hF2
            have hd2 := dis_sym (dis_step hle2 hC1.below (dis_sym hd1))
            have hC2 := hC1.chgS hxb (fun b hb q => q (dis_sym hd1 b hb))
            have oa2 := own_chgS oa hxb (fun b hb q => by have h1 := (oa.lt b hb).1; have h2 := hR.below b q; omega)
            obtain ⟨hrel2, hms⟩ := hrel.step (l[k]'hk).M
            rw [← hms] at ob
            have hsz2 := hsz.step (l[k]'hk).M
            refine WL.va rfl rfl rfl (X.assign rfl) ?_
            refine WL.nil ?_
            refine thn_n ?_
            exact ⟨_, _, _, _, _, _, _, rfl, rfl, (by repeat (first | exact (Agree.refl _ F31) | refine Agree.put ?_ rfl | refine Agree.sub hAL0 rfl ?_ | refine Agree.named hF32 ?_ | refine Agree.named hF25 ?_)), (ChgS.toExt (ChgS.toExt hwL0 hxa hF1) hxb hF2), ⟨oa2, ⟨_, ob⟩, (by first | exact startM_bare | exact step_bare), hC2, hR2, hrel2, hsz2, (fun b hb => by first | exact hd2 b hb | exact dis_sym hd2 b hb), hlow1, hlow2⟩⟩
        · rintro fCs11 wCs11 ⟨va, vb, c2m, c2, r2, F1b, F2b, e11_Cs11, e12_Cs11, hACs11, hwCs11, ⟨oa3, ⟨B3, ob3⟩, hbare, hC3, hR3, hrel3, hsz3, hd3, hlow3, hlow4⟩⟩
          have := World.grownBy.size hwCs11
          obtain ⟨vpR, vaR, vrR, voR, hIR⟩ := hR3
          have hOR := hIR.obj
          refine WF.seq ?_
          refine WF.seq ?_
          refine WF.drawn (.q 0 (.q 1 (.l 2 (.q 3 (.q 4 (.q 5 (.q 7 (.l 6 (.l 8 (.q 9 (.q 10 (.q 11 (.q 12 (.q 14 (.q 15 (.q 16 (.q 17 (.l 13 (.q 18 (.q 19 .nil)))))))))))))))))))) (fun w' => Ext wCs11 w') 20 (by kernel_rfl) (by kernel_rfl) (Ext.drew _) ?_
          have := World.grownBy.size (Ext.drew wCs11)
          refine WO.q rfl rfl rfl rfl (fun w' hE39 => (X.move e11_Cs11)) ?_
          refine WO.q rfl rfl rfl rfl (fun w' hE39 => (X.move e12_Cs11)) ?_
          refine WO.l ?_
          refine LO.go rfl rfl (OW.enter rfl (by decide) (X.call Try.call16 (evl_cons rfl (evl_cons rfl evl_nil))) (sameMsgs_self ((oa3.msgs hbare).ext (Ext.drew _)) ((ob3.msgs hbare).ext (Ext.drew _))) ?_)
          rintro v41 w40 ⟨rfl, hx42⟩
          have := World.grownBy.size hx42
          refine ⟨(Ext.trans (Ext.drew _) hx42), ?_⟩
          refine WO.q rfl rfl rfl rfl (fun w' hE39 => (X.not rfl)) ?_
          refine WO.q rfl rfl rfl rfl (fun w' hE39 => (X.moveB rfl)) ?_
          refine WO.qg rfl rfl rfl rfl rfl (fun w' hE39 => (X.move ((hACs11.eq 6).trans ((congrFun hF32 6).trans ((hAL0.eq 6).trans (congrFun hF25 6)))))) ?_
          refine WO.qg rfl rfl rfl rfl rfl (fun w' hE39 => (X.move ((hACs11.eq 8).trans ((congrFun hF32 8).trans ((hAL0.eq 8).trans (congrFun hF25 8)))))) ?_
          refine WO.l ?_
          refine LO.gog rfl rfl rfl (OW.enter rfl (by decide) (X.call Try.call17 (evl_cons rfl evl_nil)) (value_ok F1b g c2 _ (hC3.ext (Ext.trans (Ext.drew _) hx42)) hrel3.ok) ?_)
          rintro v46 w45 ⟨rfl, hx47⟩
          have := World.grownBy.size hx47
          refine ⟨(Ext.trans (Ext.trans (Ext.drew _) hx42) hx47), ?_⟩
          refine WO.l ?_
          refine LO.gog rfl rfl rfl (OW.enter rfl (by decide) (X.call Try.call18 (evl_cons rfl evl_nil)) (valueR_eq F2b gr c2 r2 _ (RAt.ext ⟨_, _, _, _, hIR⟩ (Ext.trans (Ext.trans (Ext.drew _) hx42) hx47)) (hrel3.okR hsz3 (by omega)) hrel3.value) ?_)
          rintro v49 w48 ⟨rfl, hx50⟩
          have := World.grownBy.size hx50
          refine ⟨(Ext.trans (Ext.trans (Ext.trans (Ext.drew _) hx42) hx47) hx50), ?_⟩
          refine WO.qg rfl rfl rfl rfl rfl (fun w' hE39 => (X.neq rfl rfl)) ?_
          refine WO.q rfl rfl rfl rfl (fun w' hE39 => (X.pickF rfl rfl rfl)) ?_
          refine WO.q rfl rfl rfl rfl (fun w' hE39 => (X.moveB rfl)) ?_
          refine WO.split (j := 11) rfl (fun h52 => ?_) (fun h52 => ?_)
          · have gh52 := (of_decide_eq_true h52)
            exact absurd rfl gh52
          · have gh52 := (Decidable.of_not_not (of_decide_eq_false h52))
            refine WO.qg rfl rfl (congrArg some h52) rfl rfl (fun w' hE39 => (X.move ((hACs11.eq 6).trans ((congrFun hF32 6).trans ((hAL0.eq 6).trans (congrFun hF25 6)))))) ?_
            refine WO.qg rfl rfl (congrArg some h52) rfl rfl (fun w' hE39 => (X.move ((hACs11.eq 8).trans ((congrFun hF32 8).trans ((hAL0.eq 8).trans (congrFun hF25 8)))))) ?_
            refine WO.qg rfl rfl (congrArg some h52) rfl rfl (fun w' hE39 => (X.nilCheck rfl)) ?_
            refine WO.qg rfl rfl (congrArg some h52) rfl rfl (fun w' hE39 => (X.fieldAddrO (off := 8) rfl Try.underlying49 rfl rfl Try.sizeOf3)) ?_
            refine WO.qg rfl rfl (congrArg some h52) rfl rfl (fun w' hE39 => (X.loadO hOR hE39 rfl rfl Try.isAgg3)) ?_
            refine WO.l ?_
            refine LO.gog rfl rfl (congrArg some h52) (OW.enter rfl (by decide) (X.call Try.call19 (evl_cons rfl evl_nil)) (top_ok F1b g c2 _ (hC3.ext (Ext.trans (Ext.trans (Ext.trans (Ext.drew _) hx42) hx47) hx50))) ?_)
            rintro v54 w53 ⟨rfl, hx55⟩
            have := World.grownBy.size hx55
            refine ⟨(Ext.trans (Ext.trans (Ext.trans (Ext.trans (Ext.drew _) hx42) hx47) hx50) hx55), ?_⟩
            refine WO.qg rfl rfl (congrArg some h52) rfl rfl (fun w' hE39 => (X.neq rfl rfl)) ?_
            refine WO.q rfl rfl rfl rfl (fun w' hE39 => (X.pickF rfl h52 rfl)) ?_
            refine WO.nil ?_
            refine WL.nil ?_
            refine thn_n ?_
            refine WF.cond rfl (fun h3_56 => ?_) (fun h3_56 => ?_)
            · have gh3_56 := (of_decide_eq_true h3_56)
              exact absurd hrel3.top gh3_56
            · have gh3_56 := (Decidable.of_not_not (of_decide_eq_false h3_56))
              refine WF.skip ?_
              refine thn_n ?_
              refine WF.region ?_
              refine WL.va rfl rfl rfl (X.move e11_Cs11) ?_
              have oaE := own_ext oa3 (Ext.trans (Ext.trans (Ext.trans (Ext.trans (Ext.drew _) hx42) hx47) hx50) hx55)
              have hCE := hC3.ext (Ext.trans (Ext.trans (Ext.trans (Ext.trans (Ext.drew _) hx42) hx47) hx50) hx55)
              have hRE : RAt w53 F2b gr r2 := RAt.ext ⟨_, _, _, _, hIR⟩ (Ext.trans (Ext.trans (Ext.trans (Ext.trans (Ext.drew _) hx42) hx47) hx50) hx55)
              refine WL.c rfl rfl rfl (X.call Try.call20 (evl_cons rfl evl_nil)) (spoilMsgs_ok _ c2m _ _ oaE) ?_
              rintro v59 w58 hxs
              have hCn := hCE.spoil oaE hxs
              have hRn := hRE.spoil oaE hxs
              refine WL.nil ?_
              refine blk_n ?_
              refine thn_n ?_
              refine WF.region ?_
              refine WL.va rfl rfl rfl (X.moveI ((hACs11.eq 10).trans ((congrFun hF32 10).trans e10_L0))) ?_
              refine WL.va rfl rfl rfl (X.add rfl rfl (w64 (by omega))) ?_
              refine WL.va rfl rfl rfl (X.assignI rfl) ?_
              refine WL.nil ?_
              exact thn_n ⟨_, (by omega), k + 1, c2, r2, F1b, F2b, rfl, rfl, (by repeat (first | exact hAL0 | refine Agree.put ?_ rfl | refine Agree.sub hACs11 rfl ?_ | refine Agree.named hF32 ?_ | refine Agree.named hF25 ?_)), (grown_trans (Ext.trans (Ext.trans (Ext.trans (Ext.trans (Ext.trans hwCs11 (Ext.drew _)) hx42) hx47) hx50) hx55) hxs (fun i hi => by have := (oa3.lt i hi).1; omega)), ⟨by omega, by omega, hCn, hRn, hrel3, hsz3, hd3, hlow3, hlow4⟩⟩
      · have gh1_29 := (of_decide_eq_false h1_29)
        refine WF.exit ?_
        refine thn_x ?_
        refine thn_x ?_
        refine blk_eq ?_
        refine thn_n ?_
        refine WF.seq ?_
        refine WF.region ?_
        refine WL.c rfl rfl rfl (X.call Try.call21 evl_nil) (known_ok _) ?_
        rintro v62 w61 ⟨rfl, hx63⟩
        have := World.grownBy.size hx63
        refine WL.va rfl rfl rfl (X.assignB rfl) ?_
        refine WL.nil ?_
        refine thn_n ?_
        refine WF.ret ?_
        refine fin_r ?_
        exact ⟨rfl, (Ext.trans hwL0 hx63)⟩
    · have gh28 := (of_decide_eq_false h28)
      refine WL.p rfl rfl rfl (congrArg some h28) ?_
      refine WL.p rfl rfl rfl (congrArg some h28) ?_
      refine WL.va rfl rfl rfl (X.pickF rfl h28 rfl) ?_
      refine WL.nil ?_
      refine thn_n ?_
      refine WF.cond_f rfl ?_
      refine WF.exit ?_
      refine thn_x ?_
      refine thn_x ?_
      refine blk_eq ?_
      refine thn_n ?_
      refine WF.seq ?_
      refine WF.region ?_
      refine WL.c rfl rfl rfl (X.call Try.call21 evl_nil) (known_ok _) ?_
      rintro v68 w67 ⟨rfl, hx69⟩
      have := World.grownBy.size hx69
      refine WL.va rfl rfl rfl (X.assignB rfl) ?_
      refine WL.nil ?_
      refine thn_n ?_
      refine WF.ret ?_
      refine fin_r ?_
      exact ⟨rfl, (Ext.trans hwL0 hx69)⟩

theorem pcommitPlays_walk (me txn nac : Int) (vp : Value) (pl : List Int) (v : Value) (l : List Act) (w : World) (hb : Ints w vp pl) (hz : pl.length ≤ 17592186043904) (hl : Acts w v l) : FnOk Try.prog 3 [agg [i64 me, i64 txn, i64 nac, vp], v] w (fun r w' => r = .bool true ∧ Ext w w') := by
  cases h : newOk me txn nac pl
  · exact playsN_ok me txn nac vp pl v l w hb hz hl h
  · exact playsY_ok me txn nac vp pl v l w hb hz hl h
end Go.Proofs.Ytjmddkaokmdkbaa
