/- The walks of the table's functions. -/
import Derived.Test.YtjmddkaokmdkbaaTb
import Derived.Test.YtjmddkaokmdkbaaAccT
namespace Go.Proofs.Ytjmddkaokmdkbaa
open Go Go.RowKit Kf
set_option maxRecDepth 20000

section
variable {P : Program} {f : Fr} {w w0 : World} {dst : Option Tmp} {ty t e : TypeId} {pos : String} {aft : Array Edge} {gd : Option (Nat × Bool)} {x y : Operand} {g k m off n : Nat} {kd : IntKind} {u v : Value} {cs : List Value}
/-- an element, of one cell, of an array within a block -/
theorem X.idxArrP (hx : ev f x = .pointer (some ⟨g, off, none⟩)) (hy : ev f y = .int kd (k : Int)) (hk : k < m) (ht : P.underlying t = some (.array m e)) (hs : ∀ w, (sizeOf e).run P w = .ok 1 w) :
    (execOp (ev f) ⟨dst, .indexAddr t x y, ty, pos, aft, gd⟩).run P w = .ok (.value (.pointer (some ⟨g, off + k, none⟩))) w := by
  have h1 : (k : Int) < (m : Int) := by omega
  simp [execOp, hx, hy, Instr.indexAt, asIntOf, Instr.sureAddr, run_underlying ht, hs, Result.andThen, Addr.add_lit, hk]
/-- an element of one cell -/
theorem X.loadP1 (h : Row w0 v n 1 cs) (hE : Ext w0 w) (hx : ev f x = .pointer (some ((base v).add (k * 1)))) (hu : cs[k]? = some u) (ht : ∀ w, (isAgg t).run P w = .ok false w) :
    (execOp (ev f) ⟨dst, .load t x, ty, pos, aft, gd⟩).run P w = .ok (.value u) w :=
  X.load hx (by rw [Nat.mul_one]; exact (Row.ext h hE).cell k _ hu) ht
end
section
variable {w0 w w1 w2 : World} {G G1 : Fp TR} {g n m : Nat} {x x' : Tb} {vp vv vc vo : Value} {vk : Nat → Value} {gk : Nat → Nat}
theorem _root_.Go.Proofs.Ytjmddkaokmdkbaa.Kf.RowF.ne {r r' : TR} {e e' : TypeId} {sz sz' m' : Nat} {u v : Value} {cs cs' : List Value} (h : RowF w G r e sz v m cs) (h2 : RowF w G r' e' sz' u m' cs') (hr : r ≠ r') : v.ownBlock = none ∨ v.ownBlock ≠ u.ownBlock := by
  cases hb : v.ownBlock with
  | none => exact .inl rfl
  | some b => exact .inr fun e => Fp.ne (h.fp b hb) (h2.fp b e.symm) hr rfl
theorem TP.join (h1 : ∀ b, b < w.heap.size → G b = none → G1 b = none) (h2 : ChgS G.on w w1) (k : TP w0 w1 w2 G1 g x' n) : TP w0 w w2 G g x' n := by
  obtain ⟨G2, k1, k2, k3⟩ := k
  refine ⟨G2, fun b hb e => k1 b (Nat.lt_of_lt_of_le hb h2.size) (h1 b hb e), ChgS.trans h2 k2 (fun i hi => ?_), k3⟩
  by_cases hb : i < w.heap.size
  · exact .inl fun e => hi (h1 i hb e)
  · exact .inr (by omega)
/-- messages are put behind the others -/
theorem TIn.pushed {v : Value} {ms : List Msg} (h : TIn w0 w G g x n vp vv vc vo vk gk) (ho : w1.ownsRow 0 40 17 v (x.post.length + ms.length) (x.post.flatMap Msg.bare ++ ms.flatMap Msg.bare)) (hm : Kf.Moved w vo v) (k1 : w.grownBy w1 vo.ownBlock) (k2 : w1.grownBy w2 (some g)) (hg : Blk w2 g 63 (x.cells vp vv vc v vk)) : TP w0 w w2 G g { x with post := x.post ++ ms } n := by
  have hv : ∀ b, v.ownBlock = some b → vo.ownBlock = some b ∨ w.heap.size ≤ b := fun b e => by
    rcases hm with q | q
    · exact .inl (q ▸ e)
    · exact .inr (q b e)
  have hlt := Fp.lt h.below h.at_
  refine h.setPost hg (l := x.post ++ ms) ?_ hv (((ChgS.refl _ w).row k1 (fun b e => .inl (.inr (h.post.fp b e)))).row1 k2 (.inl (.inl rfl)))
  rw [List.length_append, List.flatMap_append]
  refine ho.kept k2 (.inr fun e => ?_)
  rcases hv g e with q | q
  · exact Fp.ne (h.post.fp g q) h.at_ (by simp) rfl
  · omega
theorem bare_one1 {m : Msg} : [m].flatMap Msg.bare = m.bare := by simp
theorem voteN_0 (x : Tb) (k : Nat) : x.voteN k 0 = x := by cases x; simp [Tb.voteN]
theorem voteN_s (x : Tb) (k a : Nat) : x.voteN k (a + 1) = { x.voteN k a with post := (x.voteN k a).post ++ [voteM x k ((a : Int) + 1)] } := by
  simp [Tb.voteN, List.range_succ]
theorem voteN_len (x : Tb) (k a : Nat) : (x.voteN k a).post.length = x.post.length + a := by simp [Tb.voteN]
theorem tellsN_0 (x : Tb) (m : Msg) : x.tellsN m 0 = x := by cases x; simp [Tb.tellsN]
theorem tellsN_s (x : Tb) (m : Msg) (a : Nat) : x.tellsN m (a + 1) = { x.tellsN m a with post := (x.tellsN m a).post ++ [{ m with To := (a : Int) + 1 }] } := by
  simp [Tb.tellsN, List.range_succ]
theorem tellsN_len (x : Tb) (m : Msg) (a : Nat) : (x.tellsN m a).post.length = x.post.length + a := by simp [Tb.tellsN]
def Tb.valN (x : Tb) : Nat → Tb
  | 0 => x
  | k + 1 => (x.valN k).val1 k
theorem val1_co (x : Tb) (k : Nat) : (x.val1 k).co = x.co := by unfold Tb.val1; split <;> rfl
theorem valN_co (x : Tb) : ∀ k, (x.valN k).co = x.co
  | 0 => rfl
  | k + 1 => (val1_co _ _).trans (valN_co x k)
end
set_option maxHeartbeats 4000000 in
theorem tvote_ok (w0 w : World) (G : Fp TR) (g k : Nat) (x : Tb) (h : TG w0 w G g x 3) (hk : k < x.parts.length) (hv : x.votes.length = x.parts.length) (hm : 0 ≤ x.many ∧ x.many ≤ 7) (hk4 : x.parts.length ≤ 4) (hP : x.post.length ≤ 100000) : FnOk Try.prog 42 [at_ g, i64 (k : Int)] w (fun _ w' => TP w0 w w' G g (x.vote k) 3) := by
  have hT0 : TP w0 w w G g (x.voteN k 0) 3 := by rw [voteN_0]; exact TP.refl h (Ext.refl w)
  obtain ⟨vp0, vv0, vc0, vo0, vk0, gk0, hI0⟩ := h
  have hx := hI0.obj
  refine FnOk.enter (rs := []) Try.func42 rfl Try.ntmps42 Try.results42 rfl rfl ?_
  refine WF.seq ?_
  refine WF.region ?_
  refine WL.va rfl rfl rfl (X.assignI rfl) ?_
  refine WL.nil ?_
  refine thn_n ?_
  refine WF.block ?_
  refine WF.named (fun F1 hF2 => ?_)
  refine WF.loopN (fun mL0 f' w' => ∃ (a : Nat), mL0 = x.many.toNat - a ∧ f' 4 = .int .i64 ((a : Int) + 1) ∧ Agree [0, 1] f' F1 ∧ True ∧ a ≤ x.many.toNat ∧ TP w0 w w' G g (x.voteN k a) 3) ?_ ?_
  · exact ⟨_, 0, rfl, (congrFun hF2 4), (Agree.refl _ _), trivial, ⟨Nat.zero_le _, hT0⟩⟩
  · rintro mL0 fL0 wL0 ⟨a, hmL0, e4_L0, hAL0, hwL0, ⟨ha0, hT⟩⟩
    obtain ⟨G1, ng1, cg1, vp, vv, vc, vo, vk, gk, hI⟩ := hT
    have hx := hI.obj
    have hpg : ∀ b, vo.ownBlock = some b → b ≠ g := fun b e => Fp.ne (hI.post.fp b e) hI.at_ (by simp)
    have hp_parts := hI.parts.ne hI.post (by simp)
    have hp_votes := hI.votes.ne hI.post (by simp)
    have hvl := voteN_len x k a
    have hmn : (x.voteN k a).many = x.many := rfl
    refine WF.seq ?_
    refine WF.seq ?_
    refine WF.region ?_
    refine WL.va rfl rfl rfl (X.moveI e4_L0) ?_
    refine WL.va rfl rfl rfl (X.move ((hAL0.eq 0).trans (congrFun hF2 0))) ?_
    refine WL.va rfl rfl rfl (X.nilCheck rfl) ?_
    refine WL.va rfl rfl rfl (X.fieldAddrO (off := 2) rfl Try.underlying63 rfl rfl Try.sizeOf3) ?_
    refine WL.va rfl rfl rfl (X.loadO hx (Ext.refl _) rfl rfl Try.isAgg3) ?_
    refine WL.va rfl rfl rfl (X.leq rfl rfl) ?_
    refine WL.nil ?_
    refine thn_n ?_
    refine WF.cond rfl (fun h0_3 => ?_) (fun h0_3 => ?_)
    · have gh0_3 := (of_decide_eq_true h0_3)
      have ha : a < x.many.toNat := by have := gh0_3; omega
      refine WF.skip ?_
      refine thn_n ?_
      refine WF.seq ?_
      refine WF.block ?_
      refine WF.drawn (.q 0 (.q 1 (.q 2 (.q 3 (.q 4 (.q 5 (.q 6 (.q 7 (.q 8 (.q 9 (.q 10 (.q 11 (.q 12 (.q 13 (.q 14 (.q 15 (.q 16 (.q 17 (.q 18 (.q 19 (.q 20 (.q 21 (.q 22 (.q 23 (.l 24 (.l 25 (.q 26 (.q 27 .nil)))))))))))))))))))))))))))) (fun w' => World.grownBy wL0 w' vo.ownBlock) 28 (by kernel_rfl) (by kernel_rfl) (grown_of_ext (Ext.drew _)) ?_
      have := World.grownBy.size (Ext.drew wL0)
      refine WO.q rfl rfl rfl rfl (fun w' hE5 => (X.move ((hAL0.eq 0).trans (congrFun hF2 0)))) ?_
      refine WO.q rfl rfl rfl rfl (fun w' hE5 => (X.move ((hAL0.eq 0).trans (congrFun hF2 0)))) ?_
      refine WO.q rfl rfl rfl rfl (fun w' hE5 => (X.nilCheck rfl)) ?_
      refine WO.q rfl rfl rfl rfl (fun w' hE5 => (X.fieldAddrO (off := 13) rfl Try.underlying63 rfl rfl Try.sizeOf36)) ?_
      refine WO.q rfl rfl rfl rfl (fun w' hE5 => (X.loadO (hx.kept hE5 (fun e => hpg _ e rfl)) (Ext.refl _) rfl rfl Try.isAgg36)) ?_
      refine WO.q rfl rfl rfl rfl (fun w' hE5 => (X.moveI ((hAL0.eq 1).trans (congrFun hF2 1)))) ?_
      refine WO.q rfl rfl rfl rfl (fun w' hE5 => (X.rem rfl rfl (by omega) (show (k : Int).tmod 3 = ((k % 3 : Nat) : Int) from by rw [Int.tmod_eq_emod_of_nonneg (by omega)]; omega))) ?_
      refine WO.q rfl rfl rfl rfl (fun w' hE5 => (X.add rfl rfl (w64 (by omega)))) ?_
      refine WO.q rfl rfl rfl rfl (fun w' hE5 => (X.moveI e4_L0)) ?_
      refine WO.q rfl rfl rfl rfl (fun w' hE5 => (X.move ((hAL0.eq 0).trans (congrFun hF2 0)))) ?_
      refine WO.q rfl rfl rfl rfl (fun w' hE5 => (X.nilCheck rfl)) ?_
      refine WO.q rfl rfl rfl rfl (fun w' hE5 => (X.fieldAddrO (off := 0) rfl Try.underlying63 rfl rfl Try.sizeOf22)) ?_
      refine WO.q rfl rfl rfl rfl (fun w' hE5 => (X.loadO (hx.kept hE5 (fun e => hpg _ e rfl)) (Ext.refl _) rfl rfl Try.isAgg22)) ?_
      refine WO.q rfl rfl rfl rfl (fun w' hE5 => (X.moveI ((hAL0.eq 1).trans (congrFun hF2 1)))) ?_
      refine WO.q rfl rfl rfl rfl (fun w' hE5 => (X.idx (hI.parts.rd) rfl rfl (show k < (x.voteN k a).parts.length from hk) Try.underlying22 Try.sizeOf3)) ?_
      refine WO.q rfl rfl rfl rfl (fun w' hE5 => (X.loadI (Row.grown hI.parts.rd hE5 hp_parts) (Ext.refl _) rfl (show k < (x.voteN k a).parts.length from by show k < x.parts.length; omega) Try.isAgg3)) ?_
      refine WO.q rfl rfl rfl rfl (fun w' hE5 => (X.move ((hAL0.eq 0).trans (congrFun hF2 0)))) ?_
      refine WO.q rfl rfl rfl rfl (fun w' hE5 => (X.nilCheck rfl)) ?_
      refine WO.q rfl rfl rfl rfl (fun w' hE5 => (X.fieldAddrO (off := 1) rfl Try.underlying63 rfl rfl Try.sizeOf22)) ?_
      refine WO.q rfl rfl rfl rfl (fun w' hE5 => (X.loadO (hx.kept hE5 (fun e => hpg _ e rfl)) (Ext.refl _) rfl rfl Try.isAgg22)) ?_
      refine WO.q rfl rfl rfl rfl (fun w' hE5 => (X.moveI ((hAL0.eq 1).trans (congrFun hF2 1)))) ?_
      refine WO.q rfl rfl rfl rfl (fun w' hE5 => (X.idx (hI.votes.rd) rfl rfl (show k < (x.voteN k a).votes.length from by show k < x.votes.length; omega) Try.underlying22 Try.sizeOf3)) ?_
      refine WO.q rfl rfl rfl rfl (fun w' hE5 => (X.loadI (Row.grown hI.votes.rd hE5 hp_votes) (Ext.refl _) rfl (show k < (x.voteN k a).votes.length from by show k < x.votes.length; omega) Try.isAgg3)) ?_
      refine WO.q rfl rfl rfl rfl (fun w' hE5 => (X.buildT (P := Try.prog) (t := 40) (cs := (Msg.bare (voteM x k ((a : Int) + 1)))) (zs := [i64 0, i64 0, i64 0, i64 0, i64 0, i64 0, i64 0, i64 0, i64 0, i64 0, i64 0, i64 0, i64 0, i64 0, .bool false, .slice none 0 0, .slice none 0 0]) (places := [(0, 1), (1, 1), (2, 1), (3, 1), (4, 1), (5, 1), (6, 1), (7, 1), (8, 1), (9, 1), (10, 1), (11, 1), (12, 1), (13, 1), (14, 1), (15, 1), (16, 1)]) (n := 17) (evp_cons rfl (evp_cons rfl (evp_cons rfl (evp_cons rfl (evp_cons rfl (evp_cons rfl evp_nil)))))) Try.type40 Try.underlying40 rfl rfl ⟨rfl, rfl, rfl, rfl, rfl, rfl, trivial⟩ rfl rfl rfl)) ?_
      refine WO.l ?_
      refine LO.go rfl rfl (OW.lits (vs := [agg (Msg.bare (voteM x k ((a : Int) + 1)))]) (evp_cons rfl evp_nil) Try.underlying36 Try.sizeOf40 Try.zeroValue40 ⟨rfl, trivial⟩ rfl rfl rfl ?_ (by decide))
      intro v7 w6 ho9 hx8
      have := World.grownBy.size hx8
      have o1 : World.ownsRow w6 _ 40 17 v7 1 (Msg.bare (voteM x k ((a : Int) + 1))) := ho9
      have hJ := (hI.ext (Ext.trans (Ext.drew _) hx8))
      have heJ := (Ext.trans (Ext.drew _) hx8)
      refine ⟨(grown_ext (grown_of_ext (Ext.drew _)) hx8), ?_⟩
      refine WO.l ?_
      refine LO.go rfl rfl (OW.append (bytes := 168) hJ.post.own (Row.of_own o1) (Msg.bare_one (voteM x k ((a : Int) + 1))) rfl rfl Try.underlying36 Try.type40 rfl rfl rfl rfl (by decide) (by unfold maxLen; omega) (by omega) (Nat.zero_le _) ?_ (by decide))
      intro vo2 w10 ho12 hx11 hmvhx11
      have := World.grownBy.size hx11
      replace hx := (hx.ext (Ext.trans (Ext.drew _) hx8)).keptR hx11 (fun b e => by first | exact hpg b e)
      have hmA := hmvhx11
      have hxA := hx11
      have hoA := ho12
      refine ⟨(grown2 (grown_ext (grown_of_ext (Ext.drew _)) hx8) hx11), ?_⟩
      refine WO.q rfl rfl rfl rfl (fun w' hE5 => (X.nilCheck rfl)) ?_
      refine WO.q rfl rfl rfl rfl (fun w' hE5 => (X.fieldAddrO (off := 13) rfl Try.underlying63 rfl rfl Try.sizeOf36)) ?_
      refine WO.nil ?_
      refine WL.op rfl (OW.storeO hx (Nat.le_of_ble_eq_true rfl) rfl rfl (own_one hoA) Try.sizeOf36 ?_)
      intro w13 hx hx15
      have := World.grownBy.size hx15
      replace hx : Blk _ _ _ (Tb.cells (x.voteN k a) vp vv vc vo2 vk) := hx
      have hTP := hJ.pushed (ms := [(voteM x k ((a : Int) + 1))]) (by rw [bare_one1]; exact hoA) hmA hxA hx15 hx
      refine WL.nil ?_
      refine blk_n ?_
      refine thn_n ?_
      refine WF.region ?_
      refine WL.va rfl rfl rfl (X.moveI e4_L0) ?_
      refine WL.va rfl rfl rfl (X.add rfl rfl (w64 (by omega))) ?_
      refine WL.va rfl rfl rfl (X.assignI rfl) ?_
      refine WL.nil ?_
      exact thn_n ⟨_, (by omega), a + 1, rfl, rfl, (by repeat (first | exact hAL0 | refine Agree.put ?_ rfl | refine Agree.named hF2 ?_)), trivial, ⟨by omega, by rw [voteN_s]; exact TP.join ng1 cg1 (TP.pre heJ hTP)⟩⟩
    · have gh0_3 := (of_decide_eq_false h0_3)
      have ha : a = x.many.toNat := by have := gh0_3; omega
      refine WF.exit ?_
      refine thn_x ?_
      refine thn_x ?_
      refine blk_eq ?_
      refine fin_n ?_
      subst ha
      exact ⟨G1, ng1, cg1, ⟨_, _, _, _, _, _, hI⟩⟩

theorem _root_.Go.Proofs.Ytjmddkaokmdkbaa.Kf.ChgS.join {G G1 : Fp TR} {w w1 w2 : World} (h : ChgS G.on w w1) (n : ∀ b, b < w.heap.size → G b = none → G1 b = none) (k : ChgS G1.on w1 w2) : ChgS G.on w w2 :=
  ChgS.trans h k fun i hi => by
    by_cases hb : i < w.heap.size
    · exact .inl fun e => hi (n i hb e)
    · exact .inr (by omega)
/-- a block of another's is written -/
theorem TIn.off {w0 w w' : World} {G : Fp TR} {g n b : Nat} {x : Tb} {vp vv vc vo : Value} {vk : Nat → Value} {gk : Nat → Nat} (h : TIn w0 w G g x n vp vv vc vo vk gk) (k : w.grownBy w' (some b)) (hb : G b = none) (hb2 : w0.heap.size ≤ b) : TIn w0 w' G g x n vp vv vc vo vk gk := by
  have hC : ChgS (fun i => i = b) w w' := (ChgS.refl _ w).row1 k (.inl rfl)
  have q : ∀ {i r}, G i = some r → ¬ i = b := fun {i r} e e' => by rw [e', hb] at e; cases e
  exact ⟨ChgS.toExt h.since hC (fun i hi => by omega), h.low, Fp.below_le h.below k.size, h.at_, h.obj.chgS hC (q h.at_), h.parts.chgS hC (fun _ e => q e), h.votes.chgS hC (fun _ e => q e), fun a ha => (h.kept a ha).chgS hC (fun _ e => q e), h.coords.chgS hC (fun _ e => q e), h.post.chgS hC (fun _ e => q e), fun i hi => (h.co i hi).chgS hC (fun _ e => by obtain ⟨r, e⟩ := coF_on e; exact q e)⟩
theorem val1_z {x : Tb} {k : Nat} (h : (x.co k).value = 0) : x.val1 k = x := if_pos h
theorem val1_b {x : Tb} {k : Nat} (h : ¬ (x.co k).value = 0) (hb : (x.value ≠ 0 ∧ (x.co k).value ≠ x.value) ∨ ((x.co k).value ≠ 1 ∧ (x.co k).value ≠ 2)) : x.val1 k = { x with bad := true, value := (x.co k).value } := by
  unfold Tb.val1; rw [if_neg h, if_pos hb]
theorem val1_g {x : Tb} {k : Nat} (h : ¬ (x.co k).value = 0) (hb : ¬ ((x.value ≠ 0 ∧ (x.co k).value ≠ x.value) ∨ ((x.co k).value ≠ 1 ∧ (x.co k).value ≠ 2))) : x.val1 k = { x with value := (x.co k).value } := by
  unfold Tb.val1; rw [if_neg h, if_neg hb]
theorem ptrs_at {gk : Nat → Nat} {n k : Nat} (h : k < n) : (ptrs gk n)[k]? = some (at_ (gk k)) := by simp [ptrs, h]
set_option maxHeartbeats 4000000 in
theorem tells_ok (w0 w : World) (G : Fp TR) (g : Nat) (x : Tb) (m : Msg) (h : TG w0 w G g x 3) (hP : x.post.length ≤ 200000) : FnOk Try.prog 44 [at_ g, agg m.bare] w (fun _ w' => TP w0 w w' G g (x.tells m) 3) := by
  have hsz0 := h.since.size
  obtain ⟨vp0, vv0, vc0, vo0, vk0, gk0, hI0⟩ := h
  have hx := hI0.obj
  have tg := hx.lt
  refine FnOk.enter (rs := []) Try.func44 rfl Try.ntmps44 Try.results44 rfl rfl ?_
  refine WF.seq ?_
  refine WF.region ?_
  refine WL.op rfl (OW.boxA (cs := m.bare) rfl ?_ (by decide))
  intro g3 w1 heg3 hlg3 hO3 hx2
  have := World.grownBy.size hx2
  have hG3 : G g3 = none := Fp.fresh hI0.below (by omega)
  have hI1 : TIn w0 w1 G g (x.tellsN m 0) 3 vp0 vv0 vc0 vo0 vk0 gk0 := by rw [tellsN_0]; exact hI0.ext hx2
  have hc1 : ChgS G.on w w1 := ChgS.of_ext hx2
  refine WL.nil ?_
  refine thn_n ?_
  refine WF.seq ?_
  refine WF.region ?_
  refine WL.va rfl rfl rfl (X.assignI rfl) ?_
  refine WL.nil ?_
  refine thn_n ?_
  refine WF.block ?_
  refine WF.named (fun F4 hF5 => ?_)
  refine WF.loopN (fun mL0 f' w' => ∃ (a : Nat) (t : Int) (G1 : Fp TR), mL0 = 3 - a ∧ f' 4 = .int .i64 ((a : Int) + 1) ∧ Agree [0, 1, 3] f' F4 ∧ True ∧ a ≤ 3 ∧ (∀ b, b < w.heap.size → G b = none → G1 b = none) ∧ ChgS G.on w w' ∧ TG w0 w' G1 g (x.tellsN m a) 3 ∧ G1 g3 = none ∧ Blk w' g3 40 (Msg.bare { m with To := t })) ?_ ?_
  · exact ⟨_, 0, m.To, G, rfl, (congrFun hF5 4), (Agree.refl _ _), trivial, ⟨Nat.zero_le _, fun _ _ e => e, hc1, ⟨_, _, _, _, _, _, hI1⟩, hG3, hO3⟩⟩
  · rintro mL0 fL0 wL0 ⟨a, t, G1, hmL0, e4_L0, hAL0, hwL0, ⟨ha0, ng1, cg1, hT, hg3, hO3⟩⟩
    obtain ⟨vp, vv, vc, vo, vk, gk, hI⟩ := hT
    have hx := hI.obj
    have hpg : ∀ b, vo.ownBlock = some b → b ≠ g := fun b e => Fp.ne (hI.post.fp b e) hI.at_ (by simp)
    have hp_parts := hI.parts.ne hI.post (by simp)
    have hp_votes := hI.votes.ne hI.post (by simp)
    have hp3 : ∀ b, vo.ownBlock = some b → b ≠ g3 := fun b e e' => by have := hI.post.fp b e; rw [e', hg3] at this; cases this
    have hvl := tellsN_len x m a
    have q3 := hO3.lt
    have qz := cg1.size
    refine WF.seq ?_
    refine WF.seq ?_
    refine WF.region ?_
    refine WL.va rfl rfl rfl (X.moveI e4_L0) ?_
    refine WL.va rfl rfl rfl (X.leq rfl rfl) ?_
    refine WL.nil ?_
    refine thn_n ?_
    refine WF.cond rfl (fun h0_6 => ?_) (fun h0_6 => ?_)
    · have gh0_6 := (of_decide_eq_true h0_6)
      have ha : a < 3 := by have := gh0_6; omega
      refine WF.skip ?_
      refine thn_n ?_
      refine WF.seq ?_
      refine WF.block ?_
      refine WF.seq ?_
      refine WF.region ?_
      refine WL.va rfl rfl rfl (X.moveI e4_L0) ?_
      refine WL.va rfl rfl rfl (X.fieldAddrO (off := 2) ((hAL0.eq 3).trans (congrFun hF5 3)) Try.underlying40 rfl rfl Try.sizeOf3) ?_
      have hIb := hI
      refine WL.op rfl (OW.storeO hO3 (Nat.le_of_ble_eq_true rfl) rfl rfl rfl Try.sizeOf3 ?_)
      intro wS hO3 hx9
      have := World.grownBy.size hx9
      replace hx := hx.keptO hx9 (by omega)
      replace hO3 : Blk _ _ _ (Msg.bare { m with To := (a : Int) + 1 }) := hO3
      replace hI := hIb.off hx9 hg3 (by omega)
      have hcS : ChgS G.on w wS := cg1.row1 hx9 (.inr (by omega))
      refine WL.nil ?_
      refine thn_n ?_
      refine WF.drawn (.q 0 (.q 1 (.q 2 (.q 3 (.q 4 (.q 5 (.l 6 (.l 7 (.q 8 (.q 9 .nil)))))))))) (fun w' => World.grownBy wS w' vo.ownBlock) 10 (by kernel_rfl) (by kernel_rfl) (grown_of_ext (Ext.drew _)) ?_
      have := World.grownBy.size (Ext.drew wS)
      refine WO.q rfl rfl rfl rfl (fun w' hE11 => (X.move ((hAL0.eq 0).trans (congrFun hF5 0)))) ?_
      refine WO.q rfl rfl rfl rfl (fun w' hE11 => (X.move ((hAL0.eq 0).trans (congrFun hF5 0)))) ?_
      refine WO.q rfl rfl rfl rfl (fun w' hE11 => (X.nilCheck rfl)) ?_
      refine WO.q rfl rfl rfl rfl (fun w' hE11 => (X.fieldAddrO (off := 13) rfl Try.underlying63 rfl rfl Try.sizeOf36)) ?_
      refine WO.q rfl rfl rfl rfl (fun w' hE11 => (X.loadO (hx.kept hE11 (fun e => by first | exact hpg _ e rfl | exact hp3 _ e rfl)) (Ext.refl _) rfl rfl Try.isAgg36)) ?_
      refine WO.q rfl rfl rfl rfl (fun w' hE11 => (X.loadOA (hO3.kept hE11 (fun e => by first | exact hpg _ e rfl | exact hp3 _ e rfl)) (Ext.refl _) ((hAL0.eq 3).trans (congrFun hF5 3)) rfl Try.isAgg40 Try.sizeOf40)) ?_
      refine WO.l ?_
      refine LO.go rfl rfl (OW.lits (vs := [agg (Msg.bare { m with To := (a : Int) + 1 })]) (evp_cons rfl evp_nil) Try.underlying36 Try.sizeOf40 Try.zeroValue40 ⟨rfl, trivial⟩ rfl rfl rfl ?_ (by decide))
      intro v13 w12 ho15 hx14
      have := World.grownBy.size hx14
      have o1 : World.ownsRow w12 _ 40 17 v13 1 (Msg.bare { m with To := (a : Int) + 1 }) := ho15
      have hJ := (hI.ext (Ext.trans (Ext.drew _) hx14))
      have heJ := (Ext.trans (Ext.drew _) hx14)
      refine ⟨(grown_ext (grown_of_ext (Ext.drew _)) hx14), ?_⟩
      refine WO.l ?_
      refine LO.go rfl rfl (OW.append (bytes := 168) hJ.post.own (Row.of_own o1) (Msg.bare_one { m with To := (a : Int) + 1 }) rfl rfl Try.underlying36 Try.type40 rfl rfl rfl rfl (by decide) (by unfold maxLen; omega) (by omega) (Nat.zero_le _) ?_ (by decide))
      intro vo2 w16 ho18 hx17 hmvhx17
      have := World.grownBy.size hx17
      replace hx := (hx.ext (Ext.trans (Ext.drew _) hx14)).keptR hx17 (fun b e => by first | exact hpg b e | exact hp3 b e)
      replace hO3 := (hO3.ext (Ext.trans (Ext.drew _) hx14)).keptR hx17 (fun b e => by first | exact hpg b e | exact hp3 b e)
      have hmA := hmvhx17
      have hxA := hx17
      have hoA := ho18
      refine ⟨(grown2 (grown_ext (grown_of_ext (Ext.drew _)) hx14) hx17), ?_⟩
      refine WO.q rfl rfl rfl rfl (fun w' hE11 => (X.nilCheck rfl)) ?_
      refine WO.q rfl rfl rfl rfl (fun w' hE11 => (X.fieldAddrO (off := 13) rfl Try.underlying63 rfl rfl Try.sizeOf36)) ?_
      refine WO.nil ?_
      refine WL.op rfl (OW.storeO hx (Nat.le_of_ble_eq_true rfl) rfl rfl (own_one hoA) Try.sizeOf36 ?_)
      intro w19 hx hx21
      have := World.grownBy.size hx21
      replace hO3 := hO3.keptO hx21 (by omega)
      replace hx : Blk _ _ _ (Tb.cells (x.tellsN m a) vp vv vc vo2 vk) := hx
      have hTP := hJ.pushed (ms := [{ m with To := (a : Int) + 1 }]) (by rw [bare_one1]; exact hoA) hmA hxA hx21 hx
      obtain ⟨G2, n2, c2, hT2⟩ := hTP
      refine WL.nil ?_
      refine blk_n ?_
      refine thn_n ?_
      refine WF.region ?_
      refine WL.va rfl rfl rfl (X.moveI e4_L0) ?_
      refine WL.va rfl rfl rfl (X.add rfl rfl (w64 (by omega))) ?_
      refine WL.va rfl rfl rfl (X.assignI rfl) ?_
      refine WL.nil ?_
      exact thn_n ⟨_, (by omega), a + 1, (a : Int) + 1, G2, rfl, rfl, (by repeat (first | exact hAL0 | refine Agree.put ?_ rfl | refine Agree.named hF5 ?_)), trivial, ⟨by omega, fun b hb e => n2 b (by omega) (ng1 b hb e), ChgS.join (hcS.ext heJ) ng1 c2, by rw [tellsN_s]; exact hT2, n2 g3 (by omega) hg3, hO3⟩⟩
    · have gh0_6 := (of_decide_eq_false h0_6)
      have ha : a = 3 := by have := gh0_6; omega
      refine WF.exit ?_
      refine thn_x ?_
      refine thn_x ?_
      refine blk_eq ?_
      refine fin_n ?_
      subst ha
      exact ⟨G1, ng1, cg1, ⟨_, _, _, _, _, _, hI⟩⟩

set_option maxHeartbeats 4000000 in
theorem values_ok (w0 w : World) (G : Fp TR) (g : Nat) (x : Tb) (h : TG w0 w G g x 3) (hok : ∀ k, k < 3 → (x.co k).ok) : FnOk Try.prog 27 [at_ g] w (fun _ w' => TP w0 w w' G g x.values 3) := by
  have hT0 : TP w0 w w G g (x.valN 0) 3 := TP.refl h (Ext.refl w)
  obtain ⟨vp0, vv0, vc0, vo0, vk0, gk0, hI0⟩ := h
  have hx := hI0.obj
  refine FnOk.enter (rs := []) Try.func27 rfl Try.ntmps27 Try.results27 rfl rfl ?_
  refine WF.seq ?_
  refine WF.region ?_
  refine WL.va rfl rfl rfl (X.assignI rfl) ?_
  refine WL.nil ?_
  refine thn_n ?_
  refine WF.block ?_
  refine WF.named (fun F1 hF2 => ?_)
  refine WF.loopN (fun mL0 f' w' => ∃ (k : Nat), mL0 = 3 - k ∧ f' 2 = .int .i64 (k : Int) ∧ Agree [0] f' F1 ∧ True ∧ k ≤ 3 ∧ TP w0 w w' G g (x.valN k) 3) ?_ ?_
  · exact ⟨_, 0, rfl, (congrFun hF2 2), (Agree.refl _ _), trivial, ⟨Nat.zero_le _, hT0⟩⟩
  · rintro mL0 fL0 wL0 ⟨k, hmL0, e2_L0, hAL0, hwL0, ⟨hk0, hT⟩⟩
    obtain ⟨G1, ng1, cg1, vp, vv, vc, vo, vk, gk, hI⟩ := hT
    have hx := hI.obj
    have hpg : ∀ b, vo.ownBlock = some b → b ≠ g := fun b e => Fp.ne (hI.post.fp b e) hI.at_ (by simp)
    have hp_parts := hI.parts.ne hI.post (by simp)
    have hp_votes := hI.votes.ne hI.post (by simp)
    refine WF.seq ?_
    refine WF.seq ?_
    refine WF.region ?_
    refine WL.va rfl rfl rfl (X.moveI e2_L0) ?_
    refine WL.va rfl rfl rfl (X.lss rfl rfl) ?_
    refine WL.nil ?_
    refine thn_n ?_
    refine WF.cond rfl (fun h0_3 => ?_) (fun h0_3 => ?_)
    · have gh0_3 := (of_decide_eq_true h0_3)
      have hk : k < 3 := by have := gh0_3; omega
      refine WF.skip ?_
      refine thn_n ?_
      refine WF.seq ?_
      refine WF.block ?_
      refine WF.seq ?_
      refine WF.region ?_
      refine WL.va rfl rfl rfl (X.move ((hAL0.eq 0).trans (congrFun hF2 0))) ?_
      refine WL.va rfl rfl rfl (X.nilCheck rfl) ?_
      refine WL.va rfl rfl rfl (X.fieldAddrO (off := 11) rfl Try.underlying63 rfl rfl Try.sizeOf61) ?_
      refine WL.va rfl rfl rfl (X.loadO hx (Ext.refl _) rfl rfl Try.isAgg61) ?_
      refine WL.va rfl rfl rfl (X.moveI e2_L0) ?_
      refine WL.va rfl rfl rfl (X.idx (hI.coords.rd) rfl rfl hk Try.underlying61 Try.sizeOf27) ?_
      refine WL.va rfl rfl rfl (X.loadP1 hI.coords.rd (Ext.refl _) rfl (ptrs_at hk) Try.isAgg27) ?_
      refine WL.c rfl rfl rfl (X.call Try.call17 (evl_cons (v := at_ (gk k)) rfl evl_nil)) (value_ok (coF G1 k) (gk k) ((x.valN k).co k) _ (hI.co k hk) (by rw [valN_co]; exact hok k hk)) ?_
      rintro v6 w5 ⟨rfl, hx7⟩
      have := World.grownBy.size hx7
      refine WL.va rfl rfl rfl (X.assignI rfl) ?_
      refine WL.nil ?_
      refine thn_n ?_
      refine WF.seq ?_
      refine WF.seq ?_
      refine WF.region ?_
      refine WL.va rfl rfl rfl (X.moveI rfl) ?_
      refine WL.va rfl rfl rfl (X.eql rfl rfl) ?_
      refine WL.nil ?_
      refine thn_n ?_
      refine WF.cond rfl (fun h1_8 => ?_) (fun h1_8 => ?_)
      · have gh1_8 := (of_decide_eq_true h1_8)
        have hv : ((x.valN k).co k).value = 0 := gh1_8
        have hve : x.valN (k + 1) = x.valN k := val1_z hv
        have hcx := ChgS.of_ext (S := G1.on) hx7
        refine WF.exit ?_
        refine thn_x ?_
        refine blk_eq ?_
        refine thn_n ?_
        refine WF.region ?_
        refine WL.va rfl rfl rfl (X.moveI e2_L0) ?_
        refine WL.va rfl rfl rfl (X.add rfl rfl (w64 (by omega))) ?_
        refine WL.va rfl rfl rfl (X.assignI rfl) ?_
        refine WL.nil ?_
        first | exact thn_n ⟨_, (by omega), k + 1, rfl, rfl, (by repeat (first | exact hAL0 | refine Agree.put ?_ rfl | refine Agree.named hF2 ?_)), trivial, ⟨by omega, by rw [hve]; exact TP.join ng1 cg1 ⟨G1, fun _ _ e => e, hcd, ⟨_, _, _, _, _, _, hId⟩⟩⟩⟩ | exact thn_n ⟨_, (by omega), k + 1, rfl, rfl, (by repeat (first | exact hAL0 | refine Agree.put ?_ rfl | refine Agree.named hF2 ?_)), trivial, ⟨by omega, by rw [hve]; exact TP.join ng1 cg1 ⟨G1, fun _ _ e => e, hcx, ⟨_, _, _, _, _, _, (hI.ext hx7)⟩⟩⟩⟩
      · have gh1_8 := (of_decide_eq_false h1_8)
        have hv : ¬ ((x.valN k).co k).value = 0 := gh1_8
        have hcb := ChgS.of_ext (S := G1.on) hx7
        refine WF.skip ?_
        refine thn_n ?_
        refine WF.seq ?_
        refine WF.seq ?_
        refine WF.region ?_
        refine WL.va rfl rfl rfl (X.move ((hAL0.eq 0).trans (congrFun hF2 0))) ?_
        refine WL.va rfl rfl rfl (X.nilCheck rfl) ?_
        refine WL.va rfl rfl rfl (X.fieldAddrO (off := 14) rfl Try.underlying63 rfl rfl Try.sizeOf3) ?_
        refine WL.va rfl rfl rfl (X.loadO hx hx7 rfl rfl Try.isAgg3) ?_
        refine WL.va rfl rfl rfl (X.neq rfl rfl) ?_
        refine WL.va rfl rfl rfl (X.moveB rfl) ?_
        refine WL.split (j := 5) rfl (fun h11 => ?_) (fun h11 => ?_)
        · have gh11 := (of_decide_eq_true h11)
          have q1 : (x.valN k).value ≠ 0 := gh11
          refine WL.vg rfl (congrArg some h11) rfl rfl (X.moveI rfl) ?_
          refine WL.vg rfl (congrArg some h11) rfl rfl (X.move ((hAL0.eq 0).trans (congrFun hF2 0))) ?_
          refine WL.vg rfl (congrArg some h11) rfl rfl (X.nilCheck rfl) ?_
          refine WL.vg rfl (congrArg some h11) rfl rfl (X.fieldAddrO (off := 14) rfl Try.underlying63 rfl rfl Try.sizeOf3) ?_
          refine WL.vg rfl (congrArg some h11) rfl rfl (X.loadO hx hx7 rfl rfl Try.isAgg3) ?_
          refine WL.vg rfl (congrArg some h11) rfl rfl (X.neq rfl rfl) ?_
          refine WL.va rfl rfl rfl (X.pickT rfl h11 rfl) ?_
          refine WL.va rfl rfl rfl (X.moveB rfl) ?_
          refine WL.split (j := 13) rfl (fun h13 => ?_) (fun h13 => ?_)
          · have gh13 := (of_decide_eq_true h13)
            have q2 : ((x.valN k).co k).value ≠ (x.valN k).value := gh13
            refine WL.p rfl rfl rfl (congrArg some h13) ?_
            refine WL.p rfl rfl rfl (congrArg some h13) ?_
            refine WL.p rfl rfl rfl (congrArg some h13) ?_
            refine WL.pn rfl rfl rfl rfl ?_
            refine WL.pn rfl rfl rfl rfl ?_
            refine WL.p rfl rfl rfl (congrArg some h13) ?_
            refine WL.va rfl rfl rfl (X.pickT rfl h13 rfl) ?_
            refine WL.nil ?_
            refine thn_n ?_
            refine WF.cond_t rfl ?_
            refine WF.region ?_
            refine WL.va rfl rfl rfl (X.move ((hAL0.eq 0).trans (congrFun hF2 0))) ?_
            refine WL.va rfl rfl rfl (X.nilCheck rfl) ?_
            refine WL.va rfl rfl rfl (X.fieldAddrO (off := 16) rfl Try.underlying63 rfl rfl Try.sizeOf4) ?_
            have hIb := (hI.ext hx7)
            refine WL.op rfl (OW.storeO (hx.ext hx7) (Nat.le_of_ble_eq_true rfl) rfl rfl rfl Try.sizeOf4 ?_)
            intro w15 hx hx17
            have := World.grownBy.size hx17
            replace hx : Blk _ _ _ (Tb.cells { x.valN k with bad := true } vp vv vc vo vk) := hx
            replace hI := hIb.setN (x' := { x.valN k with bad := true }) hx17 hx rfl rfl rfl rfl rfl
            replace hcb : ChgS G1.on wL0 w15 := hcb.row1 hx17 (.inl (on_of hIb.at_))
            have hBad := hI
            refine WL.nil ?_
            refine thn_n ?_
            refine WF.region ?_
            refine WL.va rfl rfl rfl (X.move ((hAL0.eq 0).trans (congrFun hF2 0))) ?_
            refine WL.va rfl rfl rfl (X.moveI rfl) ?_
            refine WL.va rfl rfl rfl (X.nilCheck rfl) ?_
            refine WL.va rfl rfl rfl (X.fieldAddrO (off := 14) rfl Try.underlying63 rfl rfl Try.sizeOf3) ?_
            have hIb := hI
            refine WL.op rfl (OW.storeO hx (Nat.le_of_ble_eq_true rfl) rfl rfl rfl Try.sizeOf3 ?_)
            intro w19 hx hx21
            have := World.grownBy.size hx21
            replace hx : Blk _ _ _ (Tb.cells { { x.valN k with bad := true } with value := ((x.valN k).co k).value } vp vv vc vo vk) := hx
            have hId := hIb.setN (x' := { { x.valN k with bad := true } with value := ((x.valN k).co k).value }) hx21 hx rfl rfl rfl rfl rfl
            have hcd : ChgS G1.on wL0 w19 := hcb.row1 hx21 (.inl (on_of hIb.at_))
            have hve : x.valN (k + 1) = { { x.valN k with bad := true } with value := ((x.valN k).co k).value } := val1_b hv (by omega)
            refine WL.nil ?_
            refine blk_n ?_
            refine thn_n ?_
            refine WF.region ?_
            refine WL.va rfl rfl rfl (X.moveI e2_L0) ?_
            refine WL.va rfl rfl rfl (X.add rfl rfl (w64 (by omega))) ?_
            refine WL.va rfl rfl rfl (X.assignI rfl) ?_
            refine WL.nil ?_
            exact thn_n ⟨_, (by omega), k + 1, rfl, rfl, (by repeat (first | exact hAL0 | refine Agree.put ?_ rfl | refine Agree.named hF2 ?_)), trivial, ⟨by omega, by rw [hve]; exact TP.join ng1 cg1 ⟨G1, fun _ _ e => e, hcd, ⟨_, _, _, _, _, _, hId⟩⟩⟩⟩
          · have gh13 := (Decidable.of_not_not (of_decide_eq_false h13))
            have q2 : ¬ ((x.valN k).co k).value ≠ (x.valN k).value := by have := gh13; omega
            refine WL.vg rfl (congrArg some h13) rfl rfl (X.moveI rfl) ?_
            refine WL.vg rfl (congrArg some h13) rfl rfl (X.neq rfl rfl) ?_
            refine WL.vg rfl (congrArg some h13) rfl rfl (X.moveB rfl) ?_
            refine WL.split (j := 16) rfl (fun h24 => ?_) (fun h24 => ?_)
            · have gh24 := (of_decide_eq_true h24)
              have q3 : ((x.valN k).co k).value ≠ 1 := gh24
              refine WL.vg rfl (congrArg some h24) rfl rfl (X.moveI rfl) ?_
              refine WL.vg rfl (congrArg some h24) rfl rfl (X.neq rfl rfl) ?_
              refine WL.vg rfl (congrArg some h13) rfl rfl (X.pickT rfl h24 rfl) ?_
              refine WL.va rfl rfl rfl (X.pickF rfl h13 rfl) ?_
              refine WL.nil ?_
              refine thn_n ?_
              refine WF.cond rfl (fun h2_25 => ?_) (fun h2_25 => ?_)
              · have gh2_25 := (of_decide_eq_true h2_25)
                have qb := gh2_25
                refine WF.region ?_
                refine WL.va rfl rfl rfl (X.move ((hAL0.eq 0).trans (congrFun hF2 0))) ?_
                refine WL.va rfl rfl rfl (X.nilCheck rfl) ?_
                refine WL.va rfl rfl rfl (X.fieldAddrO (off := 16) rfl Try.underlying63 rfl rfl Try.sizeOf4) ?_
                have hIb := (hI.ext hx7)
                refine WL.op rfl (OW.storeO (hx.ext hx7) (Nat.le_of_ble_eq_true rfl) rfl rfl rfl Try.sizeOf4 ?_)
                intro w27 hx hx29
                have := World.grownBy.size hx29
                replace hx : Blk _ _ _ (Tb.cells { x.valN k with bad := true } vp vv vc vo vk) := hx
                replace hI := hIb.setN (x' := { x.valN k with bad := true }) hx29 hx rfl rfl rfl rfl rfl
                replace hcb : ChgS G1.on wL0 w27 := hcb.row1 hx29 (.inl (on_of hIb.at_))
                have hBad := hI
                refine WL.nil ?_
                refine thn_n ?_
                refine WF.region ?_
                refine WL.va rfl rfl rfl (X.move ((hAL0.eq 0).trans (congrFun hF2 0))) ?_
                refine WL.va rfl rfl rfl (X.moveI rfl) ?_
                refine WL.va rfl rfl rfl (X.nilCheck rfl) ?_
                refine WL.va rfl rfl rfl (X.fieldAddrO (off := 14) rfl Try.underlying63 rfl rfl Try.sizeOf3) ?_
                have hIb := hI
                refine WL.op rfl (OW.storeO hx (Nat.le_of_ble_eq_true rfl) rfl rfl rfl Try.sizeOf3 ?_)
                intro w31 hx hx33
                have := World.grownBy.size hx33
                replace hx : Blk _ _ _ (Tb.cells { { x.valN k with bad := true } with value := ((x.valN k).co k).value } vp vv vc vo vk) := hx
                have hId := hIb.setN (x' := { { x.valN k with bad := true } with value := ((x.valN k).co k).value }) hx33 hx rfl rfl rfl rfl rfl
                have hcd : ChgS G1.on wL0 w31 := hcb.row1 hx33 (.inl (on_of hIb.at_))
                have hve : x.valN (k + 1) = { { x.valN k with bad := true } with value := ((x.valN k).co k).value } := val1_b hv (by omega)
                refine WL.nil ?_
                refine blk_n ?_
                refine thn_n ?_
                refine WF.region ?_
                refine WL.va rfl rfl rfl (X.moveI e2_L0) ?_
                refine WL.va rfl rfl rfl (X.add rfl rfl (w64 (by omega))) ?_
                refine WL.va rfl rfl rfl (X.assignI rfl) ?_
                refine WL.nil ?_
                exact thn_n ⟨_, (by omega), k + 1, rfl, rfl, (by repeat (first | exact hAL0 | refine Agree.put ?_ rfl | refine Agree.named hF2 ?_)), trivial, ⟨by omega, by rw [hve]; exact TP.join ng1 cg1 ⟨G1, fun _ _ e => e, hcd, ⟨_, _, _, _, _, _, hId⟩⟩⟩⟩
              · have gh2_25 := (Decidable.of_not_not (of_decide_eq_false h2_25))
                have qb := gh2_25
                refine WF.skip ?_
                refine thn_n ?_
                refine WF.region ?_
                refine WL.va rfl rfl rfl (X.move ((hAL0.eq 0).trans (congrFun hF2 0))) ?_
                refine WL.va rfl rfl rfl (X.moveI rfl) ?_
                refine WL.va rfl rfl rfl (X.nilCheck rfl) ?_
                refine WL.va rfl rfl rfl (X.fieldAddrO (off := 14) rfl Try.underlying63 rfl rfl Try.sizeOf3) ?_
                have hIb := (hI.ext hx7)
                refine WL.op rfl (OW.storeO (hx.ext hx7) (Nat.le_of_ble_eq_true rfl) rfl rfl rfl Try.sizeOf3 ?_)
                intro w35 hx hx37
                have := World.grownBy.size hx37
                replace hx : Blk _ _ _ (Tb.cells { x.valN k with value := ((x.valN k).co k).value } vp vv vc vo vk) := hx
                have hId := hIb.setN (x' := { x.valN k with value := ((x.valN k).co k).value }) hx37 hx rfl rfl rfl rfl rfl
                have hcd : ChgS G1.on wL0 w35 := hcb.row1 hx37 (.inl (on_of hIb.at_))
                have hve : x.valN (k + 1) = { x.valN k with value := ((x.valN k).co k).value } := val1_g hv (by omega)
                refine WL.nil ?_
                refine blk_n ?_
                refine thn_n ?_
                refine WF.region ?_
                refine WL.va rfl rfl rfl (X.moveI e2_L0) ?_
                refine WL.va rfl rfl rfl (X.add rfl rfl (w64 (by omega))) ?_
                refine WL.va rfl rfl rfl (X.assignI rfl) ?_
                refine WL.nil ?_
                exact thn_n ⟨_, (by omega), k + 1, rfl, rfl, (by repeat (first | exact hAL0 | refine Agree.put ?_ rfl | refine Agree.named hF2 ?_)), trivial, ⟨by omega, by rw [hve]; exact TP.join ng1 cg1 ⟨G1, fun _ _ e => e, hcd, ⟨_, _, _, _, _, _, hId⟩⟩⟩⟩
            · have gh24 := (Decidable.of_not_not (of_decide_eq_false h24))
              have q3 : ¬ ((x.valN k).co k).value ≠ 1 := by have := gh24; omega
              refine WL.p rfl rfl rfl (congrArg some h24) ?_
              refine WL.p rfl rfl rfl (congrArg some h24) ?_
              refine WL.vg rfl (congrArg some h13) rfl rfl (X.pickF rfl h24 rfl) ?_
              refine WL.va rfl rfl rfl (X.pickF rfl h13 rfl) ?_
              refine WL.nil ?_
              refine thn_n ?_
              refine WF.cond_f rfl ?_
              refine WF.skip ?_
              refine thn_n ?_
              refine WF.region ?_
              refine WL.va rfl rfl rfl (X.move ((hAL0.eq 0).trans (congrFun hF2 0))) ?_
              refine WL.va rfl rfl rfl (X.moveI rfl) ?_
              refine WL.va rfl rfl rfl (X.nilCheck rfl) ?_
              refine WL.va rfl rfl rfl (X.fieldAddrO (off := 14) rfl Try.underlying63 rfl rfl Try.sizeOf3) ?_
              have hIb := (hI.ext hx7)
              refine WL.op rfl (OW.storeO (hx.ext hx7) (Nat.le_of_ble_eq_true rfl) rfl rfl rfl Try.sizeOf3 ?_)
              intro w40 hx hx42
              have := World.grownBy.size hx42
              replace hx : Blk _ _ _ (Tb.cells { x.valN k with value := ((x.valN k).co k).value } vp vv vc vo vk) := hx
              have hId := hIb.setN (x' := { x.valN k with value := ((x.valN k).co k).value }) hx42 hx rfl rfl rfl rfl rfl
              have hcd : ChgS G1.on wL0 w40 := hcb.row1 hx42 (.inl (on_of hIb.at_))
              have hve : x.valN (k + 1) = { x.valN k with value := ((x.valN k).co k).value } := val1_g hv (by omega)
              refine WL.nil ?_
              refine blk_n ?_
              refine thn_n ?_
              refine WF.region ?_
              refine WL.va rfl rfl rfl (X.moveI e2_L0) ?_
              refine WL.va rfl rfl rfl (X.add rfl rfl (w64 (by omega))) ?_
              refine WL.va rfl rfl rfl (X.assignI rfl) ?_
              refine WL.nil ?_
              exact thn_n ⟨_, (by omega), k + 1, rfl, rfl, (by repeat (first | exact hAL0 | refine Agree.put ?_ rfl | refine Agree.named hF2 ?_)), trivial, ⟨by omega, by rw [hve]; exact TP.join ng1 cg1 ⟨G1, fun _ _ e => e, hcd, ⟨_, _, _, _, _, _, hId⟩⟩⟩⟩
        · have gh11 := (Decidable.of_not_not (of_decide_eq_false h11))
          have q1 : ¬ (x.valN k).value ≠ 0 := by have := gh11; omega
          refine WL.p rfl rfl rfl (congrArg some h11) ?_
          refine WL.p rfl rfl rfl (congrArg some h11) ?_
          refine WL.p rfl rfl rfl (congrArg some h11) ?_
          refine WL.p rfl rfl rfl (congrArg some h11) ?_
          refine WL.p rfl rfl rfl (congrArg some h11) ?_
          refine WL.p rfl rfl rfl (congrArg some h11) ?_
          refine WL.va rfl rfl rfl (X.pickF rfl h11 rfl) ?_
          refine WL.va rfl rfl rfl (X.moveB rfl) ?_
          refine WL.vg rfl rfl rfl rfl (X.moveI rfl) ?_
          refine WL.vg rfl rfl rfl rfl (X.neq rfl rfl) ?_
          refine WL.vg rfl rfl rfl rfl (X.moveB rfl) ?_
          refine WL.split (j := 16) rfl (fun h46 => ?_) (fun h46 => ?_)
          · have gh46 := (of_decide_eq_true h46)
            have q3 : ((x.valN k).co k).value ≠ 1 := gh46
            refine WL.vg rfl (congrArg some h46) rfl rfl (X.moveI rfl) ?_
            refine WL.vg rfl (congrArg some h46) rfl rfl (X.neq rfl rfl) ?_
            refine WL.vg rfl rfl rfl rfl (X.pickT rfl h46 rfl) ?_
            refine WL.va rfl rfl rfl (X.pickF rfl rfl rfl) ?_
            refine WL.nil ?_
            refine thn_n ?_
            refine WF.cond rfl (fun h2_47 => ?_) (fun h2_47 => ?_)
            · have gh2_47 := (of_decide_eq_true h2_47)
              have qb := gh2_47
              refine WF.region ?_
              refine WL.va rfl rfl rfl (X.move ((hAL0.eq 0).trans (congrFun hF2 0))) ?_
              refine WL.va rfl rfl rfl (X.nilCheck rfl) ?_
              refine WL.va rfl rfl rfl (X.fieldAddrO (off := 16) rfl Try.underlying63 rfl rfl Try.sizeOf4) ?_
              have hIb := (hI.ext hx7)
              refine WL.op rfl (OW.storeO (hx.ext hx7) (Nat.le_of_ble_eq_true rfl) rfl rfl rfl Try.sizeOf4 ?_)
              intro w49 hx hx51
              have := World.grownBy.size hx51
              replace hx : Blk _ _ _ (Tb.cells { x.valN k with bad := true } vp vv vc vo vk) := hx
              replace hI := hIb.setN (x' := { x.valN k with bad := true }) hx51 hx rfl rfl rfl rfl rfl
              replace hcb : ChgS G1.on wL0 w49 := hcb.row1 hx51 (.inl (on_of hIb.at_))
              have hBad := hI
              refine WL.nil ?_
              refine thn_n ?_
              refine WF.region ?_
              refine WL.va rfl rfl rfl (X.move ((hAL0.eq 0).trans (congrFun hF2 0))) ?_
              refine WL.va rfl rfl rfl (X.moveI rfl) ?_
              refine WL.va rfl rfl rfl (X.nilCheck rfl) ?_
              refine WL.va rfl rfl rfl (X.fieldAddrO (off := 14) rfl Try.underlying63 rfl rfl Try.sizeOf3) ?_
              have hIb := hI
              refine WL.op rfl (OW.storeO hx (Nat.le_of_ble_eq_true rfl) rfl rfl rfl Try.sizeOf3 ?_)
              intro w53 hx hx55
              have := World.grownBy.size hx55
              replace hx : Blk _ _ _ (Tb.cells { { x.valN k with bad := true } with value := ((x.valN k).co k).value } vp vv vc vo vk) := hx
              have hId := hIb.setN (x' := { { x.valN k with bad := true } with value := ((x.valN k).co k).value }) hx55 hx rfl rfl rfl rfl rfl
              have hcd : ChgS G1.on wL0 w53 := hcb.row1 hx55 (.inl (on_of hIb.at_))
              have hve : x.valN (k + 1) = { { x.valN k with bad := true } with value := ((x.valN k).co k).value } := val1_b hv (by omega)
              refine WL.nil ?_
              refine blk_n ?_
              refine thn_n ?_
              refine WF.region ?_
              refine WL.va rfl rfl rfl (X.moveI e2_L0) ?_
              refine WL.va rfl rfl rfl (X.add rfl rfl (w64 (by omega))) ?_
              refine WL.va rfl rfl rfl (X.assignI rfl) ?_
              refine WL.nil ?_
              exact thn_n ⟨_, (by omega), k + 1, rfl, rfl, (by repeat (first | exact hAL0 | refine Agree.put ?_ rfl | refine Agree.named hF2 ?_)), trivial, ⟨by omega, by rw [hve]; exact TP.join ng1 cg1 ⟨G1, fun _ _ e => e, hcd, ⟨_, _, _, _, _, _, hId⟩⟩⟩⟩
            · have gh2_47 := (Decidable.of_not_not (of_decide_eq_false h2_47))
              have qb := gh2_47
              refine WF.skip ?_
              refine thn_n ?_
              refine WF.region ?_
              refine WL.va rfl rfl rfl (X.move ((hAL0.eq 0).trans (congrFun hF2 0))) ?_
              refine WL.va rfl rfl rfl (X.moveI rfl) ?_
              refine WL.va rfl rfl rfl (X.nilCheck rfl) ?_
              refine WL.va rfl rfl rfl (X.fieldAddrO (off := 14) rfl Try.underlying63 rfl rfl Try.sizeOf3) ?_
              have hIb := (hI.ext hx7)
              refine WL.op rfl (OW.storeO (hx.ext hx7) (Nat.le_of_ble_eq_true rfl) rfl rfl rfl Try.sizeOf3 ?_)
              intro w57 hx hx59
              have := World.grownBy.size hx59
              replace hx : Blk _ _ _ (Tb.cells { x.valN k with value := ((x.valN k).co k).value } vp vv vc vo vk) := hx
              have hId := hIb.setN (x' := { x.valN k with value := ((x.valN k).co k).value }) hx59 hx rfl rfl rfl rfl rfl
              have hcd : ChgS G1.on wL0 w57 := hcb.row1 hx59 (.inl (on_of hIb.at_))
              have hve : x.valN (k + 1) = { x.valN k with value := ((x.valN k).co k).value } := val1_g hv (by omega)
              refine WL.nil ?_
              refine blk_n ?_
              refine thn_n ?_
              refine WF.region ?_
              refine WL.va rfl rfl rfl (X.moveI e2_L0) ?_
              refine WL.va rfl rfl rfl (X.add rfl rfl (w64 (by omega))) ?_
              refine WL.va rfl rfl rfl (X.assignI rfl) ?_
              refine WL.nil ?_
              exact thn_n ⟨_, (by omega), k + 1, rfl, rfl, (by repeat (first | exact hAL0 | refine Agree.put ?_ rfl | refine Agree.named hF2 ?_)), trivial, ⟨by omega, by rw [hve]; exact TP.join ng1 cg1 ⟨G1, fun _ _ e => e, hcd, ⟨_, _, _, _, _, _, hId⟩⟩⟩⟩
          · have gh46 := (Decidable.of_not_not (of_decide_eq_false h46))
            have q3 : ¬ ((x.valN k).co k).value ≠ 1 := by have := gh46; omega
            refine WL.p rfl rfl rfl (congrArg some h46) ?_
            refine WL.p rfl rfl rfl (congrArg some h46) ?_
            refine WL.vg rfl rfl rfl rfl (X.pickF rfl h46 rfl) ?_
            refine WL.va rfl rfl rfl (X.pickF rfl rfl rfl) ?_
            refine WL.nil ?_
            refine thn_n ?_
            refine WF.cond_f rfl ?_
            refine WF.skip ?_
            refine thn_n ?_
            refine WF.region ?_
            refine WL.va rfl rfl rfl (X.move ((hAL0.eq 0).trans (congrFun hF2 0))) ?_
            refine WL.va rfl rfl rfl (X.moveI rfl) ?_
            refine WL.va rfl rfl rfl (X.nilCheck rfl) ?_
            refine WL.va rfl rfl rfl (X.fieldAddrO (off := 14) rfl Try.underlying63 rfl rfl Try.sizeOf3) ?_
            have hIb := (hI.ext hx7)
            refine WL.op rfl (OW.storeO (hx.ext hx7) (Nat.le_of_ble_eq_true rfl) rfl rfl rfl Try.sizeOf3 ?_)
            intro w62 hx hx65
            have := World.grownBy.size hx65
            replace hx : Blk _ _ _ (Tb.cells { x.valN k with value := ((x.valN k).co k).value } vp vv vc vo vk) := hx
            have hId := hIb.setN (x' := { x.valN k with value := ((x.valN k).co k).value }) hx65 hx rfl rfl rfl rfl rfl
            have hcd : ChgS G1.on wL0 w62 := hcb.row1 hx65 (.inl (on_of hIb.at_))
            have hve : x.valN (k + 1) = { x.valN k with value := ((x.valN k).co k).value } := val1_g hv (by omega)
            refine WL.nil ?_
            refine blk_n ?_
            refine thn_n ?_
            refine WF.region ?_
            refine WL.va rfl rfl rfl (X.moveI e2_L0) ?_
            refine WL.va rfl rfl rfl (X.add rfl rfl (w64 (by omega))) ?_
            refine WL.va rfl rfl rfl (X.assignI rfl) ?_
            refine WL.nil ?_
            exact thn_n ⟨_, (by omega), k + 1, rfl, rfl, (by repeat (first | exact hAL0 | refine Agree.put ?_ rfl | refine Agree.named hF2 ?_)), trivial, ⟨by omega, by rw [hve]; exact TP.join ng1 cg1 ⟨G1, fun _ _ e => e, hcd, ⟨_, _, _, _, _, _, hId⟩⟩⟩⟩
    · have gh0_3 := (of_decide_eq_false h0_3)
      have hk : k = 3 := by have := gh0_3; omega
      refine WF.exit ?_
      refine thn_x ?_
      refine thn_x ?_
      refine blk_eq ?_
      refine fin_n ?_
      subst hk
      exact ⟨G1, ng1, cg1, ⟨_, _, _, _, _, _, hI⟩⟩

end Go.Proofs.Ytjmddkaokmdkbaa
