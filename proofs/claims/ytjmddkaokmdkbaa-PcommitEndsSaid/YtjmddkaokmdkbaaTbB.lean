/- The walk of begin. -/
import Derived.Test.YtjmddkaokmdkbaaTbM
namespace Go.Proofs.Ytjmddkaokmdkbaa
open Go Go.RowKit Kf
set_option maxRecDepth 20000

section
variable {P : Program} {f : Fr} {w : World} {dst : Option Tmp} {ty t e t' : TypeId} {pos : String} {aft : Array Edge} {gd : Option (Nat × Bool)} {x y : Operand}
theorem X.eqlPN2 {a : Addr} (hx : ev f x = .pointer (some a)) (hy : ev f y = .pointer none) (ht : P.underlying t = some (.pointer e)) : (execOp (ev f) ⟨dst, .binOp .eql t x y t', ty, pos, aft, gd⟩).run P w = .ok (.value (.bool false)) w := by
  simp [execOp, hx, hy, eqGuard, binOp, X.run_equal_ptr_nil ht]
end
section
variable {w0 w w1 w2 : World} {G : Fp TR} {g n : Nat} {x : Tb} {vp vv vc vo : Value} {vk : Nat → Value} {gk : Nat → Nat}
theorem TIn.pushP {v : Value} {y : Int} (h : TIn w0 w G g x n vp vv vc vo vk gk) (ho : w1.ownsRow 0 3 1 v (x.parts.length + 1) (x.parts.map i64 ++ [i64 y])) (hm : Kf.Moved w vp v) (k1 : w.grownBy w1 vp.ownBlock) (k2 : w1.grownBy w2 (some g)) (hg : Blk w2 g 63 (x.cells v vv vc vo vk)) : TP w0 w w2 G g { x with parts := x.parts ++ [y] } n := by
  have hv : ∀ b, v.ownBlock = some b → vp.ownBlock = some b ∨ w.heap.size ≤ b := fun b e => by
    rcases hm with q | q
    · exact .inl (q ▸ e)
    · exact .inr (q b e)
  have hlt := Fp.lt h.below h.at_
  have ho2 : w2.ownsRow 0 3 1 v (x.parts ++ [y]).length ((x.parts ++ [y]).map i64) := by
    rw [List.length_append, List.map_append]
    refine ho.kept k2 (.inr fun e => ?_)
    rcases hv g e with q | q
    · exact Fp.ne (h.parts.fp g q) h.at_ (by simp) rfl
    · omega
  obtain ⟨h1, h2, h3, h4, h5, h6, h7, h8⟩ := h.row (r := .parts) (v := v) (.inl rfl) (fun b e => ⟨(ho2.lt b e).2, by rcases hv b e with q | q; exact .inl (h.parts.fp b q); exact .inr q⟩) (((ChgS.refl _ w).row k1 (fun b e => .inl (.inr (h.parts.fp b e)))).row1 k2 (.inl (.inl rfl)))
  exact ⟨_, h2, h3, ⟨v, vv, vc, vo, vk, gk, h4, h5, h6, h1 _ _ h.at_, hg, RowF.mk' ho2, h7 h.votes (by simp) (by simp), fun a ha => h7 (h.kept a ha) (by simp) (by simp), h7 h.coords (by simp) (by simp), h7 h.post (by simp) (by simp), h8⟩⟩
theorem TIn.pushV {v : Value} {y : Int} (h : TIn w0 w G g x n vp vv vc vo vk gk) (ho : w1.ownsRow 0 3 1 v (x.votes.length + 1) (x.votes.map i64 ++ [i64 y])) (hm : Kf.Moved w vv v) (k1 : w.grownBy w1 vv.ownBlock) (k2 : w1.grownBy w2 (some g)) (hg : Blk w2 g 63 (x.cells vp v vc vo vk)) : TP w0 w w2 G g { x with votes := x.votes ++ [y] } n := by
  have hv : ∀ b, v.ownBlock = some b → vv.ownBlock = some b ∨ w.heap.size ≤ b := fun b e => by
    rcases hm with q | q
    · exact .inl (q ▸ e)
    · exact .inr (q b e)
  have hlt := Fp.lt h.below h.at_
  have ho2 : w2.ownsRow 0 3 1 v (x.votes ++ [y]).length ((x.votes ++ [y]).map i64) := by
    rw [List.length_append, List.map_append]
    refine ho.kept k2 (.inr fun e => ?_)
    rcases hv g e with q | q
    · exact Fp.ne (h.votes.fp g q) h.at_ (by simp) rfl
    · omega
  obtain ⟨h1, h2, h3, h4, h5, h6, h7, h8⟩ := h.row (r := .votes) (v := v) (.inr (.inl rfl)) (fun b e => ⟨(ho2.lt b e).2, by rcases hv b e with q | q; exact .inl (h.votes.fp b q); exact .inr q⟩) (((ChgS.refl _ w).row k1 (fun b e => .inl (.inr (h.votes.fp b e)))).row1 k2 (.inl (.inl rfl)))
  exact ⟨_, h2, h3, ⟨vp, v, vc, vo, vk, gk, h4, h5, h6, h1 _ _ h.at_, hg, h7 h.parts (by simp) (by simp), RowF.mk' ho2, fun a ha => h7 (h.kept a ha) (by simp) (by simp), h7 h.coords (by simp) (by simp), h7 h.post (by simp) (by simp), h8⟩⟩
theorem tb_new {w0 w : World} {g : Nat} {x : Tb} (hE : Ext w0 w) (hb : Blk w g 63 (x.cells nilS nilS nilS nilS fun _ => nilS)) (hg : w0.heap.size ≤ g) (h1 : x.parts = []) (h2 : x.votes = []) (h3 : ∀ a, x.kept a = []) (h4 : x.post = []) : TG w0 w (fun b => if b = g then some .tab else none) g x 0 := by
  refine ⟨nilS, nilS, nilS, nilS, fun _ => nilS, fun _ => 0, hE, fun b h => ?_, fun b h => ?_, if_pos rfl, hb, ?_, ?_, fun a _ => ?_, ?_, ?_, fun k hk => absurd hk (by omega)⟩
  · by_cases e : b = g
    · rw [e]; exact hg
    · exact absurd (if_neg e) h
  · by_cases e : b = g
    · rw [e]; exact hb.lt
    · exact absurd (if_neg e) h
  · rw [h1]; exact ⟨World.ownsRow_nil _ _ _ _, fun b e => by cases e⟩
  · rw [h2]; exact ⟨World.ownsRow_nil _ _ _ _, fun b e => by cases e⟩
  · rw [h3]; exact ⟨World.ownsRow_nil _ _ _ _, fun b e => by cases e⟩
  · exact ⟨World.ownsRow_nil _ _ _ _, fun b e => by cases e⟩
  · rw [h4]; exact ⟨World.ownsRow_nil _ _ _ _, fun b e => by cases e⟩
end
theorem shr_in (a n : Int) (h : -9223372036854775808 ≤ a ∧ a ≤ 9223372036854775807) : ∃ z, a.fdiv (2 ^ (min n.toNat IntKind.i64.bits)) = z ∧ -9223372036854775808 ≤ z ∧ z ≤ 9223372036854775807 := by
  refine ⟨_, rfl, ?_⟩
  generalize min n.toNat IntKind.i64.bits = q
  have hb : (1 : Int) ≤ 2 ^ q := by
    have : (0 : Int) < 2 ^ q := Int.pow_pos (by omega)
    omega
  generalize (2 : Int) ^ q = b at hb
  rw [Int.fdiv_eq_ediv_of_nonneg _ (by omega)]
  constructor
  · rw [Int.le_ediv_iff_mul_le (by omega)]; omega
  · have : a / b < 9223372036854775808 := by
      rw [Int.ediv_lt_iff_lt_mul (by omega)]; omega
    omega
def psN (p : Nat) : List Int := (List.range p).map fun (i : Nat) => (i : Int) + 1
theorem psN_s (p : Nat) : psN (p + 1) = psN p ++ [(p : Int) + 1] := by simp [psN, List.range_succ]
theorem psN_len (p : Nat) : (psN p).length = p := by simp [psN]
/-- a table that is begun -/
def TbB (many : Int) (P ps vs : List Int) : Tb := ⟨ps, vs, many, fun _ => [], fun k => CC.new ((k : Int) + 1) 5 many P, 0, [], 0, false, false⟩
def Began (x : Tb) : Prop := ∃ (a np : Nat) (vs : List Int), a < 4 ∧ 1 ≤ np ∧ np ≤ 4 ∧ vs.length = np ∧ (∀ v ∈ vs, v = 1 ∨ v = 2) ∧ x = TbB (1 + 2 * (a : Int)) (psN np) (psN np) vs
theorem nw_all : ∀ k : Fin 3, ∀ np : Fin 4, ∀ a : Fin 4, newOk ((k.1 : Int) + 1) 5 (1 + 2 * (a.1 : Int)) (psN (np.1 + 1)) = true := by decide +kernel
theorem nw_ok {k np a : Nat} (h1 : k < 3) (h2 : 1 ≤ np) (h3 : np ≤ 4) (h4 : a < 4) : newOk ((k : Int) + 1) 5 (1 + 2 * (a : Int)) (psN np) = true := by
  have := nw_all ⟨k, h1⟩ ⟨np - 1, by omega⟩ ⟨a, h4⟩
  simpa [show np - 1 + 1 = np by omega] using this
theorem updN_self {α : Type} {f : Nat → α} {k : Nat} {c : α} (h : f k = c) : updN f k c = f := by
  funext q
  by_cases e : q = k
  · subst e; rw [updN_at, h]
  · exact updN_ne e
theorem made_same {x : Tb} {k : Nat} {c : CC} (h : x.co k = c) : ({ x with co := updN x.co k c } : Tb) = x := by
  rw [updN_self h]
theorem ptrs_add {gk : Nat → Nat} {k gn : Nat} : ptrs (updN gk k gn) (k + 1) = ptrs gk k ++ [at_ gn] := by
  unfold ptrs
  rw [List.range_succ, List.map_append]
  congr 1
  · apply List.map_congr_left
    intro i hi
    rw [updN_ne (by have := List.mem_range.1 hi; omega)]
  · simp [updN_at]
set_option maxHeartbeats 16000000 in
theorem begin_ok (dP dA dN : Int) (w : World) (hP : -9223372036854775808 ≤ dP ∧ dP ≤ 9223372036854775807) (hA : -9223372036854775808 ≤ dA ∧ dA ≤ 9223372036854775807) (hN : -9223372036854775808 ≤ dN ∧ dN ≤ 9223372036854775807) : FnOk Try.prog 22 [agg [i64 dP, i64 dA, i64 dN]] w (fun r w' => ∃ g x, r = at_ g ∧ TAt w w' g x ∧ Began x) := by
  obtain ⟨an, hane⟩ : ∃ an, an = pickN dN 4 := ⟨_, rfl⟩
  have han : an < 4 := by rw [hane]; exact pickN_lt (by omega)
  obtain ⟨pp, hppe⟩ : ∃ pp, pp = pickN dP 4 := ⟨_, rfl⟩
  have hpp : pp < 4 := by rw [hppe]; exact pickN_lt (by omega)
  obtain ⟨np, hnp⟩ : ∃ np, np = 1 + pp := ⟨_, rfl⟩
  obtain ⟨mn, hmn⟩ : ∃ mn : Int, mn = 1 + 2 * (an : Int) := ⟨_, rfl⟩
  have hpl := psN_len np
  refine FnOk.enter (rs := [2]) Try.func22 rfl Try.ntmps22 Try.results22 rfl rfl ?_
  refine WF.seq ?_
  refine WF.region ?_
  refine WL.op rfl (OW.boxA (cs := [i64 dP, i64 dA, i64 dN]) rfl ?_ (by decide))
  intro g1 w1 heg1 hlg1 hO1 hx3
  have := World.grownBy.size hx3
  refine WL.va rfl rfl rfl (X.assign rfl) ?_
  refine WL.nil ?_
  refine thn_n ?_
  refine WF.seq ?_
  refine WF.region ?_
  refine WL.va rfl rfl rfl (X.fieldAddrO (off := 2) rfl Try.underlying55 rfl rfl Try.sizeOf3) ?_
  refine WL.va rfl rfl rfl (X.loadO hO1 (Ext.refl _) rfl rfl Try.isAgg3) ?_
  refine WL.c rfl rfl rfl (X.call Try.call25 (evl_cons (v := (i64 dN)) rfl (evl_cons (v := (i64 (4 : Nat))) rfl evl_nil))) (pick_to hane dN 4 _ hN (by omega)) ?_
  rintro v6 w5 ⟨rfl, rfl⟩
  refine WL.va rfl rfl rfl (X.mul rfl rfl (w64 (by omega))) ?_
  refine WL.va rfl rfl rfl (X.add rfl rfl ((w64 (by omega)).trans hmn.symm)) ?_
  refine WL.va rfl rfl rfl (X.buildT (P := Try.prog) (t := 63) (cs := (Tb.cells (TbB mn (psN np) [] []) nilS nilS nilS nilS fun _ => nilS)) (zs := [.slice none 0 0, .slice none 0 0, i64 0, .slice none 0 0, .slice none 0 0, .slice none 0 0, .slice none 0 0, .slice none 0 0, .slice none 0 0, .slice none 0 0, .slice none 0 0, .slice none 0 0, i64 0, .slice none 0 0, i64 0, .bool false, .bool false]) (places := [(0, 1), (1, 1), (2, 1), (3, 8), (11, 1), (12, 1), (13, 1), (14, 1), (15, 1), (16, 1)]) (n := 17) (evp_cons rfl evp_nil) Try.type63 Try.underlying63 rfl rfl ⟨rfl, trivial⟩ rfl rfl rfl) ?_
  refine WL.op rfl (OW.boxA (cs := _) rfl ?_ (by decide))
  intro g14 wB heg14 hlg14 hO14 hx9
  have := World.grownBy.size hx9
  have hO14b := hO14
  have heB : Ext w wB := (show Ext w wB from (Ext.trans hx3 hx9))
  have hTb := tb_new (x := (TbB mn (psN np) [] [])) heB hO14 (by have := ((show Ext w wB from (Ext.trans hx3 hx9))).size; omega) rfl rfl (fun _ => rfl) rfl
  refine WL.va rfl rfl rfl (X.assign rfl) ?_
  refine WL.nil ?_
  refine thn_n ?_
  refine WF.seq ?_
  refine WF.seq ?_
  refine WF.region ?_
  refine WL.va rfl rfl rfl (X.assignI rfl) ?_
  refine WL.nil ?_
  refine thn_n ?_
  refine WF.block ?_
  refine WF.named (fun F11 hF12 => ?_)
  refine WF.loopN (fun mL0 f' w' => ∃ (p : Nat) (vs : List Int) (G1 : Fp TR), mL0 = np - p ∧ f' 4 = .int .i64 ((p : Int) + 1) ∧ Agree [0, 1, 2, 3, 8, 9, 10, 11, 12, 13, 14] f' F11 ∧ True ∧ p ≤ np ∧ vs.length = p ∧ (∀ v ∈ vs, v = 1 ∨ v = 2) ∧ TG w w' G1 g14 (TbB mn (psN np) (psN p) vs) 0 ∧ G1 g1 = none ∧ Blk w' g1 55 [i64 dP, i64 dA, i64 dN]) ?_ ?_
  · exact ⟨_, 0, [], (fun b => if b = g14 then some .tab else none), rfl, (congrFun hF12 4), (Agree.refl _ _), trivial, ⟨Nat.zero_le _, rfl, (fun v hv => by cases hv), hTb, if_neg (by omega), (hO1.ext hx9)⟩⟩
  · rintro mL0 fL0 wL0 ⟨p, vs, G1, hmL0, e4_L0, hAL0, hwL0, ⟨hp0, hvl, hv12, hT, hg1, hO1⟩⟩
    obtain ⟨vp, vv, vc, vo, vk, gk, hI⟩ := hT
    have hO14 := hI.obj
    have tg := hO14.lt
    have hzw := hI.since.size
    have hlg := hI.ge hI.at_
    have hpg : ∀ b, vp.ownBlock = some b → b ≠ g14 := fun b e => Fp.ne (hI.parts.fp b e) hI.at_ (by simp)
    have hvg : ∀ b, vv.ownBlock = some b → b ≠ g14 := fun b e => Fp.ne (hI.votes.fp b e) hI.at_ (by simp)
    have hcg : ∀ b, vc.ownBlock = some b → b ≠ g14 := fun b e => Fp.ne (hI.coords.fp b e) hI.at_ (by simp)
    have hp1 : ∀ b, vp.ownBlock = some b → b ≠ g1 := fun b e e' => by have := hI.parts.fp b e; rw [e', hg1] at this; cases this
    have hv1 : ∀ b, vv.ownBlock = some b → b ≠ g1 := fun b e e' => by have := hI.votes.fp b e; rw [e', hg1] at this; cases this
    have q1 := hO1.lt
    obtain ⟨z, hz, hz1, hz2⟩ := shr_in dA ((p : Int) + 1) hA
    have hpz : pickN z 2 < 2 := pickN_lt (by omega)
    refine WF.seq ?_
    refine WF.seq ?_
    refine WF.region ?_
    refine WL.va rfl rfl rfl (X.moveI e4_L0) ?_
    refine WL.va rfl rfl rfl (X.fieldAddrO (off := 0) ((hAL0.eq 1).trans (congrFun hF12 1)) Try.underlying55 rfl rfl Try.sizeOf3) ?_
    refine WL.va rfl rfl rfl (X.loadO hO1 (Ext.refl _) rfl rfl Try.isAgg3) ?_
    refine WL.c rfl rfl rfl (X.call Try.call25 (evl_cons (v := (i64 dP)) rfl (evl_cons (v := (i64 (4 : Nat))) rfl evl_nil))) (pick_to hppe dP 4 _ hP (by omega)) ?_
    rintro v14 w13 ⟨rfl, rfl⟩
    refine WL.va rfl rfl rfl (X.add rfl rfl (w64 (by omega))) ?_
    refine WL.va rfl rfl rfl (X.leq rfl rfl) ?_
    refine WL.nil ?_
    refine thn_n ?_
    refine WF.cond rfl (fun h0_16 => ?_) (fun h0_16 => ?_)
    · have gh0_16 := (of_decide_eq_true h0_16)
      have hp : p < np := by have := gh0_16; omega
      refine WF.skip ?_
      refine thn_n ?_
      refine WF.seq ?_
      refine WF.block ?_
      refine WF.seq ?_
      refine WF.region ?_
      refine WL.va rfl rfl rfl (X.move ((hAL0.eq 3).trans (congrFun hF12 3))) ?_
      refine WL.va rfl rfl rfl (X.move ((hAL0.eq 3).trans (congrFun hF12 3))) ?_
      refine WL.va rfl rfl rfl (X.nilCheck rfl) ?_
      refine WL.va rfl rfl rfl (X.fieldAddrO (off := 0) rfl Try.underlying63 rfl rfl Try.sizeOf22) ?_
      refine WL.va rfl rfl rfl (X.loadO hO14 (Ext.refl _) rfl rfl Try.isAgg22) ?_
      refine WL.va rfl rfl rfl (X.moveI e4_L0) ?_
      refine WL.op rfl (OW.lits (vs := [i64 ((p : Int) + 1)]) (evp_cons rfl evp_nil) Try.underlying22 Try.sizeOf3 Try.zeroValue3 ⟨rfl, trivial⟩ rfl rfl rfl ?_ (by decide))
      intro v19 w18 ho21 hx20
      have := World.grownBy.size hx20
      have o1 : World.ownsRow w18 _ 3 1 v19 1 [i64 ((p : Int) + 1)] := ho21
      have hJ := (hI.ext hx20)
      have heJ := (show Ext wL0 w18 from hx20)
      refine WL.op rfl (OW.append (bytes := 8) hJ.parts.own (Row.of_own o1) (by simp [Value.oneCell']) rfl rfl Try.underlying22 Try.type3 rfl rfl rfl rfl (by decide) (by unfold maxLen; have := psN_len p; show (psN p).length + 1 ≤ _; omega) (by have := psN_len p; show ((psN p).length + 1) * 8 ≤ _; omega) (Nat.zero_le _) ?_ (by decide))
      intro vp2 w22 ho24 hx23 hmvhx23
      have := World.grownBy.size hx23
      replace hO1 := (hO1.ext hx20).keptR hx23 (fun b e => by first | exact hpg b e | exact hp1 b e)
      replace hO14 := (hO14.ext hx20).keptR hx23 (fun b e => by first | exact hpg b e | exact hp1 b e)
      have hmA := hmvhx23
      have hxA := hx23
      have hoA := ho24
      refine WL.va rfl rfl rfl (X.nilCheck rfl) ?_
      refine WL.va rfl rfl rfl (X.fieldAddrO (off := 0) rfl Try.underlying63 rfl rfl Try.sizeOf22) ?_
      refine WL.op rfl (OW.storeO hO14 (Nat.le_of_ble_eq_true rfl) rfl rfl (own_one hoA) Try.sizeOf22 ?_)
      intro w5 hO14 hx26
      have := World.grownBy.size hx26
      replace hO1 := hO1.keptO hx26 (by omega)
      replace hO14 : Blk _ _ _ (Tb.cells (TbB mn (psN np) (psN (p + 1)) vs) vp2 vv vc vo vk) := hO14
      have hTP5 := hJ.pushP (y := (p : Int) + 1) hoA hmA hxA hx26 hO14
      rw [show ({ (TbB mn (psN np) (psN p) vs) with parts := (TbB mn (psN np) (psN p) vs).parts ++ [(p : Int) + 1] } : Tb) = (TbB mn (psN np) (psN (p + 1)) vs) from by rw [show psN (p + 1) = psN p ++ [(p : Int) + 1] from psN_s p]; rfl] at hTP5
      obtain ⟨G5, n5, c5, hT⟩ := hTP5
      have hg15 := n5 g1 (by omega) hg1
      clear hg1
      have hg1 := hg15
      obtain ⟨vp, vv, vc, vo, vk, gk, hI⟩ := hT
      have hO14 := hI.obj
      have tg := hO14.lt
      have hzw := hI.since.size
      have hlg := hI.ge hI.at_
      have hpg : ∀ b, vp.ownBlock = some b → b ≠ g14 := fun b e => Fp.ne (hI.parts.fp b e) hI.at_ (by simp)
      have hvg : ∀ b, vv.ownBlock = some b → b ≠ g14 := fun b e => Fp.ne (hI.votes.fp b e) hI.at_ (by simp)
      have hcg : ∀ b, vc.ownBlock = some b → b ≠ g14 := fun b e => Fp.ne (hI.coords.fp b e) hI.at_ (by simp)
      have hp1 : ∀ b, vp.ownBlock = some b → b ≠ g1 := fun b e e' => by have := hI.parts.fp b e; rw [e', hg1] at this; cases this
      have hv1 : ∀ b, vv.ownBlock = some b → b ≠ g1 := fun b e e' => by have := hI.votes.fp b e; rw [e', hg1] at this; cases this
      refine WL.nil ?_
      refine thn_n ?_
      refine WF.drawn (.q 0 (.q 1 (.q 2 (.q 3 (.q 4 (.q 5 (.q 6 (.q 7 (.q 8 (.q 9 (.l 10 (.q 11 (.l 12 (.l 13 (.q 14 (.q 15 .nil)))))))))))))))) (fun w' => World.grownBy w5 w' vv.ownBlock) 16 (by kernel_rfl) (by kernel_rfl) (grown_of_ext (Ext.drew _)) ?_
      have := World.grownBy.size (Ext.drew w5)
      refine WO.q rfl rfl rfl rfl (fun w' hE28 => (X.move ((hAL0.eq 3).trans (congrFun hF12 3)))) ?_
      refine WO.q rfl rfl rfl rfl (fun w' hE28 => (X.move ((hAL0.eq 3).trans (congrFun hF12 3)))) ?_
      refine WO.q rfl rfl rfl rfl (fun w' hE28 => (X.nilCheck rfl)) ?_
      refine WO.q rfl rfl rfl rfl (fun w' hE28 => (X.fieldAddrO (off := 1) rfl Try.underlying63 rfl rfl Try.sizeOf22)) ?_
      refine WO.q rfl rfl rfl rfl (fun w' hE28 => (X.loadO (hO14.kept hE28 (fun e => by first | exact hvg _ e rfl | exact hv1 _ e rfl)) (Ext.refl _) rfl rfl Try.isAgg22)) ?_
      refine WO.q rfl rfl rfl rfl (fun w' hE28 => (X.fieldAddrO (off := 1) ((hAL0.eq 1).trans (congrFun hF12 1)) Try.underlying55 rfl rfl Try.sizeOf3)) ?_
      refine WO.q rfl rfl rfl rfl (fun w' hE28 => (X.loadO (hO1.kept hE28 (fun e => by first | exact hvg _ e rfl | exact hv1 _ e rfl)) (Ext.refl _) rfl rfl Try.isAgg3)) ?_
      refine WO.q rfl rfl rfl rfl (fun w' hE28 => (X.moveI e4_L0)) ?_
      refine WO.q rfl rfl rfl rfl (fun w' hE28 => (X.conv rfl (congrArg Option.isSome Try.underlying3) Try.underlying85 (wu64 (by omega)))) ?_
      refine WO.q rfl rfl rfl rfl (fun w' hE28 => (X.shr rfl rfl (by omega) hz)) ?_
      refine WO.l ?_
      refine LO.go rfl rfl (OW.enter rfl (by decide) (X.call Try.call25 (evl_cons (v := (i64 z)) rfl (evl_cons (v := (i64 (2 : Nat))) rfl evl_nil))) (pickN_ok z 2 _ ⟨hz1, hz2⟩ (by omega)) ?_)
      rintro v30 w29 ⟨rfl, rfl⟩
      refine ⟨(grown_of_ext (Ext.drew _)), ?_⟩
      refine WO.q rfl rfl rfl rfl (fun w' hE28 => (X.add rfl rfl (w64 (by omega)))) ?_
      refine WO.l ?_
      refine LO.go rfl rfl (OW.lits (vs := [i64 (1 + ((pickN z 2 : Nat) : Int))]) (evp_cons rfl evp_nil) Try.underlying22 Try.sizeOf3 Try.zeroValue3 ⟨rfl, trivial⟩ rfl rfl rfl ?_ (by decide))
      intro v33 w32 ho35 hx34
      have := World.grownBy.size hx34
      have o1 : World.ownsRow w32 _ 3 1 v33 1 [i64 (1 + ((pickN z 2 : Nat) : Int))] := ho35
      have hJ := (hI.ext (Ext.trans (Ext.drew _) hx34))
      have heJ2 := (show Ext w5 w32 from (Ext.trans (Ext.drew _) hx34))
      refine ⟨(grown_ext (grown_of_ext (Ext.drew _)) hx34), ?_⟩
      refine WO.l ?_
      refine LO.go rfl rfl (OW.append (bytes := 8) hJ.votes.own (Row.of_own o1) (by simp [Value.oneCell']) rfl rfl Try.underlying22 Try.type3 rfl rfl rfl rfl (by decide) (by unfold maxLen; show vs.length + 1 ≤ _; omega) (by show (vs.length + 1) * 8 ≤ _; omega) (Nat.zero_le _) ?_ (by decide))
      intro vv2 w36 ho38 hx37 hmvhx37
      have := World.grownBy.size hx37
      replace hO1 := (hO1.ext (Ext.trans (Ext.drew _) hx34)).keptR hx37 (fun b e => by first | exact hvg b e | exact hv1 b e)
      replace hO14 := (hO14.ext (Ext.trans (Ext.drew _) hx34)).keptR hx37 (fun b e => by first | exact hvg b e | exact hv1 b e)
      have hmA := hmvhx37
      have hxA := hx37
      have hoA := ho38
      refine ⟨(grown2 (grown_ext (grown_of_ext (Ext.drew _)) hx34) hx37), ?_⟩
      refine WO.q rfl rfl rfl rfl (fun w' hE28 => (X.nilCheck rfl)) ?_
      refine WO.q rfl rfl rfl rfl (fun w' hE28 => (X.fieldAddrO (off := 1) rfl Try.underlying63 rfl rfl Try.sizeOf22)) ?_
      refine WO.nil ?_
      refine WL.op rfl (OW.storeO hO14 (Nat.le_of_ble_eq_true rfl) rfl rfl (own_one hoA) Try.sizeOf22 ?_)
      intro w39 hO14 hx41
      have := World.grownBy.size hx41
      replace hO1 := hO1.keptO hx41 (by omega)
      replace hO14 : Blk _ _ _ (Tb.cells (TbB mn (psN np) (psN (p + 1)) (vs ++ [1 + ((pickN z 2 : Nat) : Int)])) vp vv2 vc vo vk) := hO14
      have hTP6 := hJ.pushV (y := 1 + ((pickN z 2 : Nat) : Int)) hoA hmA hxA hx41 hO14
      obtain ⟨G6, n6, c6, hT6⟩ := hTP6
      have hg16 := n6 g1 (by omega) hg1
      refine WL.nil ?_
      refine blk_n ?_
      refine thn_n ?_
      refine WF.region ?_
      refine WL.va rfl rfl rfl (X.moveI e4_L0) ?_
      refine WL.va rfl rfl rfl (X.add rfl rfl (w64 (by omega))) ?_
      refine WL.va rfl rfl rfl (X.assignI rfl) ?_
      refine WL.nil ?_
      exact thn_n ⟨_, (by omega), p + 1, vs ++ [1 + ((pickN z 2 : Nat) : Int)], G6, rfl, rfl, (by repeat (first | exact hAL0 | refine Agree.put ?_ rfl | refine Agree.named hF12 ?_)), trivial, ⟨by omega, by simp [hvl], (fun v hv => by rcases List.mem_append.1 hv with q | q; exact hv12 v q; rw [List.mem_singleton] at q; omega), hT6, hg16, hO1⟩⟩
    · have gh0_16 := (of_decide_eq_false h0_16)
      have hpe : np = p := by have := gh0_16; omega
      subst hpe
      refine WF.exit ?_
      refine thn_x ?_
      refine thn_x ?_
      refine blk_eq ?_
      refine thn_n ?_
      refine WF.seq ?_
      refine WF.seq ?_
      refine WF.region ?_
      refine WL.va rfl rfl rfl (X.assignI rfl) ?_
      refine WL.nil ?_
      refine thn_n ?_
      refine WF.block ?_
      refine WF.named (fun F43 hF44 => ?_)
      refine WF.loopN (fun mL1 f' w' => ∃ (k : Nat) (G1 : Fp TR), mL1 = 3 - k ∧ f' 5 = .int .i64 (k : Int) ∧ Agree [0, 1, 2, 3, 4, 8, 9, 10, 11, 12, 13, 14, 15, 16, 17, 18, 19, 20] f' F43 ∧ True ∧ k ≤ 3 ∧ TG w w' G1 g14 (TbB mn (psN np) (psN np) vs) k) ?_ ?_
      · exact ⟨_, 0, _, rfl, (congrFun hF44 5), (Agree.refl _ _), trivial, ⟨Nat.zero_le _, ⟨_, _, _, _, _, _, hI⟩⟩⟩
      · rintro mL1 fL1 wL1 ⟨k, G1, hmL1, e5_L1, hAL1, hwL1, ⟨hk0, hT⟩⟩
        obtain ⟨vp, vv, vc, vo, vk, gk, hI⟩ := hT
        have hO14 := hI.obj
        have tg := hO14.lt
        have hzw := hI.since.size
        have hlg := hI.ge hI.at_
        have hpg : ∀ b, vp.ownBlock = some b → b ≠ g14 := fun b e => Fp.ne (hI.parts.fp b e) hI.at_ (by simp)
        have hvg : ∀ b, vv.ownBlock = some b → b ≠ g14 := fun b e => Fp.ne (hI.votes.fp b e) hI.at_ (by simp)
        have hcg : ∀ b, vc.ownBlock = some b → b ≠ g14 := fun b e => Fp.ne (hI.coords.fp b e) hI.at_ (by simp)
        refine WF.seq ?_
        refine WF.seq ?_
        refine WF.region ?_
        refine WL.va rfl rfl rfl (X.moveI e5_L1) ?_
        refine WL.va rfl rfl rfl (X.lss rfl rfl) ?_
        refine WL.nil ?_
        refine thn_n ?_
        refine WF.cond rfl (fun h1_45 => ?_) (fun h1_45 => ?_)
        · have gh1_45 := (of_decide_eq_true h1_45)
          have hk : k < 3 := by have := gh1_45; omega
          refine WF.skip ?_
          refine thn_n ?_
          refine WF.seq ?_
          refine WF.block ?_
          refine WF.seq ?_
          refine WF.drawn (.q 0 (.q 1 (.q 2 (.q 3 (.q 4 (.q 5 (.q 6 (.q 7 (.q 8 (.q 9 (.l 10 (.q 11 (.q 12 (.q 13 (.q 14 (.q 15 .nil)))))))))))))))) (fun w' => Ext wL1 w') 16 (by kernel_rfl) (by kernel_rfl) (Ext.drew _) ?_
          have := World.grownBy.size (Ext.drew wL1)
          refine WO.q rfl rfl rfl rfl (fun w' hE47 => (X.moveI e5_L1)) ?_
          refine WO.q rfl rfl rfl rfl (fun w' hE47 => (X.add rfl rfl (w64 (by omega)))) ?_
          refine WO.q rfl rfl rfl rfl (fun w' hE47 => (X.move ((hAL1.eq 3).trans ((congrFun hF44 3).trans ((hAL0.eq 3).trans (congrFun hF12 3)))))) ?_
          refine WO.q rfl rfl rfl rfl (fun w' hE47 => (X.nilCheck rfl)) ?_
          refine WO.q rfl rfl rfl rfl (fun w' hE47 => (X.fieldAddrO (off := 0) rfl Try.underlying63 rfl rfl Try.sizeOf22)) ?_
          refine WO.q rfl rfl rfl rfl (fun w' hE47 => (X.loadO hO14 hE47 rfl rfl Try.isAgg22)) ?_
          refine WO.q rfl rfl rfl rfl (fun w' hE47 => (X.move ((hAL1.eq 3).trans ((congrFun hF44 3).trans ((hAL0.eq 3).trans (congrFun hF12 3)))))) ?_
          refine WO.q rfl rfl rfl rfl (fun w' hE47 => (X.nilCheck rfl)) ?_
          refine WO.q rfl rfl rfl rfl (fun w' hE47 => (X.fieldAddrO (off := 2) rfl Try.underlying63 rfl rfl Try.sizeOf3)) ?_
          refine WO.q rfl rfl rfl rfl (fun w' hE47 => (X.loadO hO14 hE47 rfl rfl Try.isAgg3)) ?_
          refine WO.l ?_
          refine LO.go rfl rfl (OW.enter rfl (by decide) (X.call Try.call8 (evl_cons (v := (i64 ((k : Int) + 1))) rfl (evl_cons (v := (i64 5)) rfl (evl_cons (v := vp) rfl (evl_cons (v := (i64 mn)) rfl evl_nil))))) (new_ok ((k : Int) + 1) 5 mn vp (psN np) _ (Row.ext hI.parts.rd (Ext.drew _))) ?_)
          rintro v48 wN ⟨_, hy9, hx49⟩
          have := World.grownBy.size hx49
          refine ⟨(Ext.trans (Ext.drew _) hx49), ?_⟩
          obtain ⟨gn, Fn, rfl, hCn, hFn⟩ := hy9 (by rw [hmn]; exact nw_ok (by omega) (by omega) (by omega) han)
          have heN := hx49
          refine WO.q rfl rfl rfl rfl (fun w' hE47 => (X.move rfl)) ?_
          refine WO.q rfl rfl rfl rfl (fun w' hE47 => (X.extract rfl rfl)) ?_
          refine WO.q rfl rfl rfl rfl (fun w' hE47 => (X.extract rfl rfl)) ?_
          refine WO.q rfl rfl rfl rfl (fun w' hE47 => (X.assign rfl)) ?_
          refine WO.q rfl rfl rfl rfl (fun w' hE47 => (X.assignI rfl)) ?_
          refine WO.nil ?_
          refine WL.nil ?_
          refine thn_n ?_
          refine WF.seq ?_
          refine WF.region ?_
          refine WL.va rfl rfl rfl (X.move ((hAL1.eq 3).trans ((congrFun hF44 3).trans ((hAL0.eq 3).trans (congrFun hF12 3))))) ?_
          refine WL.va rfl rfl rfl (X.move ((hAL1.eq 3).trans ((congrFun hF44 3).trans ((hAL0.eq 3).trans (congrFun hF12 3))))) ?_
          refine WL.va rfl rfl rfl (X.nilCheck rfl) ?_
          refine WL.va rfl rfl rfl (X.fieldAddrO (off := 16) rfl Try.underlying63 rfl rfl Try.sizeOf4) ?_
          refine WL.va rfl rfl rfl (X.loadO hO14 (Ext.trans (Ext.drew _) hx49) rfl rfl Try.isAgg4) ?_
          refine WL.va rfl rfl rfl (X.moveB rfl) ?_
          refine WL.vg rfl rfl rfl rfl (X.moveI rfl) ?_
          refine WL.vg rfl rfl rfl rfl (X.neq rfl rfl) ?_
          refine WL.va rfl rfl rfl (X.pickF rfl rfl rfl) ?_
          refine WL.va rfl rfl rfl (X.moveB rfl) ?_
          refine WL.vg rfl rfl rfl rfl (X.move rfl) ?_
          refine WL.vg rfl rfl rfl rfl (X.eqlPN2 rfl rfl Try.underlying27) ?_
          refine WL.va rfl rfl rfl (X.pickF rfl rfl rfl) ?_
          refine WL.va rfl rfl rfl (X.nilCheck rfl) ?_
          refine WL.va rfl rfl rfl (X.fieldAddrO (off := 16) rfl Try.underlying63 rfl rfl Try.sizeOf4) ?_
          have hIb := (hI.ext (Ext.trans (Ext.drew _) hx49))
          refine WL.op rfl (OW.storeO (hO14.ext (Ext.trans (Ext.drew _) hx49)) (Nat.le_of_ble_eq_true rfl) rfl rfl rfl Try.sizeOf4 ?_)
          intro w11 hO14 hx54
          have := World.grownBy.size hx54
          replace hO14 : Blk _ _ _ (Tb.cells (TbB mn (psN np) (psN np) vs) vp vv vc vo vk) := hO14
          have hIs := hIb.setN (x' := (TbB mn (psN np) (psN np) vs)) hx54 hO14 rfl rfl rfl rfl rfl
          have hcs : ChgS (fun b => b = g14 ∨ G1 b = some TR.coords) wN w11 := (ChgS.refl _ wN).row1 hx54 (.inl (.inl rfl))
          refine WL.nil ?_
          refine thn_n ?_
          refine WF.region ?_
          refine WL.va rfl rfl rfl (X.move ((hAL1.eq 3).trans ((congrFun hF44 3).trans ((hAL0.eq 3).trans (congrFun hF12 3))))) ?_
          refine WL.va rfl rfl rfl (X.move ((hAL1.eq 3).trans ((congrFun hF44 3).trans ((hAL0.eq 3).trans (congrFun hF12 3))))) ?_
          refine WL.va rfl rfl rfl (X.nilCheck rfl) ?_
          refine WL.va rfl rfl rfl (X.fieldAddrO (off := 11) rfl Try.underlying63 rfl rfl Try.sizeOf61) ?_
          refine WL.va rfl rfl rfl (X.loadO hO14 (Ext.refl _) rfl rfl Try.isAgg61) ?_
          refine WL.va rfl rfl rfl (X.move rfl) ?_
          refine WL.op rfl (OW.lits (vs := [at_ gn]) (evp_cons rfl evp_nil) Try.underlying61 Try.sizeOf27 Try.zeroValue27 ⟨rfl, trivial⟩ rfl rfl rfl ?_ (by decide))
          intro v57 w56 ho59 hx58
          have := World.grownBy.size hx58
          have o1 : World.ownsRow w56 _ 27 1 v57 1 [at_ gn] := ho59
          have hJ := (hIs.ext hx58)
          have heJ3 : Ext w11 w56 := (show Ext w11 w56 from hx58)
          refine WL.op rfl (OW.append (bytes := 8) hJ.coords.own (Row.of_own o1) (by simp [Value.oneCell']) rfl rfl Try.underlying61 Try.type27 rfl rfl rfl rfl (by decide) (by unfold maxLen; omega) (by omega) (Nat.zero_le _) ?_ (by decide))
          intro vc2 w60 ho62 hx61 hmvhx61
          have := World.grownBy.size hx61
          replace hO14 := (hO14.ext hx58).keptR hx61 (fun b e => by first | exact hcg b e)
          have hmA := hmvhx61
          have hxA := hx61
          have hoA := ho62
          have hc12 : ChgS (fun b => b = g14 ∨ G1 b = some TR.coords) wN w60 := (hcs.ext heJ3).row hx61 (fun b e => .inl (.inr (hI.coords.fp b e)))
          refine WL.va rfl rfl rfl (X.nilCheck rfl) ?_
          refine WL.va rfl rfl rfl (X.fieldAddrO (off := 11) rfl Try.underlying63 rfl rfl Try.sizeOf61) ?_
          refine WL.op rfl (OW.storeO hO14 (Nat.le_of_ble_eq_true rfl) rfl rfl (own_one hoA) Try.sizeOf61 ?_)
          intro w63 hO14 hx66
          have := World.grownBy.size hx66
          replace hO14 : Blk _ _ _ (Tb.cells (TbB mn (psN np) (psN np) vs) vp vv vc2 vo vk) := hO14
          have hc13 : ChgS (fun b => b = g14 ∨ G1 b = some TR.coords) wN w63 := hc12.row1 hx66 (.inl (.inl rfl))
          have hoX : World.ownsRow w63 0 27 1 vc2 (k + 1) (ptrs (updN gk k gn) (k + 1)) := by
            have q := hoA.kept hx66 (.inr fun e => by rcases hmA with q | q; exact Fp.ne (hI.coords.fp g14 (q ▸ e)) hI.at_ (by simp) rfl; have := q g14 e; omega)
            rw [show ptrs (updN gk k gn) (k + 1) = ptrs gk k ++ [at_ gn] from ptrs_add]; exact q
          have hTP12 := hI.newCo (m := k + 1) (k := k) (hCn.chgS hc13 (fun b e q => by have q1 := hFn b e; rcases q with rfl | q; omega; have := Fp.lt hI.below q; omega)) hFn (.inr ⟨rfl, rfl⟩) hO14 hoX (fun b e => by rcases hmA with q | q; exact .inl (q ▸ e); exact .inr ⟨by have := q b e; omega, by have := q b e; exact Fp.fresh hCn.below (by omega)⟩) (ChgS.trans (ChgS.of_ext (Ext.trans (Ext.drew _) heN)) hc13 (fun _ h => .inl h))
          rw [made_same (x := (TbB mn (psN np) (psN np) vs)) (k := k) (c := CC.new ((k : Int) + 1) 5 mn (psN np)) rfl] at hTP12
          obtain ⟨G12, n12, c12, hT12⟩ := hTP12
          refine WL.nil ?_
          refine blk_n ?_
          refine thn_n ?_
          refine WF.region ?_
          refine WL.va rfl rfl rfl (X.moveI e5_L1) ?_
          refine WL.va rfl rfl rfl (X.add rfl rfl (w64 (by omega))) ?_
          refine WL.va rfl rfl rfl (X.assignI rfl) ?_
          refine WL.nil ?_
          exact thn_n ⟨_, (by omega), k + 1, G12, rfl, rfl, (by repeat (first | exact hAL1 | refine Agree.put ?_ rfl | refine Agree.sub hAL0 rfl ?_ | refine Agree.named hF44 ?_ | refine Agree.named hF12 ?_)), trivial, ⟨by omega, hT12⟩⟩
        · have gh1_45 := (of_decide_eq_false h1_45)
          have hk : k = 3 := by have := gh1_45; omega
          refine WF.exit ?_
          refine thn_x ?_
          refine thn_x ?_
          refine blk_eq ?_
          refine thn_n ?_
          refine WF.seq ?_
          refine WF.region ?_
          refine WL.va rfl rfl rfl (X.move ((hAL1.eq 3).trans ((congrFun hF44 3).trans ((hAL0.eq 3).trans (congrFun hF12 3))))) ?_
          refine WL.va rfl rfl rfl (X.assign rfl) ?_
          refine WL.nil ?_
          refine thn_n ?_
          refine WF.ret ?_
          refine fin_r ?_
          subst hk
          exact ⟨g14, (TbB mn (psN np) (psN np) vs), rfl, ⟨_, ⟨_, _, _, _, _, _, hI⟩⟩, an, np, vs, han, by omega, by omega, hvl, hv12, by rw [hmn]⟩

end Go.Proofs.Ytjmddkaokmdkbaa
