/- The walk of form. -/
import Derived.Test.YtobjmehppmhkdaaWitJ
namespace Go.Proofs.Ytobjmehppmhkdaa
open Go Go.RowKit Kf
set_option maxRecDepth 20000

section
variable {P : Program} {f : Fr} {w : World} {dst : Option Tmp} {ty t e : TypeId} {pos : String} {aft : Array Edge} {gd : Option (Nat × Bool)} {x y : Operand} {g k m sz : Nat} {kd : IntKind}
/-- an element of an array in a block of its own -/
theorem X.idxArr (hx : ev f x = at_ g) (hy : ev f y = .int kd (k : Int)) (hk : k < m) (ht : P.underlying t = some (.array m e)) (hs : ∀ w, (sizeOf e).run P w = .ok sz w) :
    (execOp (ev f) ⟨dst, .indexAddr t x y, ty, pos, aft, gd⟩).run P w = .ok (.value (.pointer (some ⟨g, k * sz, none⟩))) w := by
  have h1 : (k : Int) < (m : Int) := by omega
  simp [execOp, hx, hy, Instr.indexAt, asIntOf, Instr.sureAddr, run_underlying ht, hs, Result.andThen, Addr.add_lit, hk]
end
/-- what is under way with each client -/
abbrev Now : Type := List (Bool × Int)
def nowC : Now → List Value
  | [] => []
  | p :: s => .bool p.1 :: i64 p.2 :: nowC s
theorem nowC_is : ∀ {s : Now} {c : Nat}, c < s.length → (nowC s)[c * 2 + 0]? = some (.bool (s.getD c (false, 0)).1)
  | [], _, h => by simp at h
  | p :: s, 0, _ => rfl
  | p :: s, c + 1, h => by
    rw [show (c + 1) * 2 + 0 = (c * 2 + 0) + 2 by omega]
    exact nowC_is (s := s) (c := c) (by simpa using h)
theorem nowC_kind : ∀ {s : Now} {c : Nat}, c < s.length → (nowC s)[c * 2 + 1]? = some (i64 (s.getD c (false, 0)).2)
  | [], _, h => by simp at h
  | p :: s, 0, _ => rfl
  | p :: s, c + 1, h => by
    rw [show (c + 1) * 2 + 1 = (c * 2 + 1) + 2 by omega]
    exact nowC_kind (s := s) (c := c) (by simpa using h)
theorem nowC_len : ∀ {s : Now}, (nowC s).length = s.length * 2
  | [] => rfl
  | p :: s => by show (nowC s).length + 1 + 1 = (s.length + 1) * 2; rw [nowC_len]; omega
theorem nowC_set0 : ∀ {s : Now} {c : Nat} {b : Bool}, c < s.length → (nowC s).set (c * 2 + 0) (.bool b) = nowC (s.set c (b, (s.getD c (false, 0)).2))
  | [], _, _, h => by simp at h
  | p :: s, 0, _, _ => rfl
  | p :: s, c + 1, b, h => by
    rw [show (c + 1) * 2 + 0 = (c * 2 + 0) + 1 + 1 by omega]
    show _ :: _ :: (nowC s).set (c * 2 + 0) _ = _ :: _ :: nowC (s.set c _)
    rw [nowC_set0 (by simpa using h)]; rfl
theorem nowC_set1 : ∀ {s : Now} {c : Nat} {z : Int}, c < s.length → (nowC s).set (c * 2 + 1) (i64 z) = nowC (s.set c ((s.getD c (false, 0)).1, z))
  | [], _, _, h => by simp at h
  | p :: s, 0, _, _ => rfl
  | p :: s, c + 1, b, h => by
    rw [show (c + 1) * 2 + 1 = (c * 2 + 1) + 1 + 1 by omega]
    show _ :: _ :: (nowC s).set (c * 2 + 1) _ = _ :: _ :: nowC (s.set c _)
    rw [nowC_set1 (by simpa using h)]; rfl
theorem now_set2 {s : Now} {c : Nat} {b : Bool} {z : Int} (h : c < s.length) : (s.set c (b, (s.getD c (false, 0)).2)).set c (((s.set c (b, (s.getD c (false, 0)).2)).getD c (false, 0)).1, z) = s.set c (b, z) := by
  rw [List.set_set, List.getD_eq_getElem?_getD, List.getElem?_set_self h]; rfl
def oddB (e : Ev) : Bool := (ans e 3 0 && !isBlk e.Call.Block e.Call.Data) || ((ans e 2 0 || ans e 8 0) && !isBlk e.Call.Block e.Answer.Data)
def stepF (s : Now) (e : Ev) : Option Now :=
  if e.Kind = 3 then some s
  else if (¬ e.Kind = 1 ∧ ¬ e.Kind = 2) ∨ e.Client < 1 ∨ 4 < e.Client then none
  else if e.Kind = 1 then (if (s.getD e.Client.toNat (false, 0)).1 then none else some (s.set e.Client.toNat (true, e.Call.Kind)))
  else if (s.getD e.Client.toNat (false, 0)).1 = false ∨ ¬ (s.getD e.Client.toNat (false, 0)).2 = e.Call.Kind then none
  else if oddB e then none
  else some (s.set e.Client.toNat (false, (s.getD e.Client.toNat (false, 0)).2))
def runF : List Ev → Now → Bool
  | [], _ => false
  | e :: l, s => match stepF s e with
    | none => true
    | some s' => runF l s'
def now0 : Now := List.replicate 5 (false, 0)
def formB (l : List Ev) : Bool := runF l now0
section
variable {l : List Ev} {k : Nat} {s s' : Now}
theorem runF_no (hk : k < l.length) (h : stepF s l[k] = none) : runF (l.drop k) s = true := by
  rw [List.drop_eq_getElem_cons hk]; unfold runF; rw [h]
theorem runF_yes (hk : k < l.length) (h : stepF s l[k] = some s') : runF (l.drop k) s = runF (l.drop (k + 1)) s' := by
  rw [List.drop_eq_getElem_cons hk]; conv => lhs; unfold runF
  rw [h]
variable {e : Ev} {c : Nat}
theorem st_3 (h : e.Kind = 3) : stepF s e = some s := by unfold stepF; rw [if_pos h]
theorem st_k (h3 : ¬ e.Kind = 3) (h : (¬ e.Kind = 1 ∧ ¬ e.Kind = 2) ∨ e.Client < 1 ∨ 4 < e.Client) : stepF s e = none := by unfold stepF; rw [if_neg h3, if_pos h]
theorem st_c (hk : e.Kind = 1) (hc : e.Client = (c : Int)) (h1 : 1 ≤ c) (h4 : c ≤ 4) (h : (s.getD c (false, 0)).1 = true) : stepF s e = none := by
  unfold stepF; rw [if_neg (by omega), if_neg (by omega), if_pos hk, hc, Int.toNat_natCast, if_pos h]
theorem st_c2 (hk : e.Kind = 1) (hc : e.Client = (c : Int)) (h1 : 1 ≤ c) (h4 : c ≤ 4) (h : (s.getD c (false, 0)).1 = false) : stepF s e = some (s.set c (true, e.Call.Kind)) := by
  unfold stepF; rw [if_neg (by omega), if_neg (by omega), if_pos hk, hc, Int.toNat_natCast, if_neg (by rw [h]; simp)]
theorem st_a (hk : ¬ e.Kind = 1) (hk2 : e.Kind = 2) (hc : e.Client = (c : Int)) (h1 : 1 ≤ c) (h4 : c ≤ 4) (h : (s.getD c (false, 0)).1 = false ∨ ¬ (s.getD c (false, 0)).2 = e.Call.Kind) : stepF s e = none := by
  unfold stepF; rw [if_neg (by omega), if_neg (by omega), if_neg hk, hc, Int.toNat_natCast, if_pos h]
theorem st_o (hk : ¬ e.Kind = 1) (hk2 : e.Kind = 2) (hc : e.Client = (c : Int)) (h1 : 1 ≤ c) (h4 : c ≤ 4) (h : (s.getD c (false, 0)).1 = true) (h2 : (s.getD c (false, 0)).2 = e.Call.Kind) (ho : oddB e = true) : stepF s e = none := by
  unfold stepF; rw [if_neg (by omega), if_neg (by omega), if_neg hk, hc, Int.toNat_natCast, if_neg (by rw [h, h2]; simp), if_pos ho]
theorem st_n (hk : ¬ e.Kind = 1) (hk2 : e.Kind = 2) (hc : e.Client = (c : Int)) (h1 : 1 ≤ c) (h4 : c ≤ 4) (h : (s.getD c (false, 0)).1 = true) (h2 : (s.getD c (false, 0)).2 = e.Call.Kind) (ho : oddB e = false) : stepF s e = some (s.set c (false, (s.getD c (false, 0)).2)) := by
  unfold stepF; rw [if_neg (by omega), if_neg (by omega), if_neg hk, hc, Int.toNat_natCast, if_neg (by rw [h, h2]; simp), if_neg (by rw [ho]; simp)]
end
def odd1 (e : Ev) : Bool := ans e 3 0 && !isBlk e.Call.Block e.Call.Data
def odd2 (e : Ev) : Bool := (ans e 2 0 || ans e 8 0) && !isBlk e.Call.Block e.Answer.Data
section
variable {e : Ev}
theorem od_1 (h : ans e 3 0 = true) : Value.bool (!isBlk e.Call.Block e.Call.Data) = Value.bool (odd1 e) := by simp [odd1, h]
theorem od_2 (h : ans e 3 0 = false) : Value.bool false = Value.bool (odd1 e) := by simp [odd1, h]
theorem od_3 (h : odd1 e = true) : Value.bool true = Value.bool (oddB e) := by show _ = Value.bool (odd1 e || odd2 e); rw [h]; rfl
theorem od_4 (h : odd1 e = false) (h2 : ans e 2 0 = true) : Value.bool (!isBlk e.Call.Block e.Answer.Data) = Value.bool (oddB e) := by show _ = Value.bool (odd1 e || odd2 e); simp [h, odd2, h2]
theorem od_5 (h : odd1 e = false) (h2 : ans e 2 0 = false) (h8 : ans e 8 0 = true) : Value.bool (!isBlk e.Call.Block e.Answer.Data) = Value.bool (oddB e) := by show _ = Value.bool (odd1 e || odd2 e); simp [h, odd2, h2, h8]
theorem od_6 (h : odd1 e = false) (h2 : ans e 2 0 = false) (h8 : ans e 8 0 = false) : Value.bool false = Value.bool (oddB e) := by show _ = Value.bool (odd1 e || odd2 e); simp [h, odd2, h2, h8]
end
set_option maxHeartbeats 8000000 in
theorem form_ok (g : Nat) (l : List Ev) (w : World) (h : HAt w g l) (hl : l.length ≤ 1000000) : FnOk Try.prog 28 [at_ g] w (fun r w' => r = .bool (formB l) ∧ Ext w w') := by
  have hH := h
  obtain ⟨vl, gm, L, hI⟩ := h
  have hx := hI.obj
  have tg := hx.lt
  obtain ⟨cs, hr, hel⟩ := hI.evs
  refine FnOk.enter (rs := [2]) Try.func28 rfl Try.ntmps28 Try.results28 rfl rfl ?_
  refine WF.seq ?_
  refine WF.region ?_
  refine WL.va rfl rfl rfl (X.assignB rfl) ?_
  refine WL.nil ?_
  refine thn_n ?_
  refine WF.seq ?_
  refine WF.region ?_
  refine WL.op rfl (OW.allocO (cs := [.bool false, i64 0, .bool false, i64 0, .bool false, i64 0, .bool false, i64 0, .bool false, i64 0]) Try.zeroValue83 rfl ?_ (by decide))
  intro g3 w2 heg3 hlg3 hO3 hx4
  have := World.grownBy.size hx4
  refine WL.nil ?_
  refine thn_n ?_
  refine WF.seq ?_
  refine WF.seq ?_
  refine WF.region ?_
  refine WL.va rfl rfl rfl (X.move rfl) ?_
  refine WL.va rfl rfl rfl (X.nilCheck rfl) ?_
  refine WL.va rfl rfl rfl (X.fieldAddrO (off := 0) rfl Try.underlying81 rfl rfl Try.sizeOf26) ?_
  refine WL.va rfl rfl rfl (X.loadO hx hx4 rfl rfl Try.isAgg26) ?_
  refine WL.va rfl rfl rfl (X.len hr rfl Try.underlying26) ?_
  refine WL.va rfl rfl rfl (X.moveI rfl) ?_
  refine WL.nil ?_
  refine thn_n ?_
  refine WF.block ?_
  refine WF.named (fun F6 hF7 => ?_)
  refine WF.loopN (fun mL0 f' w' => ∃ (k : Nat) (s : Now), mL0 = l.length - k ∧ f' 13 = .int .i64 (k : Int) ∧ Agree [0, 3, 8, 9, 10, 11, 12] f' F6 ∧ Ext w w' ∧ k ≤ l.length ∧ s.length = 5 ∧ formB l = runF (l.drop k) s ∧ Blk w' g3 83 (nowC s)) ?_ ?_
  · exact ⟨_, 0, now0, rfl, (congrFun hF7 13), (Agree.refl _ _), hx4, ⟨Nat.zero_le _, rfl, rfl, hO3⟩⟩
  · rintro mL0 fL0 wL0 ⟨k, s, hmL0, e13_L0, hAL0, hwL0, ⟨hk0, hsl, hrun, hO3⟩⟩
    have := World.grownBy.size hwL0
    have q3 := hO3.lt
    refine WF.seq ?_
    refine WF.region ?_
    refine WL.va rfl rfl rfl (X.lss e13_L0 ((hAL0.eq 12).trans (congrFun hF7 12))) ?_
    refine WL.nil ?_
    refine thn_n ?_
    refine WF.seq ?_
    refine WF.cond rfl (fun h0_8 => ?_) (fun h0_8 => ?_)
    · have gh0_8 := (of_decide_eq_true h0_8)
      have hk : k < l.length := by have := gh0_8; omega
      obtain ⟨d, d2, hcs, hd1, hd2⟩ := hel k hk
      refine WF.skip ?_
      refine thn_n ?_
      refine WF.seq ?_
      refine WF.block ?_
      refine WF.seq ?_
      refine WF.region ?_
      refine WL.va rfl rfl rfl (X.idx hr ((hAL0.eq 11).trans (congrFun hF7 11)) e13_L0 hk Try.underlying26 Try.sizeOf42) ?_
      refine WL.va rfl rfl rfl (X.loadEl hr hwL0 rfl hk hcs Try.isAgg42 Try.sizeOf42) ?_
      refine WL.op rfl (OW.allocO (cs := [i64 0, i64 0, i64 0, i64 0, i64 0, i64 0, i64 0, i64 0, i64 0, i64 0, i64 0, i64 0, i64 0, i64 0, i64 0, .slice none 0 0, i64 0, i64 0, .slice none 0 0]) Try.zeroValue42 rfl ?_ (by decide))
      intro g5 w10 heg5 hlg5 hO5 hx12
      have := World.grownBy.size hx12
      refine WL.op rfl (OW.storeOA hO5 rfl rfl rfl (ev_ones hd1 hd2) Try.sizeOf42 ?_)
      intro w14 hO5 hx16
      have := World.grownBy.size hx16
      replace hx := (hx.ext (Ext.trans hwL0 hx12)).keptO hx16 (by omega)
      replace hO3 := (hO3.ext hx12).keptO hx16 (by omega)
      replace hO5 : Blk _ _ _ (Ev.c (l[k]'hk) d d2) := hO5
      refine WL.nil ?_
      refine thn_n ?_
      refine WF.named (fun F18 hF19 => ?_)
      refine WF.cut (fun f' w' => Agree [0, 3, 5, 8, 9, 10, 11, 12, 13, 14, 15, 16] f' F18 ∧ w14 = w' ∧ (¬ (l[k]'hk).Kind = 3) ∧ ((l[k]'hk).Kind = 1 ∨ (l[k]'hk).Kind = 2) ∧ ∃ c : Nat, (l[k]'hk).Client = (c : Int) ∧ 1 ≤ c ∧ c ≤ 4) ?_ ?_
      · refine WF.block ?_
        refine WF.seq ?_
        refine WF.region ?_
        refine WL.va rfl rfl rfl (X.fieldAddrO (off := 0) (congrFun hF19 5) Try.underlying42 rfl rfl Try.sizeOf3) ?_
        refine WL.va rfl rfl rfl (X.loadO hO5 (Ext.refl _) rfl rfl Try.isAgg3) ?_
        refine WL.va rfl rfl rfl (X.eql rfl rfl) ?_
        refine WL.va rfl rfl rfl (X.assignB rfl) ?_
        refine WL.nil ?_
        refine thn_n ?_
        refine WF.cond rfl (fun h1_20 => ?_) (fun h1_20 => ?_)
        · have gh1_20 := (of_decide_eq_true h1_20)
          have hst : stepF s (l[k]'hk) = some s := st_3 gh1_20
          refine WF.exit ?_
          refine blk_ne rfl ?_
          refine thn_x ?_
          refine blk_eq ?_
          refine thn_n ?_
          refine WF.region ?_
          refine WL.va rfl rfl rfl (X.add ((congrFun hF19 13).trans e13_L0) rfl (w64 (by omega))) ?_
          refine WL.va rfl rfl rfl (X.moveI rfl) ?_
          refine WL.nil ?_
          first | exact thn_n ⟨_, (by omega), k + 1, s, rfl, rfl, (by repeat (first | exact hAL0 | refine Agree.put ?_ rfl | refine Agree.named hF19 ?_ | refine Agree.named hF7 ?_)), (Ext.trans hwL0 (Ext.store hx12 hx16 (by omega))), ⟨by omega, hsl, by rw [hrun, runF_yes hk hst], hO3⟩⟩ | exact thn_n ⟨_, (by omega), k + 1, _, rfl, rfl, (by repeat (first | exact hAL0 | refine Agree.put ?_ rfl | refine Agree.named hF19 ?_ | refine Agree.named hF7 ?_)), (Ext.trans hwL0 (Ext.store hx12 hx16 (by omega))), ⟨by omega, by simp [hsl], by rw [hrun, runF_yes hk hst], hO3⟩⟩
        · have gh1_20 := (of_decide_eq_false h1_20)
          have k3 : ¬ (l[k]'hk).Kind = 3 := gh1_20
          refine WF.seq ?_
          refine WF.seq ?_
          refine WF.region ?_
          refine WL.va rfl rfl rfl (X.fieldAddrO (off := 0) (congrFun hF19 5) Try.underlying42 rfl rfl Try.sizeOf3) ?_
          refine WL.va rfl rfl rfl (X.loadO hO5 (Ext.refl _) rfl rfl Try.isAgg3) ?_
          refine WL.va rfl rfl rfl (X.neq rfl rfl) ?_
          refine WL.va rfl rfl rfl (X.moveB rfl) ?_
          refine WL.split (j := 3) rfl (fun h23 => ?_) (fun h23 => ?_)
          · have gh23 := (of_decide_eq_true h23)
            have k1 : ¬ (l[k]'hk).Kind = 1 := gh23
            refine WL.vg rfl (congrArg some h23) rfl rfl (X.fieldAddrO (off := 0) (congrFun hF19 5) Try.underlying42 rfl rfl Try.sizeOf3) ?_
            refine WL.vg rfl (congrArg some h23) rfl rfl (X.loadO hO5 (Ext.refl _) rfl rfl Try.isAgg3) ?_
            refine WL.vg rfl (congrArg some h23) rfl rfl (X.neq rfl rfl) ?_
            refine WL.va rfl rfl rfl (X.pickT rfl h23 rfl) ?_
            refine WL.va rfl rfl rfl (X.assignB rfl) ?_
            refine WL.nil ?_
            refine thn_n ?_
            refine WF.cond rfl (fun h2_24 => ?_) (fun h2_24 => ?_)
            · have gh2_24 := (of_decide_eq_true h2_24)
              have hst : stepF s (l[k]'hk) = none := st_k k3 (.inl ⟨k1, gh2_24⟩)
              refine WF.skip ?_
              refine thn_n ?_
              refine WF.cond_t ((rfl : _ = Value.bool _).trans (congrArg Value.bool h2_24)) ?_
              refine WF.seq ?_
              refine WF.region ?_
              refine WL.va rfl rfl rfl (X.assignB rfl) ?_
              refine WL.nil ?_
              refine thn_n ?_
              refine WF.ret ?_
              refine blk_r ?_
              refine thn_r ?_
              refine blk_r ?_
              refine thn_r ?_
              refine thn_r ?_
              refine blk_r ?_
              refine thn_r ?_
              refine fin_r ?_
              exact ⟨congrArg Value.bool (hrun.trans (runF_no hk hst)).symm, (Ext.trans hwL0 (Ext.store hx12 hx16 (by omega)))⟩
            · have gh2_24 := (Decidable.of_not_not (of_decide_eq_false h2_24))
              have k2 : (l[k]'hk).Kind = 2 := gh2_24
              refine WF.region ?_
              refine WL.va rfl rfl rfl (X.fieldAddrO (off := 1) (congrFun hF19 5) Try.underlying42 rfl rfl Try.sizeOf3) ?_
              refine WL.va rfl rfl rfl (X.loadO hO5 (Ext.refl _) rfl rfl Try.isAgg3) ?_
              refine WL.va rfl rfl rfl (X.lss rfl rfl) ?_
              refine WL.va rfl rfl rfl (X.moveB rfl) ?_
              refine WL.split (j := 3) rfl (fun h28 => ?_) (fun h28 => ?_)
              · have gh28 := (of_decide_eq_true h28)
                have hst : stepF s (l[k]'hk) = none := st_k k3 (.inr (.inl gh28))
                refine WL.p rfl rfl rfl (congrArg some h28) ?_
                refine WL.p rfl rfl rfl (congrArg some h28) ?_
                refine WL.p rfl rfl rfl (congrArg some h28) ?_
                refine WL.va rfl rfl rfl (X.pickT rfl h28 rfl) ?_
                refine WL.va rfl rfl rfl (X.assignB rfl) ?_
                refine WL.nil ?_
                refine thn_n ?_
                refine WF.cond_t rfl ?_
                refine WF.seq ?_
                refine WF.region ?_
                refine WL.va rfl rfl rfl (X.assignB rfl) ?_
                refine WL.nil ?_
                refine thn_n ?_
                refine WF.ret ?_
                refine blk_r ?_
                refine thn_r ?_
                refine blk_r ?_
                refine thn_r ?_
                refine thn_r ?_
                refine blk_r ?_
                refine thn_r ?_
                refine fin_r ?_
                exact ⟨congrArg Value.bool (hrun.trans (runF_no hk hst)).symm, (Ext.trans hwL0 (Ext.store hx12 hx16 (by omega)))⟩
              · have gh28 := (of_decide_eq_false h28)
                have c1 : ¬ (l[k]'hk).Client < 1 := gh28
                refine WL.vg rfl (congrArg some h28) rfl rfl (X.fieldAddrO (off := 1) (congrFun hF19 5) Try.underlying42 rfl rfl Try.sizeOf3) ?_
                refine WL.vg rfl (congrArg some h28) rfl rfl (X.loadO hO5 (Ext.refl _) rfl rfl Try.isAgg3) ?_
                refine WL.vg rfl (congrArg some h28) rfl rfl (X.gtr rfl rfl) ?_
                refine WL.va rfl rfl rfl (X.pickF rfl h28 rfl) ?_
                refine WL.va rfl rfl rfl (X.assignB rfl) ?_
                refine WL.nil ?_
                refine thn_n ?_
                refine WF.cond rfl (fun h3_31 => ?_) (fun h3_31 => ?_)
                · have gh3_31 := (of_decide_eq_true h3_31)
                  have hst : stepF s (l[k]'hk) = none := st_k k3 (.inr (.inr gh3_31))
                  refine WF.seq ?_
                  refine WF.region ?_
                  refine WL.va rfl rfl rfl (X.assignB rfl) ?_
                  refine WL.nil ?_
                  refine thn_n ?_
                  refine WF.ret ?_
                  refine blk_r ?_
                  refine thn_r ?_
                  refine blk_r ?_
                  refine thn_r ?_
                  refine thn_r ?_
                  refine blk_r ?_
                  refine thn_r ?_
                  refine fin_r ?_
                  exact ⟨congrArg Value.bool (hrun.trans (runF_no hk hst)).symm, (Ext.trans hwL0 (Ext.store hx12 hx16 (by omega)))⟩
                · have gh3_31 := (of_decide_eq_false h3_31)
                  refine WF.skip ?_
                  refine blk_n ?_
                  refine thn_n ?_
                  exact ⟨(by repeat (first | exact (Agree.refl _ F18) | refine Agree.put ?_ rfl | refine Agree.sub hAL0 rfl ?_ | refine Agree.named hF19 ?_ | refine Agree.named hF7 ?_)), rfl, ⟨k3, (by first | exact .inl k1 | exact .inr k2), ((l[k]'hk).Client).toNat, by omega, by omega, by omega⟩⟩
          · have gh23 := (Decidable.of_not_not (of_decide_eq_false h23))
            have k1 : (l[k]'hk).Kind = 1 := gh23
            refine WL.p rfl rfl rfl (congrArg some h23) ?_
            refine WL.p rfl rfl rfl (congrArg some h23) ?_
            refine WL.p rfl rfl rfl (congrArg some h23) ?_
            refine WL.va rfl rfl rfl (X.pickF rfl h23 rfl) ?_
            refine WL.va rfl rfl rfl (X.assignB rfl) ?_
            refine WL.nil ?_
            refine thn_n ?_
            refine WF.cond_f rfl ?_
            refine WF.region ?_
            refine WL.va rfl rfl rfl (X.fieldAddrO (off := 1) (congrFun hF19 5) Try.underlying42 rfl rfl Try.sizeOf3) ?_
            refine WL.va rfl rfl rfl (X.loadO hO5 (Ext.refl _) rfl rfl Try.isAgg3) ?_
            refine WL.va rfl rfl rfl (X.lss rfl rfl) ?_
            refine WL.va rfl rfl rfl (X.moveB rfl) ?_
            refine WL.split (j := 3) rfl (fun h36 => ?_) (fun h36 => ?_)
            · have gh36 := (of_decide_eq_true h36)
              have hst : stepF s (l[k]'hk) = none := st_k k3 (.inr (.inl gh36))
              refine WL.p rfl rfl rfl (congrArg some h36) ?_
              refine WL.p rfl rfl rfl (congrArg some h36) ?_
              refine WL.p rfl rfl rfl (congrArg some h36) ?_
              refine WL.va rfl rfl rfl (X.pickT rfl h36 rfl) ?_
              refine WL.va rfl rfl rfl (X.assignB rfl) ?_
              refine WL.nil ?_
              refine thn_n ?_
              refine WF.cond_t rfl ?_
              refine WF.seq ?_
              refine WF.region ?_
              refine WL.va rfl rfl rfl (X.assignB rfl) ?_
              refine WL.nil ?_
              refine thn_n ?_
              refine WF.ret ?_
              refine blk_r ?_
              refine thn_r ?_
              refine blk_r ?_
              refine thn_r ?_
              refine thn_r ?_
              refine blk_r ?_
              refine thn_r ?_
              refine fin_r ?_
              exact ⟨congrArg Value.bool (hrun.trans (runF_no hk hst)).symm, (Ext.trans hwL0 (Ext.store hx12 hx16 (by omega)))⟩
            · have gh36 := (of_decide_eq_false h36)
              have c1 : ¬ (l[k]'hk).Client < 1 := gh36
              refine WL.vg rfl (congrArg some h36) rfl rfl (X.fieldAddrO (off := 1) (congrFun hF19 5) Try.underlying42 rfl rfl Try.sizeOf3) ?_
              refine WL.vg rfl (congrArg some h36) rfl rfl (X.loadO hO5 (Ext.refl _) rfl rfl Try.isAgg3) ?_
              refine WL.vg rfl (congrArg some h36) rfl rfl (X.gtr rfl rfl) ?_
              refine WL.va rfl rfl rfl (X.pickF rfl h36 rfl) ?_
              refine WL.va rfl rfl rfl (X.assignB rfl) ?_
              refine WL.nil ?_
              refine thn_n ?_
              refine WF.cond rfl (fun h3_39 => ?_) (fun h3_39 => ?_)
              · have gh3_39 := (of_decide_eq_true h3_39)
                have hst : stepF s (l[k]'hk) = none := st_k k3 (.inr (.inr gh3_39))
                refine WF.seq ?_
                refine WF.region ?_
                refine WL.va rfl rfl rfl (X.assignB rfl) ?_
                refine WL.nil ?_
                refine thn_n ?_
                refine WF.ret ?_
                refine blk_r ?_
                refine thn_r ?_
                refine blk_r ?_
                refine thn_r ?_
                refine thn_r ?_
                refine blk_r ?_
                refine thn_r ?_
                refine fin_r ?_
                exact ⟨congrArg Value.bool (hrun.trans (runF_no hk hst)).symm, (Ext.trans hwL0 (Ext.store hx12 hx16 (by omega)))⟩
              · have gh3_39 := (of_decide_eq_false h3_39)
                refine WF.skip ?_
                refine blk_n ?_
                refine thn_n ?_
                exact ⟨(by repeat (first | exact (Agree.refl _ F18) | refine Agree.put ?_ rfl | refine Agree.sub hAL0 rfl ?_ | refine Agree.named hF19 ?_ | refine Agree.named hF7 ?_)), rfl, ⟨k3, (by first | exact .inl k1 | exact .inr k2), ((l[k]'hk).Client).toNat, by omega, by omega, by omega⟩⟩
      · rintro fCb2 wCb2 ⟨hACb2, rfl, ⟨k3, k12, c, hc, c1, c4⟩⟩
        refine WF.seq ?_
        refine WF.region ?_
        refine WL.va rfl rfl rfl (X.fieldAddrO (off := 1) ((hACb2.eq 5).trans (congrFun hF19 5)) Try.underlying42 rfl rfl Try.sizeOf3) ?_
        refine WL.va rfl rfl rfl (X.loadO hO5 (Ext.refl _) rfl rfl Try.isAgg3) ?_
        refine WL.va rfl rfl rfl (X.idxArr ((hACb2.eq 3).trans ((congrFun hF19 3).trans ((hAL0.eq 3).trans (congrFun hF7 3)))) (Eq.trans rfl (congrArg i64 hc)) (by omega) Try.underlying83 Try.sizeOf82) ?_
        refine WL.va rfl rfl rfl (X.assign rfl) ?_
        refine WL.nil ?_
        refine thn_n ?_
        refine WF.seq ?_
        refine WF.seq ?_
        refine WF.region ?_
        refine WL.va rfl rfl rfl (X.fieldAddrO (off := 0) ((hACb2.eq 5).trans (congrFun hF19 5)) Try.underlying42 rfl rfl Try.sizeOf3) ?_
        refine WL.va rfl rfl rfl (X.loadO hO5 (Ext.refl _) rfl rfl Try.isAgg3) ?_
        refine WL.va rfl rfl rfl (X.eql rfl rfl) ?_
        refine WL.nil ?_
        refine thn_n ?_
        refine WF.cond rfl (fun h4_42 => ?_) (fun h4_42 => ?_)
        · have gh4_42 := (of_decide_eq_true h4_42)
          have k1 : (l[k]'hk).Kind = 1 := gh4_42
          refine WF.seq ?_
          refine WF.seq ?_
          refine WF.region ?_
          refine WL.va rfl rfl rfl (X.move rfl) ?_
          refine WL.va rfl rfl rfl (X.nilCheck rfl) ?_
          refine WL.va rfl rfl rfl (X.fieldAddrP (off := 0) rfl Try.underlying82 rfl rfl Try.sizeOf4) ?_
          refine WL.va rfl rfl rfl (X.loadO hO3 (Ext.refl _) rfl (nowC_is (by omega)) Try.isAgg4) ?_
          refine WL.nil ?_
          refine thn_n ?_
          refine WF.cond rfl (fun h5_44 => ?_) (fun h5_44 => ?_)
          · have gh5_44 := h5_44
            have hst : stepF s (l[k]'hk) = none := st_c k1 hc c1 c4 gh5_44
            refine WF.seq ?_
            refine WF.region ?_
            refine WL.va rfl rfl rfl (X.assignB rfl) ?_
            refine WL.nil ?_
            refine thn_n ?_
            refine WF.ret ?_
            refine thn_r ?_
            refine thn_r ?_
            refine blk_r ?_
            refine thn_r ?_
            refine thn_r ?_
            refine blk_r ?_
            refine thn_r ?_
            refine fin_r ?_
            exact ⟨congrArg Value.bool (hrun.trans (runF_no hk hst)).symm, (Ext.trans hwL0 (Ext.store hx12 hx16 (by omega)))⟩
          · have gh5_44 := h5_44
            have hst : stepF s (l[k]'hk) = some (s.set c (true, (l[k]'hk).Call.Kind)) := st_c2 k1 hc c1 c4 gh5_44
            refine WF.skip ?_
            refine thn_n ?_
            refine WF.seq ?_
            refine WF.drawn (.q 0 (.q 1 (.q 2 (.q 3 (.q 4 (.q 5 (.q 6 (.l 7 (.q 8 (.q 9 .nil)))))))))) (fun w' => World.grownBy w14 w' (some g3)) 10 (by kernel_rfl) (by kernel_rfl) (grown_of_ext (Ext.drew _)) ?_
            have := World.grownBy.size (Ext.drew w14)
            refine WO.q rfl rfl rfl rfl (fun w' hE47 => (X.move rfl)) ?_
            refine WO.q rfl rfl rfl rfl (fun w' hE47 => (X.move rfl)) ?_
            refine WO.q rfl rfl rfl rfl (fun w' hE47 => (X.fieldAddrO (off := 3) ((hACb2.eq 5).trans (congrFun hF19 5)) Try.underlying42 rfl rfl Try.sizeOf38)) ?_
            refine WO.q rfl rfl rfl rfl (fun w' hE47 => (X.fieldAddrP (off := 0) rfl Try.underlying38 rfl rfl Try.sizeOf3)) ?_
            refine WO.q rfl rfl rfl rfl (fun w' hE47 => (X.loadO (hO5.keptO hE47 (by omega)) (Ext.refl _) rfl rfl Try.isAgg3)) ?_
            refine WO.q rfl rfl rfl rfl (fun w' hE47 => (X.nilCheck rfl)) ?_
            refine WO.q rfl rfl rfl rfl (fun w' hE47 => (X.fieldAddrP (off := 0) rfl Try.underlying82 rfl rfl Try.sizeOf4)) ?_
            refine WO.l ?_
            refine LO.go rfl rfl (OW.storeO (hO3.ext (Ext.drew _)) (by rw [nowC_len, hsl]; omega) rfl rfl rfl Try.sizeOf4 ?_)
            intro w48 hO3 hx50
            have := World.grownBy.size hx50
            replace hx := (hx.ext (Ext.drew _)).keptO hx50 (by omega)
            replace hO5 := (hO5.ext (Ext.drew _)).keptO hx50 (by omega)
            replace hO3 : Blk w48 g3 83 (nowC (s.set c (true, (s.getD c (false, 0)).2))) := by rw [← nowC_set0 (by omega)]; exact hO3
            refine ⟨(grown2 (grown_of_ext (Ext.drew _)) hx50), ?_⟩
            refine WO.q rfl rfl rfl rfl (fun w' hE47 => (X.nilCheck rfl)) ?_
            refine WO.q rfl rfl rfl rfl (fun w' hE47 => (X.fieldAddrP (off := 1) rfl Try.underlying82 rfl rfl Try.sizeOf3)) ?_
            refine WO.nil ?_
            refine WL.op rfl (OW.storeO hO3 (by rw [nowC_len, List.length_set, hsl]; omega) rfl rfl rfl Try.sizeOf3 ?_)
            intro w52 hO3 hx54
            have := World.grownBy.size hx54
            replace hx := hx.keptO hx54 (by omega)
            replace hO5 := hO5.keptO hx54 (by omega)
            replace hO3 : Blk w52 g3 83 (nowC (s.set c (true, (l[k]'hk).Call.Kind))) := by rw [← now_set2 (show c < s.length by omega), ← nowC_set1 (by rw [List.length_set]; omega)]; exact hO3
            refine WL.nil ?_
            refine thn_n ?_
            refine WF.exit ?_
            refine thn_x ?_
            refine blk_eq ?_
            refine thn_n ?_
            refine WF.region ?_
            refine WL.va rfl rfl rfl (X.add ((hACb2.eq 13).trans ((congrFun hF19 13).trans e13_L0)) rfl (w64 (by omega))) ?_
            refine WL.va rfl rfl rfl (X.moveI rfl) ?_
            refine WL.nil ?_
            first | exact thn_n ⟨_, (by omega), k + 1, s, rfl, rfl, (by repeat (first | exact hAL0 | refine Agree.put ?_ rfl | refine Agree.sub hACb2 rfl ?_ | refine Agree.named hF19 ?_ | refine Agree.named hF7 ?_)), (Ext.store (Ext.store (Ext.trans (Ext.trans hwL0 (Ext.store hx12 hx16 (by omega))) (Ext.drew _)) hx50 (by omega)) hx54 (by omega)), ⟨by omega, hsl, by rw [hrun, runF_yes hk hst], hO3⟩⟩ | exact thn_n ⟨_, (by omega), k + 1, _, rfl, rfl, (by repeat (first | exact hAL0 | refine Agree.put ?_ rfl | refine Agree.sub hACb2 rfl ?_ | refine Agree.named hF19 ?_ | refine Agree.named hF7 ?_)), (Ext.store (Ext.store (Ext.trans (Ext.trans hwL0 (Ext.store hx12 hx16 (by omega))) (Ext.drew _)) hx50 (by omega)) hx54 (by omega)), ⟨by omega, by simp [hsl], by rw [hrun, runF_yes hk hst], hO3⟩⟩
        · have gh4_42 := (of_decide_eq_false h4_42)
          have k1 : ¬ (l[k]'hk).Kind = 1 := gh4_42
          have k2 : (l[k]'hk).Kind = 2 := by omega
          refine WF.skip ?_
          refine thn_n ?_
          refine WF.seq ?_
          refine WF.seq ?_
          refine WF.drawn (.q 0 (.q 1 (.q 2 (.q 3 (.q 4 (.q 5 (.q 6 (.q 7 (.q 8 (.q 9 (.q 10 (.q 11 (.q 12 (.q 13 (.q 14 .nil))))))))))))))) (fun w' => Ext w14 w') 15 (by kernel_rfl) (by kernel_rfl) (Ext.drew _) ?_
          have := World.grownBy.size (Ext.drew w14)
          refine WO.q rfl rfl rfl rfl (fun w' hE56 => (X.move rfl)) ?_
          refine WO.q rfl rfl rfl rfl (fun w' hE56 => (X.nilCheck rfl)) ?_
          refine WO.q rfl rfl rfl rfl (fun w' hE56 => (X.fieldAddrP (off := 0) rfl Try.underlying82 rfl rfl Try.sizeOf4)) ?_
          refine WO.q rfl rfl rfl rfl (fun w' hE56 => (X.loadO hO3 hE56 rfl (nowC_is (by omega)) Try.isAgg4)) ?_
          refine WO.q rfl rfl rfl rfl (fun w' hE56 => (X.not rfl)) ?_
          refine WO.q rfl rfl rfl rfl (fun w' hE56 => (X.moveB rfl)) ?_
          refine WO.split (j := 5) rfl (fun h59 => ?_) (fun h59 => ?_)
          · have gh59 := (nt h59)
            have hst : stepF s (l[k]'hk) = none := st_a k1 k2 hc c1 c4 (.inl (by simpa using gh59))
            refine WO.qp rfl rfl rfl rfl (congrArg some h59) ?_
            refine WO.qp rfl rfl rfl rfl (congrArg some h59) ?_
            refine WO.qp rfl rfl rfl rfl (congrArg some h59) ?_
            refine WO.qp rfl rfl rfl rfl (congrArg some h59) ?_
            refine WO.qp rfl rfl rfl rfl (congrArg some h59) ?_
            refine WO.qp rfl rfl rfl rfl (congrArg some h59) ?_
            refine WO.qp rfl rfl rfl rfl (congrArg some h59) ?_
            refine WO.qp rfl rfl rfl rfl (congrArg some h59) ?_
            refine WO.q rfl rfl rfl rfl (fun w' hE56 => (X.pickT rfl h59 rfl)) ?_
            refine WO.nil ?_
            refine WL.nil ?_
            refine thn_n ?_
            refine WF.cond_t rfl ?_
            refine WF.seq ?_
            refine WF.region ?_
            refine WL.va rfl rfl rfl (X.assignB rfl) ?_
            refine WL.nil ?_
            refine thn_n ?_
            refine WF.ret ?_
            refine thn_r ?_
            refine blk_r ?_
            refine thn_r ?_
            refine thn_r ?_
            refine blk_r ?_
            refine thn_r ?_
            refine fin_r ?_
            exact ⟨congrArg Value.bool (hrun.trans (runF_no hk hst)).symm, (Ext.trans (Ext.trans hwL0 (Ext.store hx12 hx16 (by omega))) (Ext.drew _))⟩
          · have gh59 := (nf h59)
            have q1 : (s.getD c (false, 0)).1 = true := by simpa using gh59
            refine WO.qg rfl rfl (congrArg some h59) rfl rfl (fun w' hE56 => (X.move rfl)) ?_
            refine WO.qg rfl rfl (congrArg some h59) rfl rfl (fun w' hE56 => (X.nilCheck rfl)) ?_
            refine WO.qg rfl rfl (congrArg some h59) rfl rfl (fun w' hE56 => (X.fieldAddrP (off := 1) rfl Try.underlying82 rfl rfl Try.sizeOf3)) ?_
            refine WO.qg rfl rfl (congrArg some h59) rfl rfl (fun w' hE56 => (X.loadO hO3 hE56 rfl (nowC_kind (by omega)) Try.isAgg3)) ?_
            refine WO.qg rfl rfl (congrArg some h59) rfl rfl (fun w' hE56 => (X.fieldAddrO (off := 3) ((hACb2.eq 5).trans (congrFun hF19 5)) Try.underlying42 rfl rfl Try.sizeOf38)) ?_
            refine WO.qg rfl rfl (congrArg some h59) rfl rfl (fun w' hE56 => (X.fieldAddrP (off := 0) rfl Try.underlying38 rfl rfl Try.sizeOf3)) ?_
            refine WO.qg rfl rfl (congrArg some h59) rfl rfl (fun w' hE56 => (X.loadO hO5 hE56 rfl rfl Try.isAgg3)) ?_
            refine WO.qg rfl rfl (congrArg some h59) rfl rfl (fun w' hE56 => (X.neq rfl rfl)) ?_
            refine WO.q rfl rfl rfl rfl (fun w' hE56 => (X.pickF rfl h59 rfl)) ?_
            refine WO.nil ?_
            refine WL.nil ?_
            refine thn_n ?_
            refine WF.cond rfl (fun h6_62 => ?_) (fun h6_62 => ?_)
            · have gh6_62 := (of_decide_eq_true h6_62)
              have hst : stepF s (l[k]'hk) = none := st_a k1 k2 hc c1 c4 (.inr gh6_62)
              refine WF.seq ?_
              refine WF.region ?_
              refine WL.va rfl rfl rfl (X.assignB rfl) ?_
              refine WL.nil ?_
              refine thn_n ?_
              refine WF.ret ?_
              refine thn_r ?_
              refine blk_r ?_
              refine thn_r ?_
              refine thn_r ?_
              refine blk_r ?_
              refine thn_r ?_
              refine fin_r ?_
              exact ⟨congrArg Value.bool (hrun.trans (runF_no hk hst)).symm, (Ext.trans (Ext.trans hwL0 (Ext.store hx12 hx16 (by omega))) (Ext.drew _))⟩
            · have gh6_62 := (Decidable.of_not_not (of_decide_eq_false h6_62))
              have q2 : (s.getD c (false, 0)).2 = (l[k]'hk).Call.Kind := gh6_62
              refine WF.skip ?_
              refine thn_n ?_
              refine WF.seq ?_
              refine WF.region ?_
              refine WL.va rfl rfl rfl (X.move rfl) ?_
              refine WL.va rfl rfl rfl (X.nilCheck rfl) ?_
              refine WL.va rfl rfl rfl (X.fieldAddrP (off := 0) rfl Try.underlying82 rfl rfl Try.sizeOf4) ?_
              refine WL.op rfl (OW.storeO (hO3.ext (Ext.drew _)) (by rw [nowC_len, hsl]; omega) rfl rfl rfl Try.sizeOf4 ?_)
              intro w66 hO3 hx68
              have := World.grownBy.size hx68
              replace hx := (hx.ext (Ext.drew _)).keptO hx68 (by omega)
              replace hO5 := (hO5.ext (Ext.drew _)).keptO hx68 (by omega)
              replace hO3 : Blk w66 g3 83 (nowC (s.set c (false, (s.getD c (false, 0)).2))) := by rw [← nowC_set0 (by omega)]; exact hO3
              refine WL.nil ?_
              refine thn_n ?_
              refine WF.named (fun F70 hF71 => ?_)
              refine WF.cut (fun f' w' => f' 7 = .bool (odd1 (l[k]'hk)) ∧ Agree [0, 3, 5, 6, 8, 9, 10, 11, 12, 13, 14, 15, 16, 38, 39, 40, 41, 42, 43, 57, 58, 59, 60, 61, 62, 63, 64, 65, 66, 67, 68, 69, 70, 71, 72, 73, 74] f' F70 ∧ Ext w66 w') ?_ ?_
              · refine WF.region ?_
                refine WL.va rfl rfl rfl (X.loadOA hO5 (Ext.refl _) ((congrFun hF71 5).trans ((hACb2.eq 5).trans (congrFun hF19 5))) rfl Try.isAgg42 Try.sizeOf42) ?_
                refine WL.c rfl rfl rfl (X.call Try.call51 (evl_cons (v := (agg (Ev.c (l[k]'hk) d d2))) rfl (evl_cons (v := (i64 3)) rfl (evl_cons (v := (i64 0)) rfl evl_nil)))) (answered_ok (l[k]'hk) d d2 3 0 _) ?_
                rintro v73 w72 ⟨rfl, hx74⟩
                have := World.grownBy.size hx74
                refine WL.va rfl rfl rfl (X.moveB rfl) ?_
                refine WL.split (j := 2) rfl (fun h76 => ?_) (fun h76 => ?_)
                · have gh76 := h76
                  have a3 : ans (l[k]'hk) 3 0 = true := gh76
                  refine WL.vg rfl (congrArg some h76) rfl rfl (X.fieldAddrO (off := 3) ((congrFun hF71 5).trans ((hACb2.eq 5).trans (congrFun hF19 5))) Try.underlying42 rfl rfl Try.sizeOf38) ?_
                  refine WL.vg rfl (congrArg some h76) rfl rfl (X.fieldAddrP (off := 1) rfl Try.underlying38 rfl rfl Try.sizeOf3) ?_
                  refine WL.vg rfl (congrArg some h76) rfl rfl (X.loadO hO5 hx74 rfl rfl Try.isAgg3) ?_
                  refine WL.vg rfl (congrArg some h76) rfl rfl (X.fieldAddrO (off := 3) ((congrFun hF71 5).trans ((hACb2.eq 5).trans (congrFun hF19 5))) Try.underlying42 rfl rfl Try.sizeOf38) ?_
                  refine WL.vg rfl (congrArg some h76) rfl rfl (X.fieldAddrP (off := 12) rfl Try.underlying38 rfl rfl Try.sizeOf36) ?_
                  refine WL.vg rfl (congrArg some h76) rfl rfl (X.loadO hO5 hx74 rfl rfl Try.isAgg36) ?_
                  refine WL.cg rfl (congrArg some h76) rfl rfl (X.call Try.call52 (evl_cons (v := (i64 (l[k]'hk).Call.Block)) rfl (evl_cons rfl evl_nil))) (isBlock_ok (l[k]'hk).Call.Block _ (l[k]'hk).Call.Data _ (Row.ext hd1 (Ext.trans (Ext.store (Ext.trans (Ext.trans hwL0 (Ext.store hx12 hx16 (by omega))) (Ext.drew _)) hx68 (by omega)) hx74))) ?_
                  rintro v78 w77 ⟨rfl, rfl⟩
                  refine WL.vg rfl (congrArg some h76) rfl rfl (X.not rfl) ?_
                  refine WL.va rfl rfl rfl (X.pickT rfl h76 rfl) ?_
                  refine WL.va rfl rfl rfl (X.assignB rfl) ?_
                  refine WL.nil ?_
                  refine thn_n ?_
                  exact ⟨(Eq.trans rfl (by first | exact od_1 a3 | exact od_2 a3)), (by repeat (first | exact (Agree.refl _ F70) | refine Agree.put ?_ rfl | refine Agree.sub hACb2 rfl ?_ | refine Agree.sub hAL0 rfl ?_ | refine Agree.named hF71 ?_ | refine Agree.named hF19 ?_ | refine Agree.named hF7 ?_)), hx74⟩
                · have gh76 := h76
                  have a3 : ans (l[k]'hk) 3 0 = false := gh76
                  refine WL.p rfl rfl rfl (congrArg some h76) ?_
                  refine WL.p rfl rfl rfl (congrArg some h76) ?_
                  refine WL.p rfl rfl rfl (congrArg some h76) ?_
                  refine WL.p rfl rfl rfl (congrArg some h76) ?_
                  refine WL.p rfl rfl rfl (congrArg some h76) ?_
                  refine WL.p rfl rfl rfl (congrArg some h76) ?_
                  refine WL.p rfl rfl rfl (congrArg some h76) ?_
                  refine WL.p rfl rfl rfl (congrArg some h76) ?_
                  refine WL.va rfl rfl rfl (X.pickF rfl h76 rfl) ?_
                  refine WL.va rfl rfl rfl (X.assignB rfl) ?_
                  refine WL.nil ?_
                  refine thn_n ?_
                  exact ⟨(Eq.trans rfl (by first | exact od_1 a3 | exact od_2 a3)), (by repeat (first | exact (Agree.refl _ F70) | refine Agree.put ?_ rfl | refine Agree.sub hACb2 rfl ?_ | refine Agree.sub hAL0 rfl ?_ | refine Agree.named hF71 ?_ | refine Agree.named hF19 ?_ | refine Agree.named hF7 ?_)), hx74⟩
              · rintro fCr17 wCr17 ⟨e7_Cr17, hACr17, hwCr17⟩
                have := World.grownBy.size hwCr17
                refine WF.named (fun F84 hF85 => ?_)
                refine WF.cut (fun f' w' => f' 105 = .bool (oddB (l[k]'hk)) ∧ Agree [0, 3, 5, 6, 7, 8, 9, 10, 11, 12, 13, 14, 15, 16, 38, 39, 40, 41, 42, 43, 57, 58, 59, 60, 61, 62, 63, 64, 65, 66, 67, 68, 69, 70, 71, 72, 73, 74] f' F84 ∧ Ext wCr17 w') ?_ ?_
                · refine WF.region ?_
                  refine WL.va rfl rfl rfl (X.moveB ((congrFun hF85 7).trans e7_Cr17)) ?_
                  refine WL.va rfl rfl rfl (X.moveB rfl) ?_
                  refine WL.split (j := 1) rfl (fun h86 => ?_) (fun h86 => ?_)
                  · have gh86 := h86
                    have o1 : odd1 (l[k]'hk) = true := gh86
                    refine WL.p rfl rfl rfl (congrArg some h86) ?_
                    refine WL.p rfl rfl rfl (congrArg some h86) ?_
                    refine WL.p rfl rfl rfl (congrArg some h86) ?_
                    refine WL.pn rfl rfl rfl rfl ?_
                    refine WL.pn rfl rfl rfl rfl ?_
                    refine WL.p rfl rfl rfl (congrArg some h86) ?_
                    refine WL.p rfl rfl rfl (congrArg some h86) ?_
                    refine WL.pn rfl rfl rfl rfl ?_
                    refine WL.pn rfl rfl rfl rfl ?_
                    refine WL.pn rfl rfl rfl rfl ?_
                    refine WL.pn rfl rfl rfl rfl ?_
                    refine WL.pn rfl rfl rfl rfl ?_
                    refine WL.pn rfl rfl rfl rfl ?_
                    refine WL.pn rfl rfl rfl rfl ?_
                    refine WL.pn rfl rfl rfl rfl ?_
                    refine WL.p rfl rfl rfl (congrArg some h86) ?_
                    refine WL.va rfl rfl rfl (X.pickT rfl h86 rfl) ?_
                    refine WL.nil ?_
                    refine thn_n ?_
                    exact ⟨(Eq.trans rfl (by first | exact od_3 o1 | exact od_4 o1 b2 | exact od_5 o1 b2 b8 | exact od_6 o1 b2 b8)), (by repeat (first | exact (Agree.refl _ F84) | refine Agree.put ?_ rfl | refine Agree.sub hACr17 rfl ?_ | refine Agree.sub hACb2 rfl ?_ | refine Agree.sub hAL0 rfl ?_ | refine Agree.named hF85 ?_ | refine Agree.named hF71 ?_ | refine Agree.named hF19 ?_ | refine Agree.named hF7 ?_)), (Ext.refl _)⟩
                  · have gh86 := h86
                    have o1 : odd1 (l[k]'hk) = false := gh86
                    refine WL.vg rfl (congrArg some h86) rfl rfl (X.loadOA hO5 hwCr17 ((congrFun hF85 5).trans ((hACr17.eq 5).trans ((congrFun hF71 5).trans ((hACb2.eq 5).trans (congrFun hF19 5))))) rfl Try.isAgg42 Try.sizeOf42) ?_
                    refine WL.cg rfl (congrArg some h86) rfl rfl (X.call Try.call51 (evl_cons (v := (agg (Ev.c (l[k]'hk) d d2))) rfl (evl_cons (v := (i64 2)) rfl (evl_cons (v := (i64 0)) rfl evl_nil)))) (answered_ok (l[k]'hk) d d2 2 0 _) ?_
                    rintro v89 w88 ⟨rfl, hx90⟩
                    have := World.grownBy.size hx90
                    refine WL.vg rfl (congrArg some h86) rfl rfl (X.moveB rfl) ?_
                    refine WL.split (j := 4) rfl (fun h92 => ?_) (fun h92 => ?_)
                    · have gh92 := h92
                      have b2 : ans (l[k]'hk) 2 0 = true := gh92
                      refine WL.p rfl rfl rfl (congrArg some h92) ?_
                      refine WL.p rfl rfl rfl (congrArg some h92) ?_
                      refine WL.vg rfl (congrArg some h86) rfl rfl (X.pickT rfl h92 rfl) ?_
                      refine WL.vg rfl (congrArg some h86) rfl rfl (X.moveB rfl) ?_
                      refine WL.vg rfl rfl rfl rfl (X.fieldAddrO (off := 3) ((congrFun hF85 5).trans ((hACr17.eq 5).trans ((congrFun hF71 5).trans ((hACb2.eq 5).trans (congrFun hF19 5))))) Try.underlying42 rfl rfl Try.sizeOf38) ?_
                      refine WL.vg rfl rfl rfl rfl (X.fieldAddrP (off := 1) rfl Try.underlying38 rfl rfl Try.sizeOf3) ?_
                      refine WL.vg rfl rfl rfl rfl (X.loadO hO5 (Ext.trans hwCr17 hx90) rfl rfl Try.isAgg3) ?_
                      refine WL.vg rfl rfl rfl rfl (X.fieldAddrO (off := 16) ((congrFun hF85 5).trans ((hACr17.eq 5).trans ((congrFun hF71 5).trans ((hACb2.eq 5).trans (congrFun hF19 5))))) Try.underlying42 rfl rfl Try.sizeOf40) ?_
                      refine WL.vg rfl rfl rfl rfl (X.fieldAddrP (off := 2) rfl Try.underlying40 rfl rfl Try.sizeOf36) ?_
                      refine WL.vg rfl rfl rfl rfl (X.loadO hO5 (Ext.trans hwCr17 hx90) rfl rfl Try.isAgg36) ?_
                      refine WL.cg rfl rfl rfl rfl (X.call Try.call52 (evl_cons (v := (i64 (l[k]'hk).Call.Block)) rfl (evl_cons rfl evl_nil))) (isBlock_ok (l[k]'hk).Call.Block _ (l[k]'hk).Answer.Data _ (Row.ext hd2 (Ext.trans (Ext.trans (Ext.store (Ext.trans (Ext.trans hwL0 (Ext.store hx12 hx16 (by omega))) (Ext.drew _)) hx68 (by omega)) hwCr17) hx90))) ?_
                      rintro v95 w94 ⟨rfl, rfl⟩
                      refine WL.vg rfl rfl rfl rfl (X.not rfl) ?_
                      refine WL.vg rfl (congrArg some h86) rfl rfl (X.pickT rfl rfl rfl) ?_
                      refine WL.va rfl rfl rfl (X.pickF rfl h86 rfl) ?_
                      refine WL.nil ?_
                      refine thn_n ?_
                      exact ⟨(Eq.trans rfl (by first | exact od_3 o1 | exact od_4 o1 b2 | exact od_5 o1 b2 b8 | exact od_6 o1 b2 b8)), (by repeat (first | exact (Agree.refl _ F84) | refine Agree.put ?_ rfl | refine Agree.sub hACr17 rfl ?_ | refine Agree.sub hACb2 rfl ?_ | refine Agree.sub hAL0 rfl ?_ | refine Agree.named hF85 ?_ | refine Agree.named hF71 ?_ | refine Agree.named hF19 ?_ | refine Agree.named hF7 ?_)), hx90⟩
                    · have gh92 := h92
                      have b2 : ans (l[k]'hk) 2 0 = false := gh92
                      refine WL.vg rfl (congrArg some h92) rfl rfl (X.loadOA hO5 (Ext.trans hwCr17 hx90) ((congrFun hF85 5).trans ((hACr17.eq 5).trans ((congrFun hF71 5).trans ((hACb2.eq 5).trans (congrFun hF19 5))))) rfl Try.isAgg42 Try.sizeOf42) ?_
                      refine WL.cg rfl (congrArg some h92) rfl rfl (X.call Try.call51 (evl_cons (v := (agg (Ev.c (l[k]'hk) d d2))) rfl (evl_cons (v := (i64 8)) rfl (evl_cons (v := (i64 0)) rfl evl_nil)))) (answered_ok (l[k]'hk) d d2 8 0 _) ?_
                      rintro v100 w99 ⟨rfl, hx101⟩
                      have := World.grownBy.size hx101
                      refine WL.vg rfl (congrArg some h86) rfl rfl (X.pickF rfl h92 rfl) ?_
                      refine WL.vg rfl (congrArg some h86) rfl rfl (X.moveB rfl) ?_
                      refine WL.split (j := 8) rfl (fun h103 => ?_) (fun h103 => ?_)
                      · have gh103 := h103
                        have b8 : ans (l[k]'hk) 8 0 = true := gh103
                        refine WL.vg rfl (congrArg some h103) rfl rfl (X.fieldAddrO (off := 3) ((congrFun hF85 5).trans ((hACr17.eq 5).trans ((congrFun hF71 5).trans ((hACb2.eq 5).trans (congrFun hF19 5))))) Try.underlying42 rfl rfl Try.sizeOf38) ?_
                        refine WL.vg rfl (congrArg some h103) rfl rfl (X.fieldAddrP (off := 1) rfl Try.underlying38 rfl rfl Try.sizeOf3) ?_
                        refine WL.vg rfl (congrArg some h103) rfl rfl (X.loadO hO5 (Ext.trans (Ext.trans hwCr17 hx90) hx101) rfl rfl Try.isAgg3) ?_
                        refine WL.vg rfl (congrArg some h103) rfl rfl (X.fieldAddrO (off := 16) ((congrFun hF85 5).trans ((hACr17.eq 5).trans ((congrFun hF71 5).trans ((hACb2.eq 5).trans (congrFun hF19 5))))) Try.underlying42 rfl rfl Try.sizeOf40) ?_
                        refine WL.vg rfl (congrArg some h103) rfl rfl (X.fieldAddrP (off := 2) rfl Try.underlying40 rfl rfl Try.sizeOf36) ?_
                        refine WL.vg rfl (congrArg some h103) rfl rfl (X.loadO hO5 (Ext.trans (Ext.trans hwCr17 hx90) hx101) rfl rfl Try.isAgg36) ?_
                        refine WL.cg rfl (congrArg some h103) rfl rfl (X.call Try.call52 (evl_cons (v := (i64 (l[k]'hk).Call.Block)) rfl (evl_cons rfl evl_nil))) (isBlock_ok (l[k]'hk).Call.Block _ (l[k]'hk).Answer.Data _ (Row.ext hd2 (Ext.trans (Ext.trans (Ext.trans (Ext.store (Ext.trans (Ext.trans hwL0 (Ext.store hx12 hx16 (by omega))) (Ext.drew _)) hx68 (by omega)) hwCr17) hx90) hx101))) ?_
                        rintro v105 w104 ⟨rfl, rfl⟩
                        refine WL.vg rfl (congrArg some h103) rfl rfl (X.not rfl) ?_
                        refine WL.vg rfl (congrArg some h86) rfl rfl (X.pickT rfl h103 rfl) ?_
                        refine WL.va rfl rfl rfl (X.pickF rfl h86 rfl) ?_
                        refine WL.nil ?_
                        refine thn_n ?_
                        exact ⟨(Eq.trans rfl (by first | exact od_3 o1 | exact od_4 o1 b2 | exact od_5 o1 b2 b8 | exact od_6 o1 b2 b8)), (by repeat (first | exact (Agree.refl _ F84) | refine Agree.put ?_ rfl | refine Agree.sub hACr17 rfl ?_ | refine Agree.sub hACb2 rfl ?_ | refine Agree.sub hAL0 rfl ?_ | refine Agree.named hF85 ?_ | refine Agree.named hF71 ?_ | refine Agree.named hF19 ?_ | refine Agree.named hF7 ?_)), (Ext.trans hx90 hx101)⟩
                      · have gh103 := h103
                        have b8 : ans (l[k]'hk) 8 0 = false := gh103
                        refine WL.p rfl rfl rfl (congrArg some h103) ?_
                        refine WL.p rfl rfl rfl (congrArg some h103) ?_
                        refine WL.p rfl rfl rfl (congrArg some h103) ?_
                        refine WL.p rfl rfl rfl (congrArg some h103) ?_
                        refine WL.p rfl rfl rfl (congrArg some h103) ?_
                        refine WL.p rfl rfl rfl (congrArg some h103) ?_
                        refine WL.p rfl rfl rfl (congrArg some h103) ?_
                        refine WL.p rfl rfl rfl (congrArg some h103) ?_
                        refine WL.vg rfl (congrArg some h86) rfl rfl (X.pickF rfl h103 rfl) ?_
                        refine WL.va rfl rfl rfl (X.pickF rfl h86 rfl) ?_
                        refine WL.nil ?_
                        refine thn_n ?_
                        exact ⟨(Eq.trans rfl (by first | exact od_3 o1 | exact od_4 o1 b2 | exact od_5 o1 b2 b8 | exact od_6 o1 b2 b8)), (by repeat (first | exact (Agree.refl _ F84) | refine Agree.put ?_ rfl | refine Agree.sub hACr17 rfl ?_ | refine Agree.sub hACb2 rfl ?_ | refine Agree.sub hAL0 rfl ?_ | refine Agree.named hF85 ?_ | refine Agree.named hF71 ?_ | refine Agree.named hF19 ?_ | refine Agree.named hF7 ?_)), (Ext.trans hx90 hx101)⟩
                · rintro fCr18 wCr18 ⟨e105_Cr18, hACr18, hwCr18⟩
                  have := World.grownBy.size hwCr18
                  refine WF.cond e105_Cr18 (fun h7_110 => ?_) (fun h7_110 => ?_)
                  · have gh7_110 := h7_110
                    have hst : stepF s (l[k]'hk) = none := st_o k1 k2 hc c1 c4 q1 q2 gh7_110
                    refine WF.seq ?_
                    refine WF.region ?_
                    refine WL.va rfl rfl rfl (X.assignB rfl) ?_
                    refine WL.nil ?_
                    refine thn_n ?_
                    refine WF.ret ?_
                    refine blk_r ?_
                    refine thn_r ?_
                    refine thn_r ?_
                    refine blk_r ?_
                    refine thn_r ?_
                    refine fin_r ?_
                    exact ⟨congrArg Value.bool (hrun.trans (runF_no hk hst)).symm, (Ext.trans (Ext.trans (Ext.store (Ext.trans (Ext.trans hwL0 (Ext.store hx12 hx16 (by omega))) (Ext.drew _)) hx68 (by omega)) hwCr17) hwCr18)⟩
                  · have gh7_110 := h7_110
                    have hst : stepF s (l[k]'hk) = some (s.set c (false, (s.getD c (false, 0)).2)) := st_n k1 k2 hc c1 c4 q1 q2 gh7_110
                    refine WF.skip ?_
                    refine blk_n ?_
                    refine thn_n ?_
                    refine WF.region ?_
                    refine WL.va rfl rfl rfl (X.add ((hACr18.eq 13).trans ((congrFun hF85 13).trans ((hACr17.eq 13).trans ((congrFun hF71 13).trans ((hACb2.eq 13).trans ((congrFun hF19 13).trans e13_L0)))))) rfl (w64 (by omega))) ?_
                    refine WL.va rfl rfl rfl (X.moveI rfl) ?_
                    refine WL.nil ?_
                    first | exact thn_n ⟨_, (by omega), k + 1, s, rfl, rfl, (by repeat (first | exact hAL0 | refine Agree.put ?_ rfl | refine Agree.sub hACr18 rfl ?_ | refine Agree.sub hACr17 rfl ?_ | refine Agree.sub hACb2 rfl ?_ | refine Agree.named hF85 ?_ | refine Agree.named hF71 ?_ | refine Agree.named hF19 ?_ | refine Agree.named hF7 ?_)), (Ext.trans (Ext.trans (Ext.store (Ext.trans (Ext.trans hwL0 (Ext.store hx12 hx16 (by omega))) (Ext.drew _)) hx68 (by omega)) hwCr17) hwCr18), ⟨by omega, hsl, by rw [hrun, runF_yes hk hst], (hO3.ext (Ext.trans hwCr17 hwCr18))⟩⟩ | exact thn_n ⟨_, (by omega), k + 1, _, rfl, rfl, (by repeat (first | exact hAL0 | refine Agree.put ?_ rfl | refine Agree.sub hACr18 rfl ?_ | refine Agree.sub hACr17 rfl ?_ | refine Agree.sub hACb2 rfl ?_ | refine Agree.named hF85 ?_ | refine Agree.named hF71 ?_ | refine Agree.named hF19 ?_ | refine Agree.named hF7 ?_)), (Ext.trans (Ext.trans (Ext.store (Ext.trans (Ext.trans hwL0 (Ext.store hx12 hx16 (by omega))) (Ext.drew _)) hx68 (by omega)) hwCr17) hwCr18), ⟨by omega, by simp [hsl], by rw [hrun, runF_yes hk hst], (hO3.ext (Ext.trans hwCr17 hwCr18))⟩⟩
    · have gh0_8 := (of_decide_eq_false h0_8)
      have hk : l.length ≤ k := by have := gh0_8; omega
      refine WF.exit ?_
      refine thn_x ?_
      refine thn_x ?_
      refine blk_eq ?_
      refine thn_n ?_
      refine WF.seq ?_
      refine WF.region ?_
      refine WL.va rfl rfl rfl (X.assignB rfl) ?_
      refine WL.nil ?_
      refine thn_n ?_
      refine WF.ret ?_
      refine fin_r ?_
      rw [List.drop_of_length_le hk] at hrun
      exact ⟨congrArg Value.bool hrun.symm, hwL0⟩

end Go.Proofs.Ytobjmehppmhkdaa
