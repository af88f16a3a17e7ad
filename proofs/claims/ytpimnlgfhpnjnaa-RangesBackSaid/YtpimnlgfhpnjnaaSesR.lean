/- The walk of the reference's Note. -/
import Derived.Test.YtpimnlgfhpnjnaaSesN
namespace Go.Proofs.Ytpimnlgfhpnjnaa.Se
open Go Go.RowKit Kf
set_option maxRecDepth 20000

abbrev OwnS (w : World) (B : Nat) (v : Value) (O : List SV) : Prop := w.ownsRow B 55 4 v O.length (O.flatMap SV.c)
theorem OwnS.nil (w : World) (B : Nat) : OwnS w B (.slice none 0 0) [] := World.ownsRow_nil _ _ _ _
theorem OwnS.app {w : World} {B : Nat} {v : Value} {O : List SV} {e : SV} (h : w.ownsRow B 55 4 v (O.length + 1) (O.flatMap SV.c ++ SV.c e)) : OwnS w B v (O ++ [e]) := by
  unfold OwnS; rw [List.length_append, List.flatMap_append]; simpa using h
theorem SDat.app {w : World} {O : List SV} {e : SV} (h : SDat w O) (he : Bytes w e.2 e.1.Data) : SDat w (O ++ [e]) := fun x hx => by
  rcases List.mem_append.1 hx with hx | hx
  · exact h x hx
  · rw [List.mem_singleton] at hx; subst hx; exact he
theorem noteS_lay {l : List Ses} {s : Ses} (h : ¬ s.Client = 0) : noteS l s = layL (ofC s.Client) (overC s.Client) (hasS l s.Client) s l := if_neg h
theorem noteS_none {l : List Ses} {s : Ses} (h : s.Client = 0) : noteS l s = l := if_pos h
theorem layL_mem {α : Type} {p q : α → Bool} {has : Bool} {a x : α} {l : List α} (h : x ∈ layL p q has a l) : x = a ∨ x ∈ l := by
  induction l with
  | nil => unfold layL at h; cases has <;> simp at h; exact .inl h
  | cons y l ih =>
    unfold layL at h
    have key : ∀ (L : List α), x ∈ L → (L = a :: l ∨ L = a :: y :: l ∨ L = y :: layL p q has a l) → x = a ∨ x ∈ y :: l := fun L hx hL => by
      rcases hL with rfl | rfl | rfl
      · simp at hx ⊢; rcases hx with h | h <;> simp [h]
      · simpa using hx
      · simp at hx ⊢
        rcases hx with h | h
        · simp [h]
        · rcases ih h with h | h <;> simp [h]
    refine key _ h ?_
    cases has <;> simp only [cond_true, cond_false] <;> split <;> simp
theorem layL_len {α : Type} {p q : α → Bool} {has : Bool} {a : α} {l : List α} : (layL p q has a l).length ≤ l.length + 1 ∧ l.length ≤ (layL p q has a l).length := by
  induction l with
  | nil => unfold layL; cases has <;> simp
  | cons y l ih =>
    unfold layL
    cases has <;> simp only [cond_true, cond_false] <;> split <;> simp <;> first | exact ih | omega
theorem noteS_mem {l : List Ses} {s x : Ses} (h : x ∈ noteS l s) : x = s ∨ x ∈ l := by
  unfold noteS at h
  split at h
  · exact .inr h
  · exact layL_mem h
theorem noteS_len {l : List Ses} {s : Ses} : (noteS l s).length ≤ l.length + 1 ∧ l.length ≤ (noteS l s).length := by
  unfold noteS
  split
  · omega
  · exact layL_len
theorem hasS_drop {l : List Ses} {c : Int} {k : Nat} (hk : k < l.length) : hasS (l.drop k) c = (ofC c l[k] || hasS (l.drop (k + 1)) c) := by
  rw [List.drop_eq_getElem_cons hk]; rfl
set_option maxHeartbeats 4000000 in
theorem refNote_ok (v : Value) (l : List Ses) (c q code : Int) (dv0 : Value) (dl : List UInt8) (w : World) (h : Sess w v l) (hl : l.length ≤ 1000) (hd : ∀ s ∈ l, s.Data.length ≤ 1000000) (hb0 : Bytes w dv0 dl) (hdl : dl.length ≤ 1000000) : FnOk Try.prog 92 [v, i64 c, i64 q, agg [i64 code, dv0]] w (fun r w' => (∃ F, F.map Prod.fst = noteS l ⟨c, q, code, dl⟩ ∧ SOwn w' w.heap.size r F) ∧ Ext w w') := by
  obtain ⟨E, rfl, re, de⟩ := h
  simp only [List.length_map] at hl
  refine FnOk.enter (rs := [8]) Try.func92 rfl Try.ntmps92 Try.results92 rfl rfl ?_
  refine WF.seq ?_
  refine WF.region ?_
  refine WL.op rfl (OW.boxA (cs := [i64 code, dv0]) rfl ?_ (by decide))
  intro g7 w1 heg7 hlg7 hO7 hx3
  have := World.grownBy.size hx3
  refine WL.va rfl rfl rfl (X.assign rfl) ?_
  refine WL.nil ?_
  refine thn_n ?_
  refine WF.seq ?_
  refine WF.seq ?_
  refine WF.region ?_
  refine WL.va rfl rfl rfl (X.moveI rfl) ?_
  refine WL.va rfl rfl rfl (X.eql rfl rfl) ?_
  refine WL.nil ?_
  refine thn_n ?_
  refine WF.cond rfl (fun h0_5 => ?_) (fun h0_5 => ?_)
  · have gh0_5 := (of_decide_eq_true h0_5)
    have hc0 := gh0_5
    refine WF.seq ?_
    refine WF.region ?_
    refine WL.va rfl rfl rfl (X.move rfl) ?_
    have szq := World.grownBy.size hx3
    refine WL.c rfl rfl rfl (X.call Try.call81 (evl_cons rfl evl_nil)) (copyS_ok _ (E.map Prod.fst) _ ⟨_, rfl, Row.ext re hx3, de.ext hx3⟩ (by simp; omega) hd) ?_
    rintro v8 w7 ⟨⟨F, hF, hoF⟩, hx9⟩
    have := World.grownBy.size hx9
    refine WL.va rfl rfl rfl (X.assign rfl) ?_
    refine WL.nil ?_
    refine thn_n ?_
    refine WF.ret ?_
    refine thn_r ?_
    refine fin_r ?_
    exact ⟨⟨F, by rw [hF]; exact (noteS_none hc0).symm, hoF.mono szq⟩, (Ext.trans hx3 hx9)⟩
  · have gh0_5 := (of_decide_eq_false h0_5)
    have hc0 := gh0_5
    refine WF.skip ?_
    refine thn_n ?_
    refine WF.seq ?_
    refine WF.region ?_
    refine WL.va rfl rfl rfl (X.assignB rfl) ?_
    refine WL.nil ?_
    refine thn_n ?_
    refine WF.seq ?_
    refine WF.seq ?_
    refine WF.region ?_
    refine WL.va rfl rfl rfl (X.assignI rfl) ?_
    refine WL.nil ?_
    refine thn_n ?_
    refine WF.block ?_
    refine WF.named (fun F11 hF12 => ?_)
    refine WF.loopN (fun mL0 f' w' => ∃ (k : Nat) (hb : Bool), mL0 = E.length - k ∧ f' 10 = .int .i64 (k : Int) ∧ f' 9 = .bool hb ∧ Agree [0, 1, 2, 3, 7, 8, 15, 16] f' F11 ∧ w1 = w' ∧ k ≤ E.length ∧ hb = hasS ((E.map Prod.fst).take k) c) ?_ ?_
    · exact ⟨_, 0, false, rfl, (congrFun hF12 10), (congrFun hF12 9), (Agree.refl _ _), rfl, ⟨Nat.zero_le _, rfl⟩⟩
    · rintro mL0 fL0 wL0 ⟨k, hb, hmL0, e10_L0, e9_L0, hAL0, rfl, ⟨hk0, hhk⟩⟩
      refine WF.seq ?_
      refine WF.seq ?_
      refine WF.region ?_
      refine WL.va rfl rfl rfl (X.moveI e10_L0) ?_
      refine WL.va rfl rfl rfl (X.move ((hAL0.eq 0).trans (congrFun hF12 0))) ?_
      refine WL.va rfl rfl rfl (X.len re rfl Try.underlying49) ?_
      refine WL.va rfl rfl rfl (X.lss rfl rfl) ?_
      refine WL.nil ?_
      refine thn_n ?_
      refine WF.cond rfl (fun h1_14 => ?_) (fun h1_14 => ?_)
      · have gh1_14 := (of_decide_eq_true h1_14)
        have hk : k < E.length := by omega
        have hk2 : k < (E.map Prod.fst).length := by simpa using hk
        refine WF.skip ?_
        refine thn_n ?_
        refine WF.seq ?_
        refine WF.block ?_
        refine WF.region ?_
        refine WL.va rfl rfl rfl (X.moveB e9_L0) ?_
        refine WL.va rfl rfl rfl (X.moveB rfl) ?_
        refine WL.split (j := 1) rfl (fun h16 => ?_) (fun h16 => ?_)
        · have gh16 := h16
          have hbT := gh16
          refine WL.p rfl rfl rfl (congrArg some h16) ?_
          refine WL.p rfl rfl rfl (congrArg some h16) ?_
          refine WL.p rfl rfl rfl (congrArg some h16) ?_
          refine WL.p rfl rfl rfl (congrArg some h16) ?_
          refine WL.p rfl rfl rfl (congrArg some h16) ?_
          refine WL.p rfl rfl rfl (congrArg some h16) ?_
          refine WL.p rfl rfl rfl (congrArg some h16) ?_
          refine WL.va rfl rfl rfl (X.pickT rfl h16 rfl) ?_
          refine WL.va rfl rfl rfl (X.assignB rfl) ?_
          refine WL.nil ?_
          refine blk_n ?_
          refine thn_n ?_
          refine WF.region ?_
          refine WL.va rfl rfl rfl (X.moveI e10_L0) ?_
          refine WL.va rfl rfl rfl (X.add rfl rfl (w64 (by omega))) ?_
          refine WL.va rfl rfl rfl (X.assignI rfl) ?_
          refine WL.nil ?_
          exact thn_n ⟨_, (by omega), k + 1, _, rfl, rfl, rfl, (by repeat (first | exact hAL0 | refine Agree.put ?_ rfl | refine Agree.named hF12 ?_)), rfl, ⟨by omega, by first | (rw [hasS_take hk2, ← hhk, hbT]; rfl) | (rw [hasS_take hk2, ← hhk, hbF, List.getElem_map]; rfl)⟩⟩
        · have gh16 := h16
          have hbF := gh16
          refine WL.vg rfl (congrArg some h16) rfl rfl (X.move ((hAL0.eq 0).trans (congrFun hF12 0))) ?_
          refine WL.vg rfl (congrArg some h16) rfl rfl (X.moveI e10_L0) ?_
          refine WL.vg rfl (congrArg some h16) rfl rfl (X.idx re rfl rfl (by omega) Try.underlying49 Try.sizeOf55) ?_
          refine WL.vg rfl (congrArg some h16) rfl rfl (X.fieldAddrA rfl Try.underlying55 rfl rfl Try.sizeOf3) ?_
          refine WL.vg rfl (congrArg some h16) rfl rfl (X.loadE re hx3 rfl (by omega) ((SRow.get hk (by decide)).trans rfl) Try.isAgg3) ?_
          refine WL.vg rfl (congrArg some h16) rfl rfl (X.moveI ((hAL0.eq 1).trans (congrFun hF12 1))) ?_
          refine WL.vg rfl (congrArg some h16) rfl rfl (X.eql rfl rfl) ?_
          refine WL.va rfl rfl rfl (X.pickF rfl h16 rfl) ?_
          refine WL.va rfl rfl rfl (X.assignB rfl) ?_
          refine WL.nil ?_
          refine blk_n ?_
          refine thn_n ?_
          refine WF.region ?_
          refine WL.va rfl rfl rfl (X.moveI e10_L0) ?_
          refine WL.va rfl rfl rfl (X.add rfl rfl (w64 (by omega))) ?_
          refine WL.va rfl rfl rfl (X.assignI rfl) ?_
          refine WL.nil ?_
          exact thn_n ⟨_, (by omega), k + 1, _, rfl, rfl, rfl, (by repeat (first | exact hAL0 | refine Agree.put ?_ rfl | refine Agree.named hF12 ?_)), rfl, ⟨by omega, by first | (rw [hasS_take hk2, ← hhk, hbT]; rfl) | (rw [hasS_take hk2, ← hhk, hbF, List.getElem_map]; rfl)⟩⟩
      · have gh1_14 := (of_decide_eq_false h1_14)
        have hhas : hb = hasS (E.map Prod.fst) c := by rw [hhk, List.take_of_length_le (by simp; omega)]
        have hno : noteS (E.map Prod.fst) (⟨c, q, code, dl⟩ : Ses) = layL (ofC c) (overC c) hb (⟨c, q, code, dl⟩ : Ses) (E.map Prod.fst) := by rw [noteS_lay hc0, hhas]
        refine WF.exit ?_
        refine thn_x ?_
        refine thn_x ?_
        refine blk_eq ?_
        refine thn_n ?_
        refine WF.named (fun F19 hF20 => ?_)
        refine WF.cut (fun f' w' => ∃ (g11 : Nat) (dn : Value), f' 11 = at_ g11 ∧ Agree [0, 1, 2, 3, 7, 8, 9, 10, 15, 16, 19, 20, 21, 22] f' F19 ∧ Ext w w' ∧ Blk w' g11 55 (SV.c ((⟨c, q, code, dl⟩ : Ses), dn)) ∧ Bytes w' dn dl) ?_ ?_
        · refine WF.drawn (.q 0 (.q 1 (.q 2 (.q 3 (.q 4 (.q 5 (.b 6 9 (.q 7 (.q 8 (.l 9 .nil))) (.l 6 (.q 7 (.q 8 .nil)))))))))) (fun w' => Ext w1 w') 10 (by kernel_rfl) (by kernel_rfl) (Ext.drew _) ?_
          have := World.grownBy.size (Ext.drew w1)
          refine WO.q rfl rfl rfl rfl (fun w' hE21 => (X.moveI ((congrFun hF20 1).trans ((hAL0.eq 1).trans (congrFun hF12 1))))) ?_
          refine WO.q rfl rfl rfl rfl (fun w' hE21 => (X.moveI ((congrFun hF20 2).trans ((hAL0.eq 2).trans (congrFun hF12 2))))) ?_
          refine WO.q rfl rfl rfl rfl (fun w' hE21 => (X.fieldAddrO (off := 0) ((congrFun hF20 7).trans ((hAL0.eq 7).trans (congrFun hF12 7))) Try.underlying53 rfl rfl Try.sizeOf28)) ?_
          refine WO.q rfl rfl rfl rfl (fun w' hE21 => (X.loadO hO7 hE21 rfl rfl Try.isAgg28)) ?_
          refine WO.q rfl rfl rfl rfl (fun w' hE21 => (X.fieldAddrO (off := 1) ((congrFun hF20 7).trans ((hAL0.eq 7).trans (congrFun hF12 7))) Try.underlying53 rfl rfl Try.sizeOf46)) ?_
          refine WO.q rfl rfl rfl rfl (fun w' hE21 => (X.loadO hO7 hE21 rfl rfl Try.isAgg46)) ?_
          refine WO.b2 ?_ ?_
          · have szq := World.grownBy.size (Ext.trans hx3 (Ext.drew _))
            refine LO.go rfl rfl (OW.enter rfl (by decide) (X.call Try.call85 (evl_cons rfl evl_nil)) (copyBytes_ok _ dl _ (Row.ext hb0 (Ext.trans hx3 (Ext.drew _))) (by omega)) ?_)
            rintro dn w22 ⟨on0, hx23⟩
            have := World.grownBy.size hx23
            refine ⟨(Ext.trans (Ext.drew _) hx23), ?_⟩
            have on := OwnT.of on0
            refine WO.q rfl rfl rfl rfl (fun w' hE21 => (X.buildL (P := Try.prog) (t := 53) (cs := [i64 code, dn]) (evp_cons rfl (evp_cons rfl evp_nil)) Try.type53 Try.underlying53 rfl rfl ⟨rfl, own_one on.own, trivial⟩ rfl)) ?_
            refine WO.q rfl rfl rfl rfl (fun w' hE21 => (X.buildF (P := Try.prog) (t := 55) (cs := (SV.c ((⟨c, q, code, dl⟩ : Ses), dn))) (evp_cons rfl (evp_cons rfl (evp_cons rfl evp_nil))) Try.type55 Try.underlying55 rfl rfl rfl)) ?_
            refine WO.l ?_
            refine LO.go rfl rfl (OW.allocO (cs := [i64 0, i64 0, i64 0, .slice none 0 0]) Try.zeroValue55 rfl ?_ (by decide))
            intro g11 w24 heg11 hlg11 hO11 hx26
            have := World.grownBy.size hx26
            refine ⟨(Ext.trans (Ext.trans (Ext.drew _) hx23) hx26), ?_⟩
            refine WO.nil ?_
            refine WL.op rfl (OW.storeOA hO11 rfl rfl rfl (SV.c_one (e := ((⟨c, q, code, dl⟩ : Ses), dn)) on.rd) Try.sizeOf55 ?_)
            intro w28 hO11 hx30
            have := World.grownBy.size hx30
            replace hO7 := (hO7.ext (Ext.trans (Ext.trans (Ext.drew _) hx23) hx26)).keptO hx30 (by omega)
            replace on := (on.ext hx26).keptO hx30 (by omega)
            replace hO11 : Blk _ _ _ (SV.c ((⟨c, q, code, dl⟩ : Ses), dn)) := hO11
            refine WL.nil ?_
            refine thn_n ?_
            exact ⟨g11, dn, rfl, (by repeat (first | exact (Agree.refl _ F19) | refine Agree.put ?_ rfl | refine Agree.sub hAL0 rfl ?_ | refine Agree.named hF20 ?_ | refine Agree.named hF12 ?_)), (Ext.trans (Ext.trans (Ext.trans hx3 (Ext.drew _)) hx23) (Ext.store hx26 hx30 (by omega))), ⟨hO11, on.rd⟩⟩
          · refine LO.go rfl rfl (OW.allocO (cs := [i64 0, i64 0, i64 0, .slice none 0 0]) Try.zeroValue55 rfl ?_ (by decide))
            intro g11 w32 heg11 hlg11 hO11 hx34
            have := World.grownBy.size hx34
            refine ⟨(Ext.trans (Ext.drew _) hx34), ?_⟩
            refine WO.l ?_
            have szq := World.grownBy.size (Ext.trans (Ext.trans hx3 (Ext.drew _)) hx34)
            refine LO.go rfl rfl (OW.enter rfl (by decide) (X.call Try.call85 (evl_cons rfl evl_nil)) (copyBytes_ok _ dl _ (Row.ext hb0 (Ext.trans (Ext.trans hx3 (Ext.drew _)) hx34)) (by omega)) ?_)
            rintro dn w36 ⟨on0, hx37⟩
            have := World.grownBy.size hx37
            refine ⟨(Ext.trans (Ext.trans (Ext.drew _) hx34) hx37), ?_⟩
            have on := OwnT.of on0
            refine WO.q rfl rfl rfl rfl (fun w' hE21 => (X.buildL (P := Try.prog) (t := 53) (cs := [i64 code, dn]) (evp_cons rfl (evp_cons rfl evp_nil)) Try.type53 Try.underlying53 rfl rfl ⟨rfl, own_one on.own, trivial⟩ rfl)) ?_
            refine WO.q rfl rfl rfl rfl (fun w' hE21 => (X.buildF (P := Try.prog) (t := 55) (cs := (SV.c ((⟨c, q, code, dl⟩ : Ses), dn))) (evp_cons rfl (evp_cons rfl (evp_cons rfl evp_nil))) Try.type55 Try.underlying55 rfl rfl rfl)) ?_
            refine WO.nil ?_
            refine WL.op rfl (OW.storeOA (hO11.ext hx37) rfl rfl rfl (SV.c_one (e := ((⟨c, q, code, dl⟩ : Ses), dn)) on.rd) Try.sizeOf55 ?_)
            intro w38 hO11 hx40
            have := World.grownBy.size hx40
            replace hO7 := (hO7.ext (Ext.trans (Ext.trans (Ext.drew _) hx34) hx37)).keptO hx40 (by omega)
            replace on := on.keptO hx40 (by omega)
            replace hO11 : Blk _ _ _ (SV.c ((⟨c, q, code, dl⟩ : Ses), dn)) := hO11
            refine WL.nil ?_
            refine thn_n ?_
            exact ⟨g11, dn, rfl, (by repeat (first | exact (Agree.refl _ F19) | refine Agree.put ?_ rfl | refine Agree.sub hAL0 rfl ?_ | refine Agree.named hF20 ?_ | refine Agree.named hF12 ?_)), (Ext.trans (Ext.trans hx3 (Ext.drew _)) (Ext.store (Ext.trans hx34 hx37) hx40 (by omega))), ⟨hO11, on.rd⟩⟩
        · rintro fCr8 wCr8 ⟨g11, dn, e11_Cr8, hACr8, hwCr8, ⟨hO11, hdn⟩⟩
          have := World.grownBy.size hwCr8
          have hwC := hwCr8
          refine WF.seq ?_
          refine WF.region ?_
          refine WL.va rfl rfl rfl (X.assign rfl) ?_
          refine WL.nil ?_
          refine thn_n ?_
          refine WF.seq ?_
          refine WF.region ?_
          refine WL.va rfl rfl rfl (X.assignB rfl) ?_
          refine WL.nil ?_
          refine thn_n ?_
          refine WF.seq ?_
          refine WF.seq ?_
          refine WF.region ?_
          refine WL.va rfl rfl rfl (X.assignI rfl) ?_
          refine WL.nil ?_
          refine thn_n ?_
          refine WF.block ?_
          refine WF.named (fun F43 hF44 => ?_)
          refine WF.loopN (fun mL1 f' w' => ∃ (k : Nat) (vo : Value) (O : List SV) (lb : Bool), mL1 = E.length - k ∧ f' 14 = .int .i64 (k : Int) ∧ f' 12 = vo ∧ f' 13 = .bool lb ∧ Agree [0, 1, 2, 3, 7, 8, 9, 10, 11, 15, 16, 19, 20, 21, 22] f' F43 ∧ Ext wCr8 w' ∧ k ≤ E.length ∧ OwnS w' wCr8.heap.size vo O ∧ SDat wCr8 O ∧ O.length ≤ k + lb.toNat ∧ layL (ofC c) (overC c) hb (⟨c, q, code, dl⟩ : Ses) (E.map Prod.fst) = O.map Prod.fst ++ tailL (ofC c) (overC c) hb lb (⟨c, q, code, dl⟩ : Ses) ((E.map Prod.fst).drop k) ∧ (hb = true → lb = false → hasS ((E.map Prod.fst).drop k) c = true)) ?_ ?_
          · exact ⟨_, 0, (.slice none 0 0), [], false, rfl, (congrFun hF44 14), (congrFun hF44 12), (congrFun hF44 13), (Agree.refl _ _), (Ext.refl _), ⟨Nat.zero_le _, OwnS.nil _ _, (fun e he => by cases he), (by simp), rfl, fun h _ => by rw [← h, hhas]; rfl⟩⟩
          · rintro mL1 fL1 wL1 ⟨k, vo, O, lb, hmL1, e14_L1, e12_L1, e13_L1, hAL1, hwL1, ⟨hk0, ho, hsd, hOl, hT, hhs⟩⟩
            have := World.grownBy.size hwL1
            have hlbn : lb.toNat ≤ 1 := Bool.toNat_le lb
            refine WF.seq ?_
            refine WF.seq ?_
            refine WF.region ?_
            refine WL.va rfl rfl rfl (X.moveI e14_L1) ?_
            refine WL.va rfl rfl rfl (X.move ((hAL1.eq 0).trans ((congrFun hF44 0).trans ((hACr8.eq 0).trans ((congrFun hF20 0).trans ((hAL0.eq 0).trans (congrFun hF12 0))))))) ?_
            refine WL.va rfl rfl rfl (X.len re rfl Try.underlying49) ?_
            refine WL.va rfl rfl rfl (X.lss rfl rfl) ?_
            refine WL.nil ?_
            refine thn_n ?_
            refine WF.cond rfl (fun h2_46 => ?_) (fun h2_46 => ?_)
            · have gh2_46 := (of_decide_eq_true h2_46)
              have hk : k < E.length := by omega
              have hk2 : k < (E.map Prod.fst).length := by simpa using hk
              refine WF.skip ?_
              refine thn_n ?_
              refine WF.seq ?_
              refine WF.block ?_
              refine WF.seq ?_
              refine WF.seq ?_
              refine WF.region ?_
              refine WL.va rfl rfl rfl (X.moveB e13_L1) ?_
              refine WL.va rfl rfl rfl (X.not rfl) ?_
              refine WL.va rfl rfl rfl (X.moveB rfl) ?_
              refine WL.split (j := 2) rfl (fun h49 => ?_) (fun h49 => ?_)
              · have gh49 := (nt h49)
                have hlb := gh49
                refine WL.vg rfl (congrArg some h49) rfl rfl (X.moveB ((hAL1.eq 9).trans ((congrFun hF44 9).trans ((hACr8.eq 9).trans ((congrFun hF20 9).trans e9_L0))))) ?_
                refine WL.va rfl rfl rfl (X.pickT rfl h49 rfl) ?_
                refine WL.va rfl rfl rfl (X.moveB rfl) ?_
                refine WL.split (j := 5) rfl (fun h50 => ?_) (fun h50 => ?_)
                · have gh50 := h50
                  have hhb := gh50
                  refine WL.vg rfl (congrArg some h50) rfl rfl (X.move ((hAL1.eq 0).trans ((congrFun hF44 0).trans ((hACr8.eq 0).trans ((congrFun hF20 0).trans ((hAL0.eq 0).trans (congrFun hF12 0))))))) ?_
                  refine WL.vg rfl (congrArg some h50) rfl rfl (X.moveI e14_L1) ?_
                  refine WL.vg rfl (congrArg some h50) rfl rfl (X.idx re rfl rfl (by omega) Try.underlying49 Try.sizeOf55) ?_
                  refine WL.vg rfl (congrArg some h50) rfl rfl (X.fieldAddrA rfl Try.underlying55 rfl rfl Try.sizeOf3) ?_
                  refine WL.vg rfl (congrArg some h50) rfl rfl (X.loadE re (Ext.trans hwCr8 hwL1) rfl (by omega) ((SRow.get hk (by decide)).trans rfl) Try.isAgg3) ?_
                  refine WL.vg rfl (congrArg some h50) rfl rfl (X.moveI ((hAL1.eq 1).trans ((congrFun hF44 1).trans ((hACr8.eq 1).trans ((congrFun hF20 1).trans ((hAL0.eq 1).trans (congrFun hF12 1))))))) ?_
                  refine WL.vg rfl (congrArg some h50) rfl rfl (X.eql rfl rfl) ?_
                  refine WL.va rfl rfl rfl (X.pickT rfl h50 rfl) ?_
                  refine WL.nil ?_
                  refine thn_n ?_
                  refine WF.cond rfl (fun h3_51 => ?_) (fun h3_51 => ?_)
                  · have gh3_51 := (of_decide_eq_true h3_51)
                    have hp := gh3_51
                    refine WF.seq ?_
                    refine WF.region ?_
                    refine WL.va rfl rfl rfl (X.move e12_L1) ?_
                    refine WL.va rfl rfl rfl (X.loadOA hO11 hwL1 ((hAL1.eq 11).trans ((congrFun hF44 11).trans e11_Cr8)) rfl Try.isAgg55 Try.sizeOf55) ?_
                    refine WL.op rfl (OW.lits (vs := [agg (SV.c ((⟨c, q, code, dl⟩ : Ses), dn))]) (evp_cons rfl evp_nil) Try.underlying49 Try.sizeOf55 Try.zeroValue55 ⟨rfl, trivial⟩ rfl rfl rfl ?_ (by decide))
                    intro v54 w53 ho56 hx55
                    have := World.grownBy.size hx55
                    have o1 : World.ownsRow w53 _ 55 4 v54 1 (SV.c ((⟨c, q, code, dl⟩ : Ses), dn)) := ho56
                    have hoP15 := (own_ext ho hx55)
                    have hwP15 := (Ext.trans hwL1 hx55)
                    refine WL.op rfl (OW.append (bytes := 48) hoP15 (Row.of_own o1) (SV.c_one (e := ((⟨c, q, code, dl⟩ : Ses), dn)) hdn) rfl rfl Try.underlying49 Try.type55 rfl rfl rfl rfl (by decide) (by have hlbn : lb.toNat ≤ 1 := Bool.toNat_le lb; unfold maxLen; simp; omega) (by have hlbn : lb.toNat ≤ 1 := Bool.toNat_le lb; simp; omega) (World.grownBy.size hwP15) ?_ (by decide))
                    intro v58 w57 ho60 hx59 hmvhx59
                    replace ho := OwnS.app ho60
                    replace hsd := SDat.app (e := ((⟨c, q, code, dl⟩ : Ses), dn)) hsd hdn
                    replace hOl : (O ++ [((⟨c, q, code, dl⟩ : Ses), dn)]).length ≤ (k + 1) + true.toNat := by rw [List.length_append]; simp; omega
                    replace hT : layL (ofC c) (overC c) hb (⟨c, q, code, dl⟩ : Ses) (E.map Prod.fst) = (O ++ [((⟨c, q, code, dl⟩ : Ses), dn)]).map Prod.fst ++ tailL (ofC c) (overC c) hb true (⟨c, q, code, dl⟩ : Ses) ((E.map Prod.fst).drop (k + 1)) := by rw [List.map_append]; exact tailL_p hk2 hhb hlb (by simpa [ofC] using hp) hT
                    refine WL.va rfl rfl rfl (X.assign rfl) ?_
                    refine WL.nil ?_
                    refine thn_n ?_
                    refine WF.seq ?_
                    refine WF.region ?_
                    refine WL.va rfl rfl rfl (X.assignB rfl) ?_
                    refine WL.nil ?_
                    refine thn_n ?_
                    refine WF.exit ?_
                    refine thn_x ?_
                    refine blk_eq ?_
                    refine thn_n ?_
                    refine WF.region ?_
                    refine WL.va rfl rfl rfl (X.moveI e14_L1) ?_
                    refine WL.va rfl rfl rfl (X.add rfl rfl (w64 (by omega))) ?_
                    refine WL.va rfl rfl rfl (X.assignI rfl) ?_
                    refine WL.nil ?_
                    exact thn_n ⟨_, (by omega), k + 1, _, _, _, rfl, rfl, rfl, rfl, (by repeat (first | exact hAL1 | refine Agree.put ?_ rfl | refine Agree.sub hACr8 rfl ?_ | refine Agree.sub hAL0 rfl ?_ | refine Agree.named hF44 ?_ | refine Agree.named hF20 ?_ | refine Agree.named hF12 ?_)), (Ext.own hwP15 hoP15 (Nat.le_refl _) hx59), ⟨by omega, ho, hsd, hOl, hT, by first | exact fun _ h => Bool.noConfusion h | exact fun h => Bool.noConfusion (hhb.symm.trans h) | exact fun _ h => Bool.noConfusion (hlb.symm.trans h) | (intro h1 h2; have := hhs h1 h2; rw [hasS_drop hk2] at this; simpa [ofC, hnp] using this)⟩⟩
                  · have gh3_51 := (of_decide_eq_false h3_51)
                    have hnp := gh3_51
                    refine WF.skip ?_
                    refine thn_n ?_
                    refine WF.seq ?_
                    refine WF.seq ?_
                    refine WF.region ?_
                    refine WL.va rfl rfl rfl (X.moveB e13_L1) ?_
                    refine WL.va rfl rfl rfl (X.not rfl) ?_
                    refine WL.va rfl rfl rfl (X.moveB rfl) ?_
                    refine WL.vg rfl (congrArg some (congrArg (fun z => !z) (nt h49))) rfl rfl (X.moveB ((hAL1.eq 9).trans ((congrFun hF44 9).trans ((hACr8.eq 9).trans ((congrFun hF20 9).trans e9_L0))))) ?_
                    refine WL.vg rfl (congrArg some (congrArg (fun z => !z) (nt h49))) rfl rfl (X.not rfl) ?_
                    refine WL.va rfl rfl rfl (X.pickT rfl (congrArg (fun z => !z) (nt h49)) rfl) ?_
                    refine WL.va rfl rfl rfl (X.moveB rfl) ?_
                    refine WL.p rfl rfl rfl (congrArg some (congrArg (fun z => !z) h50)) ?_
                    refine WL.p rfl rfl rfl (congrArg some (congrArg (fun z => !z) h50)) ?_
                    refine WL.p rfl rfl rfl (congrArg some (congrArg (fun z => !z) h50)) ?_
                    refine WL.p rfl rfl rfl (congrArg some (congrArg (fun z => !z) h50)) ?_
                    refine WL.p rfl rfl rfl (congrArg some (congrArg (fun z => !z) h50)) ?_
                    refine WL.p rfl rfl rfl (congrArg some (congrArg (fun z => !z) h50)) ?_
                    refine WL.p rfl rfl rfl (congrArg some (congrArg (fun z => !z) h50)) ?_
                    refine WL.va rfl rfl rfl (X.pickF rfl (congrArg (fun z => !z) h50) rfl) ?_
                    refine WL.nil ?_
                    refine thn_n ?_
                    refine WF.cond_f rfl ?_
                    refine WF.skip ?_
                    refine thn_n ?_
                    refine WF.region ?_
                    refine WL.va rfl rfl rfl (X.move e12_L1) ?_
                    refine WL.va rfl rfl rfl (X.move ((hAL1.eq 0).trans ((congrFun hF44 0).trans ((hACr8.eq 0).trans ((congrFun hF20 0).trans ((hAL0.eq 0).trans (congrFun hF12 0))))))) ?_
                    refine WL.va rfl rfl rfl (X.moveI e14_L1) ?_
                    refine WL.va rfl rfl rfl (X.idx re rfl rfl (by omega) Try.underlying49 Try.sizeOf55) ?_
                    refine WL.va rfl rfl rfl (X.loadEl re (Ext.trans hwCr8 hwL1) rfl (by omega) (SRow.el hk) Try.isAgg55 Try.sizeOf55) ?_
                    refine WL.op rfl (OW.lits (vs := [agg (SV.c (E[k]'hk))]) (evp_cons rfl evp_nil) Try.underlying49 Try.sizeOf55 Try.zeroValue55 ⟨rfl, trivial⟩ rfl rfl rfl ?_ (by decide))
                    intro v67 w66 ho69 hx68
                    have := World.grownBy.size hx68
                    have o1 : World.ownsRow w66 _ 55 4 v67 1 (SV.c (E[k]'hk)) := ho69
                    have hoP20 := (own_ext ho hx68)
                    have hwP20 := (Ext.trans hwL1 hx68)
                    refine WL.op rfl (OW.append (bytes := 48) hoP20 (Row.of_own o1) (SDat.one1 de hk) rfl rfl Try.underlying49 Try.type55 rfl rfl rfl rfl (by decide) (by have hlbn : lb.toNat ≤ 1 := Bool.toNat_le lb; unfold maxLen; simp; omega) (by have hlbn : lb.toNat ≤ 1 := Bool.toNat_le lb; simp; omega) (World.grownBy.size hwP20) ?_ (by decide))
                    intro v71 w70 ho73 hx72 hmvhx72
                    replace ho := OwnS.app ho73
                    replace hsd := SDat.app (e := (E[k]'hk)) hsd (Row.ext (de _ (List.getElem_mem hk)) hwC)
                    first
                      | have _ := hC1
                        replace hOl : ((O ++ [((⟨c, q, code, dl⟩ : Ses), dn)]) ++ [(E[k]'hk)]).length ≤ (k + 1) + true.toNat := by { rw [List.length_append, List.length_append]; simp; omega }
                        replace hT : layL (ofC c) (overC c) hb (⟨c, q, code, dl⟩ : Ses) (E.map Prod.fst) = ((O ++ [((⟨c, q, code, dl⟩ : Ses), dn)]) ++ [(E[k]'hk)]).map Prod.fst ++ tailL (ofC c) (overC c) hb true (⟨c, q, code, dl⟩ : Ses) ((E.map Prod.fst).drop (k + 1)) := by { have := tailL_q hk2 hhb hlb (by simpa [overC] using hq) hT; simpa using this }
                      | replace hOl : (O ++ [(E[k]'hk)]).length ≤ (k + 1) + lb.toNat := by { rw [List.length_append]; simp; omega }
                        replace hT : layL (ofC c) (overC c) hb (⟨c, q, code, dl⟩ : Ses) (E.map Prod.fst) = (O ++ [(E[k]'hk)]).map Prod.fst ++ tailL (ofC c) (overC c) hb lb (⟨c, q, code, dl⟩ : Ses) ((E.map Prod.fst).drop (k + 1)) := by { have := tailL_go hk2 (by first | exact .inl hlb | exact .inr (.inl ⟨hhb, by simpa [ofC] using hnp⟩) | exact .inr (.inr ⟨hhb, by simpa [overC] using hnq⟩)) hT; simpa using this }
                    refine WL.va rfl rfl rfl (X.assign rfl) ?_
                    refine WL.nil ?_
                    refine blk_n ?_
                    refine thn_n ?_
                    refine WF.region ?_
                    refine WL.va rfl rfl rfl (X.moveI e14_L1) ?_
                    refine WL.va rfl rfl rfl (X.add rfl rfl (w64 (by omega))) ?_
                    refine WL.va rfl rfl rfl (X.assignI rfl) ?_
                    refine WL.nil ?_
                    exact thn_n ⟨_, (by omega), k + 1, _, _, _, rfl, rfl, rfl, e13_L1, (by repeat (first | exact hAL1 | refine Agree.put ?_ rfl | refine Agree.sub hACr8 rfl ?_ | refine Agree.sub hAL0 rfl ?_ | refine Agree.named hF44 ?_ | refine Agree.named hF20 ?_ | refine Agree.named hF12 ?_)), (Ext.own hwP20 hoP20 (Nat.le_refl _) hx72), ⟨by omega, ho, hsd, hOl, hT, by first | exact fun _ h => Bool.noConfusion h | exact fun h => Bool.noConfusion (hhb.symm.trans h) | exact fun _ h => Bool.noConfusion (hlb.symm.trans h) | (intro h1 h2; have := hhs h1 h2; rw [hasS_drop hk2] at this; simpa [ofC, hnp] using this)⟩⟩
                · have gh50 := h50
                  have hhb := gh50
                  refine WL.p rfl rfl rfl (congrArg some h50) ?_
                  refine WL.p rfl rfl rfl (congrArg some h50) ?_
                  refine WL.p rfl rfl rfl (congrArg some h50) ?_
                  refine WL.p rfl rfl rfl (congrArg some h50) ?_
                  refine WL.p rfl rfl rfl (congrArg some h50) ?_
                  refine WL.p rfl rfl rfl (congrArg some h50) ?_
                  refine WL.p rfl rfl rfl (congrArg some h50) ?_
                  refine WL.va rfl rfl rfl (X.pickF rfl h50 rfl) ?_
                  refine WL.nil ?_
                  refine thn_n ?_
                  refine WF.cond_f rfl ?_
                  refine WF.skip ?_
                  refine thn_n ?_
                  refine WF.seq ?_
                  refine WF.seq ?_
                  refine WF.region ?_
                  refine WL.va rfl rfl rfl (X.moveB e13_L1) ?_
                  refine WL.va rfl rfl rfl (X.not rfl) ?_
                  refine WL.va rfl rfl rfl (X.moveB rfl) ?_
                  refine WL.vg rfl (congrArg some (congrArg (fun z => !z) (nt h49))) rfl rfl (X.moveB ((hAL1.eq 9).trans ((congrFun hF44 9).trans ((hACr8.eq 9).trans ((congrFun hF20 9).trans e9_L0))))) ?_
                  refine WL.vg rfl (congrArg some (congrArg (fun z => !z) (nt h49))) rfl rfl (X.not rfl) ?_
                  refine WL.va rfl rfl rfl (X.pickT rfl (congrArg (fun z => !z) (nt h49)) rfl) ?_
                  refine WL.va rfl rfl rfl (X.moveB rfl) ?_
                  refine WL.vg rfl (congrArg some (congrArg (fun z => !z) h50)) rfl rfl (X.move ((hAL1.eq 0).trans ((congrFun hF44 0).trans ((hACr8.eq 0).trans ((congrFun hF20 0).trans ((hAL0.eq 0).trans (congrFun hF12 0))))))) ?_
                  refine WL.vg rfl (congrArg some (congrArg (fun z => !z) h50)) rfl rfl (X.moveI e14_L1) ?_
                  refine WL.vg rfl (congrArg some (congrArg (fun z => !z) h50)) rfl rfl (X.idx re rfl rfl (by omega) Try.underlying49 Try.sizeOf55) ?_
                  refine WL.vg rfl (congrArg some (congrArg (fun z => !z) h50)) rfl rfl (X.fieldAddrA rfl Try.underlying55 rfl rfl Try.sizeOf3) ?_
                  refine WL.vg rfl (congrArg some (congrArg (fun z => !z) h50)) rfl rfl (X.loadE re (Ext.trans hwCr8 hwL1) rfl (by omega) ((SRow.get hk (by decide)).trans rfl) Try.isAgg3) ?_
                  refine WL.vg rfl (congrArg some (congrArg (fun z => !z) h50)) rfl rfl (X.moveI ((hAL1.eq 1).trans ((congrFun hF44 1).trans ((hACr8.eq 1).trans ((congrFun hF20 1).trans ((hAL0.eq 1).trans (congrFun hF12 1))))))) ?_
                  refine WL.vg rfl (congrArg some (congrArg (fun z => !z) h50)) rfl rfl (X.gtr rfl rfl) ?_
                  refine WL.va rfl rfl rfl (X.pickT rfl (congrArg (fun z => !z) h50) rfl) ?_
                  refine WL.nil ?_
                  refine thn_n ?_
                  refine WF.cond rfl (fun h4_77 => ?_) (fun h4_77 => ?_)
                  · have gh4_77 := (of_decide_eq_true h4_77)
                    have hq := gh4_77
                    refine WF.seq ?_
                    refine WF.region ?_
                    refine WL.va rfl rfl rfl (X.move e12_L1) ?_
                    refine WL.va rfl rfl rfl (X.loadOA hO11 hwL1 ((hAL1.eq 11).trans ((congrFun hF44 11).trans e11_Cr8)) rfl Try.isAgg55 Try.sizeOf55) ?_
                    refine WL.op rfl (OW.lits (vs := [agg (SV.c ((⟨c, q, code, dl⟩ : Ses), dn))]) (evp_cons rfl evp_nil) Try.underlying49 Try.sizeOf55 Try.zeroValue55 ⟨rfl, trivial⟩ rfl rfl rfl ?_ (by decide))
                    intro v80 w79 ho82 hx81
                    have := World.grownBy.size hx81
                    have o1 : World.ownsRow w79 _ 55 4 v80 1 (SV.c ((⟨c, q, code, dl⟩ : Ses), dn)) := ho82
                    have hoP18 := (own_ext ho hx81)
                    have hwP18 := (Ext.trans hwL1 hx81)
                    refine WL.op rfl (OW.append (bytes := 48) hoP18 (Row.of_own o1) (SV.c_one (e := ((⟨c, q, code, dl⟩ : Ses), dn)) hdn) rfl rfl Try.underlying49 Try.type55 rfl rfl rfl rfl (by decide) (by have hlbn : lb.toNat ≤ 1 := Bool.toNat_le lb; unfold maxLen; simp; omega) (by have hlbn : lb.toNat ≤ 1 := Bool.toNat_le lb; simp; omega) (World.grownBy.size hwP18) ?_ (by decide))
                    intro v84 w83 ho86 hx85 hmvhx85
                    replace ho := OwnS.app ho86
                    replace hsd := SDat.app (e := ((⟨c, q, code, dl⟩ : Ses), dn)) hsd hdn
                    have hC1 : O.length ≤ k := by rw [hlb] at hOl; simpa using hOl
                    refine WL.va rfl rfl rfl (X.assign rfl) ?_
                    refine WL.nil ?_
                    refine thn_n ?_
                    refine WF.region ?_
                    refine WL.va rfl rfl rfl (X.assignB rfl) ?_
                    refine WL.nil ?_
                    refine thn_n ?_
                    refine WF.region ?_
                    refine WL.va rfl rfl rfl (X.move rfl) ?_
                    refine WL.va rfl rfl rfl (X.move ((hAL1.eq 0).trans ((congrFun hF44 0).trans ((hACr8.eq 0).trans ((congrFun hF20 0).trans ((hAL0.eq 0).trans (congrFun hF12 0))))))) ?_
                    refine WL.va rfl rfl rfl (X.moveI e14_L1) ?_
                    refine WL.va rfl rfl rfl (X.idx re rfl rfl (by omega) Try.underlying49 Try.sizeOf55) ?_
                    refine WL.va rfl rfl rfl (X.loadEl re (Ext.trans hwCr8 (Ext.own hwP18 hoP18 (Nat.le_refl _) hx85)) rfl (by omega) (SRow.el hk) Try.isAgg55 Try.sizeOf55) ?_
                    refine WL.op rfl (OW.lits (vs := [agg (SV.c (E[k]'hk))]) (evp_cons rfl evp_nil) Try.underlying49 Try.sizeOf55 Try.zeroValue55 ⟨rfl, trivial⟩ rfl rfl rfl ?_ (by decide))
                    intro v89 w88 ho91 hx90
                    have := World.grownBy.size hx90
                    have o1 : World.ownsRow w88 _ 55 4 v89 1 (SV.c (E[k]'hk)) := ho91
                    have hoP20 := (own_ext ho hx90)
                    have hwP20 := (Ext.trans (Ext.own hwP18 hoP18 (Nat.le_refl _) hx85) hx90)
                    refine WL.op rfl (OW.append (bytes := 48) hoP20 (Row.of_own o1) (SDat.one1 de hk) rfl rfl Try.underlying49 Try.type55 rfl rfl rfl rfl (by decide) (by have hlbn : lb.toNat ≤ 1 := Bool.toNat_le lb; unfold maxLen; simp; omega) (by have hlbn : lb.toNat ≤ 1 := Bool.toNat_le lb; simp; omega) (World.grownBy.size hwP20) ?_ (by decide))
                    intro v93 w92 ho95 hx94 hmvhx94
                    replace ho := OwnS.app ho95
                    replace hsd := SDat.app (e := (E[k]'hk)) hsd (Row.ext (de _ (List.getElem_mem hk)) hwC)
                    first
                      | have _ := hC1
                        replace hOl : ((O ++ [((⟨c, q, code, dl⟩ : Ses), dn)]) ++ [(E[k]'hk)]).length ≤ (k + 1) + true.toNat := by { rw [List.length_append, List.length_append]; simp; omega }
                        replace hT : layL (ofC c) (overC c) hb (⟨c, q, code, dl⟩ : Ses) (E.map Prod.fst) = ((O ++ [((⟨c, q, code, dl⟩ : Ses), dn)]) ++ [(E[k]'hk)]).map Prod.fst ++ tailL (ofC c) (overC c) hb true (⟨c, q, code, dl⟩ : Ses) ((E.map Prod.fst).drop (k + 1)) := by { have := tailL_q hk2 hhb hlb (by simpa [overC] using hq) hT; simpa using this }
                      | replace hOl : (O ++ [(E[k]'hk)]).length ≤ (k + 1) + lb.toNat := by { rw [List.length_append]; simp; omega }
                        replace hT : layL (ofC c) (overC c) hb (⟨c, q, code, dl⟩ : Ses) (E.map Prod.fst) = (O ++ [(E[k]'hk)]).map Prod.fst ++ tailL (ofC c) (overC c) hb lb (⟨c, q, code, dl⟩ : Ses) ((E.map Prod.fst).drop (k + 1)) := by { have := tailL_go hk2 (by first | exact .inl hlb | exact .inr (.inl ⟨hhb, by simpa [ofC] using hnp⟩) | exact .inr (.inr ⟨hhb, by simpa [overC] using hnq⟩)) hT; simpa using this }
                    refine WL.va rfl rfl rfl (X.assign rfl) ?_
                    refine WL.nil ?_
                    refine blk_n ?_
                    refine thn_n ?_
                    refine WF.region ?_
                    refine WL.va rfl rfl rfl (X.moveI e14_L1) ?_
                    refine WL.va rfl rfl rfl (X.add rfl rfl (w64 (by omega))) ?_
                    refine WL.va rfl rfl rfl (X.assignI rfl) ?_
                    refine WL.nil ?_
                    exact thn_n ⟨_, (by omega), k + 1, _, _, _, rfl, rfl, rfl, rfl, (by repeat (first | exact hAL1 | refine Agree.put ?_ rfl | refine Agree.sub hACr8 rfl ?_ | refine Agree.sub hAL0 rfl ?_ | refine Agree.named hF44 ?_ | refine Agree.named hF20 ?_ | refine Agree.named hF12 ?_)), (Ext.own hwP20 hoP20 (Nat.le_refl _) hx94), ⟨by omega, ho, hsd, hOl, hT, by first | exact fun _ h => Bool.noConfusion h | exact fun h => Bool.noConfusion (hhb.symm.trans h) | exact fun _ h => Bool.noConfusion (hlb.symm.trans h) | (intro h1 h2; have := hhs h1 h2; rw [hasS_drop hk2] at this; simpa [ofC, hnp] using this)⟩⟩
                  · have gh4_77 := (of_decide_eq_false h4_77)
                    have hnq := gh4_77
                    refine WF.skip ?_
                    refine thn_n ?_
                    refine WF.region ?_
                    refine WL.va rfl rfl rfl (X.move e12_L1) ?_
                    refine WL.va rfl rfl rfl (X.move ((hAL1.eq 0).trans ((congrFun hF44 0).trans ((hACr8.eq 0).trans ((congrFun hF20 0).trans ((hAL0.eq 0).trans (congrFun hF12 0))))))) ?_
                    refine WL.va rfl rfl rfl (X.moveI e14_L1) ?_
                    refine WL.va rfl rfl rfl (X.idx re rfl rfl (by omega) Try.underlying49 Try.sizeOf55) ?_
                    refine WL.va rfl rfl rfl (X.loadEl re (Ext.trans hwCr8 hwL1) rfl (by omega) (SRow.el hk) Try.isAgg55 Try.sizeOf55) ?_
                    refine WL.op rfl (OW.lits (vs := [agg (SV.c (E[k]'hk))]) (evp_cons rfl evp_nil) Try.underlying49 Try.sizeOf55 Try.zeroValue55 ⟨rfl, trivial⟩ rfl rfl rfl ?_ (by decide))
                    intro v97 w96 ho99 hx98
                    have := World.grownBy.size hx98
                    have o1 : World.ownsRow w96 _ 55 4 v97 1 (SV.c (E[k]'hk)) := ho99
                    have hoP20 := (own_ext ho hx98)
                    have hwP20 := (Ext.trans hwL1 hx98)
                    refine WL.op rfl (OW.append (bytes := 48) hoP20 (Row.of_own o1) (SDat.one1 de hk) rfl rfl Try.underlying49 Try.type55 rfl rfl rfl rfl (by decide) (by have hlbn : lb.toNat ≤ 1 := Bool.toNat_le lb; unfold maxLen; simp; omega) (by have hlbn : lb.toNat ≤ 1 := Bool.toNat_le lb; simp; omega) (World.grownBy.size hwP20) ?_ (by decide))
                    intro v101 w100 ho103 hx102 hmvhx102
                    replace ho := OwnS.app ho103
                    replace hsd := SDat.app (e := (E[k]'hk)) hsd (Row.ext (de _ (List.getElem_mem hk)) hwC)
                    first
                      | have _ := hC1
                        replace hOl : ((O ++ [((⟨c, q, code, dl⟩ : Ses), dn)]) ++ [(E[k]'hk)]).length ≤ (k + 1) + true.toNat := by { rw [List.length_append, List.length_append]; simp; omega }
                        replace hT : layL (ofC c) (overC c) hb (⟨c, q, code, dl⟩ : Ses) (E.map Prod.fst) = ((O ++ [((⟨c, q, code, dl⟩ : Ses), dn)]) ++ [(E[k]'hk)]).map Prod.fst ++ tailL (ofC c) (overC c) hb true (⟨c, q, code, dl⟩ : Ses) ((E.map Prod.fst).drop (k + 1)) := by { have := tailL_q hk2 hhb hlb (by simpa [overC] using hq) hT; simpa using this }
                      | replace hOl : (O ++ [(E[k]'hk)]).length ≤ (k + 1) + lb.toNat := by { rw [List.length_append]; simp; omega }
                        replace hT : layL (ofC c) (overC c) hb (⟨c, q, code, dl⟩ : Ses) (E.map Prod.fst) = (O ++ [(E[k]'hk)]).map Prod.fst ++ tailL (ofC c) (overC c) hb lb (⟨c, q, code, dl⟩ : Ses) ((E.map Prod.fst).drop (k + 1)) := by { have := tailL_go hk2 (by first | exact .inl hlb | exact .inr (.inl ⟨hhb, by simpa [ofC] using hnp⟩) | exact .inr (.inr ⟨hhb, by simpa [overC] using hnq⟩)) hT; simpa using this }
                    refine WL.va rfl rfl rfl (X.assign rfl) ?_
                    refine WL.nil ?_
                    refine blk_n ?_
                    refine thn_n ?_
                    refine WF.region ?_
                    refine WL.va rfl rfl rfl (X.moveI e14_L1) ?_
                    refine WL.va rfl rfl rfl (X.add rfl rfl (w64 (by omega))) ?_
                    refine WL.va rfl rfl rfl (X.assignI rfl) ?_
                    refine WL.nil ?_
                    exact thn_n ⟨_, (by omega), k + 1, _, _, _, rfl, rfl, rfl, e13_L1, (by repeat (first | exact hAL1 | refine Agree.put ?_ rfl | refine Agree.sub hACr8 rfl ?_ | refine Agree.sub hAL0 rfl ?_ | refine Agree.named hF44 ?_ | refine Agree.named hF20 ?_ | refine Agree.named hF12 ?_)), (Ext.own hwP20 hoP20 (Nat.le_refl _) hx102), ⟨by omega, ho, hsd, hOl, hT, by first | exact fun _ h => Bool.noConfusion h | exact fun h => Bool.noConfusion (hhb.symm.trans h) | exact fun _ h => Bool.noConfusion (hlb.symm.trans h) | (intro h1 h2; have := hhs h1 h2; rw [hasS_drop hk2] at this; simpa [ofC, hnp] using this)⟩⟩
              · have gh49 := (nf h49)
                have hlb := gh49
                refine WL.p rfl rfl rfl (congrArg some h49) ?_
                refine WL.va rfl rfl rfl (X.pickF rfl h49 rfl) ?_
                refine WL.va rfl rfl rfl (X.moveB rfl) ?_
                refine WL.p rfl rfl rfl rfl ?_
                refine WL.p rfl rfl rfl rfl ?_
                refine WL.p rfl rfl rfl rfl ?_
                refine WL.p rfl rfl rfl rfl ?_
                refine WL.p rfl rfl rfl rfl ?_
                refine WL.p rfl rfl rfl rfl ?_
                refine WL.p rfl rfl rfl rfl ?_
                refine WL.va rfl rfl rfl (X.pickF rfl rfl rfl) ?_
                refine WL.nil ?_
                refine thn_n ?_
                refine WF.cond_f rfl ?_
                refine WF.skip ?_
                refine thn_n ?_
                refine WF.seq ?_
                refine WF.seq ?_
                refine WF.region ?_
                refine WL.va rfl rfl rfl (X.moveB e13_L1) ?_
                refine WL.va rfl rfl rfl (X.not rfl) ?_
                refine WL.va rfl rfl rfl (X.moveB rfl) ?_
                refine WL.p rfl rfl rfl (congrArg some (congrArg (fun z => !z) (nf h49))) ?_
                refine WL.p rfl rfl rfl (congrArg some (congrArg (fun z => !z) (nf h49))) ?_
                refine WL.va rfl rfl rfl (X.pickF rfl (congrArg (fun z => !z) (nf h49)) rfl) ?_
                refine WL.va rfl rfl rfl (X.moveB rfl) ?_
                refine WL.p rfl rfl rfl rfl ?_
                refine WL.p rfl rfl rfl rfl ?_
                refine WL.p rfl rfl rfl rfl ?_
                refine WL.p rfl rfl rfl rfl ?_
                refine WL.p rfl rfl rfl rfl ?_
                refine WL.p rfl rfl rfl rfl ?_
                refine WL.p rfl rfl rfl rfl ?_
                refine WL.va rfl rfl rfl (X.pickF rfl rfl rfl) ?_
                refine WL.nil ?_
                refine thn_n ?_
                refine WF.cond_f rfl ?_
                refine WF.skip ?_
                refine thn_n ?_
                refine WF.region ?_
                refine WL.va rfl rfl rfl (X.move e12_L1) ?_
                refine WL.va rfl rfl rfl (X.move ((hAL1.eq 0).trans ((congrFun hF44 0).trans ((hACr8.eq 0).trans ((congrFun hF20 0).trans ((hAL0.eq 0).trans (congrFun hF12 0))))))) ?_
                refine WL.va rfl rfl rfl (X.moveI e14_L1) ?_
                refine WL.va rfl rfl rfl (X.idx re rfl rfl (by omega) Try.underlying49 Try.sizeOf55) ?_
                refine WL.va rfl rfl rfl (X.loadEl re (Ext.trans hwCr8 hwL1) rfl (by omega) (SRow.el hk) Try.isAgg55 Try.sizeOf55) ?_
                refine WL.op rfl (OW.lits (vs := [agg (SV.c (E[k]'hk))]) (evp_cons rfl evp_nil) Try.underlying49 Try.sizeOf55 Try.zeroValue55 ⟨rfl, trivial⟩ rfl rfl rfl ?_ (by decide))
                intro v110 w109 ho112 hx111
                have := World.grownBy.size hx111
                have o1 : World.ownsRow w109 _ 55 4 v110 1 (SV.c (E[k]'hk)) := ho112
                have hoP20 := (own_ext ho hx111)
                have hwP20 := (Ext.trans hwL1 hx111)
                refine WL.op rfl (OW.append (bytes := 48) hoP20 (Row.of_own o1) (SDat.one1 de hk) rfl rfl Try.underlying49 Try.type55 rfl rfl rfl rfl (by decide) (by have hlbn : lb.toNat ≤ 1 := Bool.toNat_le lb; unfold maxLen; simp; omega) (by have hlbn : lb.toNat ≤ 1 := Bool.toNat_le lb; simp; omega) (World.grownBy.size hwP20) ?_ (by decide))
                intro v114 w113 ho116 hx115 hmvhx115
                replace ho := OwnS.app ho116
                replace hsd := SDat.app (e := (E[k]'hk)) hsd (Row.ext (de _ (List.getElem_mem hk)) hwC)
                first
                  | have _ := hC1
                    replace hOl : ((O ++ [((⟨c, q, code, dl⟩ : Ses), dn)]) ++ [(E[k]'hk)]).length ≤ (k + 1) + true.toNat := by { rw [List.length_append, List.length_append]; simp; omega }
                    replace hT : layL (ofC c) (overC c) hb (⟨c, q, code, dl⟩ : Ses) (E.map Prod.fst) = ((O ++ [((⟨c, q, code, dl⟩ : Ses), dn)]) ++ [(E[k]'hk)]).map Prod.fst ++ tailL (ofC c) (overC c) hb true (⟨c, q, code, dl⟩ : Ses) ((E.map Prod.fst).drop (k + 1)) := by { have := tailL_q hk2 hhb hlb (by simpa [overC] using hq) hT; simpa using this }
                  | replace hOl : (O ++ [(E[k]'hk)]).length ≤ (k + 1) + lb.toNat := by { rw [List.length_append]; simp; omega }
                    replace hT : layL (ofC c) (overC c) hb (⟨c, q, code, dl⟩ : Ses) (E.map Prod.fst) = (O ++ [(E[k]'hk)]).map Prod.fst ++ tailL (ofC c) (overC c) hb lb (⟨c, q, code, dl⟩ : Ses) ((E.map Prod.fst).drop (k + 1)) := by { have := tailL_go hk2 (by first | exact .inl hlb | exact .inr (.inl ⟨hhb, by simpa [ofC] using hnp⟩) | exact .inr (.inr ⟨hhb, by simpa [overC] using hnq⟩)) hT; simpa using this }
                refine WL.va rfl rfl rfl (X.assign rfl) ?_
                refine WL.nil ?_
                refine blk_n ?_
                refine thn_n ?_
                refine WF.region ?_
                refine WL.va rfl rfl rfl (X.moveI e14_L1) ?_
                refine WL.va rfl rfl rfl (X.add rfl rfl (w64 (by omega))) ?_
                refine WL.va rfl rfl rfl (X.assignI rfl) ?_
                refine WL.nil ?_
                exact thn_n ⟨_, (by omega), k + 1, _, _, _, rfl, rfl, rfl, e13_L1, (by repeat (first | exact hAL1 | refine Agree.put ?_ rfl | refine Agree.sub hACr8 rfl ?_ | refine Agree.sub hAL0 rfl ?_ | refine Agree.named hF44 ?_ | refine Agree.named hF20 ?_ | refine Agree.named hF12 ?_)), (Ext.own hwP20 hoP20 (Nat.le_refl _) hx115), ⟨by omega, ho, hsd, hOl, hT, by first | exact fun _ h => Bool.noConfusion h | exact fun h => Bool.noConfusion (hhb.symm.trans h) | exact fun _ h => Bool.noConfusion (hlb.symm.trans h) | (intro h1 h2; have := hhs h1 h2; rw [hasS_drop hk2] at this; simpa [ofC, hnp] using this)⟩⟩
            · have gh2_46 := (of_decide_eq_false h2_46)
              have hend := tailL_end (by simp; omega) (fun hlf => by cases hbb : hb; rfl; have := hhs hbb hlf; rw [List.drop_of_length_le (by simp; omega)] at this; simp [hasS] at this) hT
              refine WF.exit ?_
              refine thn_x ?_
              refine thn_x ?_
              refine blk_eq ?_
              refine thn_n ?_
              refine WF.seq ?_
              refine WF.seq ?_
              refine WF.region ?_
              refine WL.va rfl rfl rfl (X.moveB e13_L1) ?_
              refine WL.va rfl rfl rfl (X.not rfl) ?_
              refine WL.nil ?_
              refine thn_n ?_
              refine WF.cond rfl (fun h5_117 => ?_) (fun h5_117 => ?_)
              · have gh5_117 := (nt h5_117)
                have hlbe := gh5_117
                refine WF.region ?_
                refine WL.va rfl rfl rfl (X.move e12_L1) ?_
                refine WL.va rfl rfl rfl (X.loadOA hO11 hwL1 ((hAL1.eq 11).trans ((congrFun hF44 11).trans e11_Cr8)) rfl Try.isAgg55 Try.sizeOf55) ?_
                refine WL.op rfl (OW.lits (vs := [agg (SV.c ((⟨c, q, code, dl⟩ : Ses), dn))]) (evp_cons rfl evp_nil) Try.underlying49 Try.sizeOf55 Try.zeroValue55 ⟨rfl, trivial⟩ rfl rfl rfl ?_ (by decide))
                intro v120 w119 ho122 hx121
                have := World.grownBy.size hx121
                have o1 : World.ownsRow w119 _ 55 4 v120 1 (SV.c ((⟨c, q, code, dl⟩ : Ses), dn)) := ho122
                have hoP22 := (own_ext ho hx121)
                have hwP22 := (Ext.trans hwL1 hx121)
                refine WL.op rfl (OW.append (bytes := 48) hoP22 (Row.of_own o1) (SV.c_one (e := ((⟨c, q, code, dl⟩ : Ses), dn)) hdn) rfl rfl Try.underlying49 Try.type55 rfl rfl rfl rfl (by decide) (by have hlbn : lb.toNat ≤ 1 := Bool.toNat_le lb; unfold maxLen; simp; omega) (by have hlbn : lb.toNat ≤ 1 := Bool.toNat_le lb; simp; omega) (World.grownBy.size hwP22) ?_ (by decide))
                intro v124 w123 ho126 hx125 hmvhx125
                replace ho := OwnS.app ho126
                replace hsd := SDat.app (e := ((⟨c, q, code, dl⟩ : Ses), dn)) hsd hdn
                have hfin : noteS (E.map Prod.fst) (⟨c, q, code, dl⟩ : Ses) = (O ++ [((⟨c, q, code, dl⟩ : Ses), dn)]).map Prod.fst := by rw [hno, hend, hlbe]; simp
                refine WL.va rfl rfl rfl (X.assign rfl) ?_
                refine WL.nil ?_
                refine thn_n ?_
                refine WF.seq ?_
                refine WF.region ?_
                refine WL.va rfl rfl rfl (X.move rfl) ?_
                have szq := World.grownBy.size (Ext.trans hwCr8 (Ext.own hwP22 hoP22 (Nat.le_refl _) hx125))
                refine WL.c rfl rfl rfl (X.call Try.call81 (evl_cons rfl evl_nil)) (copyS_ok _ _ _ ⟨_, rfl, Row.of_own ho, hsd.ext (Ext.own hwP22 hoP22 (Nat.le_refl _) hx125)⟩ (hfin ▸ (show (noteS (E.map Prod.fst) (⟨c, q, code, dl⟩ : Ses)).length ≤ 1000000 by have := (noteS_len (l := (E.map Prod.fst)) (s := (⟨c, q, code, dl⟩ : Ses))).1; simp at this ⊢; omega)) (fun s hs => by rcases noteS_mem (hfin.symm ▸ hs) with rfl | hs; exact hdl; exact hd _ hs)) ?_
                rintro v128 w127 ⟨⟨F, hF, hoF⟩, hx129⟩
                have := World.grownBy.size hx129
                refine WL.va rfl rfl rfl (X.assign rfl) ?_
                refine WL.nil ?_
                refine thn_n ?_
                refine WF.ret ?_
                refine fin_r ?_
                exact ⟨⟨F, by rw [hF, hfin], hoF.mono szq⟩, (Ext.trans (Ext.trans hwCr8 (Ext.own hwP22 hoP22 (Nat.le_refl _) hx125)) hx129)⟩
              · have gh5_117 := (nf h5_117)
                have hlbe := gh5_117
                have hfin : noteS (E.map Prod.fst) (⟨c, q, code, dl⟩ : Ses) = O.map Prod.fst := by rw [hno, hend, hlbe]; rfl
                refine WF.skip ?_
                refine thn_n ?_
                refine WF.seq ?_
                refine WF.region ?_
                refine WL.va rfl rfl rfl (X.move e12_L1) ?_
                have szq := World.grownBy.size (Ext.trans hwCr8 hwL1)
                refine WL.c rfl rfl rfl (X.call Try.call81 (evl_cons rfl evl_nil)) (copyS_ok _ _ _ ⟨_, rfl, Row.of_own ho, hsd.ext hwL1⟩ (hfin ▸ (show (noteS (E.map Prod.fst) (⟨c, q, code, dl⟩ : Ses)).length ≤ 1000000 by have := (noteS_len (l := (E.map Prod.fst)) (s := (⟨c, q, code, dl⟩ : Ses))).1; simp at this ⊢; omega)) (fun s hs => by rcases noteS_mem (hfin.symm ▸ hs) with rfl | hs; exact hdl; exact hd _ hs)) ?_
                rintro v131 w130 ⟨⟨F, hF, hoF⟩, hx132⟩
                have := World.grownBy.size hx132
                refine WL.va rfl rfl rfl (X.assign rfl) ?_
                refine WL.nil ?_
                refine thn_n ?_
                refine WF.ret ?_
                refine fin_r ?_
                exact ⟨⟨F, by rw [hF, hfin], hoF.mono szq⟩, (Ext.trans (Ext.trans hwCr8 hwL1) hx132)⟩

end Go.Proofs.Ytpimnlgfhpnjnaa.Se
