/- The walks of what reads a map. -/
import Derived.Test.YtpimnlgfhpnjnaaRdmn
namespace Go.Proofs.Ytpimnlgfhpnjnaa
open Go Go.RowKit Kf
set_option maxRecDepth 20000

/-- a row of one's own that lies in none of three blocks, and below T -/
structure OwnX (w : World) (B T : Nat) (e : TypeId) (sz : Nat) (v : Value) (n : Nat) (cs : List Value) (a b c : Nat) : Prop where
  own : w.ownsRow B e sz v n cs
  top : ∀ x, v.ownBlock = some x → x < T
  ne : ∀ x, v.ownBlock = some x → x ≠ a ∧ x ≠ b ∧ x ≠ c
section
variable {w w' : World} {B T n sz a b c : Nat} {e : TypeId} {v v2 : Value} {cs ds : List Value} {row : Option Nat}
theorem OwnX.ext (h : OwnX w B T e sz v n cs a b c) (g : Ext w w') : OwnX w' B T e sz v n cs a b c := ⟨own_ext h.own g, h.top, h.ne⟩
theorem OwnX.rd (h : OwnX w B T e sz v n cs a b c) : Row w v n sz cs := Row.of_own h.own
theorem OwnX.kept (h : OwnX w B T e sz v n cs a b c) (k : w.grownBy w' row) (hne : ∀ g, row = some g → g < B ∨ T ≤ g) : OwnX w' B T e sz v n cs a b c :=
  ⟨((⟨h.own, h.top⟩ : OwnT w B T e sz v n cs).kept k hne).own, h.top, h.ne⟩
theorem OwnX.keptO {g' : Nat} (h : OwnX w B T e sz v n cs a b c) (k : w.grownBy w' (some g')) (hne : g' < B ∨ T ≤ g' ∨ g' = a ∨ g' = b ∨ g' = c) : OwnX w' B T e sz v n cs a b c := by
  refine ⟨h.own.kept k ?_, h.top, h.ne⟩
  cases hb : v.ownBlock with
  | none => exact .inl rfl
  | some x =>
    right
    have h1 := (h.own.lt x hb).1
    have h2 := h.top x hb
    have h3 := h.ne x hb
    intro q
    injection q with q
    omega
theorem OwnX.nil (w : World) (B T : Nat) (e : TypeId) (sz a b c : Nat) : OwnX w B T e sz nilS 0 [] a b c := ⟨World.ownsRow_nil w B e sz, fun x h => (by cases h), fun x h => by cases h⟩
theorem OwnX.up (h : OwnX w B T e sz v n cs a b c) : OwnX w B w.heap.size e sz v n cs a b c := ⟨h.own, fun x hx => (h.own.lt x hx).2, h.ne⟩
/-- behind an append -/
theorem OwnX.moved {m : Nat} (h : OwnX w B T e sz v n cs a b c) (o : w'.ownsRow B e sz v2 m ds) (hm : Kf.Moved w v v2) (ha : a < w.heap.size) (hb : b < w.heap.size) (hc : c < w.heap.size) : OwnX w' B w'.heap.size e sz v2 m ds a b c :=
  ⟨o, fun x hx => (o.lt x hx).2, fun x hx => by
    rcases hm with q | q
    · exact h.ne x (q ▸ hx)
    · have := q x hx; omega⟩
end

theorem PRT.of {w : World} {B a : Nat} {r D left : Value} {L : List UInt8} {s : Pk.RS} (h : PR w B r D L a s left) : PRT w B w.heap.size r D L s := ⟨⟨a, left, h⟩, fun b hb => (h.var.row.lt b hb).2, fun b hb => (h.own.lt b hb).2⟩
theorem RRT.of {w : World} {B a : Nat} {x vb : Value} {L : List UInt8} {s : Pk.RS} (h : RR w B x vb L a s) : RRT w B w.heap.size x vb L s := ⟨⟨a, h⟩, fun b hb => (h.var.row.lt b hb).2, fun b hb => (h.own.lt b hb).2⟩
theorem RR.short {w : World} {B a : Nat} {x vb : Value} {L : List UInt8} {s : Pk.RS} (h : RR w B x vb L a s) : s.left.length ≤ L.length := by
  cases hb : s.bad
  · have := h.len hb; omega
  · rw [h.ok hb]; exact Nat.zero_le _
section
variable {w : World} {B T : Nat} {r D x vb : Value} {L : List UInt8} {s : Pk.RS}
theorem PRT.len (h : PRT w B T r D L s) : s.left.length ≤ L.length ∧ L.length ≤ 140737488355328 := by
  obtain ⟨⟨a, left, hp⟩, _⟩ := h
  have := hp.inn; exact ⟨by omega, hp.small⟩
theorem PRT.low (h : PRT w B T r D L s) : ∀ b, (asRow r).ownBlock = some b → B ≤ b := by
  obtain ⟨⟨a, left, hp⟩, _⟩ := h
  exact fun b hb => (hp.var.row.lt b hb).1
theorem RRT.low (h : RRT w B T x vb L s) : ∀ b, (asRow x).ownBlock = some b → B ≤ b := by
  obtain ⟨⟨a, hp⟩, _⟩ := h
  exact fun b hb => (hp.var.row.lt b hb).1
theorem RRT.len (h : RRT w B T x vb L s) : s.left.length ≤ L.length ∧ L.length ≤ 140737488355328 := by
  obtain ⟨⟨a, hp⟩, _⟩ := h
  exact ⟨hp.short, hp.small⟩
theorem rIntT (h : PRT w B T r D L s) : FnOk Try.prog 73 [r] w (fun v w' => v = i64 s.int.1 ∧ PRT w' B T r D L s.int.2 ∧ w.grownBy w' (asRow r).ownBlock) := by
  obtain ⟨⟨a, left, hp⟩, h1, h2⟩ := h
  exact (rInt_ok r D left L a s w B hp).mono fun v w' ⟨e, hp', g⟩ => ⟨e, ⟨hp', h1, h2⟩, g⟩
theorem rBlobT (h : PRT w B T r D L s) : FnOk Try.prog 74 [r] w (fun v w' => (∃ lo hi, Seg D v lo hi ∧ hi ≤ L.length) ∧ Bytes w' v s.blob.1 ∧ PRT w' B T r D L s.blob.2 ∧ w.grownBy w' (asRow r).ownBlock) := by
  obtain ⟨⟨a, left, hp⟩, h1, h2⟩ := h
  exact (rBlob_ok r D left L a s w B hp).mono fun v w' ⟨⟨a1, a2, left', hs, hb, hp'⟩, g⟩ => ⟨⟨a1, a2, hs, by have := hp'.inn; omega⟩, hb, ⟨⟨_, _, hp'⟩, h1, h2⟩, g⟩
theorem rLeftT (h : PRT w B T r D L s) : FnOk Try.prog 105 [r] w (fun v w' => v = i64 (s.left.length : Int) ∧ w = w') := by
  obtain ⟨⟨a, left, hp⟩, h1, h2⟩ := h
  exact rLeft_ok r D left L a s w B hp
theorem rBadT (h : PRT w B T r D L s) : FnOk Try.prog 106 [r] w (fun v w' => v = .bool s.bad ∧ w = w') := by
  obtain ⟨⟨a, left, hp⟩, h1, h2⟩ := h
  exact rBad_ok r D left L a s w B hp
theorem rEndT (h : PRT w B T r D L s) : FnOk Try.prog 103 [r] w (fun v w' => v = i64 s.err ∧ w = w') := by
  obtain ⟨⟨a, left, hp⟩, h1, h2⟩ := h
  exact rEnd_ok r D left L a s w B hp
theorem qIntT (h : RRT w B T x vb L s) : FnOk Try.prog 76 [x] w (fun v w' => v = i64 s.int.1 ∧ RRT w' B T x vb L s.int.2 ∧ w.grownBy w' (asRow x).ownBlock) := by
  obtain ⟨⟨a, hp⟩, h1, h2⟩ := h
  exact (qInt_ok x vb L a s w B hp).mono fun v w' ⟨e, hp', g⟩ => ⟨e, ⟨hp', h1, h2⟩, g⟩
theorem qEndT (h : RRT w B T x vb L s) : FnOk Try.prog 70 [x] w (fun v w' => v = i64 s.err ∧ Ext w w') := by
  obtain ⟨⟨a, hp⟩, h1, h2⟩ := h
  exact qEnd_ok x vb L a s w B hp
end
def endC (ok : Bool) (s : Pk.RS) (m : Mp) : Int := if ok = false then 4 else if s.err ≠ 0 then s.err else codeOf (checkB m)
theorem get_end {s s1 : Pk.RS} {m1 : Mp} {ok : Bool} (hA : ok = true → s1 = tM s ∧ m1 = mM s) (hB : ok = false → (tM s).bad = true) : getM s = (if endC ok s1 m1 = 0 then m1 else Mp.zero, endC ok s1 m1) := by
  cases ok with
  | false =>
    have e : endC false s1 m1 = 4 := if_pos rfl
    have h4 := err_bad (hB rfl)
    unfold getM
    rw [if_pos (by rw [h4]; decide), e, h4]; rfl
  | true =>
    obtain ⟨rfl, rfl⟩ := hA rfl
    have e : endC true (tM s) (mM s) = if (tM s).err ≠ 0 then (tM s).err else codeOf (checkB (mM s)) := if_neg (by decide)
    rw [e]
    unfold getM
    by_cases he : (tM s).err ≠ 0
    · rw [if_pos he, if_pos he, if_neg he]
    · rw [if_neg he, if_neg he]
      cases hc : checkB (mM s) <;> simp [codeOf]
set_option maxHeartbeats 1000000 in
theorem each_ok (r D vf : Value) (L : List UInt8) (s : Pk.RS) (w : World) (B T : Nat) (hp : PRT w B T r D L s) (S : Nat → Pk.RS) (I : Nat → World → Prop)
    (h0 : ∀ w1, PRT w1 B T r D L s.int.2 → w.grownBy w1 (asRow r).ownBlock → I 0 w1) (hPR : ∀ k w1, I k w1 → PRT w1 B T r D L (S k)) (hst : OkC s → ∀ (k : Nat) w1, (k : Int) < s.int.1 → I k w1 → CloOk Try.prog vf [] w1 (fun _ w2 => I (k + 1) w2)) :
    FnOk Try.prog 71 [r, vf] w (fun v w' => ∃ k ok, v = .bool ok ∧ I k w' ∧ (ok = true → OkC s ∧ k = s.int.1.toNat) ∧ (ok = false → ¬ OkC s ∨ ∃ j : Nat, (j : Int) ≤ s.int.1 ∧ (S j).bad = true)) := by
  refine FnOk.enter (rs := [4]) Try.func71 rfl Try.ntmps71 Try.results71 rfl rfl ?_
  refine WF.seq ?_
  refine WF.region ?_
  refine WL.va rfl rfl rfl (X.assignB rfl) ?_
  refine WL.nil ?_
  refine thn_n ?_
  refine WF.seq ?_
  refine WF.region ?_
  refine WL.va rfl rfl rfl (X.move rfl) ?_
  refine WL.c rfl rfl rfl (X.call Try.call73 (evl_cons rfl evl_nil)) (rIntT hp) ?_
  rintro v3 w2 ⟨rfl, hp1, hx4⟩
  have hI0 := h0 _ hp1 hx4
  have hln := hp1.len
  refine WL.va rfl rfl rfl (X.assignI rfl) ?_
  refine WL.nil ?_
  refine thn_n ?_
  refine WF.seq ?_
  refine WF.seq ?_
  refine WF.region ?_
  refine WL.va rfl rfl rfl (X.moveI rfl) ?_
  refine WL.va rfl rfl rfl (X.lss rfl rfl) ?_
  refine WL.va rfl rfl rfl (X.moveB rfl) ?_
  refine WL.split (j := 2) rfl (fun h6 => ?_) (fun h6 => ?_)
  · have gh6 := (of_decide_eq_true h6)
    have hn0 : s.int.1 < 0 := gh6
    refine WL.p rfl rfl rfl (congrArg some h6) ?_
    refine WL.p rfl rfl rfl (congrArg some h6) ?_
    refine WL.p rfl rfl rfl (congrArg some h6) ?_
    refine WL.p rfl rfl rfl (congrArg some h6) ?_
    refine WL.p rfl rfl rfl (congrArg some h6) ?_
    refine WL.va rfl rfl rfl (X.pickT rfl h6 rfl) ?_
    refine WL.nil ?_
    refine thn_n ?_
    refine WF.cond_t rfl ?_
    refine WF.seq ?_
    refine WF.region ?_
    refine WL.va rfl rfl rfl (X.assignB rfl) ?_
    refine WL.nil ?_
    refine thn_n ?_
    refine WF.ret ?_
    refine thn_r ?_
    refine fin_r ?_
    exact ⟨0, false, rfl, hI0, fun e => (by cases e), fun _ => .inl (fun q => by first | (have := q.1; omega) | (have := q.2; omega))⟩
  · have gh6 := (of_decide_eq_false h6)
    have hn0 : ¬ s.int.1 < 0 := gh6
    refine WL.vg rfl (congrArg some h6) rfl rfl (X.moveI rfl) ?_
    refine WL.vg rfl (congrArg some h6) rfl rfl (X.move rfl) ?_
    refine WL.cg rfl (congrArg some h6) rfl rfl (X.call Try.call105 (evl_cons rfl evl_nil)) (rLeftT hp1) ?_
    rintro v10 w9 ⟨rfl, rfl⟩
    refine WL.vg rfl (congrArg some h6) rfl rfl (X.quo rfl rfl (by omega) (q8 (by omega))) ?_
    refine WL.vg rfl (congrArg some h6) rfl rfl (X.gtr rfl rfl) ?_
    refine WL.va rfl rfl rfl (X.pickF rfl h6 rfl) ?_
    refine WL.nil ?_
    refine thn_n ?_
    refine WF.cond rfl (fun h0_12 => ?_) (fun h0_12 => ?_)
    · have gh0_12 := (of_decide_eq_true h0_12)
      have hn1 : ((s.int.2.left.length / 8 : Nat) : Int) < s.int.1 := gh0_12
      refine WF.seq ?_
      refine WF.region ?_
      refine WL.va rfl rfl rfl (X.assignB rfl) ?_
      refine WL.nil ?_
      refine thn_n ?_
      refine WF.ret ?_
      refine thn_r ?_
      refine fin_r ?_
      exact ⟨0, false, rfl, hI0, fun e => (by cases e), fun _ => .inl (fun q => by first | (have := q.1; omega) | (have := q.2; omega))⟩
    · have gh0_12 := (of_decide_eq_false h0_12)
      have hn1 : ¬ ((s.int.2.left.length / 8 : Nat) : Int) < s.int.1 := gh0_12
      have hok : OkC s := ⟨by omega, by omega⟩
      refine WF.skip ?_
      refine thn_n ?_
      refine WF.seq ?_
      refine WF.seq ?_
      refine WF.region ?_
      refine WL.va rfl rfl rfl (X.moveI rfl) ?_
      refine WL.va rfl rfl rfl (X.moveI rfl) ?_
      refine WL.nil ?_
      refine thn_n ?_
      refine WF.block ?_
      refine WF.named (fun F15 hF16 => ?_)
      refine WF.loopN (fun mL0 f' w' => ∃ (k : Nat), mL0 = s.int.1.toNat - k ∧ f' 18 = .int .i64 (k : Int) ∧ Agree [0, 1, 5, 6, 7, 8, 9, 10, 11, 12, 13, 14, 15, 16, 17] f' F15 ∧ True ∧ (k : Int) ≤ s.int.1 ∧ I k w') ?_ ?_
      · exact ⟨_, 0, rfl, (congrFun hF16 18), (Agree.refl _ _), trivial, ⟨hok.1, hI0⟩⟩
      · rintro mL0 fL0 wL0 ⟨k, hmL0, e18_L0, hAL0, hwL0, ⟨hk0, hIk⟩⟩
        refine WF.seq ?_
        refine WF.region ?_
        refine WL.va rfl rfl rfl (X.lss e18_L0 ((hAL0.eq 17).trans (congrFun hF16 17))) ?_
        refine WL.nil ?_
        refine thn_n ?_
        refine WF.seq ?_
        refine WF.cond rfl (fun h1_17 => ?_) (fun h1_17 => ?_)
        · have gh1_17 := (of_decide_eq_true h1_17)
          refine WF.skip ?_
          refine thn_n ?_
          refine WF.seq ?_
          refine WF.block ?_
          refine WF.seq ?_
          refine WF.region ?_
          refine WL.va rfl rfl rfl (X.move ((hAL0.eq 1).trans (congrFun hF16 1))) ?_
          refine WL.op rfl (OW.callV rfl evl_nil (hst hok k _ (by omega) hIk) ?_ (by decide))
          rintro _ w19 hI1
          refine WL.nil ?_
          refine thn_n ?_
          refine WF.seq ?_
          refine WF.region ?_
          refine WL.va rfl rfl rfl (X.move ((hAL0.eq 0).trans (congrFun hF16 0))) ?_
          refine WL.c rfl rfl rfl (X.call Try.call106 (evl_cons rfl evl_nil)) (rBadT (hPR _ _ hI1)) ?_
          rintro v23 w22 ⟨rfl, rfl⟩
          refine WL.nil ?_
          refine thn_n ?_
          refine WF.cond rfl (fun h2_25 => ?_) (fun h2_25 => ?_)
          · have gh2_25 := h2_25
            have hbd : (S (k + 1)).bad = true := gh2_25
            refine WF.seq ?_
            refine WF.region ?_
            refine WL.va rfl rfl rfl (X.assignB rfl) ?_
            refine WL.nil ?_
            refine thn_n ?_
            refine WF.ret ?_
            refine blk_r ?_
            refine thn_r ?_
            refine thn_r ?_
            refine blk_r ?_
            refine thn_r ?_
            refine fin_r ?_
            exact ⟨k + 1, false, rfl, hI1, fun e => (by cases e), fun _ => .inr ⟨k + 1, by omega, hbd⟩⟩
          · have gh2_25 := h2_25
            refine WF.skip ?_
            refine blk_n ?_
            refine thn_n ?_
            refine WF.region ?_
            refine WL.va rfl rfl rfl (X.add e18_L0 rfl (w64 (by omega))) ?_
            refine WL.va rfl rfl rfl (X.moveI rfl) ?_
            refine WL.nil ?_
            exact thn_n ⟨_, (by omega), k + 1, rfl, rfl, (by repeat (first | exact hAL0 | refine Agree.put ?_ rfl | refine Agree.named hF16 ?_)), trivial, ⟨by omega, hI1⟩⟩
        · have gh1_17 := (of_decide_eq_false h1_17)
          refine WF.exit ?_
          refine thn_x ?_
          refine thn_x ?_
          refine blk_eq ?_
          refine thn_n ?_
          refine WF.seq ?_
          refine WF.region ?_
          refine WL.va rfl rfl rfl (X.assignB rfl) ?_
          refine WL.nil ?_
          refine thn_n ?_
          refine WF.ret ?_
          refine fin_r ?_
          exact ⟨k, true, rfl, hIk, fun _ => ⟨hok, by omega⟩, fun e => by cases e⟩

theorem rd4_eq (s : Pk.RS) : rd4 s = ((⟨s.int.1, s.int.2.int.1, s.int.2.int.2.int.1, s.int.2.int.2.int.2.int.1⟩ : Rg), s.int.2.int.2.int.2.int.2) := rfl
theorem mp6_eq (l : List Rg) (s : Pk.RS) : mp6 l s = (⟨l, s.int.1, ⟨s.int.2.int.1, s.int.2.int.2.int.1, s.int.2.int.2.int.2.int.1, s.int.2.int.2.int.2.int.2.int.1, s.int.2.int.2.int.2.int.2.int.2.int.1⟩⟩ : Mp) := rfl
theorem six_eq (s : Pk.RS) : six s = s.int.2.int.2.int.2.int.2.int.2.int.2 := rfl
theorem mp6_E (l : List Rg) (s : Pk.RS) : In1 (mp6 l s).E := by rw [mp6_eq]; exact int_rng s
theorem mp6_R (l : List Rg) (s : Pk.RS) : (mp6 l s).R = l := by rw [mp6_eq]
theorem rdN_succ {α : Type} (rd : Pk.RS → α × Pk.RS) (s : Pk.RS) (k : Nat) : rdN rd s (k + 1) = ((rdN rd s k).1 ++ [(rd (rdN rd s k).2).1], (rd (rdN rd s k).2).2) := rfl
set_option maxHeartbeats 2000000 in
theorem readLit_ok (gm gr gz ez : Nat) (cz : List Value) (r D v : Value) (L : List UInt8) (l : List Rg) (s : Pk.RS) (w0 w : World) (B T : Nat) (hp : PRT w B T r D L s) (hT : T ≤ w0.heap.size) (hm : Blk w gm 26 (Mp.c ⟨l, 0, Mv.zero⟩ v)) (hr : Blk w gr 93 [r]) (hz : Blk w gz ez cz) (ov : OwnX w w0.heap.size w.heap.size 41 4 v (l).length ((l).flatMap Rg.c) gm gr gz) (hw : SinceR w0 w (asRow r).ownBlock)
    (hgm : w0.heap.size ≤ gm) (hgr : w0.heap.size ≤ gr) (hgz : w0.heap.size ≤ gz) (hne : gr ≠ gm ∧ gz ≠ gm) (hl : l.length ≤ 1000000) : FnOk Try.prog 102 [at_ gm, at_ gr] w (fun _ w' => ∃ v2, PRT w' B T r D L s.int.2.int.2.int.2.int.2 ∧ Blk w' gm 26 (Mp.c ⟨l ++ [(⟨s.int.1, s.int.2.int.1, s.int.2.int.2.int.1, s.int.2.int.2.int.2.int.1⟩ : Rg)], 0, Mv.zero⟩ v2) ∧ Blk w' gr 93 [r] ∧ Blk w' gz ez cz ∧ OwnX w' w0.heap.size w'.heap.size 41 4 v2 (l ++ [(⟨s.int.1, s.int.2.int.1, s.int.2.int.2.int.1, s.int.2.int.2.int.2.int.1⟩ : Rg)]).length ((l ++ [(⟨s.int.1, s.int.2.int.1, s.int.2.int.2.int.1, s.int.2.int.2.int.2.int.1⟩ : Rg)]).flatMap Rg.c) gm gr gz ∧ SinceR w0 w' (asRow r).ownBlock) := by
  have hr0 := hp.hr
  have hpT := hp
  have hG := hw
  have hGz := World.grownBy.size hw.x
  have ovT := ov
  have tm := hm.lt
  have tr := hr.lt
  have tz := hz.lt
  refine FnOk.enter (rs := []) Try.func102 rfl Try.ntmps102 Try.results102 rfl rfl ?_
  refine WF.drawn (.q 0 (.q 1 (.q 2 (.q 4 (.q 6 (.q 8 (.l 3 (.l 5 (.l 7 (.l 9 (.q 10 (.l 11 .nil)))))))))))) (fun w' => World.grownBy w w' (asRow r).ownBlock) 12 (by kernel_rfl) (by kernel_rfl) (grown_of_ext (Ext.drew _)) ?_
  have := World.grownBy.size (Ext.drew w)
  refine WO.q rfl rfl rfl rfl (fun w' hE1 => (X.fieldAddrO (off := 0) rfl Try.underlying26 rfl rfl Try.sizeOf22)) ?_
  refine WO.q rfl rfl rfl rfl (fun w' hE1 => (X.loadO (hm.kept hE1 (fun e => by have := hr0 _ e; omega)) (Ext.refl _) rfl rfl Try.isAgg22)) ?_
  refine WO.q rfl rfl rfl rfl (fun w' hE1 => (X.loadO (hr.kept hE1 (fun e => by have := hr0 _ e; omega)) (Ext.refl _) rfl rfl Try.isAgg93)) ?_
  refine WO.q rfl rfl rfl rfl (fun w' hE1 => (X.loadO (hr.kept hE1 (fun e => by have := hr0 _ e; omega)) (Ext.refl _) rfl rfl Try.isAgg93)) ?_
  refine WO.q rfl rfl rfl rfl (fun w' hE1 => (X.loadO (hr.kept hE1 (fun e => by have := hr0 _ e; omega)) (Ext.refl _) rfl rfl Try.isAgg93)) ?_
  refine WO.q rfl rfl rfl rfl (fun w' hE1 => (X.loadO (hr.kept hE1 (fun e => by have := hr0 _ e; omega)) (Ext.refl _) rfl rfl Try.isAgg93)) ?_
  refine WO.l ?_
  refine LO.go rfl rfl (OW.enter rfl (by decide) (X.call Try.call73 (evl_cons (v := r) rfl evl_nil)) (rIntT (hpT.ext (Ext.drew _))) ?_)
  rintro v3 w2 ⟨rfl, hq1, hx4⟩
  have := World.grownBy.size hx4
  replace hm := (hm.ext (Ext.drew _)).keptR hx4 (fun b hb => by have := hr0 b hb; first | omega | exact .inr hb | exact .inl (by omega))
  replace hr := (hr.ext (Ext.drew _)).keptR hx4 (fun b hb => by have := hr0 b hb; first | omega | exact .inr hb | exact .inl (by omega))
  replace hz := (hz.ext (Ext.drew _)).keptR hx4 (fun b hb => by have := hr0 b hb; first | omega | exact .inr hb | exact .inl (by omega))
  replace hG := (hG.ext (Ext.drew _)).kept hx4 (fun b hb => by have := hr0 b hb; first | omega | exact .inr hb | exact .inl (by omega))
  replace ovT := (ovT.ext (Ext.drew _)).kept hx4 (fun b hb => by have := hr0 b hb; first | omega | exact .inr hb | exact .inl (by omega))
  refine ⟨(grown2 (grown_of_ext (Ext.drew _)) hx4), ?_⟩
  replace hpT := hq1
  refine WO.l ?_
  refine LO.go rfl rfl (OW.enter rfl (by decide) (X.call Try.call73 (evl_cons (v := r) rfl evl_nil)) (rIntT hpT) ?_)
  rintro v6 w5 ⟨rfl, hq1, hx7⟩
  have := World.grownBy.size hx7
  replace hm := hm.keptR hx7 (fun b hb => by have := hr0 b hb; first | omega | exact .inr hb | exact .inl (by omega))
  replace hr := hr.keptR hx7 (fun b hb => by have := hr0 b hb; first | omega | exact .inr hb | exact .inl (by omega))
  replace hz := hz.keptR hx7 (fun b hb => by have := hr0 b hb; first | omega | exact .inr hb | exact .inl (by omega))
  replace hG := hG.kept hx7 (fun b hb => by have := hr0 b hb; first | omega | exact .inr hb | exact .inl (by omega))
  replace ovT := ovT.kept hx7 (fun b hb => by have := hr0 b hb; first | omega | exact .inr hb | exact .inl (by omega))
  refine ⟨(grown2 (grown2 (grown_of_ext (Ext.drew _)) hx4) hx7), ?_⟩
  replace hpT := hq1
  refine WO.l ?_
  refine LO.go rfl rfl (OW.enter rfl (by decide) (X.call Try.call73 (evl_cons (v := r) rfl evl_nil)) (rIntT hpT) ?_)
  rintro v9 w8 ⟨rfl, hq1, hx10⟩
  have := World.grownBy.size hx10
  replace hm := hm.keptR hx10 (fun b hb => by have := hr0 b hb; first | omega | exact .inr hb | exact .inl (by omega))
  replace hr := hr.keptR hx10 (fun b hb => by have := hr0 b hb; first | omega | exact .inr hb | exact .inl (by omega))
  replace hz := hz.keptR hx10 (fun b hb => by have := hr0 b hb; first | omega | exact .inr hb | exact .inl (by omega))
  replace hG := hG.kept hx10 (fun b hb => by have := hr0 b hb; first | omega | exact .inr hb | exact .inl (by omega))
  replace ovT := ovT.kept hx10 (fun b hb => by have := hr0 b hb; first | omega | exact .inr hb | exact .inl (by omega))
  refine ⟨(grown2 (grown2 (grown2 (grown_of_ext (Ext.drew _)) hx4) hx7) hx10), ?_⟩
  replace hpT := hq1
  refine WO.l ?_
  refine LO.go rfl rfl (OW.enter rfl (by decide) (X.call Try.call73 (evl_cons (v := r) rfl evl_nil)) (rIntT hpT) ?_)
  rintro v12 w11 ⟨rfl, hq1, hx13⟩
  have := World.grownBy.size hx13
  replace hm := hm.keptR hx13 (fun b hb => by have := hr0 b hb; first | omega | exact .inr hb | exact .inl (by omega))
  replace hr := hr.keptR hx13 (fun b hb => by have := hr0 b hb; first | omega | exact .inr hb | exact .inl (by omega))
  replace hz := hz.keptR hx13 (fun b hb => by have := hr0 b hb; first | omega | exact .inr hb | exact .inl (by omega))
  replace hG := hG.kept hx13 (fun b hb => by have := hr0 b hb; first | omega | exact .inr hb | exact .inl (by omega))
  replace ovT := ovT.kept hx13 (fun b hb => by have := hr0 b hb; first | omega | exact .inr hb | exact .inl (by omega))
  refine ⟨(grown2 (grown2 (grown2 (grown2 (grown_of_ext (Ext.drew _)) hx4) hx7) hx10) hx13), ?_⟩
  replace hpT := hq1
  refine WO.q rfl rfl rfl rfl (fun w' hE1 => (X.buildL (P := Try.prog) (t := 41) (cs := (Rg.c (⟨s.int.1, s.int.2.int.1, s.int.2.int.2.int.1, s.int.2.int.2.int.2.int.1⟩ : Rg))) (evp_cons rfl (evp_cons rfl (evp_cons rfl (evp_cons rfl evp_nil)))) Try.type41 Try.underlying41 rfl rfl ⟨rfl, rfl, rfl, rfl, trivial⟩ rfl)) ?_
  refine WO.l ?_
  refine LO.go rfl rfl (OW.lits (vs := [agg (Rg.c (⟨s.int.1, s.int.2.int.1, s.int.2.int.2.int.1, s.int.2.int.2.int.2.int.1⟩ : Rg))]) (evp_cons rfl evp_nil) Try.underlying22 Try.sizeOf41 Try.zeroValue41 ⟨rfl, trivial⟩ rfl rfl rfl ?_ (by decide))
  intro v15 w14 ho17 hx16
  have := World.grownBy.size hx16
  have o1 : World.ownsRow w14 _ 41 4 v15 1 (Rg.c (⟨s.int.1, s.int.2.int.1, s.int.2.int.2.int.1, s.int.2.int.2.int.2.int.1⟩ : Rg)) := ho17
  have hovX := (ovT.ext hx16)
  have hov := hovX.own
  refine ⟨(grown_ext (grown2 (grown2 (grown2 (grown2 (grown_of_ext (Ext.drew _)) hx4) hx7) hx10) hx13) hx16), ?_⟩
  refine WO.nil ?_
  refine WL.op rfl (OW.append (bytes := 32) hov (Row.of_own o1) (Rg.c_one (⟨s.int.1, s.int.2.int.1, s.int.2.int.2.int.1, s.int.2.int.2.int.2.int.1⟩ : Rg)) rfl rfl Try.underlying22 Try.type41 rfl rfl rfl rfl (by decide) (by unfold maxLen; omega) (by omega) (by omega) ?_ (by decide))
  intro v2 w18 ho20 hx19 hmvhx19
  have := World.grownBy.size hx19
  replace hm := (hm.ext hx16).keptR hx19 (fun b hb => by have h1 := (hov.lt b hb).1; have h2 := hovX.ne b hb; first | omega | exact .inl (by omega))
  replace hr := (hr.ext hx16).keptR hx19 (fun b hb => by have h1 := (hov.lt b hb).1; have h2 := hovX.ne b hb; first | omega | exact .inl (by omega))
  replace hz := (hz.ext hx16).keptR hx19 (fun b hb => by have h1 := (hov.lt b hb).1; have h2 := hovX.ne b hb; first | omega | exact .inl (by omega))
  replace hpT := (hpT.ext hx16).kept hx19 (fun b hb => by have h1 := (hov.lt b hb).1; have h2 := hovX.ne b hb; first | omega | exact .inl (by omega))
  replace hG := (hG.ext hx16).kept hx19 (fun b hb => by have h1 := (hov.lt b hb).1; have h2 := hovX.ne b hb; first | omega | exact .inl (by omega))
  have ho2 : OwnR w18 w0.heap.size 41 v2 (l ++ [(⟨s.int.1, s.int.2.int.1, s.int.2.int.2.int.1, s.int.2.int.2.int.2.int.1⟩ : Rg)]) := OwnR.app ho20
  replace ovT := hovX.moved ho2 hmvhx19 (by omega) (by omega) (by omega)
  refine WL.va rfl rfl rfl (X.fieldAddrO (off := 0) rfl Try.underlying26 rfl rfl Try.sizeOf22) ?_
  refine WL.op rfl (OW.storeO hm (Nat.le_of_ble_eq_true rfl) rfl rfl (own_one ho2) Try.sizeOf22 ?_)
  intro w21 hm hx23
  have := World.grownBy.size hx23
  replace hr := hr.keptO hx23 (by omega)
  replace hz := hz.keptO hx23 (by omega)
  replace hpT := hpT.keptO hx23 (by omega)
  replace hG := hG.keptO hx23 (by omega)
  replace ovT := ovT.keptO hx23 (by omega)
  replace hm : Blk _ _ _ (Mp.c ⟨l ++ [(⟨s.int.1, s.int.2.int.1, s.int.2.int.2.int.1, s.int.2.int.2.int.2.int.1⟩ : Rg)], 0, Mv.zero⟩ v2) := hm
  refine WL.nil ?_
  refine fin_n ?_
  exact ⟨v2, hpT, hm, hr, hz, OwnX.up ovT, hG⟩

set_option maxHeartbeats 4000000 in
theorem readM_ok (r D : Value) (L : List UInt8) (s : Pk.RS) (w : World) (B T : Nat) (hp : PRT w B T r D L s) (hT : T ≤ w.heap.size) (hL : L.length ≤ 1000000) : FnOk Try.prog 66 [r] w (fun x w' => (∃ l s1 vr ok, x = .tuple #[agg ((mp6 l s1).c vr), .bool ok] ∧ PRT w' B T r D L (six s1) ∧ OwnR w' w.heap.size 41 vr l ∧ (ok = true → six s1 = tM s ∧ mp6 l s1 = mM s) ∧ (ok = false → (tM s).bad = true)) ∧ w.grownBy w' (asRow r).ownBlock) := by
  have hr0 := hp.hr
  have hr1 : r.oneCell' = true := by obtain ⟨⟨a, left, hq⟩, _⟩ := hp; obtain ⟨b, rfl⟩ := hq.var.ptr; rfl
  refine FnOk.enterC (rs := [.cell 2 26, .tmp 3]) Try.func66 rfl Try.ntmps66 Try.results66 rfl rfl ?_
  refine WF.seq ?_
  refine WF.region ?_
  refine WL.op rfl (OW.box1 rfl hr1 ?_ (by decide))
  intro g1 w1 heg1 hlg1 hO1 hx3
  have := World.grownBy.size hx3
  refine WL.op rfl (OW.allocO (cs := [.slice none 0 0, i64 0, i64 0, i64 0, i64 0, i64 0, i64 0]) Try.zeroValue26 rfl ?_ (by decide))
  intro g2 w5 heg2 hlg2 hO2 hx7
  have := World.grownBy.size hx7
  refine WL.va rfl rfl rfl (X.assignB rfl) ?_
  refine WL.nil ?_
  refine thn_n ?_
  refine WF.seq ?_
  refine WF.region ?_
  refine WL.op rfl (OW.allocO (cs := [.slice none 0 0, i64 0, i64 0, i64 0, i64 0, i64 0, i64 0]) Try.zeroValue26 rfl ?_ (by decide))
  intro g4 w10 heg4 hlg4 hO4 hx12
  have := World.grownBy.size hx12
  refine WL.nil ?_
  refine thn_n ?_
  refine WF.seq ?_
  refine WF.region ?_
  refine WL.va rfl rfl rfl (X.loadO hO1 (Ext.trans hx7 hx12) rfl rfl Try.isAgg93) ?_
  refine WL.va rfl rfl rfl (X.makeFunc (evl_cons rfl (evl_cons rfl evl_nil))) ?_
  have hI0 : ∀ w1, PRT w1 B T r D L s.int.2 → w10.grownBy w1 (asRow r).ownBlock → (∃ v, PRT w1 B T r D L (rdN rd4 s.int.2 0).2 ∧ Blk w1 g4 26 (Mp.c ⟨(rdN rd4 s.int.2 0).1, 0, Mv.zero⟩ v) ∧ Blk w1 g1 93 [r] ∧ Blk w1 g2 26 [nilS, i64 0, i64 0, i64 0, i64 0, i64 0, i64 0] ∧ OwnX w1 w.heap.size w1.heap.size 41 4 v ((rdN rd4 s.int.2 0).1).length (((rdN rd4 s.int.2 0).1).flatMap Rg.c) g4 g1 g2 ∧ SinceR w w1 (asRow r).ownBlock) := fun w1 hp1 hx1 => ⟨nilS, hp1, (hO4).kept hx1 (fun e => by have := hr0 _ e; omega), ((hO1.ext (Ext.trans hx7 hx12))).kept hx1 (fun e => by have := hr0 _ e; omega), ((hO2.ext hx12)).kept hx1 (fun e => by have := hr0 _ e; omega), OwnX.nil _ _ _ _ _ _ _ _, SinceR.kept ⟨grown_of_ext (Ext.trans (Ext.trans hx3 hx7) hx12)⟩ hx1 (fun b hb => .inr hb)⟩
  have hPR : ∀ k w1, (∃ v, PRT w1 B T r D L (rdN rd4 s.int.2 k).2 ∧ Blk w1 g4 26 (Mp.c ⟨(rdN rd4 s.int.2 k).1, 0, Mv.zero⟩ v) ∧ Blk w1 g1 93 [r] ∧ Blk w1 g2 26 [nilS, i64 0, i64 0, i64 0, i64 0, i64 0, i64 0] ∧ OwnX w1 w.heap.size w1.heap.size 41 4 v ((rdN rd4 s.int.2 k).1).length (((rdN rd4 s.int.2 k).1).flatMap Rg.c) g4 g1 g2 ∧ SinceR w w1 (asRow r).ownBlock) → PRT w1 B T r D L (rdN rd4 s.int.2 k).2 := fun k w1 ⟨_, h, _⟩ => h
  have hst : OkC s → ∀ (k : Nat) w1, (k : Int) < s.int.1 → (∃ v, PRT w1 B T r D L (rdN rd4 s.int.2 k).2 ∧ Blk w1 g4 26 (Mp.c ⟨(rdN rd4 s.int.2 k).1, 0, Mv.zero⟩ v) ∧ Blk w1 g1 93 [r] ∧ Blk w1 g2 26 [nilS, i64 0, i64 0, i64 0, i64 0, i64 0, i64 0] ∧ OwnX w1 w.heap.size w1.heap.size 41 4 v ((rdN rd4 s.int.2 k).1).length (((rdN rd4 s.int.2 k).1).flatMap Rg.c) g4 g1 g2 ∧ SinceR w w1 (asRow r).ownBlock) → CloOk Try.prog (.func (.func 102) #[] [at_ g4, at_ g1].toArray) [] w1 (fun _ w2 => (∃ v, PRT w2 B T r D L (rdN rd4 s.int.2 (k + 1)).2 ∧ Blk w2 g4 26 (Mp.c ⟨(rdN rd4 s.int.2 (k + 1)).1, 0, Mv.zero⟩ v) ∧ Blk w2 g1 93 [r] ∧ Blk w2 g2 26 [nilS, i64 0, i64 0, i64 0, i64 0, i64 0, i64 0] ∧ OwnX w2 w.heap.size w2.heap.size 41 4 v ((rdN rd4 s.int.2 (k + 1)).1).length (((rdN rd4 s.int.2 (k + 1)).1).flatMap Rg.c) g4 g1 g2 ∧ SinceR w w2 (asRow r).ownBlock)) := fun hok k w1 hk ⟨v, h1, h2, h3, h4, h5, h6⟩ => ⟨_, _, rfl, Try.call102, (by rw [rdN_succ, rd4_eq]; exact readLit_ok g4 g1 g2 _ _ r D v L _ _ w w1 B T h1 hT h2 h3 h4 h5 h6 (by omega) (by omega) (by omega) (by omega) (by rw [rdN_len]; have h7 := hok.2; have h8 := int_le s; have h9 := hp.len; omega))⟩
  refine WL.c rfl rfl rfl (X.call Try.call71 (evl_cons rfl (evl_cons rfl evl_nil))) (each_ok r D _ L s _ B T ((hp.ext (Ext.trans (Ext.trans hx3 hx7) hx12))) (fun k => (rdN rd4 s.int.2 k).2) (fun k w1 => (∃ v, PRT w1 B T r D L (rdN rd4 s.int.2 k).2 ∧ Blk w1 g4 26 (Mp.c ⟨(rdN rd4 s.int.2 k).1, 0, Mv.zero⟩ v) ∧ Blk w1 g1 93 [r] ∧ Blk w1 g2 26 [nilS, i64 0, i64 0, i64 0, i64 0, i64 0, i64 0] ∧ OwnX w1 w.heap.size w1.heap.size 41 4 v ((rdN rd4 s.int.2 k).1).length (((rdN rd4 s.int.2 k).1).flatMap Rg.c) g4 g1 g2 ∧ SinceR w w1 (asRow r).ownBlock)) hI0 hPR hst) ?_
  rintro v15 w14 ⟨k, ok, rfl, ⟨vR, hpT, hO4, hO1, hO2, ovT, hG⟩, hy, hn⟩
  have hGz := World.grownBy.size hG.x
  obtain ⟨l1, hl1⟩ : ∃ l1, (rdN rd4 s.int.2 k).1 = l1 := ⟨_, rfl⟩
  obtain ⟨s1, hs1⟩ : ∃ s1, (rdN rd4 s.int.2 k).2 = s1 := ⟨_, rfl⟩
  rw [hl1] at hO4 ovT
  rw [hs1] at hpT
  have q1 := hO1.lt
  have q2 := hO2.lt
  have q4 := hO4.lt
  refine WL.va rfl rfl rfl (X.assignB rfl) ?_
  refine WL.nil ?_
  refine thn_n ?_
  refine WF.seq ?_
  refine WF.region ?_
  refine WL.va rfl rfl rfl (X.loadO hO1 (Ext.refl _) rfl rfl Try.isAgg93) ?_
  refine WL.c rfl rfl rfl (X.call Try.call73 (evl_cons (v := r) rfl evl_nil)) (rIntT hpT) ?_
  rintro v19 w18 ⟨rfl, hq1, hx20⟩
  have := World.grownBy.size hx20
  replace ovT := ovT.kept hx20 (fun b hb => by have := hr0 b hb; first | omega | exact .inr hb | exact .inl (by omega))
  replace hG := hG.kept hx20 (fun b hb => by have := hr0 b hb; first | omega | exact .inr hb | exact .inl (by omega))
  replace hO1 := hO1.keptR hx20 (fun b hb => by have := hr0 b hb; first | omega | exact .inr hb | exact .inl (by omega))
  replace hO2 := hO2.keptR hx20 (fun b hb => by have := hr0 b hb; first | omega | exact .inr hb | exact .inl (by omega))
  replace hO4 := hO4.keptR hx20 (fun b hb => by have := hr0 b hb; first | omega | exact .inr hb | exact .inl (by omega))
  replace hpT := hq1
  refine WL.va rfl rfl rfl (X.fieldAddrO (off := 1) rfl Try.underlying26 rfl rfl Try.sizeOf3) ?_
  refine WL.op rfl (OW.storeO hO4 (Nat.le_of_ble_eq_true rfl) rfl rfl rfl Try.sizeOf3 ?_)
  intro w21 hO4 hx23
  have := World.grownBy.size hx23
  replace hpT := hpT.keptO hx23 (by omega)
  replace ovT := ovT.keptO hx23 (by omega)
  replace hG := hG.keptO hx23 (by omega)
  replace hO1 := hO1.keptO hx23 (by omega)
  replace hO2 := hO2.keptO hx23 (by omega)
  replace hO4 : Blk _ _ _ (Mp.c ⟨l1, s1.int.1, Mv.zero⟩ vR) := hO4
  refine WL.nil ?_
  refine thn_n ?_
  refine WF.seq ?_
  refine WF.drawn (.q 0 (.q 2 (.q 4 (.q 6 (.q 8 (.l 1 (.l 3 (.l 5 (.l 7 (.l 9 (.q 10 (.q 11 .nil)))))))))))) (fun w' => World.grownBy w21 w' (asRow r).ownBlock) 12 (by kernel_rfl) (by kernel_rfl) (grown_of_ext (Ext.drew _)) ?_
  have := World.grownBy.size (Ext.drew w21)
  refine WO.q rfl rfl rfl rfl (fun w' hE25 => (X.loadO (hO1.kept hE25 (fun e => by have := hr0 _ e; omega)) (Ext.refl _) rfl rfl Try.isAgg93)) ?_
  refine WO.q rfl rfl rfl rfl (fun w' hE25 => (X.loadO (hO1.kept hE25 (fun e => by have := hr0 _ e; omega)) (Ext.refl _) rfl rfl Try.isAgg93)) ?_
  refine WO.q rfl rfl rfl rfl (fun w' hE25 => (X.loadO (hO1.kept hE25 (fun e => by have := hr0 _ e; omega)) (Ext.refl _) rfl rfl Try.isAgg93)) ?_
  refine WO.q rfl rfl rfl rfl (fun w' hE25 => (X.loadO (hO1.kept hE25 (fun e => by have := hr0 _ e; omega)) (Ext.refl _) rfl rfl Try.isAgg93)) ?_
  refine WO.q rfl rfl rfl rfl (fun w' hE25 => (X.loadO (hO1.kept hE25 (fun e => by have := hr0 _ e; omega)) (Ext.refl _) rfl rfl Try.isAgg93)) ?_
  refine WO.l ?_
  refine LO.go rfl rfl (OW.enter rfl (by decide) (X.call Try.call73 (evl_cons (v := r) rfl evl_nil)) (rIntT (hpT.ext (Ext.drew _))) ?_)
  rintro v27 w26 ⟨rfl, hq1, hx28⟩
  have := World.grownBy.size hx28
  replace ovT := (ovT.ext (Ext.drew _)).kept hx28 (fun b hb => by have := hr0 b hb; first | omega | exact .inr hb | exact .inl (by omega))
  replace hG := (hG.ext (Ext.drew _)).kept hx28 (fun b hb => by have := hr0 b hb; first | omega | exact .inr hb | exact .inl (by omega))
  replace hO1 := (hO1.ext (Ext.drew _)).keptR hx28 (fun b hb => by have := hr0 b hb; first | omega | exact .inr hb | exact .inl (by omega))
  replace hO2 := (hO2.ext (Ext.drew _)).keptR hx28 (fun b hb => by have := hr0 b hb; first | omega | exact .inr hb | exact .inl (by omega))
  replace hO4 := (hO4.ext (Ext.drew _)).keptR hx28 (fun b hb => by have := hr0 b hb; first | omega | exact .inr hb | exact .inl (by omega))
  refine ⟨(grown2 (grown_of_ext (Ext.drew _)) hx28), ?_⟩
  replace hpT := hq1
  refine WO.l ?_
  refine LO.go rfl rfl (OW.enter rfl (by decide) (X.call Try.call73 (evl_cons (v := r) rfl evl_nil)) (rIntT hpT) ?_)
  rintro v30 w29 ⟨rfl, hq1, hx31⟩
  have := World.grownBy.size hx31
  replace ovT := ovT.kept hx31 (fun b hb => by have := hr0 b hb; first | omega | exact .inr hb | exact .inl (by omega))
  replace hG := hG.kept hx31 (fun b hb => by have := hr0 b hb; first | omega | exact .inr hb | exact .inl (by omega))
  replace hO1 := hO1.keptR hx31 (fun b hb => by have := hr0 b hb; first | omega | exact .inr hb | exact .inl (by omega))
  replace hO2 := hO2.keptR hx31 (fun b hb => by have := hr0 b hb; first | omega | exact .inr hb | exact .inl (by omega))
  replace hO4 := hO4.keptR hx31 (fun b hb => by have := hr0 b hb; first | omega | exact .inr hb | exact .inl (by omega))
  refine ⟨(grown2 (grown2 (grown_of_ext (Ext.drew _)) hx28) hx31), ?_⟩
  replace hpT := hq1
  refine WO.l ?_
  refine LO.go rfl rfl (OW.enter rfl (by decide) (X.call Try.call73 (evl_cons (v := r) rfl evl_nil)) (rIntT hpT) ?_)
  rintro v33 w32 ⟨rfl, hq1, hx34⟩
  have := World.grownBy.size hx34
  replace ovT := ovT.kept hx34 (fun b hb => by have := hr0 b hb; first | omega | exact .inr hb | exact .inl (by omega))
  replace hG := hG.kept hx34 (fun b hb => by have := hr0 b hb; first | omega | exact .inr hb | exact .inl (by omega))
  replace hO1 := hO1.keptR hx34 (fun b hb => by have := hr0 b hb; first | omega | exact .inr hb | exact .inl (by omega))
  replace hO2 := hO2.keptR hx34 (fun b hb => by have := hr0 b hb; first | omega | exact .inr hb | exact .inl (by omega))
  replace hO4 := hO4.keptR hx34 (fun b hb => by have := hr0 b hb; first | omega | exact .inr hb | exact .inl (by omega))
  refine ⟨(grown2 (grown2 (grown2 (grown_of_ext (Ext.drew _)) hx28) hx31) hx34), ?_⟩
  replace hpT := hq1
  refine WO.l ?_
  refine LO.go rfl rfl (OW.enter rfl (by decide) (X.call Try.call73 (evl_cons (v := r) rfl evl_nil)) (rIntT hpT) ?_)
  rintro v36 w35 ⟨rfl, hq1, hx37⟩
  have := World.grownBy.size hx37
  replace ovT := ovT.kept hx37 (fun b hb => by have := hr0 b hb; first | omega | exact .inr hb | exact .inl (by omega))
  replace hG := hG.kept hx37 (fun b hb => by have := hr0 b hb; first | omega | exact .inr hb | exact .inl (by omega))
  replace hO1 := hO1.keptR hx37 (fun b hb => by have := hr0 b hb; first | omega | exact .inr hb | exact .inl (by omega))
  replace hO2 := hO2.keptR hx37 (fun b hb => by have := hr0 b hb; first | omega | exact .inr hb | exact .inl (by omega))
  replace hO4 := hO4.keptR hx37 (fun b hb => by have := hr0 b hb; first | omega | exact .inr hb | exact .inl (by omega))
  refine ⟨(grown2 (grown2 (grown2 (grown2 (grown_of_ext (Ext.drew _)) hx28) hx31) hx34) hx37), ?_⟩
  replace hpT := hq1
  refine WO.l ?_
  refine LO.go rfl rfl (OW.enter rfl (by decide) (X.call Try.call73 (evl_cons (v := r) rfl evl_nil)) (rIntT hpT) ?_)
  rintro v39 w38 ⟨rfl, hq1, hx40⟩
  have := World.grownBy.size hx40
  replace ovT := ovT.kept hx40 (fun b hb => by have := hr0 b hb; first | omega | exact .inr hb | exact .inl (by omega))
  replace hG := hG.kept hx40 (fun b hb => by have := hr0 b hb; first | omega | exact .inr hb | exact .inl (by omega))
  replace hO1 := hO1.keptR hx40 (fun b hb => by have := hr0 b hb; first | omega | exact .inr hb | exact .inl (by omega))
  replace hO2 := hO2.keptR hx40 (fun b hb => by have := hr0 b hb; first | omega | exact .inr hb | exact .inl (by omega))
  replace hO4 := hO4.keptR hx40 (fun b hb => by have := hr0 b hb; first | omega | exact .inr hb | exact .inl (by omega))
  refine ⟨(grown2 (grown2 (grown2 (grown2 (grown2 (grown_of_ext (Ext.drew _)) hx28) hx31) hx34) hx37) hx40), ?_⟩
  replace hpT := hq1
  refine WO.q rfl rfl rfl rfl (fun w' hE25 => (X.buildL (P := Try.prog) (t := 24) (cs := (Mp.M (⟨l1, s1.int.1, ⟨s1.int.2.int.1, s1.int.2.int.2.int.1, s1.int.2.int.2.int.2.int.1, s1.int.2.int.2.int.2.int.2.int.1, s1.int.2.int.2.int.2.int.2.int.2.int.1⟩⟩ : Mp)).c) (evp_cons rfl (evp_cons rfl (evp_cons rfl (evp_cons rfl (evp_cons rfl evp_nil))))) Try.type24 Try.underlying24 rfl rfl ⟨rfl, rfl, rfl, rfl, rfl, trivial⟩ rfl)) ?_
  refine WO.q rfl rfl rfl rfl (fun w' hE25 => (X.fieldAddrO (off := 2) rfl Try.underlying26 rfl rfl Try.sizeOf24)) ?_
  refine WO.nil ?_
  refine WL.op rfl (OW.storeU (us := (Mp.M (⟨l1, s1.int.1, ⟨s1.int.2.int.1, s1.int.2.int.2.int.1, s1.int.2.int.2.int.2.int.1, s1.int.2.int.2.int.2.int.2.int.1, s1.int.2.int.2.int.2.int.2.int.2.int.1⟩⟩ : Mp)).c) hO4 (Nat.le_of_ble_eq_true rfl) rfl rfl rfl (Mv.c_one _) Try.sizeOf24 ?_)
  intro w41 hO4 hx43
  have := World.grownBy.size hx43
  replace hpT := hpT.keptO hx43 (by omega)
  replace ovT := ovT.keptO hx43 (by omega)
  replace hG := hG.keptO hx43 (by omega)
  replace hO1 := hO1.keptO hx43 (by omega)
  replace hO2 := hO2.keptO hx43 (by omega)
  replace hO4 : Blk _ _ _ ((⟨l1, s1.int.1, ⟨s1.int.2.int.1, s1.int.2.int.2.int.1, s1.int.2.int.2.int.2.int.1, s1.int.2.int.2.int.2.int.2.int.1, s1.int.2.int.2.int.2.int.2.int.2.int.1⟩⟩ : Mp).c vR) := hO4
  refine WL.nil ?_
  refine thn_n ?_
  refine WF.seq ?_
  refine WF.region ?_
  refine WL.va rfl rfl rfl (X.loadOA hO4 (Ext.refl _) rfl rfl Try.isAgg26 Try.sizeOf26) ?_
  refine WL.va rfl rfl rfl (X.moveB rfl) ?_
  refine WL.op rfl (OW.storeOA hO2 rfl rfl rfl (Mp.c_one (ovT).rd (⟨l1, s1.int.1, ⟨s1.int.2.int.1, s1.int.2.int.2.int.1, s1.int.2.int.2.int.2.int.1, s1.int.2.int.2.int.2.int.2.int.1, s1.int.2.int.2.int.2.int.2.int.2.int.1⟩⟩ : Mp)) Try.sizeOf26 ?_)
  intro w45 hO2 hx47
  have := World.grownBy.size hx47
  replace hpT := hpT.keptO hx47 (by omega)
  replace ovT := ovT.keptO hx47 (by omega)
  replace hG := hG.keptO hx47 (by omega)
  replace hO1 := hO1.keptO hx47 (by omega)
  replace hO4 := hO4.keptO hx47 (by omega)
  refine WL.va rfl rfl rfl (X.assignB rfl) ?_
  refine WL.nil ?_
  refine thn_n ?_
  refine WF.ret ?_
  refine finC_r (vs := [_, _]) ⟨⟨_, rfl, readO hO2 Try.isAgg26 Try.sizeOf26⟩, rfl, trivial⟩ ?_
  refine ⟨⟨l1, s1, vR, ok, by rw [mp6_eq]; rfl, by rw [six_eq]; exact hpT, (ovT).own, fun e => ?_, fun e => ?_⟩, (hG).x⟩
  · obtain ⟨h1, h2⟩ := hy e
    have e2 : rdL rd4 s = (l1, s1) := by rw [rdL_ok h1, ← h2, ← hl1, ← hs1]
    unfold tM mM; rw [e2]; exact ⟨rfl, rfl⟩
  · exact six_bad (rdL_bad rd4_bad (hn e))

theorem endC_f {s : Pk.RS} {m : Mp} : endC false s m = 4 := if_pos rfl
theorem endC_e {s : Pk.RS} {m : Mp} {ok : Bool} (h : ok = true) (he : s.err ≠ 0) : endC ok s m = s.err := by subst h; unfold endC; rw [if_neg (by decide), if_pos he]
theorem endC_c {s : Pk.RS} {m : Mp} {ok : Bool} (h : ok = true) (he : s.err = 0) : endC ok s m = codeOf (checkB m) := by subst h; unfold endC; rw [if_neg (by decide), if_neg (by omega)]
set_option maxHeartbeats 1000000 in
theorem ended_ok (r D v : Value) (L : List UInt8) (s : Pk.RS) (m : Mp) (ok : Bool) (w : World) (B T : Nat) (hp : PRT w B T r D L s) (hv : Rgs w v m.R) (hE : In1 m.E) : FnOk Try.prog 67 [r, .bool ok, agg (m.c v)] w (fun x w' => x = i64 (endC ok s m) ∧ Ext w w') := by
  refine FnOk.enter (rs := [6]) Try.func67 rfl Try.ntmps67 Try.results67 rfl rfl ?_
  refine WF.seq ?_
  refine WF.region ?_
  refine WL.op rfl (OW.boxA (cs := (m.c v)) rfl ?_ (by decide))
  intro g5 w2 heg5 hlg5 hO5 hx4
  have := World.grownBy.size hx4
  refine WL.va rfl rfl rfl (X.assignI rfl) ?_
  refine WL.nil ?_
  refine thn_n ?_
  refine WF.seq ?_
  refine WF.seq ?_
  refine WF.region ?_
  refine WL.va rfl rfl rfl (X.moveB rfl) ?_
  refine WL.va rfl rfl rfl (X.not rfl) ?_
  refine WL.nil ?_
  refine thn_n ?_
  refine WF.cond rfl (fun h0_6 => ?_) (fun h0_6 => ?_)
  · have gh0_6 := (nt h0_6)
    have hok : ok = false := by simpa using gh0_6
    refine WF.seq ?_
    refine WF.region ?_
    refine WL.va rfl rfl rfl (X.assignI rfl) ?_
    refine WL.nil ?_
    refine thn_n ?_
    refine WF.ret ?_
    refine thn_r ?_
    refine fin_r ?_
    rw [hok, endC_f]; exact ⟨rfl, hx4⟩
  · have gh0_6 := (nf h0_6)
    have hok : ok = true := by simpa using gh0_6
    refine WF.skip ?_
    refine thn_n ?_
    refine WF.seq ?_
    refine WF.seq ?_
    refine WF.region ?_
    refine WL.va rfl rfl rfl (X.move rfl) ?_
    refine WL.c rfl rfl rfl (X.call Try.call103 (evl_cons rfl evl_nil)) (rEndT (hp.ext hx4)) ?_
    rintro v9 w8 ⟨rfl, rfl⟩
    refine WL.va rfl rfl rfl (X.assignI rfl) ?_
    refine WL.nil ?_
    refine thn_n ?_
    refine WF.seq ?_
    refine WF.region ?_
    refine WL.va rfl rfl rfl (X.moveI rfl) ?_
    refine WL.va rfl rfl rfl (X.neq rfl rfl) ?_
    refine WL.nil ?_
    refine thn_n ?_
    refine WF.cond rfl (fun h1_11 => ?_) (fun h1_11 => ?_)
    · have gh1_11 := (of_decide_eq_true h1_11)
      have he : s.err ≠ 0 := gh1_11
      refine WF.seq ?_
      refine WF.region ?_
      refine WL.va rfl rfl rfl (X.moveI rfl) ?_
      refine WL.va rfl rfl rfl (X.assignI rfl) ?_
      refine WL.nil ?_
      refine thn_n ?_
      refine WF.ret ?_
      refine thn_r ?_
      refine fin_r ?_
      rw [endC_e hok he]; exact ⟨rfl, hx4⟩
    · have gh1_11 := (Decidable.of_not_not (of_decide_eq_false h1_11))
      have he : s.err = 0 := gh1_11
      refine WF.skip ?_
      refine thn_n ?_
      refine WF.seq ?_
      refine WF.region ?_
      refine WL.va rfl rfl rfl (X.loadOA hO5 (Ext.refl _) rfl rfl Try.isAgg26 Try.sizeOf26) ?_
      refine WL.c rfl rfl rfl (X.call Try.call11 (evl_cons rfl evl_nil)) (checkC_ok m v _ (Row.ext hv hx4) hE) ?_
      rintro v14 w13 ⟨rfl, hx15⟩
      have := World.grownBy.size hx15
      refine WL.va rfl rfl rfl (X.assignI rfl) ?_
      refine WL.nil ?_
      refine thn_n ?_
      refine WF.ret ?_
      refine fin_r ?_
      rw [endC_c hok he]; exact ⟨rfl, (Ext.trans hx4 hx15)⟩

set_option maxHeartbeats 2000000 in
theorem getMap_ok (v : Value) (l : List UInt8) (w : World) (hb : Bytes w v l) (hl : l.length ≤ 1000000) : FnOk Try.prog 32 [v] w (fun x w' => (∃ vr, x = .tuple #[agg ((getM ⟨l, false⟩).1.c vr), i64 (getM ⟨l, false⟩).2] ∧ OwnR w' w.heap.size 41 vr (getM ⟨l, false⟩).1.R) ∧ Ext w w') := by
  refine FnOk.enterC (rs := [.cell 2 26, .tmp 3]) Try.func32 rfl Try.ntmps32 Try.results32 rfl rfl ?_
  refine WF.seq ?_
  refine WF.region ?_
  refine WL.op rfl (OW.allocO (cs := [.slice none 0 0, i64 0, i64 0, i64 0, i64 0, i64 0, i64 0]) Try.zeroValue26 rfl ?_ (by decide))
  intro g2 w1 heg2 hlg2 hO2 hx3
  have := World.grownBy.size hx3
  refine WL.va rfl rfl rfl (X.assignI rfl) ?_
  refine WL.nil ?_
  refine thn_n ?_
  refine WF.seq ?_
  refine WF.region ?_
  refine WL.va rfl rfl rfl (X.move rfl) ?_
  have hz1 := ((show Ext w w1 from hx3)).size
  refine WL.c rfl rfl rfl (X.call Try.call65 (evl_cons rfl evl_nil)) (read_ok _ _ _ (Row.ext hb hx3) (by omega)) ?_
  rintro vr w5 ⟨⟨D, left0, hp0⟩, hx6⟩
  have := World.grownBy.size hx6
  have hp1 := PRT.of hp0
  have hr0 := hp1.hr
  have hrl := hp1.low
  have hpT := hp1
  refine WL.va rfl rfl rfl (X.assign rfl) ?_
  refine WL.nil ?_
  refine thn_n ?_
  refine WF.seq ?_
  refine WF.region ?_
  refine WL.va rfl rfl rfl (X.move rfl) ?_
  refine WL.c rfl rfl rfl (X.call Try.call66 (evl_cons rfl evl_nil)) (readM_ok vr D l _ _ _ _ hpT (Nat.le_refl _) hl) ?_
  rintro v8 w7 ⟨⟨l1, s1, vR, ok, rfl, hq1, oR, hy, hn⟩, hx9⟩
  have := World.grownBy.size hx9
  replace hO2 := (hO2.ext hx6).keptR hx9 (fun b hb => by have := hrl b hb; omega)
  replace hpT := hq1
  have oRT := OwnT.of oR
  refine WL.va rfl rfl rfl (X.move rfl) ?_
  refine WL.va rfl rfl rfl (X.extract rfl rfl) ?_
  refine WL.va rfl rfl rfl (X.extract rfl rfl) ?_
  refine WL.op rfl (OW.allocO (cs := [.slice none 0 0, i64 0, i64 0, i64 0, i64 0, i64 0, i64 0]) Try.zeroValue26 rfl ?_ (by decide))
  intro g5 w11 heg5 hlg5 hO5 hx13
  have := World.grownBy.size hx13
  refine WL.op rfl (OW.storeOA hO5 rfl rfl rfl (Mp.c_one (oRT.ext hx13).rd (mp6 l1 s1)) Try.sizeOf26 ?_)
  intro w15 hO5 hx17
  have := World.grownBy.size hx17
  replace hO2 := (hO2.ext hx13).keptO hx17 (by omega)
  replace hpT := (hpT.ext hx13).keptO hx17 (by omega)
  replace oRT := (oRT.ext hx13).keptO hx17 (by omega)
  replace hO5 : Blk _ _ _ ((mp6 l1 s1).c vR) := hO5
  refine WL.va rfl rfl rfl (X.assignB rfl) ?_
  refine WL.nil ?_
  refine thn_n ?_
  refine WF.seq ?_
  refine WF.seq ?_
  refine WF.region ?_
  refine WL.va rfl rfl rfl (X.move rfl) ?_
  refine WL.va rfl rfl rfl (X.moveB rfl) ?_
  refine WL.va rfl rfl rfl (X.loadOA hO5 (Ext.refl _) rfl rfl Try.isAgg26 Try.sizeOf26) ?_
  refine WL.c rfl rfl rfl (X.call Try.call67 (evl_cons rfl (evl_cons rfl (evl_cons rfl evl_nil)))) (ended_ok vr D vR l _ (mp6 l1 s1) ok _ _ _ hpT oRT.rd (mp6_E _ _)) ?_
  rintro v20 w19 ⟨rfl, hx21⟩
  have := World.grownBy.size hx21
  refine WL.va rfl rfl rfl (X.assignI rfl) ?_
  refine WL.nil ?_
  refine thn_n ?_
  refine WF.seq ?_
  refine WF.region ?_
  refine WL.va rfl rfl rfl (X.moveI rfl) ?_
  refine WL.va rfl rfl rfl (X.neq rfl rfl) ?_
  refine WL.nil ?_
  refine thn_n ?_
  refine WF.cond rfl (fun h0_22 => ?_) (fun h0_22 => ?_)
  · have gh0_22 := (of_decide_eq_true h0_22)
    have he : endC ok (six s1) (mp6 l1 s1) ≠ 0 := gh0_22
    refine WF.seq ?_
    refine WF.region ?_
    refine WL.va rfl rfl rfl (X.build evp_nil Try.type26 Try.underlying26 rfl rfl trivial rfl) ?_
    refine WL.va rfl rfl rfl (X.moveI rfl) ?_
    refine WL.op rfl (OW.storeOA (hO2.ext hx21) rfl rfl rfl (by simp [Value.oneCell']) Try.sizeOf26 ?_)
    intro w24 hO2 hx26
    have := World.grownBy.size hx26
    replace oRT := (oRT.ext hx21).keptO hx26 (by omega)
    replace hO5 := (hO5.ext hx21).keptO hx26 (by omega)
    refine WL.va rfl rfl rfl (X.assignI rfl) ?_
    refine WL.nil ?_
    refine thn_n ?_
    refine WF.ret ?_
    refine thn_r ?_
    refine finC_r (vs := [_, _]) ⟨⟨_, rfl, readO hO2 Try.isAgg26 Try.sizeOf26⟩, rfl, trivial⟩ ?_
    have hg := get_end (s := ⟨l, false⟩) hy hn
    rw [if_neg he] at hg
    rw [hg]
    exact ⟨⟨nilS, rfl, OwnR.nil _ _ _⟩, (Ext.store (Ext.trans (Ext.trans (grown_trans (Ext.trans hx3 hx6) hx9 (fun i hi => by have := hrl i hi; omega)) (Ext.store hx13 hx17 (by omega))) hx21) hx26 (by omega))⟩
  · have gh0_22 := (Decidable.of_not_not (of_decide_eq_false h0_22))
    have he : endC ok (six s1) (mp6 l1 s1) = 0 := gh0_22
    refine WF.skip ?_
    refine thn_n ?_
    refine WF.seq ?_
    refine WF.region ?_
    refine WL.va rfl rfl rfl (X.loadOA hO5 hx21 rfl rfl Try.isAgg26 Try.sizeOf26) ?_
    refine WL.op rfl (OW.storeOA (hO2.ext hx21) rfl rfl rfl (Mp.c_one (oRT.ext hx21).rd (mp6 l1 s1)) Try.sizeOf26 ?_)
    intro w28 hO2 hx30
    have := World.grownBy.size hx30
    replace oRT := (oRT.ext hx21).keptO hx30 (by omega)
    replace hO5 := (hO5.ext hx21).keptO hx30 (by omega)
    refine WL.va rfl rfl rfl (X.assignI rfl) ?_
    refine WL.nil ?_
    refine thn_n ?_
    refine WF.ret ?_
    refine finC_r (vs := [_, _]) ⟨⟨_, rfl, readO hO2 Try.isAgg26 Try.sizeOf26⟩, rfl, trivial⟩ ?_
    have hg := get_end (s := ⟨l, false⟩) hy hn
    rw [if_pos he, he] at hg
    rw [hg]
    exact ⟨⟨vR, rfl, own_mono oRT.own (by omega)⟩, (Ext.store (Ext.trans (Ext.trans (grown_trans (Ext.trans hx3 hx6) hx9 (fun i hi => by have := hrl i hi; omega)) (Ext.store hx13 hx17 (by omega))) hx21) hx30 (by omega))⟩

end Go.Proofs.Ytpimnlgfhpnjnaa
