/- The walks of what reads a directory. -/
import Derived.Test.YtpimnlgfhpnjnaaRnU
namespace Go.Proofs.Ytpimnlgfhpnjnaa
open Go Go.RowKit Kf
set_option maxRecDepth 20000

theorem Bytes.inj {w : World} {v : Value} {l m : List UInt8} (h : Bytes w v l) (k : Bytes w v m) : l = m := by
  obtain ⟨a, c, e, _⟩ := h.shape
  obtain ⟨a2, c2, e2, _⟩ := k.shape
  have hl : l.length = m.length := by rw [e] at e2; injection e2
  apply List.ext_getElem hl
  intro i h1 h2
  have q1 := Bytes.at h (Ext.refl w) h1
  have q2 := Bytes.at k (Ext.refl w) h2
  rw [q1] at q2
  injection q2 with q2
  injection q2 with _ q2
  exact byte_eq q2
theorem rdS_eq (s : Pk.RS) : rdS s = ((⟨s.int.1, s.int.2.int.1, s.int.2.int.2.int.1, s.int.2.int.2.int.2.blob.1⟩ : Se.Ses), s.int.2.int.2.int.2.blob.2) := rfl
/-- sessions whose bytes are parts of one row -/
def SegS (D : Value) (L : List UInt8) (F : List Se.SV) : Prop := ∀ e ∈ F, ∃ lo hi, Seg D e.2 lo hi ∧ hi ≤ L.length ∧ e.1.Data = (L.drop lo).take (hi - lo)
theorem SegS.nil (D : Value) (L : List UInt8) : SegS D L [] := fun e he => by cases he
theorem SegS.app {D v : Value} {L : List UInt8} {F : List Se.SV} {x : Se.Ses} {lo hi : Nat} (h : SegS D L F) (h1 : Seg D v lo hi) (h2 : hi ≤ L.length) (h3 : x.Data = (L.drop lo).take (hi - lo)) : SegS D L (F ++ [(x, v)]) := fun e he => by
  rcases List.mem_append.1 he with he | he
  · exact h e he
  · rw [List.mem_singleton] at he; subst he; exact ⟨lo, hi, h1, h2, h3⟩
theorem SegS.dat {w : World} {B : Nat} {D : Value} {L : List UInt8} {F : List Se.SV} (h : SegS D L F) (o : OwnB w B 5 D L) : Se.SDat w F := fun e he => by
  obtain ⟨lo, hi, h1, h2, h3⟩ := h e he
  rw [h3]; exact seg_bytes h1 o h2
section
variable {F : List Se.SV} {x : Se.Ses}
theorem lastC (h : 0 < F.length) : (F.map Prod.fst).getD ((F.map Prod.fst).length - 1) default = (F[F.length - 1]'(by omega)).1 := by
  simp [List.getD_eq_getElem?_getD, List.getElem?_eq_getElem (show F.length - 1 < F.length by omega)]
theorem rises_0c (h : F.length = 0) : [Value.bool (risesB (F.map Prod.fst))] = [.bool (risesB (F.map Prod.fst ++ [x]))] := by
  rw [rises_snoc]; simp [h]
theorem rises_ltc (h : 0 < F.length) (k : (F[F.length - 1]'(by omega)).1.Client < x.Client) : [Value.bool (risesB (F.map Prod.fst))] = [.bool (risesB (F.map Prod.fst ++ [x]))] := by
  rw [rises_snoc, lastC h, decide_eq_true k]; simp
theorem rises_gec (h : 0 < F.length) (k : ¬ (F[F.length - 1]'(by omega)).1.Client < x.Client) : [Value.bool false] = [.bool (risesB (F.map Prod.fst ++ [x]))] := by
  rw [rises_snoc, lastC h, decide_eq_false k, decide_eq_false (show ¬ (F.map Prod.fst).length = 0 by simp; exact fun e => by rw [e] at h; simp at h)]; simp
end
theorem getD_end {s s1 s2 : Pk.RS} {m1 : Mp} {S1 : List Se.Ses} {ok ok2 okk : Bool} (h1 : ok = true → s1 = tM s ∧ m1 = mM s) (h2 : ok = false → (tM s).bad = true) (h3 : ok2 = true → rdL rdS s1 = (S1, s2)) (h4 : ok2 = false → (rdL rdS s1).2.bad = true) (hk : okk = (ok && ok2)) :
    getD s = if endC okk s2 m1 = 0 then (if risesB S1 = true then (⟨m1, S1⟩, 0) else (Dr.zero, 15)) else (Dr.zero, endC okk s2 m1) := by
  have bad : (tD s).bad = true → okk = false → getD s = if endC okk s2 m1 = 0 then (if risesB S1 = true then (⟨m1, S1⟩, 0) else (Dr.zero, 15)) else (Dr.zero, endC okk s2 m1) := fun hb hf => by
    rw [hf, endC_f, if_neg (by decide)]
    unfold getD
    rw [if_pos (by rw [err_bad hb]; decide), err_bad hb]
  cases hok : ok
  · refine bad ?_ (by rw [hk, hok]; rfl)
    exact rdL_dead rdS_bad (h2 hok)
  · obtain ⟨e1, e2⟩ := h1 hok
    cases hok2 : ok2
    · refine bad ?_ (by rw [hk, hok, hok2]; rfl)
      have := h4 hok2
      rw [e1] at this; exact this
    · have e3 := h3 hok2
      rw [e1] at e3
      have ht : tD s = s2 := by unfold tD; rw [e3]
      have hs : sD s = S1 := by unfold sD; rw [e3]
      have hkk : okk = true := by rw [hk, hok, hok2]; rfl
      unfold getD
      rw [ht, hs, ← e2]
      by_cases he : s2.err = 0
      · rw [endC_c hkk he, if_neg (not_not_intro he)]
        cases hc : checkB m1 <;> simp [codeOf]
      · rw [endC_e hkk he, if_pos he, if_neg he]
/-- a directory that was read -/
structure DSeg (w : World) (B : Nat) (v u : Value) (d : Dr) : Prop where
  rng : OwnR w B 41 v d.m.R
  ses : ∃ D L F, F.map Prod.fst = d.S ∧ w.ownsRow B 55 4 u F.length (F.flatMap Se.SV.c) ∧ OwnB w B 5 D L ∧ SegS D L F ∧ Apart u D ∧ Apart v D
  off : Apart v u
theorem DSeg.at {w : World} {B : Nat} {v u : Value} {d : Dr} (h : DSeg w B v u d) : DAt w v u d := by
  obtain ⟨D, L, F, e, o, od, hs, _⟩ := h.ses
  exact ⟨Row.of_own h.rng, ⟨F, e, Row.of_own o, hs.dat od⟩⟩
theorem DSeg.ext {w w' : World} {B : Nat} {v u : Value} {d : Dr} (h : DSeg w B v u d) (g : Ext w w') : DSeg w' B v u d := by
  obtain ⟨D, L, F, e, o, od, hs, ha⟩ := h.ses
  exact ⟨own_ext h.rng g, ⟨D, L, F, e, own_ext o g, own_ext od g, hs, ha⟩, h.off⟩
theorem DSeg.keptO {w w' : World} {B g : Nat} {v u : Value} {d : Dr} (h : DSeg w B v u d) (k : w.grownBy w' (some g)) (hne : g < B ∨ w.heap.size ≤ g) : DSeg w' B v u d := by
  obtain ⟨D, L, F, e, o, od, hs, ha⟩ := h.ses
  exact ⟨own_keptO h.rng k hne, ⟨D, L, F, e, own_keptO o k hne, own_keptO od k hne, hs, ha⟩, h.off⟩
theorem DSeg.mono {w : World} {B B' : Nat} {v u : Value} {d : Dr} (h : DSeg w B v u d) (g : B' ≤ B) : DSeg w B' v u d := by
  obtain ⟨D, L, F, e, o, od, hs, ha⟩ := h.ses
  exact ⟨own_mono h.rng g, ⟨D, L, F, e, own_mono o g, own_mono od g, hs, ha⟩, h.off⟩
theorem apart_nilL (v : Value) : Apart nilS v := fun b hb => by cases hb
theorem DSeg.zero (w : World) (B : Nat) : DSeg w B nilS nilS Dr.zero :=
  ⟨OwnR.nil _ _ _, ⟨nilS, [], [], rfl, World.ownsRow_nil _ _ _ _, World.ownsRow_nil _ _ _ _, SegS.nil _ _, apart_nilL _, apart_nilL _⟩, apart_nilL _⟩
theorem fill51a (a0 a1 a2 a3 a4 a5 a6 : Value) : Instr.fill (([(0, 7), (7, 1)] : List (Nat × Nat)).toArray[·]?) ([nilS, i64 0, i64 0, i64 0, i64 0, i64 0, i64 0, nilS] : List Value).toArray [(0, agg [a0, a1, a2, a3, a4, a5, a6])] = some ([a0, a1, a2, a3, a4, a5, a6, nilS] : List Value).toArray := by
  have hA : (agg [a0, a1, a2, a3, a4, a5, a6]).cells = ([a0, a1, a2, a3, a4, a5, a6] : List Value).toArray := rfl
  simp [Instr.fill, hA, List.zipIdx, Array.setIfInBounds]
set_option maxHeartbeats 4000000 in
theorem getLit_ok (gr gd gri : Nat) (r D u vm : Value) (m : Mp) (L : List UInt8) (F : List Se.SV) (s : Pk.RS) (w0 w : World) (B T : Nat) (hp : PRT w B T r D L s) (hT : T ≤ w0.heap.size) (hd : Blk w gd 51 (Dr.c ⟨m, []⟩ vm u)) (hri : Blk w gri 4 [.bool (risesB (F.map Prod.fst))]) (hr : Blk w gr 93 [r]) (ov : OwnX w w0.heap.size w.heap.size 55 4 u (F).length ((F).flatMap Se.SV.c) gd gri gr) (hs : SegS D L F) (hw : SinceR w0 w (asRow r).ownBlock)
    (hgd : w0.heap.size ≤ gd) (hgri : w0.heap.size ≤ gri) (hgr : T ≤ gr) (hne : gd ≠ gri ∧ gr ≠ gd ∧ gr ≠ gri) (hl : F.length ≤ 1000000) : FnOk Try.prog 72 [at_ gr, at_ gd, at_ gri] w (fun _ w' => ∃ u2 vB, PRT w' B T r D L s.int.2.int.2.int.2.blob.2 ∧ Blk w' gd 51 (Dr.c ⟨m, []⟩ vm u2) ∧ Blk w' gri 4 [.bool (risesB (F.map Prod.fst ++ [(⟨s.int.1, s.int.2.int.1, s.int.2.int.2.int.1, s.int.2.int.2.int.2.blob.1⟩ : Se.Ses)]))] ∧ Blk w' gr 93 [r] ∧ OwnX w' w0.heap.size w'.heap.size 55 4 u2 (F ++ [((⟨s.int.1, s.int.2.int.1, s.int.2.int.2.int.1, s.int.2.int.2.int.2.blob.1⟩ : Se.Ses), vB)]).length ((F ++ [((⟨s.int.1, s.int.2.int.1, s.int.2.int.2.int.1, s.int.2.int.2.int.2.blob.1⟩ : Se.Ses), vB)]).flatMap Se.SV.c) gd gri gr ∧ SegS D L (F ++ [((⟨s.int.1, s.int.2.int.1, s.int.2.int.2.int.1, s.int.2.int.2.int.2.blob.1⟩ : Se.Ses), vB)]) ∧ SinceR w0 w' (asRow r).ownBlock) := by
  have hr0 := hp.hr
  have hpT := hp
  have hG := hw
  have hGz := World.grownBy.size hw.x
  have ovT := ov
  have td := hd.lt
  have tr := hr.lt
  have ti := hri.lt
  refine FnOk.enter (rs := []) Try.func72 rfl Try.ntmps72 Try.results72 rfl rfl ?_
  refine WF.named (fun F1 hF2 => ?_)
  refine WF.cut (fun f' w' => ∃ (gs : Nat), f' 3 = at_ gs ∧ Agree [0, 1, 2] f' F1 ∧ True ∧ Blk w' gs 55 [i64 s.int.1, i64 s.int.2.int.1, i64 0, nilS] ∧ PRT w' B T r D L s.int.2.int.2 ∧ Blk w' gd 51 (Dr.c ⟨m, []⟩ vm u) ∧ Blk w' gri 4 [.bool (risesB (F.map Prod.fst))] ∧ Blk w' gr 93 [r] ∧ OwnX w' w0.heap.size w.heap.size 55 4 u (F).length ((F).flatMap Se.SV.c) gd gri gr ∧ SinceR w0 w' (asRow r).ownBlock ∧ w.heap.size ≤ gs ∧ w.heap.size ≤ w'.heap.size) ?_ ?_
  · refine WF.drawn (.q 0 (.q 2 (.b 1 5 (.b 3 5 (.q 4 (.l 5 .nil)) (.l 3 (.q 4 .nil))) (.l 1 (.l 3 (.q 4 .nil)))))) (fun w' => World.grownBy w w' (asRow r).ownBlock) 6 (by kernel_rfl) (by kernel_rfl) (grown_of_ext (Ext.drew _)) ?_
    have := World.grownBy.size (Ext.drew w)
    refine WO.q rfl rfl rfl rfl (fun w' hE3 => (X.loadO (hr.kept hE3 (fun e => by have := hr0 _ e; omega)) (Ext.refl _) (congrFun hF2 0) (show [r][0]? = some r from rfl) Try.isAgg93)) ?_
    refine WO.q rfl rfl rfl rfl (fun w' hE3 => (X.loadO (hr.kept hE3 (fun e => by have := hr0 _ e; omega)) (Ext.refl _) (congrFun hF2 0) (show [r][0]? = some r from rfl) Try.isAgg93)) ?_
    refine WO.b2 ?_ ?_
    · refine LO.go rfl rfl (OW.enter rfl (by decide) (X.call Try.call73 (evl_cons (v := r) rfl evl_nil)) (rIntT (hpT.ext (Ext.drew _))) ?_)
      rintro v5 w4 ⟨rfl, hq1, hx6⟩
      have := World.grownBy.size hx6
      replace hr := (hr.ext (Ext.drew _)).keptR hx6 (fun b hb => by have := hr0 b hb; first | omega | exact .inr hb | exact .inl (by omega))
      replace hd := (hd.ext (Ext.drew _)).keptR hx6 (fun b hb => by have := hr0 b hb; first | omega | exact .inr hb | exact .inl (by omega))
      replace hri := (hri.ext (Ext.drew _)).keptR hx6 (fun b hb => by have := hr0 b hb; first | omega | exact .inr hb | exact .inl (by omega))
      replace hG := (hG.ext (Ext.drew _)).kept hx6 (fun b hb => by have := hr0 b hb; first | omega | exact .inr hb | exact .inl (by omega))
      replace ovT := (ovT.ext (Ext.drew _)).kept hx6 (fun b hb => by have := hr0 b hb; first | omega | exact .inr hb | exact .inl (by omega))
      refine ⟨(grown2 (grown_of_ext (Ext.drew _)) hx6), ?_⟩
      replace hpT := hq1
      refine WO.b2 ?_ ?_
      · refine LO.go rfl rfl (OW.enter rfl (by decide) (X.call Try.call73 (evl_cons (v := r) rfl evl_nil)) (rIntT hpT) ?_)
        rintro v8 w7 ⟨rfl, hq1, hx9⟩
        have := World.grownBy.size hx9
        replace hr := hr.keptR hx9 (fun b hb => by have := hr0 b hb; first | omega | exact .inr hb | exact .inl (by omega))
        replace hd := hd.keptR hx9 (fun b hb => by have := hr0 b hb; first | omega | exact .inr hb | exact .inl (by omega))
        replace hri := hri.keptR hx9 (fun b hb => by have := hr0 b hb; first | omega | exact .inr hb | exact .inl (by omega))
        replace hG := hG.kept hx9 (fun b hb => by have := hr0 b hb; first | omega | exact .inr hb | exact .inl (by omega))
        replace ovT := ovT.kept hx9 (fun b hb => by have := hr0 b hb; first | omega | exact .inr hb | exact .inl (by omega))
        refine ⟨(grown2 (grown2 (grown_of_ext (Ext.drew _)) hx6) hx9), ?_⟩
        replace hpT := hq1
        refine WO.q rfl rfl rfl rfl (fun w' hE3 => (X.buildL (P := Try.prog) (t := 55) (cs := [i64 s.int.1, i64 s.int.2.int.1, i64 0, nilS]) (evp_cons rfl (evp_cons rfl evp_nil)) Try.type55 Try.underlying55 rfl rfl ⟨rfl, rfl, trivial⟩ rfl)) ?_
        refine WO.l ?_
        refine LO.go rfl rfl (OW.allocO (cs := [i64 0, i64 0, i64 0, .slice none 0 0]) Try.zeroValue55 rfl ?_ (by decide))
        intro g3 w10 heg3 hlg3 hO3 hx12
        have := World.grownBy.size hx12
        refine ⟨(grown_ext (grown2 (grown2 (grown_of_ext (Ext.drew _)) hx6) hx9) hx12), ?_⟩
        refine WO.nil ?_
        refine WL.op rfl (OW.storeOA hO3 rfl rfl rfl (by simp [Value.oneCell']) Try.sizeOf55 ?_)
        intro w14 hO3 hx16
        have := World.grownBy.size hx16
        replace hr := (hr.ext hx12).keptO hx16 (by omega)
        replace hd := (hd.ext hx12).keptO hx16 (by omega)
        replace hri := (hri.ext hx12).keptO hx16 (by omega)
        replace hpT := (hpT.ext hx12).keptO hx16 (by omega)
        replace hG := (hG.ext hx12).keptO hx16 (by omega)
        replace ovT := (ovT.ext hx12).keptO hx16 (by omega)
        replace hO3 : Blk _ _ _ [i64 s.int.1, i64 s.int.2.int.1, i64 0, nilS] := hO3
        refine WL.nil ?_
        refine thn_n ?_
        exact ⟨_, rfl, (by repeat (first | exact (Agree.refl _ F1) | refine Agree.put ?_ rfl | refine Agree.named hF2 ?_)), trivial, ⟨hO3, hpT, hd, hri, hr, ovT, hG, by omega, by omega⟩⟩
      · refine LO.go rfl rfl (OW.allocO (cs := [i64 0, i64 0, i64 0, .slice none 0 0]) Try.zeroValue55 rfl ?_ (by decide))
        intro g3 w18 heg3 hlg3 hO3 hx20
        have := World.grownBy.size hx20
        refine ⟨(grown_ext (grown2 (grown_of_ext (Ext.drew _)) hx6) hx20), ?_⟩
        refine WO.l ?_
        refine LO.go rfl rfl (OW.enter rfl (by decide) (X.call Try.call73 (evl_cons (v := r) rfl evl_nil)) (rIntT (hpT.ext hx20)) ?_)
        rintro v23 w22 ⟨rfl, hq1, hx24⟩
        have := World.grownBy.size hx24
        replace hr := (hr.ext hx20).keptR hx24 (fun b hb => by have := hr0 b hb; first | omega | exact .inr hb | exact .inl (by omega))
        replace hd := (hd.ext hx20).keptR hx24 (fun b hb => by have := hr0 b hb; first | omega | exact .inr hb | exact .inl (by omega))
        replace hri := (hri.ext hx20).keptR hx24 (fun b hb => by have := hr0 b hb; first | omega | exact .inr hb | exact .inl (by omega))
        replace hG := (hG.ext hx20).kept hx24 (fun b hb => by have := hr0 b hb; first | omega | exact .inr hb | exact .inl (by omega))
        replace ovT := (ovT.ext hx20).kept hx24 (fun b hb => by have := hr0 b hb; first | omega | exact .inr hb | exact .inl (by omega))
        replace hO3 := hO3.keptR hx24 (fun b hb => by have := hr0 b hb; first | omega | exact .inr hb | exact .inl (by omega))
        refine ⟨(grown2 (grown_ext (grown2 (grown_of_ext (Ext.drew _)) hx6) hx20) hx24), ?_⟩
        replace hpT := hq1
        refine WO.q rfl rfl rfl rfl (fun w' hE3 => (X.buildL (P := Try.prog) (t := 55) (cs := [i64 s.int.1, i64 s.int.2.int.1, i64 0, nilS]) (evp_cons rfl (evp_cons rfl evp_nil)) Try.type55 Try.underlying55 rfl rfl ⟨rfl, rfl, trivial⟩ rfl)) ?_
        refine WO.nil ?_
        refine WL.op rfl (OW.storeOA hO3 rfl rfl rfl (by simp [Value.oneCell']) Try.sizeOf55 ?_)
        intro w25 hO3 hx27
        have := World.grownBy.size hx27
        replace hr := hr.keptO hx27 (by omega)
        replace hd := hd.keptO hx27 (by omega)
        replace hri := hri.keptO hx27 (by omega)
        replace hpT := hpT.keptO hx27 (by omega)
        replace hG := hG.keptO hx27 (by omega)
        replace ovT := ovT.keptO hx27 (by omega)
        replace hO3 : Blk _ _ _ [i64 s.int.1, i64 s.int.2.int.1, i64 0, nilS] := hO3
        refine WL.nil ?_
        refine thn_n ?_
        exact ⟨_, rfl, (by repeat (first | exact (Agree.refl _ F1) | refine Agree.put ?_ rfl | refine Agree.named hF2 ?_)), trivial, ⟨hO3, hpT, hd, hri, hr, ovT, hG, by omega, by omega⟩⟩
    · refine LO.go rfl rfl (OW.allocO (cs := [i64 0, i64 0, i64 0, .slice none 0 0]) Try.zeroValue55 rfl ?_ (by decide))
      intro g3 w29 heg3 hlg3 hO3 hx31
      have := World.grownBy.size hx31
      refine ⟨(grown_ext (grown_of_ext (Ext.drew _)) hx31), ?_⟩
      refine WO.l ?_
      refine LO.go rfl rfl (OW.enter rfl (by decide) (X.call Try.call73 (evl_cons (v := r) rfl evl_nil)) (rIntT (hpT.ext (Ext.trans (Ext.drew _) hx31))) ?_)
      rintro v34 w33 ⟨rfl, hq1, hx35⟩
      have := World.grownBy.size hx35
      replace hr := (hr.ext (Ext.trans (Ext.drew _) hx31)).keptR hx35 (fun b hb => by have := hr0 b hb; first | omega | exact .inr hb | exact .inl (by omega))
      replace hd := (hd.ext (Ext.trans (Ext.drew _) hx31)).keptR hx35 (fun b hb => by have := hr0 b hb; first | omega | exact .inr hb | exact .inl (by omega))
      replace hri := (hri.ext (Ext.trans (Ext.drew _) hx31)).keptR hx35 (fun b hb => by have := hr0 b hb; first | omega | exact .inr hb | exact .inl (by omega))
      replace hG := (hG.ext (Ext.trans (Ext.drew _) hx31)).kept hx35 (fun b hb => by have := hr0 b hb; first | omega | exact .inr hb | exact .inl (by omega))
      replace ovT := (ovT.ext (Ext.trans (Ext.drew _) hx31)).kept hx35 (fun b hb => by have := hr0 b hb; first | omega | exact .inr hb | exact .inl (by omega))
      replace hO3 := hO3.keptR hx35 (fun b hb => by have := hr0 b hb; first | omega | exact .inr hb | exact .inl (by omega))
      refine ⟨(grown2 (grown_ext (grown_of_ext (Ext.drew _)) hx31) hx35), ?_⟩
      replace hpT := hq1
      refine WO.l ?_
      refine LO.go rfl rfl (OW.enter rfl (by decide) (X.call Try.call73 (evl_cons (v := r) rfl evl_nil)) (rIntT hpT) ?_)
      rintro v37 w36 ⟨rfl, hq1, hx38⟩
      have := World.grownBy.size hx38
      replace hr := hr.keptR hx38 (fun b hb => by have := hr0 b hb; first | omega | exact .inr hb | exact .inl (by omega))
      replace hd := hd.keptR hx38 (fun b hb => by have := hr0 b hb; first | omega | exact .inr hb | exact .inl (by omega))
      replace hri := hri.keptR hx38 (fun b hb => by have := hr0 b hb; first | omega | exact .inr hb | exact .inl (by omega))
      replace hG := hG.kept hx38 (fun b hb => by have := hr0 b hb; first | omega | exact .inr hb | exact .inl (by omega))
      replace ovT := ovT.kept hx38 (fun b hb => by have := hr0 b hb; first | omega | exact .inr hb | exact .inl (by omega))
      replace hO3 := hO3.keptR hx38 (fun b hb => by have := hr0 b hb; first | omega | exact .inr hb | exact .inl (by omega))
      refine ⟨(grown2 (grown2 (grown_ext (grown_of_ext (Ext.drew _)) hx31) hx35) hx38), ?_⟩
      replace hpT := hq1
      refine WO.q rfl rfl rfl rfl (fun w' hE3 => (X.buildL (P := Try.prog) (t := 55) (cs := [i64 s.int.1, i64 s.int.2.int.1, i64 0, nilS]) (evp_cons rfl (evp_cons rfl evp_nil)) Try.type55 Try.underlying55 rfl rfl ⟨rfl, rfl, trivial⟩ rfl)) ?_
      refine WO.nil ?_
      refine WL.op rfl (OW.storeOA hO3 rfl rfl rfl (by simp [Value.oneCell']) Try.sizeOf55 ?_)
      intro w39 hO3 hx41
      have := World.grownBy.size hx41
      replace hr := hr.keptO hx41 (by omega)
      replace hd := hd.keptO hx41 (by omega)
      replace hri := hri.keptO hx41 (by omega)
      replace hpT := hpT.keptO hx41 (by omega)
      replace hG := hG.keptO hx41 (by omega)
      replace ovT := ovT.keptO hx41 (by omega)
      replace hO3 : Blk _ _ _ [i64 s.int.1, i64 s.int.2.int.1, i64 0, nilS] := hO3
      refine WL.nil ?_
      refine thn_n ?_
      exact ⟨_, rfl, (by repeat (first | exact (Agree.refl _ F1) | refine Agree.put ?_ rfl | refine Agree.named hF2 ?_)), trivial, ⟨hO3, hpT, hd, hri, hr, ovT, hG, by omega, by omega⟩⟩
  · rintro fCr0 wCr0 ⟨gs, e3_Cr0, hACr0, hwCr0, ⟨hO3, hpT, hd, hri, hr, ovT, hG, hgs, hz1⟩⟩
    have hGz := World.grownBy.size hG.x
    have t3 := hO3.lt
    refine WF.seq ?_
    refine WF.drawn (.q 0 (.q 2 (.l 1 (.l 3 (.q 4 (.q 5 .nil)))))) (fun w' => World.grownBy wCr0 w' (asRow r).ownBlock) 6 (by kernel_rfl) (by kernel_rfl) (grown_of_ext (Ext.drew _)) ?_
    have := World.grownBy.size (Ext.drew wCr0)
    refine WO.q rfl rfl rfl rfl (fun w' hE43 => (X.loadO (hr.kept hE43 (fun e => by have := hr0 _ e; omega)) (Ext.refl _) ((hACr0.eq 0).trans (congrFun hF2 0)) (show [r][0]? = some r from rfl) Try.isAgg93)) ?_
    refine WO.q rfl rfl rfl rfl (fun w' hE43 => (X.loadO (hr.kept hE43 (fun e => by have := hr0 _ e; omega)) (Ext.refl _) ((hACr0.eq 0).trans (congrFun hF2 0)) (show [r][0]? = some r from rfl) Try.isAgg93)) ?_
    refine WO.l ?_
    refine LO.go rfl rfl (OW.enter rfl (by decide) (X.call Try.call73 (evl_cons (v := r) rfl evl_nil)) (rIntT (hpT.ext (Ext.drew _))) ?_)
    rintro v45 w44 ⟨rfl, hq1, hx46⟩
    have := World.grownBy.size hx46
    replace hG := (hG.ext (Ext.drew _)).kept hx46 (fun b hb => by have := hr0 b hb; first | omega | exact .inr hb | exact .inl (by omega))
    replace ovT := (ovT.ext (Ext.drew _)).kept hx46 (fun b hb => by have := hr0 b hb; first | omega | exact .inr hb | exact .inl (by omega))
    replace hd := (hd.ext (Ext.drew _)).keptR hx46 (fun b hb => by have := hr0 b hb; first | omega | exact .inr hb | exact .inl (by omega))
    replace hri := (hri.ext (Ext.drew _)).keptR hx46 (fun b hb => by have := hr0 b hb; first | omega | exact .inr hb | exact .inl (by omega))
    replace hr := (hr.ext (Ext.drew _)).keptR hx46 (fun b hb => by have := hr0 b hb; first | omega | exact .inr hb | exact .inl (by omega))
    replace hO3 := (hO3.ext (Ext.drew _)).keptR hx46 (fun b hb => by have := hr0 b hb; first | omega | exact .inr hb | exact .inl (by omega))
    refine ⟨(grown2 (grown_of_ext (Ext.drew _)) hx46), ?_⟩
    replace hpT := hq1
    refine WO.l ?_
    refine LO.go rfl rfl (OW.enter rfl (by decide) (X.call Try.call74 (evl_cons (v := r) rfl evl_nil)) (rBlobT hpT) ?_)
    rintro vB w47 ⟨⟨lo, hi, hsg, hhi⟩, hbB, hq1, hx48⟩
    have := World.grownBy.size hx48
    replace hG := hG.kept hx48 (fun b hb => by have := hr0 b hb; first | omega | exact .inr hb | exact .inl (by omega))
    replace ovT := ovT.kept hx48 (fun b hb => by have := hr0 b hb; first | omega | exact .inr hb | exact .inl (by omega))
    replace hd := hd.keptR hx48 (fun b hb => by have := hr0 b hb; first | omega | exact .inr hb | exact .inl (by omega))
    replace hri := hri.keptR hx48 (fun b hb => by have := hr0 b hb; first | omega | exact .inr hb | exact .inl (by omega))
    replace hr := hr.keptR hx48 (fun b hb => by have := hr0 b hb; first | omega | exact .inr hb | exact .inl (by omega))
    replace hO3 := hO3.keptR hx48 (fun b hb => by have := hr0 b hb; first | omega | exact .inr hb | exact .inl (by omega))
    refine ⟨(grown2 (grown2 (grown_of_ext (Ext.drew _)) hx46) hx48), ?_⟩
    have hdat : s.int.2.int.2.int.2.blob.1 = (L.drop lo).take (hi - lo) := by obtain ⟨⟨aq, lq, hq2⟩, _, _⟩ := hq1; exact Bytes.inj hbB (seg_bytes hsg hq2.own hhi)
    replace hpT := hq1
    refine WO.q rfl rfl rfl rfl (fun w' hE43 => (X.buildL (P := Try.prog) (t := 53) (cs := [i64 s.int.2.int.2.int.1, vB]) (evp_cons rfl (evp_cons rfl evp_nil)) Try.type53 Try.underlying53 rfl rfl ⟨rfl, Row.one hbB, trivial⟩ rfl)) ?_
    refine WO.q rfl rfl rfl rfl (fun w' hE43 => (X.fieldAddrO (off := 2) e3_Cr0 Try.underlying55 rfl rfl Try.sizeOf53)) ?_
    refine WO.nil ?_
    refine WL.op rfl (OW.storeU (us := [i64 s.int.2.int.2.int.1, vB]) hO3 (Nat.le_of_ble_eq_true rfl) rfl rfl rfl (res_one rfl (Row.one hbB)) Try.sizeOf53 ?_)
    intro w49 hO3 hx51
    have := World.grownBy.size hx51
    replace hpT := hpT.keptO hx51 (by omega)
    replace hG := hG.keptO hx51 (by omega)
    replace ovT := ovT.keptO hx51 (by omega)
    replace hd := hd.keptO hx51 (by omega)
    replace hri := hri.keptO hx51 (by omega)
    replace hr := hr.keptO hx51 (by omega)
    replace hO3 : Blk _ _ _ [i64 s.int.1, i64 s.int.2.int.1, i64 s.int.2.int.2.int.1, vB] := hO3
    refine WL.nil ?_
    refine thn_n ?_
    refine WF.seq ?_
    refine WF.seq ?_
    refine WF.region ?_
    refine WL.va rfl rfl rfl (X.fieldAddrO (off := 7) ((hACr0.eq 1).trans (congrFun hF2 1)) Try.underlying51 rfl rfl Try.sizeOf49) ?_
    refine WL.va rfl rfl rfl (X.loadO hd (Ext.refl _) rfl rfl Try.isAgg49) ?_
    refine WL.va rfl rfl rfl (X.len (ovT.rd) rfl Try.underlying49) ?_
    refine WL.va rfl rfl rfl (X.assignI rfl) ?_
    refine WL.nil ?_
    refine thn_n ?_
    refine WF.seq ?_
    refine WF.drawn (.q 0 (.q 1 (.q 2 (.q 3 (.q 4 (.q 5 (.q 6 (.q 7 (.q 8 (.q 9 (.q 10 (.q 11 (.q 12 (.q 13 .nil)))))))))))))) (fun w' => Ext w49 w') 14 (by kernel_rfl) (by kernel_rfl) (Ext.drew _) ?_
    have := World.grownBy.size (Ext.drew w49)
    refine WO.q rfl rfl rfl rfl (fun w' hE53 => (X.moveI rfl)) ?_
    refine WO.q rfl rfl rfl rfl (fun w' hE53 => (X.gtr rfl rfl)) ?_
    refine WO.q rfl rfl rfl rfl (fun w' hE53 => (X.moveB rfl)) ?_
    refine WO.split (j := 2) rfl (fun h55 => ?_) (fun h55 => ?_)
    · have gh55 := (of_decide_eq_true h55)
      have hpos : 0 < F.length := by have := gh55; omega
      refine WO.qg rfl rfl (congrArg some h55) rfl rfl (fun w' hE53 => (X.fieldAddrO (off := 7) ((hACr0.eq 1).trans (congrFun hF2 1)) Try.underlying51 rfl rfl Try.sizeOf49)) ?_
      refine WO.qg rfl rfl (congrArg some h55) rfl rfl (fun w' hE53 => (X.loadO hd hE53 rfl rfl Try.isAgg49)) ?_
      refine WO.qg rfl rfl (congrArg some h55) rfl rfl (fun w' hE53 => (X.moveI rfl)) ?_
      refine WO.qg rfl rfl (congrArg some h55) rfl rfl (fun w' hE53 => (X.sub rfl rfl (show IntKind.i64.wrap ((F.length : Int) - 1) = ((F.length - 1 : Nat) : Int) from by rw [w64 (by omega)]; omega))) ?_
      refine WO.qg rfl rfl (congrArg some h55) rfl rfl (fun w' hE53 => (X.idx (ovT.rd) rfl rfl (by omega) Try.underlying49 Try.sizeOf55)) ?_
      refine WO.qg rfl rfl (congrArg some h55) rfl rfl (fun w' hE53 => (X.fieldAddrA rfl Try.underlying55 rfl rfl Try.sizeOf3)) ?_
      refine WO.qg rfl rfl (congrArg some h55) rfl rfl (fun w' hE53 => (X.loadE (ovT.rd) hE53 rfl (by omega) ((Se.SRow.get (k := F.length - 1) (by omega) (by decide)).trans rfl) Try.isAgg3)) ?_
      refine WO.qg rfl rfl (congrArg some h55) rfl rfl (fun w' hE53 => (X.fieldAddrO (off := 0) e3_Cr0 Try.underlying55 rfl rfl Try.sizeOf3)) ?_
      refine WO.qg rfl rfl (congrArg some h55) rfl rfl (fun w' hE53 => (X.loadO hO3 hE53 rfl rfl Try.isAgg3)) ?_
      refine WO.qg rfl rfl (congrArg some h55) rfl rfl (fun w' hE53 => (X.geq rfl rfl)) ?_
      refine WO.q rfl rfl rfl rfl (fun w' hE53 => (X.pickT rfl h55 rfl)) ?_
      refine WO.nil ?_
      refine WL.nil ?_
      refine thn_n ?_
      refine WF.cond rfl (fun h0_56 => ?_) (fun h0_56 => ?_)
      · have gh0_56 := (of_decide_eq_true h0_56)
        have hrs := rises_gec (F := F) (x := (⟨s.int.1, s.int.2.int.1, s.int.2.int.2.int.1, s.int.2.int.2.int.2.blob.1⟩ : Se.Ses)) hpos (by have h1 := gh0_56; show ¬ (_ : Int) < s.int.1; omega)
        refine WF.region ?_
        refine WL.op rfl (OW.storeO (hri.ext (Ext.drew _)) (Nat.le_of_ble_eq_true rfl) ((hACr0.eq 2).trans (congrFun hF2 2)) rfl rfl Try.sizeOf4 ?_)
        intro w58 hri hx60
        have := World.grownBy.size hx60
        replace hpT := (hpT.ext (Ext.drew _)).keptO hx60 (by omega)
        replace hG := (hG.ext (Ext.drew _)).keptO hx60 (by omega)
        replace ovT := (ovT.ext (Ext.drew _)).keptO hx60 (by omega)
        replace hd := (hd.ext (Ext.drew _)).keptO hx60 (by omega)
        replace hr := (hr.ext (Ext.drew _)).keptO hx60 (by omega)
        replace hO3 := (hO3.ext (Ext.drew _)).keptO hx60 (by omega)
        refine WL.nil ?_
        refine thn_n ?_
        refine WF.region ?_
        refine WL.va rfl rfl rfl (X.fieldAddrO (off := 7) ((hACr0.eq 1).trans (congrFun hF2 1)) Try.underlying51 rfl rfl Try.sizeOf49) ?_
        refine WL.va rfl rfl rfl (X.loadO hd (Ext.refl _) rfl rfl Try.isAgg49) ?_
        refine WL.va rfl rfl rfl (X.loadOA hO3 (Ext.refl _) e3_Cr0 rfl Try.isAgg55 Try.sizeOf55) ?_
        refine WL.op rfl (OW.lits (vs := [agg (Se.SV.c ((⟨s.int.1, s.int.2.int.1, s.int.2.int.2.int.1, s.int.2.int.2.int.2.blob.1⟩ : Se.Ses), vB))]) (evp_cons rfl evp_nil) Try.underlying49 Try.sizeOf55 Try.zeroValue55 ⟨rfl, trivial⟩ rfl rfl rfl ?_ (by decide))
        intro v63 w62 ho66 hx65
        have := World.grownBy.size hx65
        have o1 : World.ownsRow w62 _ 55 4 v63 1 (Se.SV.c ((⟨s.int.1, s.int.2.int.1, s.int.2.int.2.int.1, s.int.2.int.2.int.2.blob.1⟩ : Se.Ses), vB)) := ho66
        have hovX := (ovT.ext hx65)
        have hov := hovX.own
        refine WL.op rfl (OW.append (bytes := 48) hov (Row.of_own o1) (Se.SV.c_one (e := ((⟨s.int.1, s.int.2.int.1, s.int.2.int.2.int.1, s.int.2.int.2.int.2.blob.1⟩ : Se.Ses), vB)) hbB) rfl rfl Try.underlying49 Try.type55 rfl rfl rfl rfl (by decide) (by unfold maxLen; omega) (by omega) (by omega) ?_ (by decide))
        intro u2 w67 ho69 hx68 hmvhx68
        have := World.grownBy.size hx68
        replace hpT := (hpT.ext hx65).kept hx68 (fun b hb => by have h1 := (hov.lt b hb).1; have h2 := hovX.ne b hb; have h3 := hovX.top b hb; first | omega | exact .inl (by omega))
        replace hG := (hG.ext hx65).kept hx68 (fun b hb => by have h1 := (hov.lt b hb).1; have h2 := hovX.ne b hb; have h3 := hovX.top b hb; first | omega | exact .inl (by omega))
        replace hd := (hd.ext hx65).keptR hx68 (fun b hb => by have h1 := (hov.lt b hb).1; have h2 := hovX.ne b hb; have h3 := hovX.top b hb; first | omega | exact .inl (by omega))
        replace hri := (hri.ext hx65).keptR hx68 (fun b hb => by have h1 := (hov.lt b hb).1; have h2 := hovX.ne b hb; have h3 := hovX.top b hb; first | omega | exact .inl (by omega))
        replace hr := (hr.ext hx65).keptR hx68 (fun b hb => by have h1 := (hov.lt b hb).1; have h2 := hovX.ne b hb; have h3 := hovX.top b hb; first | omega | exact .inl (by omega))
        replace hO3 := (hO3.ext hx65).keptR hx68 (fun b hb => by have h1 := (hov.lt b hb).1; have h2 := hovX.ne b hb; have h3 := hovX.top b hb; first | omega | exact .inl (by omega))
        have ho2 : World.ownsRow w67 w0.heap.size 55 4 u2 (F ++ [((⟨s.int.1, s.int.2.int.1, s.int.2.int.2.int.1, s.int.2.int.2.int.2.blob.1⟩ : Se.Ses), vB)]).length ((F ++ [((⟨s.int.1, s.int.2.int.1, s.int.2.int.2.int.1, s.int.2.int.2.int.2.blob.1⟩ : Se.Ses), vB)]).flatMap Se.SV.c) := by simpa [List.flatMap_append] using ho69
        replace ovT := hovX.moved ho2 hmvhx68 (by omega) (by omega) (by omega)
        refine WL.va rfl rfl rfl (X.fieldAddrO (off := 7) ((hACr0.eq 1).trans (congrFun hF2 1)) Try.underlying51 rfl rfl Try.sizeOf49) ?_
        refine WL.op rfl (OW.storeO hd (Nat.le_of_ble_eq_true rfl) rfl rfl (own_one ho2) Try.sizeOf49 ?_)
        intro w70 hd hx72
        have := World.grownBy.size hx72
        replace hpT := hpT.keptO hx72 (by omega)
        replace hG := hG.keptO hx72 (by omega)
        replace ovT := ovT.keptO hx72 (by omega)
        replace hri := hri.keptO hx72 (by omega)
        replace hr := hr.keptO hx72 (by omega)
        replace hO3 := hO3.keptO hx72 (by omega)
        replace hd : Blk _ _ _ (Dr.c ⟨m, []⟩ vm u2) := hd
        refine WL.nil ?_
        refine fin_n ?_
        exact ⟨u2, vB, hpT, hd, (hri).cast hrs, hr, OwnX.up ovT, hs.app hsg hhi hdat, hG⟩
      · have gh0_56 := (of_decide_eq_false h0_56)
        have hrs := rises_ltc (F := F) (x := (⟨s.int.1, s.int.2.int.1, s.int.2.int.2.int.1, s.int.2.int.2.int.2.blob.1⟩ : Se.Ses)) hpos (by have h1 := gh0_56; show (_ : Int) < s.int.1; omega)
        refine WF.skip ?_
        refine thn_n ?_
        refine WF.region ?_
        refine WL.va rfl rfl rfl (X.fieldAddrO (off := 7) ((hACr0.eq 1).trans (congrFun hF2 1)) Try.underlying51 rfl rfl Try.sizeOf49) ?_
        refine WL.va rfl rfl rfl (X.loadO hd (Ext.drew _) rfl rfl Try.isAgg49) ?_
        refine WL.va rfl rfl rfl (X.loadOA hO3 (Ext.drew _) e3_Cr0 rfl Try.isAgg55 Try.sizeOf55) ?_
        refine WL.op rfl (OW.lits (vs := [agg (Se.SV.c ((⟨s.int.1, s.int.2.int.1, s.int.2.int.2.int.1, s.int.2.int.2.int.2.blob.1⟩ : Se.Ses), vB))]) (evp_cons rfl evp_nil) Try.underlying49 Try.sizeOf55 Try.zeroValue55 ⟨rfl, trivial⟩ rfl rfl rfl ?_ (by decide))
        intro v75 w74 ho77 hx76
        have := World.grownBy.size hx76
        have o1 : World.ownsRow w74 _ 55 4 v75 1 (Se.SV.c ((⟨s.int.1, s.int.2.int.1, s.int.2.int.2.int.1, s.int.2.int.2.int.2.blob.1⟩ : Se.Ses), vB)) := ho77
        have hovX := (ovT.ext (Ext.trans (Ext.drew _) hx76))
        have hov := hovX.own
        refine WL.op rfl (OW.append (bytes := 48) hov (Row.of_own o1) (Se.SV.c_one (e := ((⟨s.int.1, s.int.2.int.1, s.int.2.int.2.int.1, s.int.2.int.2.int.2.blob.1⟩ : Se.Ses), vB)) hbB) rfl rfl Try.underlying49 Try.type55 rfl rfl rfl rfl (by decide) (by unfold maxLen; omega) (by omega) (by omega) ?_ (by decide))
        intro u2 w78 ho80 hx79 hmvhx79
        have := World.grownBy.size hx79
        replace hpT := (hpT.ext (Ext.trans (Ext.drew _) hx76)).kept hx79 (fun b hb => by have h1 := (hov.lt b hb).1; have h2 := hovX.ne b hb; have h3 := hovX.top b hb; first | omega | exact .inl (by omega))
        replace hG := (hG.ext (Ext.trans (Ext.drew _) hx76)).kept hx79 (fun b hb => by have h1 := (hov.lt b hb).1; have h2 := hovX.ne b hb; have h3 := hovX.top b hb; first | omega | exact .inl (by omega))
        replace hd := (hd.ext (Ext.trans (Ext.drew _) hx76)).keptR hx79 (fun b hb => by have h1 := (hov.lt b hb).1; have h2 := hovX.ne b hb; have h3 := hovX.top b hb; first | omega | exact .inl (by omega))
        replace hri := (hri.ext (Ext.trans (Ext.drew _) hx76)).keptR hx79 (fun b hb => by have h1 := (hov.lt b hb).1; have h2 := hovX.ne b hb; have h3 := hovX.top b hb; first | omega | exact .inl (by omega))
        replace hr := (hr.ext (Ext.trans (Ext.drew _) hx76)).keptR hx79 (fun b hb => by have h1 := (hov.lt b hb).1; have h2 := hovX.ne b hb; have h3 := hovX.top b hb; first | omega | exact .inl (by omega))
        replace hO3 := (hO3.ext (Ext.trans (Ext.drew _) hx76)).keptR hx79 (fun b hb => by have h1 := (hov.lt b hb).1; have h2 := hovX.ne b hb; have h3 := hovX.top b hb; first | omega | exact .inl (by omega))
        have ho2 : World.ownsRow w78 w0.heap.size 55 4 u2 (F ++ [((⟨s.int.1, s.int.2.int.1, s.int.2.int.2.int.1, s.int.2.int.2.int.2.blob.1⟩ : Se.Ses), vB)]).length ((F ++ [((⟨s.int.1, s.int.2.int.1, s.int.2.int.2.int.1, s.int.2.int.2.int.2.blob.1⟩ : Se.Ses), vB)]).flatMap Se.SV.c) := by simpa [List.flatMap_append] using ho80
        replace ovT := hovX.moved ho2 hmvhx79 (by omega) (by omega) (by omega)
        refine WL.va rfl rfl rfl (X.fieldAddrO (off := 7) ((hACr0.eq 1).trans (congrFun hF2 1)) Try.underlying51 rfl rfl Try.sizeOf49) ?_
        refine WL.op rfl (OW.storeO hd (Nat.le_of_ble_eq_true rfl) rfl rfl (own_one ho2) Try.sizeOf49 ?_)
        intro w81 hd hx83
        have := World.grownBy.size hx83
        replace hpT := hpT.keptO hx83 (by omega)
        replace hG := hG.keptO hx83 (by omega)
        replace ovT := ovT.keptO hx83 (by omega)
        replace hri := hri.keptO hx83 (by omega)
        replace hr := hr.keptO hx83 (by omega)
        replace hO3 := hO3.keptO hx83 (by omega)
        replace hd : Blk _ _ _ (Dr.c ⟨m, []⟩ vm u2) := hd
        refine WL.nil ?_
        refine fin_n ?_
        exact ⟨u2, vB, hpT, hd, (hri).cast hrs, hr, OwnX.up ovT, hs.app hsg hhi hdat, hG⟩
    · have gh55 := (of_decide_eq_false h55)
      have hrs := rises_0c (F := F) (x := (⟨s.int.1, s.int.2.int.1, s.int.2.int.2.int.1, s.int.2.int.2.int.2.blob.1⟩ : Se.Ses)) (by have := gh55; omega)
      refine WO.qp rfl rfl rfl rfl (congrArg some h55) ?_
      refine WO.qp rfl rfl rfl rfl (congrArg some h55) ?_
      refine WO.qp rfl rfl rfl rfl (congrArg some h55) ?_
      refine WO.qp rfl rfl rfl rfl (congrArg some h55) ?_
      refine WO.qp rfl rfl rfl rfl (congrArg some h55) ?_
      refine WO.qp rfl rfl rfl rfl (congrArg some h55) ?_
      refine WO.qp rfl rfl rfl rfl (congrArg some h55) ?_
      refine WO.qp rfl rfl rfl rfl (congrArg some h55) ?_
      refine WO.qp rfl rfl rfl rfl (congrArg some h55) ?_
      refine WO.qp rfl rfl rfl rfl (congrArg some h55) ?_
      refine WO.q rfl rfl rfl rfl (fun w' hE53 => (X.pickF rfl h55 rfl)) ?_
      refine WO.nil ?_
      refine WL.nil ?_
      refine thn_n ?_
      refine WF.cond_f rfl ?_
      refine WF.skip ?_
      refine thn_n ?_
      refine WF.region ?_
      refine WL.va rfl rfl rfl (X.fieldAddrO (off := 7) ((hACr0.eq 1).trans (congrFun hF2 1)) Try.underlying51 rfl rfl Try.sizeOf49) ?_
      refine WL.va rfl rfl rfl (X.loadO hd (Ext.drew _) rfl rfl Try.isAgg49) ?_
      refine WL.va rfl rfl rfl (X.loadOA hO3 (Ext.drew _) e3_Cr0 rfl Try.isAgg55 Try.sizeOf55) ?_
      refine WL.op rfl (OW.lits (vs := [agg (Se.SV.c ((⟨s.int.1, s.int.2.int.1, s.int.2.int.2.int.1, s.int.2.int.2.int.2.blob.1⟩ : Se.Ses), vB))]) (evp_cons rfl evp_nil) Try.underlying49 Try.sizeOf55 Try.zeroValue55 ⟨rfl, trivial⟩ rfl rfl rfl ?_ (by decide))
      intro v87 w86 ho89 hx88
      have := World.grownBy.size hx88
      have o1 : World.ownsRow w86 _ 55 4 v87 1 (Se.SV.c ((⟨s.int.1, s.int.2.int.1, s.int.2.int.2.int.1, s.int.2.int.2.int.2.blob.1⟩ : Se.Ses), vB)) := ho89
      have hovX := (ovT.ext (Ext.trans (Ext.drew _) hx88))
      have hov := hovX.own
      refine WL.op rfl (OW.append (bytes := 48) hov (Row.of_own o1) (Se.SV.c_one (e := ((⟨s.int.1, s.int.2.int.1, s.int.2.int.2.int.1, s.int.2.int.2.int.2.blob.1⟩ : Se.Ses), vB)) hbB) rfl rfl Try.underlying49 Try.type55 rfl rfl rfl rfl (by decide) (by unfold maxLen; omega) (by omega) (by omega) ?_ (by decide))
      intro u2 w90 ho92 hx91 hmvhx91
      have := World.grownBy.size hx91
      replace hpT := (hpT.ext (Ext.trans (Ext.drew _) hx88)).kept hx91 (fun b hb => by have h1 := (hov.lt b hb).1; have h2 := hovX.ne b hb; have h3 := hovX.top b hb; first | omega | exact .inl (by omega))
      replace hG := (hG.ext (Ext.trans (Ext.drew _) hx88)).kept hx91 (fun b hb => by have h1 := (hov.lt b hb).1; have h2 := hovX.ne b hb; have h3 := hovX.top b hb; first | omega | exact .inl (by omega))
      replace hd := (hd.ext (Ext.trans (Ext.drew _) hx88)).keptR hx91 (fun b hb => by have h1 := (hov.lt b hb).1; have h2 := hovX.ne b hb; have h3 := hovX.top b hb; first | omega | exact .inl (by omega))
      replace hri := (hri.ext (Ext.trans (Ext.drew _) hx88)).keptR hx91 (fun b hb => by have h1 := (hov.lt b hb).1; have h2 := hovX.ne b hb; have h3 := hovX.top b hb; first | omega | exact .inl (by omega))
      replace hr := (hr.ext (Ext.trans (Ext.drew _) hx88)).keptR hx91 (fun b hb => by have h1 := (hov.lt b hb).1; have h2 := hovX.ne b hb; have h3 := hovX.top b hb; first | omega | exact .inl (by omega))
      replace hO3 := (hO3.ext (Ext.trans (Ext.drew _) hx88)).keptR hx91 (fun b hb => by have h1 := (hov.lt b hb).1; have h2 := hovX.ne b hb; have h3 := hovX.top b hb; first | omega | exact .inl (by omega))
      have ho2 : World.ownsRow w90 w0.heap.size 55 4 u2 (F ++ [((⟨s.int.1, s.int.2.int.1, s.int.2.int.2.int.1, s.int.2.int.2.int.2.blob.1⟩ : Se.Ses), vB)]).length ((F ++ [((⟨s.int.1, s.int.2.int.1, s.int.2.int.2.int.1, s.int.2.int.2.int.2.blob.1⟩ : Se.Ses), vB)]).flatMap Se.SV.c) := by simpa [List.flatMap_append] using ho92
      replace ovT := hovX.moved ho2 hmvhx91 (by omega) (by omega) (by omega)
      refine WL.va rfl rfl rfl (X.fieldAddrO (off := 7) ((hACr0.eq 1).trans (congrFun hF2 1)) Try.underlying51 rfl rfl Try.sizeOf49) ?_
      refine WL.op rfl (OW.storeO hd (Nat.le_of_ble_eq_true rfl) rfl rfl (own_one ho2) Try.sizeOf49 ?_)
      intro w93 hd hx95
      have := World.grownBy.size hx95
      replace hpT := hpT.keptO hx95 (by omega)
      replace hG := hG.keptO hx95 (by omega)
      replace ovT := ovT.keptO hx95 (by omega)
      replace hri := hri.keptO hx95 (by omega)
      replace hr := hr.keptO hx95 (by omega)
      replace hO3 := hO3.keptO hx95 (by omega)
      replace hd : Blk _ _ _ (Dr.c ⟨m, []⟩ vm u2) := hd
      refine WL.nil ?_
      refine fin_n ?_
      exact ⟨u2, vB, hpT, hd, (hri).cast hrs, hr, OwnX.up ovT, hs.app hsg hhi hdat, hG⟩

set_option maxHeartbeats 4000000 in
theorem getDir_ok (v : Value) (l : List UInt8) (w : World) (hb : Bytes w v l) (hl : l.length ≤ 1000000) : FnOk Try.prog 34 [v] w (fun x w' => (∃ v2 u2, x = .tuple #[agg ((getD ⟨l, false⟩).1.c v2 u2), i64 (getD ⟨l, false⟩).2] ∧ DSeg w' w.heap.size v2 u2 (getD ⟨l, false⟩).1) ∧ Ext w w') := by
  refine FnOk.enterC (rs := [.cell 2 51, .tmp 3]) Try.func34 rfl Try.ntmps34 Try.results34 rfl rfl ?_
  refine WF.seq ?_
  refine WF.region ?_
  refine WL.op rfl (OW.allocO (cs := [.slice none 0 0, i64 0, i64 0, i64 0, i64 0, i64 0, i64 0, .slice none 0 0]) Try.zeroValue51 rfl ?_ (by decide))
  intro g2 w1 heg2 hlg2 hO2 hx2
  have := World.grownBy.size hx2
  refine WL.va rfl rfl rfl (X.assignI rfl) ?_
  refine WL.nil ?_
  refine thn_n ?_
  refine WF.seq ?_
  refine WF.region ?_
  refine WL.va rfl rfl rfl (X.move rfl) ?_
  have hz1 := ((show Ext w w1 from hx2)).size
  refine WL.c rfl rfl rfl (X.call Try.call65 (evl_cons rfl evl_nil)) (read_ok _ _ _ (Row.ext hb hx2) (by omega)) ?_
  rintro vr wr ⟨⟨D, left0, hp0⟩, hx4⟩
  have := World.grownBy.size hx4
  have hp1 := PRT.of hp0
  have hr0 := hp1.hr
  have hrl := hp1.low
  have hDl : ∀ b, D.ownBlock = some b → w1.heap.size ≤ b ∧ b < wr.heap.size := fun b hb => hp0.own.lt b hb
  have hpT := hp1
  have hr1 : vr.oneCell' = true := by obtain ⟨b, rfl⟩ := hp0.var.ptr; rfl
  refine WL.op rfl (OW.allocO (cs := [.pointer none]) Try.zeroValue93 rfl ?_ (by decide))
  intro g4 w5 heg4 hlg4 hO4 hx7
  have := World.grownBy.size hx7
  refine WL.op rfl (OW.storeO hO4 (Nat.le_of_ble_eq_true rfl) rfl rfl hr1 Try.sizeOf93 ?_)
  intro w9 hO4 hx11
  have := World.grownBy.size hx11
  replace hO2 := (hO2.ext (Ext.trans hx4 hx7)).keptO hx11 (by omega)
  replace hpT := (hpT.ext hx7).keptO hx11 (by omega)
  refine WL.nil ?_
  refine thn_n ?_
  refine WF.seq ?_
  refine WF.region ?_
  refine WL.va rfl rfl rfl (X.loadO hO4 (Ext.refl _) rfl rfl Try.isAgg93) ?_
  have hz2 := ((show Ext w w9 from (Ext.trans (Ext.trans hx2 hx4) (Ext.store hx7 hx11 (by omega))))).size
  have hz2r : wr.heap.size ≤ w9.heap.size := by omega
  refine WL.c rfl rfl rfl (X.call Try.call66 (evl_cons rfl evl_nil)) (readM_ok vr D l _ _ _ _ hpT hz2r hl) ?_
  rintro v14 w13 ⟨⟨l1, s1, vR, ok, rfl, hq1, oR, hy, hn⟩, hx15⟩
  have := World.grownBy.size hx15
  replace hO2 := hO2.keptR hx15 (fun b hb => by have h1 := hrl b hb; have h2 := hr0 b hb; omega)
  replace hO4 := hO4.keptR hx15 (fun b hb => by have h1 := hrl b hb; have h2 := hr0 b hb; omega)
  replace hpT := hq1
  have oRT := OwnT.of oR
  refine WL.va rfl rfl rfl (X.move rfl) ?_
  refine WL.va rfl rfl rfl (X.extract rfl rfl) ?_
  refine WL.va rfl rfl rfl (X.extract rfl rfl) ?_
  refine WL.op rfl (OW.allocO (cs := [.slice none 0 0, i64 0, i64 0, i64 0, i64 0, i64 0, i64 0]) Try.zeroValue26 rfl ?_ (by decide))
  intro g5 w17 heg5 hlg5 hO5 hx19
  have := World.grownBy.size hx19
  refine WL.op rfl (OW.storeOA hO5 rfl rfl rfl (Mp.c_one ((oRT.ext hx19)).rd (mp6 l1 s1)) Try.sizeOf26 ?_)
  intro wz hO5 hx22
  have := World.grownBy.size hx22
  replace hO2 := (hO2.ext hx19).keptO hx22 (by omega)
  replace hpT := (hpT.ext hx19).keptO hx22 (by omega)
  replace hO4 := (hO4.ext hx19).keptO hx22 (by omega)
  replace oRT := (oRT.ext hx19).keptO hx22 (by omega)
  replace hO5 : Blk _ _ _ ((mp6 l1 s1).c vR) := hO5
  have hO2z := hO2
  have hO5z := hO5
  have oRz := oRT
  have hwz := (Ext.trans (grown_trans (Ext.trans (Ext.trans hx2 hx4) (Ext.store hx7 hx11 (by omega))) hx15 (fun i hi => by have := hrl i hi; omega)) (Ext.store hx19 hx22 (by omega)))
  have hzz : wr.heap.size ≤ wz.heap.size := by omega
  refine WL.va rfl rfl rfl (X.assignB rfl) ?_
  refine WL.nil ?_
  refine thn_n ?_
  refine WF.seq ?_
  refine WF.region ?_
  refine WL.va rfl rfl rfl (X.loadOA hO5 (Ext.refl _) rfl rfl Try.isAgg26 Try.sizeOf26) ?_
  refine WL.va rfl rfl rfl (X.buildF (P := Try.prog) (t := 51) (cs := (Dr.c ⟨mp6 l1 s1, []⟩ vR nilS)) (evp_cons rfl evp_nil) Try.type51 Try.underlying51 rfl rfl (fill51a _ _ _ _ _ _ _)) ?_
  refine WL.op rfl (OW.allocO (cs := [.slice none 0 0, i64 0, i64 0, i64 0, i64 0, i64 0, i64 0, .slice none 0 0]) Try.zeroValue51 rfl ?_ (by decide))
  intro g7 w24 heg7 hlg7 hO7 hx26
  have := World.grownBy.size hx26
  refine WL.op rfl (OW.storeOA hO7 rfl rfl rfl (Dr.c_one ⟨mp6 l1 s1, []⟩ ((oRT.ext hx26)).rd rfl) Try.sizeOf51 ?_)
  intro w28 hO7 hx30
  have := World.grownBy.size hx30
  replace hO2 := (hO2.ext hx26).keptO hx30 (by omega)
  replace hpT := (hpT.ext hx26).keptO hx30 (by omega)
  replace hO4 := (hO4.ext hx26).keptO hx30 (by omega)
  replace oRT := (oRT.ext hx26).keptO hx30 (by omega)
  replace hO5 := (hO5.ext hx26).keptO hx30 (by omega)
  replace hO7 : Blk _ _ _ (Dr.c ⟨mp6 l1 s1, []⟩ vR nilS) := hO7
  refine WL.nil ?_
  refine thn_n ?_
  refine WF.seq ?_
  refine WF.region ?_
  refine WL.op rfl (OW.allocO (cs := [.bool false]) Try.zeroValue4 rfl ?_ (by decide))
  intro g8 w32 heg8 hlg8 hO8 hx34
  have := World.grownBy.size hx34
  refine WL.op rfl (OW.storeO hO8 (Nat.le_of_ble_eq_true rfl) rfl rfl rfl Try.sizeOf4 ?_)
  intro w36 hO8 hx38
  have := World.grownBy.size hx38
  replace hO2 := (hO2.ext hx34).keptO hx38 (by omega)
  replace hpT := (hpT.ext hx34).keptO hx38 (by omega)
  replace hO4 := (hO4.ext hx34).keptO hx38 (by omega)
  replace oRT := (oRT.ext hx34).keptO hx38 (by omega)
  replace hO5 := (hO5.ext hx34).keptO hx38 (by omega)
  replace hO7 := (hO7.ext hx34).keptO hx38 (by omega)
  refine WL.nil ?_
  refine thn_n ?_
  refine WF.seq ?_
  refine WF.region ?_
  refine WL.va rfl rfl rfl (X.loadO hO4 (Ext.refl _) rfl rfl Try.isAgg93) ?_
  refine WL.va rfl rfl rfl (X.makeFunc (evl_cons rfl (evl_cons rfl (evl_cons rfl evl_nil)))) ?_
  have hln := (hpT).len
  have hz3 : wz.heap.size ≤ w36.heap.size := ((show Ext wz w36 from (Ext.trans (Ext.store hx26 hx30 (by omega)) (Ext.store hx34 hx38 (by omega))))).size
  have hI0 : ∀ wq, PRT wq w1.heap.size wr.heap.size vr D l (six s1).int.2 → w36.grownBy wq (asRow vr).ownBlock → (∃ u F, F.map Prod.fst = (rdN rdS (six s1).int.2 0).1 ∧ PRT wq w1.heap.size wr.heap.size vr D l (rdN rdS (six s1).int.2 0).2 ∧ Blk wq g7 51 (Dr.c ⟨mp6 l1 s1, []⟩ vR u) ∧ Blk wq g8 4 [.bool (risesB (F.map Prod.fst))] ∧ Blk wq g4 93 [vr] ∧ OwnX wq wz.heap.size wq.heap.size 55 4 u (F).length ((F).flatMap Se.SV.c) g7 g8 g4 ∧ SegS D l F ∧ SinceR wz wq (asRow vr).ownBlock) := fun wq hp1 hx1 => ⟨nilS, [], rfl, hp1, (hO7).kept hx1 (fun e => by have := hr0 _ e; omega), (hO8).kept hx1 (fun e => by have := hr0 _ e; omega), (hO4).kept hx1 (fun e => by have := hr0 _ e; omega), OwnX.nil _ _ _ _ _ _ _ _, SegS.nil _ _, SinceR.kept ⟨grown_of_ext (Ext.trans (Ext.store hx26 hx30 (by omega)) (Ext.store hx34 hx38 (by omega)))⟩ hx1 (fun b hb => .inr hb)⟩
  have hPR : ∀ k wq, (∃ u F, F.map Prod.fst = (rdN rdS (six s1).int.2 k).1 ∧ PRT wq w1.heap.size wr.heap.size vr D l (rdN rdS (six s1).int.2 k).2 ∧ Blk wq g7 51 (Dr.c ⟨mp6 l1 s1, []⟩ vR u) ∧ Blk wq g8 4 [.bool (risesB (F.map Prod.fst))] ∧ Blk wq g4 93 [vr] ∧ OwnX wq wz.heap.size wq.heap.size 55 4 u (F).length ((F).flatMap Se.SV.c) g7 g8 g4 ∧ SegS D l F ∧ SinceR wz wq (asRow vr).ownBlock) → PRT wq w1.heap.size wr.heap.size vr D l (rdN rdS (six s1).int.2 k).2 := fun k wq ⟨_, _, _, h, _⟩ => h
  have hst : OkC (six s1) → ∀ (k : Nat) wq, (k : Int) < (six s1).int.1 → (∃ u F, F.map Prod.fst = (rdN rdS (six s1).int.2 k).1 ∧ PRT wq w1.heap.size wr.heap.size vr D l (rdN rdS (six s1).int.2 k).2 ∧ Blk wq g7 51 (Dr.c ⟨mp6 l1 s1, []⟩ vR u) ∧ Blk wq g8 4 [.bool (risesB (F.map Prod.fst))] ∧ Blk wq g4 93 [vr] ∧ OwnX wq wz.heap.size wq.heap.size 55 4 u (F).length ((F).flatMap Se.SV.c) g7 g8 g4 ∧ SegS D l F ∧ SinceR wz wq (asRow vr).ownBlock) → CloOk Try.prog (.func (.func 72) #[] [at_ g4, at_ g7, at_ g8].toArray) [] wq (fun _ w2 => (∃ u F, F.map Prod.fst = (rdN rdS (six s1).int.2 (k + 1)).1 ∧ PRT w2 w1.heap.size wr.heap.size vr D l (rdN rdS (six s1).int.2 (k + 1)).2 ∧ Blk w2 g7 51 (Dr.c ⟨mp6 l1 s1, []⟩ vR u) ∧ Blk w2 g8 4 [.bool (risesB (F.map Prod.fst))] ∧ Blk w2 g4 93 [vr] ∧ OwnX w2 wz.heap.size w2.heap.size 55 4 u (F).length ((F).flatMap Se.SV.c) g7 g8 g4 ∧ SegS D l F ∧ SinceR wz w2 (asRow vr).ownBlock)) := fun hok k wq hk ⟨u, F, hF, h1, h2, h3, h4, h5, h6, h7⟩ => ⟨_, _, rfl, Try.call72, (getLit_ok g4 g7 g8 vr D u vR (mp6 l1 s1) l F _ wz wq _ _ h1 (by omega) h2 h3 h4 h5 h6 h7 (by omega) (by omega) (by omega) (by omega) (by
      have e := congrArg List.length hF
      rw [rdN_len, List.length_map] at e
      have h8 := hok.2; have h9 := int_le (six s1); omega)).mono fun _ w2 ⟨u2, vB, k1, k2, k3, k4, k5, k6, k7⟩ => ⟨u2, _, by rw [rdN_succ, rdS_eq, List.map_append, hF]; rfl, by rw [rdN_succ, rdS_eq]; exact k1, k2, by rw [List.map_append]; exact k3, k4, k5, k6, k7⟩⟩
  refine WL.c rfl rfl rfl (X.call Try.call71 (evl_cons rfl (evl_cons rfl evl_nil))) (each_ok vr D _ l (six s1) _ w1.heap.size wr.heap.size (hpT) (fun k => (rdN rdS (six s1).int.2 k).2) (fun k wq => (∃ u F, F.map Prod.fst = (rdN rdS (six s1).int.2 k).1 ∧ PRT wq w1.heap.size wr.heap.size vr D l (rdN rdS (six s1).int.2 k).2 ∧ Blk wq g7 51 (Dr.c ⟨mp6 l1 s1, []⟩ vR u) ∧ Blk wq g8 4 [.bool (risesB (F.map Prod.fst))] ∧ Blk wq g4 93 [vr] ∧ OwnX wq wz.heap.size wq.heap.size 55 4 u (F).length ((F).flatMap Se.SV.c) g7 g8 g4 ∧ SegS D l F ∧ SinceR wz wq (asRow vr).ownBlock)) hI0 hPR hst) ?_
  rintro v41 w40 ⟨k, ok2, rfl, ⟨u, F, hF, hpT, hO7, hO8, hO4, ovT, hsg, hG⟩, hyk, hnk⟩
  have hGz := World.grownBy.size hG.x
  have hO2 := hO2z.kept hG.x (fun e => by have := hrl _ e; omega)
  have hO5 := hO5z.kept hG.x (fun e => by have := hr0 _ e; omega)
  have oRT := oRz.kept hG.x (fun b hb => by have := hr0 b hb; omega)
  obtain ⟨s2, hs2⟩ : ∃ z, (rdN rdS (six s1).int.2 k).2 = z := ⟨_, rfl⟩
  rw [hs2] at hpT
  have hy2 : ok2 = true → rdL rdS (six s1) = (F.map Prod.fst, s2) := fun e => by
    obtain ⟨h1, h2⟩ := hyk e
    rw [rdL_ok h1, ← h2, ← hs2, hF]
  have hn2 : ok2 = false → (rdL rdS (six s1)).2.bad = true := fun e => rdL_bad rdS_bad (hnk e)
  have q2 := hO2.lt
  have q4 := hO4.lt
  have q5 := hO5.lt
  have q7 := hO7.lt
  have q8 := hO8.lt
  refine WL.va rfl rfl rfl (X.assignB rfl) ?_
  refine WL.nil ?_
  refine thn_n ?_
  refine WF.seq ?_
  refine WF.seq ?_
  refine WF.region ?_
  refine WL.va rfl rfl rfl (X.loadO hO4 (Ext.refl _) rfl rfl Try.isAgg93) ?_
  refine WL.va rfl rfl rfl (X.moveB rfl) ?_
  refine WL.va rfl rfl rfl (X.moveB rfl) ?_
  refine WL.split (j := 2) rfl (fun h44 => ?_) (fun h44 => ?_)
  · have gh44 := h44
    have hok : ok = true := gh44
    refine WL.vg rfl (congrArg some h44) rfl rfl (X.moveB rfl) ?_
    refine WL.va rfl rfl rfl (X.pickT rfl h44 rfl) ?_
    refine WL.va rfl rfl rfl (X.loadOA hO5 (Ext.refl _) rfl rfl Try.isAgg26 Try.sizeOf26) ?_
    have oDp : OwnB w40 w1.heap.size 5 D l := by obtain ⟨⟨aq, lq, hq9⟩, _, _⟩ := hpT; exact hq9.own
    refine WL.c rfl rfl rfl (X.call Try.call67 (evl_cons rfl (evl_cons rfl (evl_cons rfl evl_nil)))) (ended_ok vr D vR l _ (mp6 l1 s1) ok2 _ _ _ hpT (oRT).rd (mp6_E _ _)) ?_
    rintro v46 w45 ⟨rfl, hx47⟩
    have := World.grownBy.size hx47
    have oD := own_ext oDp hx47
    have hE := getD_end (s := ⟨l, false⟩) (okk := ok2) hy hn hy2 hn2 (by rw [hok]; rfl)
    refine WL.va rfl rfl rfl (X.assignI rfl) ?_
    refine WL.nil ?_
    refine thn_n ?_
    refine WF.seq ?_
    refine WF.region ?_
    refine WL.va rfl rfl rfl (X.moveI rfl) ?_
    refine WL.va rfl rfl rfl (X.neq rfl rfl) ?_
    refine WL.nil ?_
    refine thn_n ?_
    refine WF.cond rfl (fun h0_48 => ?_) (fun h0_48 => ?_)
    · have gh0_48 := (of_decide_eq_true h0_48)
      have he := gh0_48
      refine WF.seq ?_
      refine WF.region ?_
      refine WL.va rfl rfl rfl (X.build evp_nil Try.type51 Try.underlying51 rfl rfl trivial rfl) ?_
      refine WL.va rfl rfl rfl (X.moveI rfl) ?_
      refine WL.op rfl (OW.storeOA (hO2.ext hx47) rfl rfl rfl (by simp [Value.oneCell']) Try.sizeOf51 ?_)
      intro w50 hO2 hx52
      have := World.grownBy.size hx52
      replace oRT := (oRT.ext hx47).keptO hx52 (by omega)
      replace hO4 := (hO4.ext hx47).keptO hx52 (by omega)
      replace hO5 := (hO5.ext hx47).keptO hx52 (by omega)
      replace hO7 := (hO7.ext hx47).keptO hx52 (by omega)
      replace hO8 := (hO8.ext hx47).keptO hx52 (by omega)
      replace oD := own_keptO oD hx52 (by omega)
      refine WL.va rfl rfl rfl (X.assignI rfl) ?_
      refine WL.nil ?_
      refine thn_n ?_
      refine WF.ret ?_
      refine thn_r ?_
      refine finC_r (vs := [_, _]) ⟨⟨_, rfl, readO hO2 Try.isAgg51 Try.sizeOf51⟩, rfl, trivial⟩ ?_
      rw [if_neg he] at hE
      rw [hE]
      exact ⟨⟨nilS, nilS, rfl, DSeg.zero _ _⟩, (Ext.store (Ext.trans (grown_trans hwz hG.x (fun i hi => by have := hrl i hi; omega)) hx47) hx52 (by omega))⟩
    · have gh0_48 := (Decidable.of_not_not (of_decide_eq_false h0_48))
      have he := gh0_48
      refine WF.skip ?_
      refine thn_n ?_
      refine WF.seq ?_
      refine WF.seq ?_
      refine WF.region ?_
      refine WL.va rfl rfl rfl (X.loadO hO8 hx47 rfl rfl Try.isAgg4) ?_
      refine WL.va rfl rfl rfl (X.not rfl) ?_
      refine WL.nil ?_
      refine thn_n ?_
      refine WF.cond rfl (fun h1_55 => ?_) (fun h1_55 => ?_)
      · have gh1_55 := (nt h1_55)
        have hrs : ¬ risesB (F.map Prod.fst) = true := by have := gh1_55; simpa using this
        refine WF.seq ?_
        refine WF.region ?_
        refine WL.va rfl rfl rfl (X.build evp_nil Try.type51 Try.underlying51 rfl rfl trivial rfl) ?_
        refine WL.op rfl (OW.storeOA (hO2.ext hx47) rfl rfl rfl (by simp [Value.oneCell']) Try.sizeOf51 ?_)
        intro w57 hO2 hx59
        have := World.grownBy.size hx59
        replace oRT := (oRT.ext hx47).keptO hx59 (by omega)
        replace hO4 := (hO4.ext hx47).keptO hx59 (by omega)
        replace hO5 := (hO5.ext hx47).keptO hx59 (by omega)
        replace hO7 := (hO7.ext hx47).keptO hx59 (by omega)
        replace hO8 := (hO8.ext hx47).keptO hx59 (by omega)
        replace oD := own_keptO oD hx59 (by omega)
        refine WL.va rfl rfl rfl (X.assignI rfl) ?_
        refine WL.nil ?_
        refine thn_n ?_
        refine WF.ret ?_
        refine thn_r ?_
        refine finC_r (vs := [_, _]) ⟨⟨_, rfl, readO hO2 Try.isAgg51 Try.sizeOf51⟩, rfl, trivial⟩ ?_
        rw [if_pos he, if_neg hrs] at hE
        rw [hE]
        exact ⟨⟨nilS, nilS, rfl, DSeg.zero _ _⟩, (Ext.store (Ext.trans (grown_trans hwz hG.x (fun i hi => by have := hrl i hi; omega)) hx47) hx59 (by omega))⟩
      · have gh1_55 := (nf h1_55)
        have hrs : risesB (F.map Prod.fst) = true := by have := gh1_55; simpa using this
        refine WF.skip ?_
        refine thn_n ?_
        refine WF.seq ?_
        refine WF.region ?_
        refine WL.va rfl rfl rfl (X.loadOA hO7 hx47 rfl rfl Try.isAgg51 Try.sizeOf51) ?_
        refine WL.op rfl (OW.storeOA (hO2.ext hx47) rfl rfl rfl (Dr.c_one ⟨mp6 l1 s1, []⟩ ((oRT.ext hx47)).rd (own_one ((ovT.ext hx47)).own)) Try.sizeOf51 ?_)
        intro w61 hO2 hx63
        have := World.grownBy.size hx63
        replace ovT := (ovT.ext hx47).keptO hx63 (by omega)
        replace oRT := (oRT.ext hx47).keptO hx63 (by omega)
        replace hO4 := (hO4.ext hx47).keptO hx63 (by omega)
        replace hO5 := (hO5.ext hx47).keptO hx63 (by omega)
        replace hO7 := (hO7.ext hx47).keptO hx63 (by omega)
        replace hO8 := (hO8.ext hx47).keptO hx63 (by omega)
        replace oD := own_keptO oD hx63 (by omega)
        refine WL.va rfl rfl rfl (X.assignI rfl) ?_
        refine WL.nil ?_
        refine thn_n ?_
        refine WF.ret ?_
        refine finC_r (vs := [_, _]) ⟨⟨_, rfl, readO hO2 Try.isAgg51 Try.sizeOf51⟩, rfl, trivial⟩ ?_
        rw [if_pos he, if_pos hrs] at hE
        rw [hE]
        exact ⟨⟨vR, u, rfl, ⟨own_mono (by rw [mp6_R]; exact (oRT).own) (by omega), ⟨D, l, F, rfl, own_mono (ovT).own (by omega), (own_mono oD (by omega)), hsg, (fun b h1 h2 => by have := (ovT.own.lt b h1).1; have := hDl b h2; omega), (fun b h1 h2 => by have := (oRT.own.lt b h1).1; have := hDl b h2; omega)⟩, fun b h1 h2 => by have := oRT.top b h1; have := (ovT.own.lt b h2).1; omega⟩⟩, (Ext.store (Ext.trans (grown_trans hwz hG.x (fun i hi => by have := hrl i hi; omega)) hx47) hx63 (by omega))⟩
  · have gh44 := h44
    have hok : ok = false := by simpa using gh44
    refine WL.p rfl rfl rfl (congrArg some h44) ?_
    refine WL.va rfl rfl rfl (X.pickF rfl h44 rfl) ?_
    refine WL.va rfl rfl rfl (X.loadOA hO5 (Ext.refl _) rfl rfl Try.isAgg26 Try.sizeOf26) ?_
    have oDp : OwnB w40 w1.heap.size 5 D l := by obtain ⟨⟨aq, lq, hq9⟩, _, _⟩ := hpT; exact hq9.own
    refine WL.c rfl rfl rfl (X.call Try.call67 (evl_cons rfl (evl_cons rfl (evl_cons rfl evl_nil)))) (ended_ok vr D vR l _ (mp6 l1 s1) false _ _ _ hpT (oRT).rd (mp6_E _ _)) ?_
    rintro v68 w67 ⟨rfl, hx69⟩
    have := World.grownBy.size hx69
    have oD := own_ext oDp hx69
    have hE := getD_end (s := ⟨l, false⟩) (okk := false) hy hn hy2 hn2 (by rw [hok]; rfl)
    refine WL.va rfl rfl rfl (X.assignI rfl) ?_
    refine WL.nil ?_
    refine thn_n ?_
    refine WF.seq ?_
    refine WF.region ?_
    refine WL.va rfl rfl rfl (X.moveI rfl) ?_
    refine WL.va rfl rfl rfl (X.neq rfl rfl) ?_
    refine WL.nil ?_
    refine thn_n ?_
    refine WF.cond rfl (fun h0_70 => ?_) (fun h0_70 => ?_)
    · have gh0_70 := (of_decide_eq_true h0_70)
      have he := gh0_70
      refine WF.seq ?_
      refine WF.region ?_
      refine WL.va rfl rfl rfl (X.build evp_nil Try.type51 Try.underlying51 rfl rfl trivial rfl) ?_
      refine WL.va rfl rfl rfl (X.moveI rfl) ?_
      refine WL.op rfl (OW.storeOA (hO2.ext hx69) rfl rfl rfl (by simp [Value.oneCell']) Try.sizeOf51 ?_)
      intro w72 hO2 hx74
      have := World.grownBy.size hx74
      replace oRT := (oRT.ext hx69).keptO hx74 (by omega)
      replace hO4 := (hO4.ext hx69).keptO hx74 (by omega)
      replace hO5 := (hO5.ext hx69).keptO hx74 (by omega)
      replace hO7 := (hO7.ext hx69).keptO hx74 (by omega)
      replace hO8 := (hO8.ext hx69).keptO hx74 (by omega)
      replace oD := own_keptO oD hx74 (by omega)
      refine WL.va rfl rfl rfl (X.assignI rfl) ?_
      refine WL.nil ?_
      refine thn_n ?_
      refine WF.ret ?_
      refine thn_r ?_
      refine finC_r (vs := [_, _]) ⟨⟨_, rfl, readO hO2 Try.isAgg51 Try.sizeOf51⟩, rfl, trivial⟩ ?_
      rw [if_neg he] at hE
      rw [hE]
      exact ⟨⟨nilS, nilS, rfl, DSeg.zero _ _⟩, (Ext.store (Ext.trans (grown_trans hwz hG.x (fun i hi => by have := hrl i hi; omega)) hx69) hx74 (by omega))⟩
    · have gh0_70 := (Decidable.of_not_not (of_decide_eq_false h0_70))
      have he := gh0_70
      refine WF.skip ?_
      refine thn_n ?_
      refine WF.seq ?_
      refine WF.seq ?_
      refine WF.region ?_
      refine WL.va rfl rfl rfl (X.loadO hO8 hx69 rfl rfl Try.isAgg4) ?_
      refine WL.va rfl rfl rfl (X.not rfl) ?_
      refine WL.nil ?_
      refine thn_n ?_
      refine WF.cond rfl (fun h1_77 => ?_) (fun h1_77 => ?_)
      · have gh1_77 := (nt h1_77)
        have hrs : ¬ risesB (F.map Prod.fst) = true := by have := gh1_77; simpa using this
        refine WF.seq ?_
        refine WF.region ?_
        refine WL.va rfl rfl rfl (X.build evp_nil Try.type51 Try.underlying51 rfl rfl trivial rfl) ?_
        refine WL.op rfl (OW.storeOA (hO2.ext hx69) rfl rfl rfl (by simp [Value.oneCell']) Try.sizeOf51 ?_)
        intro w79 hO2 hx81
        have := World.grownBy.size hx81
        replace oRT := (oRT.ext hx69).keptO hx81 (by omega)
        replace hO4 := (hO4.ext hx69).keptO hx81 (by omega)
        replace hO5 := (hO5.ext hx69).keptO hx81 (by omega)
        replace hO7 := (hO7.ext hx69).keptO hx81 (by omega)
        replace hO8 := (hO8.ext hx69).keptO hx81 (by omega)
        replace oD := own_keptO oD hx81 (by omega)
        refine WL.va rfl rfl rfl (X.assignI rfl) ?_
        refine WL.nil ?_
        refine thn_n ?_
        refine WF.ret ?_
        refine thn_r ?_
        refine finC_r (vs := [_, _]) ⟨⟨_, rfl, readO hO2 Try.isAgg51 Try.sizeOf51⟩, rfl, trivial⟩ ?_
        rw [if_pos he, if_neg hrs] at hE
        rw [hE]
        exact ⟨⟨nilS, nilS, rfl, DSeg.zero _ _⟩, (Ext.store (Ext.trans (grown_trans hwz hG.x (fun i hi => by have := hrl i hi; omega)) hx69) hx81 (by omega))⟩
      · have gh1_77 := (nf h1_77)
        have hrs : risesB (F.map Prod.fst) = true := by have := gh1_77; simpa using this
        refine WF.skip ?_
        refine thn_n ?_
        refine WF.seq ?_
        refine WF.region ?_
        refine WL.va rfl rfl rfl (X.loadOA hO7 hx69 rfl rfl Try.isAgg51 Try.sizeOf51) ?_
        refine WL.op rfl (OW.storeOA (hO2.ext hx69) rfl rfl rfl (Dr.c_one ⟨mp6 l1 s1, []⟩ ((oRT.ext hx69)).rd (own_one ((ovT.ext hx69)).own)) Try.sizeOf51 ?_)
        intro w83 hO2 hx85
        have := World.grownBy.size hx85
        replace ovT := (ovT.ext hx69).keptO hx85 (by omega)
        replace oRT := (oRT.ext hx69).keptO hx85 (by omega)
        replace hO4 := (hO4.ext hx69).keptO hx85 (by omega)
        replace hO5 := (hO5.ext hx69).keptO hx85 (by omega)
        replace hO7 := (hO7.ext hx69).keptO hx85 (by omega)
        replace hO8 := (hO8.ext hx69).keptO hx85 (by omega)
        replace oD := own_keptO oD hx85 (by omega)
        refine WL.va rfl rfl rfl (X.assignI rfl) ?_
        refine WL.nil ?_
        refine thn_n ?_
        refine WF.ret ?_
        refine finC_r (vs := [_, _]) ⟨⟨_, rfl, readO hO2 Try.isAgg51 Try.sizeOf51⟩, rfl, trivial⟩ ?_
        rw [if_pos he, if_pos hrs] at hE
        rw [hE]
        exact ⟨⟨vR, u, rfl, ⟨own_mono (by rw [mp6_R]; exact (oRT).own) (by omega), ⟨D, l, F, rfl, own_mono (ovT).own (by omega), (own_mono oD (by omega)), hsg, (fun b h1 h2 => by have := (ovT.own.lt b h1).1; have := hDl b h2; omega), (fun b h1 h2 => by have := (oRT.own.lt b h1).1; have := hDl b h2; omega)⟩, fun b h1 h2 => by have := oRT.top b h1; have := (ovT.own.lt b h2).1; omega⟩⟩, (Ext.store (Ext.trans (grown_trans hwz hG.x (fun i hi => by have := hrl i hi; omega)) hx69) hx85 (by omega))⟩

end Go.Proofs.Ytpimnlgfhpnjnaa
