/- What was put is read again. -/
import Derived.Test.YtlcgjeebgjiebaaPackL
namespace Go.Proofs.Ytlcgjeebgjiebaa
open Go Go.RowKit Kf

/-- a thing of a number of 64 bits, and of a list of such -/
def Good (t : Thing) : Prop := (t.p.length ≤ 1024 ∧ t.l.length ≤ 1024) ∧ (-9223372036854775808 ≤ t.v ∧ t.v ≤ 9223372036854775807) ∧ In64 t.l
theorem stepT_enc {t : Thing} (h : Good t) (rest : List UInt8) : stepT ⟨Pk.encT t ++ rest, false⟩ t = (true, ⟨rest, false⟩) := by
  obtain ⟨⟨hp, hl⟩, hv, hi⟩ := h
  by_cases h1 : t.kind = 1
  · rw [encT1 h1, stepT1 h1, Pk.read_blob hp]; simp
  · by_cases h2 : t.kind = 2
    · rw [encT2 h1 h2, stepT2 h1 h2, Pk.read_ints hi hl]; simp
    · rw [encT3 h1 h2, stepT3 h1 h2, Pk.read_enc hv]; simp
theorem readAll_enc : ∀ (l : List Thing), (∀ t ∈ l, Good t) → ∀ (rest : List UInt8), readAll ⟨Pk.encAll l ++ rest, false⟩ l = (true, ⟨rest, false⟩)
  | [], _, rest => rfl
  | t :: l, h, rest => by
    have e : Pk.encAll (t :: l) ++ rest = Pk.encT t ++ (Pk.encAll l ++ rest) := by simp [Pk.encAll]
    rw [e]
    show (if (stepT _ t).1 = true then readAll (stepT _ t).2 l else (false, (stepT _ t).2)) = _
    rw [stepT_enc (h t (by simp))]
    exact readAll_enc l (fun x hx => h x (by simp [hx])) rest
theorem Things.good {w : World} {x : Value} {l : List Thing} (h : Things w x l) (ho : Pk.laidOk l) : ∀ t ∈ l, Good t := by
  intro t ht
  obtain ⟨k, hk, rfl⟩ := List.getElem_of_mem ht
  obtain ⟨cs, _, h⟩ := h
  obtain ⟨_, _, _, _, _, _, _, _, h7, h8⟩ := h k hk
  exact ⟨ho.2 _ (List.getElem_mem hk), h7, h8⟩
theorem packBack_walk (x : Value) (l : List Thing) (w : World) (hT : Things w x l) : FnOk Try.prog 6 [x] w (fun r w' => r = .bool true ∧ Ext w w') := by
  refine FnOk.enter (rs := [2]) Try.func6 rfl Try.ntmps6 Try.results6 rfl rfl ?_
  refine WF.seq ?_
  refine WF.region ?_
  refine WL.va rfl rfl rfl (X.assignB rfl) ?_
  refine WL.nil ?_
  refine thn_n ?_
  refine WF.seq ?_
  refine WF.region ?_
  refine WL.va rfl rfl rfl (X.move rfl) ?_
  refine WL.c rfl rfl rfl (X.call Try.call30 (evl_cons rfl evl_nil)) (laid_ok _ l _ hT) ?_
  rintro v3 w2 ⟨⟨vb, rfl, o1⟩, hx4⟩
  have f1 := Bytes.of_own o1
  refine WL.va rfl rfl rfl (X.move rfl) ?_
  refine WL.va rfl rfl rfl (X.extract rfl rfl) ?_
  refine WL.va rfl rfl rfl (X.extract rfl rfl) ?_
  refine WL.va rfl rfl rfl (X.assign rfl) ?_
  refine WL.va rfl rfl rfl (X.assignB rfl) ?_
  refine WL.nil ?_
  refine thn_n ?_
  refine WF.seq ?_
  refine WF.seq ?_
  refine WF.region ?_
  refine WL.va rfl rfl rfl (X.moveB rfl) ?_
  refine WL.va rfl rfl rfl (X.not rfl) ?_
  refine WL.nil ?_
  refine thn_n ?_
  refine WF.cond rfl (fun h0_6 => ?_) (fun h0_6 => ?_)
  · have gh0_6 := (nt h0_6)
    refine WF.seq ?_
    refine WF.region ?_
    refine WL.c rfl rfl rfl (X.call Try.call9 evl_nil) (works_ok _) ?_
    rintro v9 w8 ⟨rfl, hx10⟩
    refine WL.va rfl rfl rfl (X.assignB rfl) ?_
    refine WL.nil ?_
    refine thn_n ?_
    refine WF.ret ?_
    refine thn_r ?_
    refine fin_r ?_
    exact ⟨rfl, (Ext.trans hx4 hx10)⟩
  · have gh0_6 := (nf h0_6)
    have hok : Pk.laidOk l := by first | exact of_decide_eq_true gh0_6 | exact gh0_6
    have hbl : (Pk.laidB l).length ≤ 140737488355328 := by unfold Pk.laidB; rw [if_pos hok]; have := Pk.encAll_len hok.2; have := hok.1; omega
    refine WF.skip ?_
    refine thn_n ?_
    refine WF.seq ?_
    refine WF.region ?_
    refine WL.va rfl rfl rfl (X.move rfl) ?_
    have szw := World.grownBy.size hx4
    refine WL.c rfl rfl rfl (X.call Try.call22 (evl_cons rfl evl_nil)) (read_ok _ _ _ f1 (by omega)) ?_
    rintro vr w12 ⟨⟨D, left, p0⟩, hx13⟩
    refine WL.va rfl rfl rfl (X.assign rfl) ?_
    refine WL.nil ?_
    refine thn_n ?_
    refine WF.seq ?_
    refine WF.region ?_
    refine WL.va rfl rfl rfl (X.move rfl) ?_
    refine WL.va rfl rfl rfl (X.move rfl) ?_
    refine WL.c rfl rfl rfl (X.call Try.call32 (evl_cons rfl (evl_cons rfl evl_nil))) (readT_ok vr D left _ _ _ _ l w _ _ p0 hT (Ext.trans hx4 hx13) szw) ?_
    rintro v15 w14 ⟨rfl, ⟨a1, left1, p1⟩, hx16⟩
    have hrd : readAll ⟨Pk.laidB l, false⟩ l = (true, ⟨[], false⟩) := by unfold Pk.laidB; rw [if_pos hok]; have := readAll_enc l (hT.good hok) []; rwa [List.append_nil] at this
    rw [hrd] at p1
    refine WL.va rfl rfl rfl (X.moveB rfl) ?_
    refine WL.split (j := 3) rfl (fun h18 => ?_) (fun h18 => ?_)
    · have gh18 := h18
      refine WL.vg rfl (congrArg some h18) rfl rfl (X.move rfl) ?_
      refine WL.cg rfl (congrArg some h18) rfl rfl (X.call Try.call27 (evl_cons rfl evl_nil)) (rBad_ok vr _ _ _ _ _ _ _ p1) ?_
      rintro v20 w19 ⟨rfl, rfl⟩
      refine WL.vg rfl (congrArg some h18) rfl rfl (X.not rfl) ?_
      refine WL.va rfl rfl rfl (X.pickT rfl h18 rfl) ?_
      refine WL.va rfl rfl rfl (X.moveB rfl) ?_
      refine WL.split (j := 8) rfl (fun h24 => ?_) (fun h24 => ?_)
      · have gh24 := (nt h24)
        refine WL.vg rfl (congrArg some h24) rfl rfl (X.move rfl) ?_
        refine WL.cg rfl (congrArg some h24) rfl rfl (X.call Try.call25 (evl_cons rfl evl_nil)) (rLeft_ok vr _ _ _ _ _ _ _ p1) ?_
        rintro v26 w25 ⟨rfl, rfl⟩
        refine WL.vg rfl (congrArg some h24) rfl rfl (X.eql rfl rfl) ?_
        refine WL.va rfl rfl rfl (X.pickT rfl h24 rfl) ?_
        refine WL.va rfl rfl rfl (X.moveB rfl) ?_
        refine WL.split (j := 13) rfl (fun h29 => ?_) (fun h29 => ?_)
        · have gh29 := (of_decide_eq_true h29)
          refine WL.vg rfl (congrArg some h29) rfl rfl (X.move rfl) ?_
          refine WL.cg rfl (congrArg some h29) rfl rfl (X.call Try.call28 (evl_cons rfl evl_nil)) (rEnd_ok vr _ _ _ _ _ _ _ p1) ?_
          rintro v31 w30 ⟨rfl, rfl⟩
          refine WL.vg rfl (congrArg some h29) rfl rfl (X.eql rfl rfl) ?_
          refine WL.va rfl rfl rfl (X.pickT rfl h29 rfl) ?_
          refine WL.va rfl rfl rfl (X.moveB rfl) ?_
          refine WL.split (j := 18) rfl (fun h34 => ?_) (fun h34 => ?_)
          · have gh34 := (of_decide_eq_true h34)
            refine WL.cg rfl (congrArg some h34) rfl rfl (X.call Try.call9 evl_nil) (works_ok _) ?_
            rintro v36 w35 ⟨rfl, hx37⟩
            refine WL.va rfl rfl rfl (X.pickT rfl h34 rfl) ?_
            refine WL.va rfl rfl rfl (X.assignB rfl) ?_
            refine WL.nil ?_
            refine thn_n ?_
            refine WF.ret ?_
            refine fin_r ?_
            exact ⟨rfl, (Ext.trans (hx16) hx37)⟩
          · have gh34 := (of_decide_eq_false h34)
            exact absurd rfl gh34
        · have gh29 := (of_decide_eq_false h29)
          exact absurd rfl gh29
      · have gh24 := (nf h24)
        exact absurd gh24 (by decide)
    · have gh18 := h18
      exact absurd (congrArg Prod.fst hrd) (by rw [gh18]; decide)

end Go.Proofs.Ytlcgjeebgjiebaa
