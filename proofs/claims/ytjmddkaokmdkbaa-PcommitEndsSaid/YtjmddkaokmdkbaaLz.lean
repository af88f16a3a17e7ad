/- The invariant is kept by what acceptors take, and by values; the law of PcommitOne. -/
import Derived.Test.YtjmddkaokmdkbaaLy
import Derived.Test.YtjmddkaokmdkbaaTbO
namespace Go.Proofs.Ytjmddkaokmdkbaa
open Go Go.RowKit Kf
set_option maxRecDepth 20000
section
variable {g g' : Gh} {x x' : Tb} {k : Nat} {m : Msg}
theorem XI.out1 (h : XI g x) {o : Msg} (ho : ∀ t, 1 ≤ t → t ≤ 3 → MI g x { o with To := t }) : XI g (x.out1 o) := by
  unfold Tb.out1
  split
  · refine h.push fun m hm => ?_
    obtain ⟨i, hi, rfl⟩ := List.mem_map.1 hm
    have := List.mem_range.1 hi
    exact ho _ (by omega) (by omega)
  · split
    · rename_i h2
      refine h.push fun m hm => ?_
      rw [List.mem_singleton] at hm
      subst hm
      exact ho m.To h2.1 h2.2
    · exact h
theorem step_key {a : Acc} {id : Int} {m : Msg} : (stepA a id m).1.Txn = a.Txn ∧ (stepA a id m).1.Part = a.Part := by
  unfold stepA stepP stepO
  split
  · split <;> exact ⟨rfl, rfl⟩
  · dsimp only; split <;> exact ⟨rfl, rfl⟩
/-- what an acceptor's list holds behind a message -/
theorem takeA_ent {l : List Acc} {id : Int} {m : Msg} (hm : may m = true) (hl : l.length < 1024) (p : Int) (ht : m.Txn = 5) :
    (findA (takeA l id m).1 5 p).1 = (if p = m.Part then (stepA (findA l 5 m.Part).1 id m).1 else (findA l 5 p).1) ∧ (takeA l id m).2.1 = [(stepA (findA l 5 m.Part).1 id m).2] := by
  unfold takeA
  rw [ht]
  dsimp only
  rw [if_neg (by rw [hm]; simp; omega)]
  obtain ⟨hk1, hk2⟩ := findA_k (l := l) (t := 5) (p := m.Part)
  obtain ⟨sk1, sk2⟩ := step_key (a := (findA l 5 m.Part).1) (id := id) (m := m)
  rw [hk1] at sk1
  rw [hk2] at sk2
  split
  · rename_i he
    refine ⟨?_, rfl⟩
    by_cases hp : p = m.Part
    · rw [if_pos hp, hp, he]
    · rw [if_neg hp]
  · refine ⟨?_, rfl⟩
    dsimp only
    have key : ∀ q : Prop, (5 = (5 : Int) ∧ q) ↔ q := fun q => by simp
    cases hf : (findA l 5 m.Part).2 with
    | true =>
      rw [if_pos rfl, findA_set (by rw [sk1, sk2]; exact hf), sk1, sk2]
      simp
    | false =>
      rw [if_neg (by simp), findA_ins (by rw [sk1, sk2]; exact hf), sk1, sk2]
      simp
theorem takeA_len2 {l : List Acc} {id : Int} {m : Msg} : (takeA l id m).1.length ≤ l.length + 1 := by
  unfold takeA
  dsimp only
  split
  · show l.length ≤ _; omega
  · split
    · show l.length ≤ _; omega
    · dsimp only
      split
      · rw [setV_len]; omega
      · rw [insV_len]; omega
theorem ent_took {x : Tb} {m : Msg} (hmay : may m = true) (h1 : 1 ≤ m.To) (hl : (x.kept m.To.toNat).length < 1024) (ht : m.Txn = 5) (a p : Int) :
    ent (x.took m) a p = if a = m.To ∧ p = m.Part then (stepA (ent x m.To m.Part) m.To m).1 else ent x a p := by
  show (findA (updN x.kept m.To.toNat (takeA (x.kept m.To.toNat) m.To m).1 a.toNat) 5 p).1 = _
  by_cases ha : a.toNat = m.To.toNat
  · have ha' : a = m.To := by omega
    subst ha'
    rw [updN_at, (takeA_ent hmay hl p ht).1]
    by_cases hp : p = m.Part
    · rw [if_pos hp, if_pos ⟨rfl, hp⟩]
    · rw [if_neg hp, if_neg (fun q => hp q.2)]
  · rw [updN_ne ha, if_neg (fun q => ha (by rw [q.1]))]
theorem XI.take (h : XI g x) (hm : MI g x m) (hK : m.Kind = 8 ∨ m.Kind = 10) (hl : (x.kept m.To.toNat).length < 1024) : ∃ g', XI g' (x.takeM m) := by
  have hkd := hm.kind
  unfold MK at hkd
  have hT : 1 ≤ m.To ∧ m.To ≤ x.many := by
    rcases hkd with q | q | q | q <;> omega
  have hm7 := h.many7
  have hmay : may m = true := by
    unfold may
    rcases hK with q | q
    · simp [q]
    · rcases hkd with q2 | q2 | q2 | q2
      · omega
      · simp [q]; exact q2.2.2.2.2.1
      · omega
      · omega
  have hE := h.en m.To m.Part hT.1 hT.2
  have he := ent_took hmay hT.1 hl hm.txn
  have hout := (takeA_ent (id := m.To) hmay hl m.Part hm.txn).2
  have hps := part_sm h hm.part
  have hto : Sm m.To := by unfold Sm; omega
  have hsm : ∀ z ∈ m.ints, Sm z := hm.sm
  have hbal : Sm m.Ballot := hsm _ (by simp)
  have hfrom : Sm m.From := hsm _ (by simp)
  have hval : Sm m.Value := hsm _ (by simp)
  have hbs : Sm (ent x m.To m.Part).Ballot := by have := hE.b0; have := hE.le; have := hE.sm; unfold Sm at *; omega
  have hfold : x.takeM m = (x.took m).out1 (stepA (ent x m.To m.Part) m.To m).2 := by
    unfold Tb.takeM
    rw [hout]; rfl
  rw [hfold]
  by_cases h8 : m.Kind = 8
  · -- it prepares
    have hB : 0 < m.Ballot := by rcases hkd with q | q | q | q <;> omega
    have hst : stepA (ent x m.To m.Part) m.To m = stepP (ent x m.To m.Part) m (out0 m.To m) := by unfold stepA; rw [if_pos h8]
    have hab : (x.took m).above = x.above := by show (x.above || (decide (m.Kind = 10) && _)) = _; rw [h8]; simp
    have hfs : ((stepA (ent x m.To m.Part) m.To m).1.Ballot = (ent x m.To m.Part).Ballot ∧ (stepA (ent x m.To m.Part) m.To m).1.Value = (ent x m.To m.Part).Value ∧ (ent x m.To m.Part).Promised ≤ (stepA (ent x m.To m.Part) m.To m).1.Promised ∧ Sm (stepA (ent x m.To m.Part) m.To m).1.Promised) := by
      rw [hst]; unfold stepP
      split
      · exact ⟨rfl, rfl, by show (ent x m.To m.Part).Promised ≤ m.Ballot; omega, hbal⟩
      · exact ⟨rfl, rfl, Int.le_refl _, hE.sm⟩
    have hb2 : ∀ a p, (ent (x.took m) a p).Ballot = (ent x a p).Ballot ∧ (ent (x.took m) a p).Value = (ent x a p).Value ∧ (ent x a p).Promised ≤ (ent (x.took m) a p).Promised := fun a p => by
      rw [he]
      split
      · rename_i q; rw [q.1, q.2]; exact ⟨hfs.1, hfs.2.1, hfs.2.2.1⟩
      · exact ⟨rfl, rfl, Int.le_refl _⟩
    have k' : Goes g x g (x.took m) := ⟨Gle.refl g, rfl, rfl, rfl, Int.le_refl _, fun q => by rw [hab]; exact q, fun a p => (hb2 a p).2.2, fun _ _ _ q => .inl q, fun _ _ q => .inl q⟩
    have hX : XI g (x.took m) := by
      refine h.next k' (fun a p b hd => ?_) (fun a p q1 q2 => ?_) (fun i hi => ⟨(h.co i hi).1.go k' fun _ _ _ q => q, (h.co i hi).2⟩) (fun m' hm' => (h.ms m' hm').go k') h.bad rfl
      · rw [(hb2 a p).1, (hb2 a p).2.1]; exact h.ac a p b hd
      · have q := h.en a p q1 q2
        obtain ⟨e1, e2, e3⟩ := hb2 a p
        refine ⟨Int.le_trans q.p0 e3, by rw [e1]; exact q.b0, by rw [e1]; exact Int.le_trans q.le e3, ?_, by rw [e2]; exact q.v, by rw [e1, e2]; exact q.d⟩
        rw [he]
        split
        · exact hfs.2.2.2
        · exact q.sm
    refine ⟨g, hX.out1 fun t t1 t3 => ?_⟩
    rw [hst]
    unfold stepP
    split
    · rename_i hlt
      refine ⟨hm.txn, hm.part, fun z hz => ?_, .inr (.inr (.inl ⟨rfl, t1, t3, fun _ => ?_⟩))⟩
      · have hv := hE.v
        simp only [Msg.ints, List.mem_cons, List.not_mem_nil, or_false, hm.txn] at hz
        unfold Sm at *
        omega
      · refine ⟨⟨fun b' hb' hd => h.ac m.To m.Part b' hd, fun hv => ?_⟩, hT.1, hT.2, ?_⟩
        · obtain ⟨d1, d2⟩ := hE.d (by rcases hv with q | q <;> (intro z; rw [show (ent x m.To m.Part).Value = _ from q] at z; omega))
          exact ⟨d1, d2, by have := hE.le; show (ent x m.To m.Part).Ballot < m.Ballot; omega⟩
        · show m.Ballot ≤ (ent (x.took m) m.To m.Part).Promised
          rw [he, if_pos ⟨rfl, rfl⟩, hst]; unfold stepP; rw [if_pos hlt]; exact Int.le_refl _
    · refine ⟨hm.txn, hm.part, fun z hz => ?_, .inr (.inr (.inl ⟨rfl, t1, t3, fun q => by cases q⟩))⟩
      have hv := hE.sm
      simp only [Msg.ints, List.mem_cons, List.not_mem_nil, or_false, hm.txn] at hz
      unfold Sm at *
      omega
  · -- it proposes
    have h10 : m.Kind = 10 := by omega
    obtain ⟨hB, hV12, hV⟩ : 0 ≤ m.Ballot ∧ (m.Value = 1 ∨ m.Value = 2) ∧ g.V m.Part m.Ballot = m.Value := by
      rcases hkd with q | q | q | q
      · omega
      · exact q.2.2.2
      · omega
      · omega
    have hst : stepA (ent x m.To m.Part) m.To m = stepO (ent x m.To m.Part) m (out0 m.To m) := by unfold stepA; rw [if_neg h8]
    have hab : (x.took m).above = (x.above || decide (0 < m.Ballot)) := by show (x.above || (decide (m.Kind = 10) && _)) = _; rw [h10]; simp
    by_cases hP : (ent x m.To m.Part).Promised ≤ m.Ballot
    · have hs1 : (stepA (ent x m.To m.Part) m.To m).1 = { ent x m.To m.Part with Promised := m.Ballot, Ballot := m.Ballot, Value := m.Value } := by
        rw [hst]; unfold stepO; dsimp only; rw [if_pos hP]
      let g' : Gh := ⟨g.V, fun a p b => g.D a p b ∨ (a = m.To ∧ p = m.Part ∧ b = m.Ballot)⟩
      have hle : Gle g g' := ⟨fun _ _ _ => rfl, fun _ _ _ q => .inl q⟩
      have k' : Goes g x g' (x.took m) := by
        refine ⟨hle, rfl, rfl, rfl, Int.le_refl _, fun q => by rw [hab, q]; rfl, fun a p => ?_, fun a p b hd => ?_, fun _ _ q => .inl q⟩
        · rw [he]
          split
          · rename_i q; rw [hs1, q.1, q.2]; exact hP
          · exact Int.le_refl _
        · rcases hd with q | ⟨rfl, rfl, rfl⟩
          · exact .inl q
          · exact .inr ⟨hP, hT.1, hT.2, by show g.V m.Part m.Ballot ≠ 0; omega, fun hb => by rw [hab]; simp [hb]⟩
      have hX : XI g' (x.took m) := by
        refine h.next k' (fun a p b hd => ?_) (fun a p q1 q2 => ?_) (fun i hi => ⟨(h.co i hi).1.go k' fun _ _ _ q => q, (h.co i hi).2⟩) (fun m' hm' => (h.ms m' hm').go k') h.bad rfl
        · rw [he]
          split
          · rename_i q
            rw [hs1]
            refine ⟨hV12, ?_⟩
            show b ≤ m.Ballot
            rcases hd with q2 | ⟨_, _, rfl⟩
            · have := (h.ac a p b q2).2
              rw [q.1, q.2] at this
              have := hE.le
              omega
            · exact Int.le_refl _
          · rename_i q
            rcases hd with q2 | ⟨rfl, rfl, rfl⟩
            · exact h.ac a p b q2
            · exact absurd ⟨rfl, rfl⟩ q
        · have q := h.en a p q1 q2
          by_cases hh : a = m.To ∧ p = m.Part
          · obtain ⟨rfl, rfl⟩ := hh
            have e : ent (x.took m) m.To m.Part = { ent x m.To m.Part with Promised := m.Ballot, Ballot := m.Ballot, Value := m.Value } := by rw [he, if_pos ⟨rfl, rfl⟩, hs1]
            refine ⟨by rw [e]; exact hB, by rw [e]; exact hB, by rw [e]; exact Int.le_refl _, by rw [e]; exact hbal, by rw [e]; exact .inr hV12, fun _ => ?_⟩
            rw [e]
            exact ⟨.inr ⟨rfl, rfl, rfl⟩, hV⟩
          · have e : ent (x.took m) a p = ent x a p := by rw [he, if_neg hh]
            refine ⟨by rw [e]; exact q.p0, by rw [e]; exact q.b0, by rw [e]; exact q.le, by rw [e]; exact q.sm, by rw [e]; exact q.v, fun hz => ?_⟩
            rw [e] at hz ⊢
            exact ⟨.inl (q.d hz).1, (q.d hz).2⟩
      refine ⟨g', hX.out1 fun t t1 t3 => ?_⟩
      have ho : ({ (stepA (ent x m.To m.Part) m.To m).2 with To := t } : Msg) = { out0 m.To m with To := t, Kind := 11, Ok := true, Value := m.Value } := by
        rw [hst]; unfold stepO; dsimp only; rw [if_pos hP]; dsimp only; split <;> rfl
      rw [ho]
      refine ⟨hm.txn, hm.part, fun z hz => ?_, .inr (.inr (.inr ⟨rfl, t1, t3, fun _ => ⟨.inr ⟨rfl, rfl, rfl⟩, hV, ?_⟩⟩))⟩
      · simp only [Msg.ints, List.mem_cons, List.not_mem_nil, or_false, hm.txn] at hz
        unfold Sm at *
        omega
      · show m.Value ≠ 0; omega
    · have hs1 : (stepA (ent x m.To m.Part) m.To m).1 = ent x m.To m.Part := by
        rw [hst]; unfold stepO; dsimp only; rw [if_neg hP]
      have e : ∀ a p, ent (x.took m) a p = ent x a p := fun a p => by
        rw [he]
        split
        · rename_i q; rw [hs1, q.1, q.2]
        · rfl
      have k' : Goes g x g (x.took m) := ⟨Gle.refl g, rfl, rfl, rfl, Int.le_refl _, fun q => by rw [hab, q]; rfl, fun a p => by rw [e]; exact Int.le_refl _, fun _ _ _ q => .inl q, fun _ _ q => .inl q⟩
      have hX : XI g (x.took m) := by
        refine h.next k' (fun a p b hd => ?_) (fun a p q1 q2 => ?_) (fun i hi => ⟨(h.co i hi).1.go k' fun _ _ _ q => q, (h.co i hi).2⟩) (fun m' hm' => (h.ms m' hm').go k') h.bad rfl
        · rw [e]; exact h.ac a p b hd
        · have q := h.en a p q1 q2
          exact ⟨by rw [e]; exact q.p0, by rw [e]; exact q.b0, by rw [e]; exact q.le, by rw [e]; exact q.sm, by rw [e]; exact q.v, by rw [e]; exact q.d⟩
      refine ⟨g, hX.out1 fun t t1 t3 => ?_⟩
      have ho : ({ (stepA (ent x m.To m.Part) m.To m).2 with To := t } : Msg) = { out0 m.To m with To := t, Kind := 11, Ok := false, Index := (ent x m.To m.Part).Promised } := by
        rw [hst]; unfold stepO; dsimp only; rw [if_neg hP]; dsimp only; split <;> rfl
      rw [ho]
      refine ⟨hm.txn, hm.part, fun z hz => ?_, .inr (.inr (.inr ⟨rfl, t1, t3, fun q => by cases q⟩))⟩
      have hv := hE.sm
      simp only [Msg.ints, List.mem_cons, List.not_mem_nil, or_false, hm.txn] at hz
      unfold Sm at *
      omega
end
end Go.Proofs.Ytjmddkaokmdkbaa
