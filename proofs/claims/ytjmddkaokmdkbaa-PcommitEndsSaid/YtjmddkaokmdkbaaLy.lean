/- The invariant is kept by steps and by what acceptors take. -/
import Derived.Test.YtjmddkaokmdkbaaLx
namespace Go.Proofs.Ytjmddkaokmdkbaa
open Go Go.RowKit Kf
set_option maxRecDepth 20000
section
variable {g g' : Gh} {x x' : Tb} {k : Nat} {m : Msg}
theorem XI.setCo (h : XI g x) (_hk : k < 3) {c : CC} {out : List Msg} (hc : CI g x k c) (ho : c.ok) (hout : ∀ m ∈ out, MI g x m) : XI g { x with co := updN x.co k c, post := x.post ++ out } := by
  have k' : Goes g x g { x with co := updN x.co k c, post := x.post ++ out } := Goes.same rfl rfl rfl (Int.le_refl _) rfl rfl
  refine h.same rfl rfl rfl (Int.le_refl _) rfl rfl rfl rfl (fun i hi => ?_) (fun m hm => ?_)
  · show CI g _ i (updN x.co k c i) ∧ (updN x.co k c i).ok
    by_cases e : i = k
    · subst e; rw [updN_at]; exact ⟨hc.go k' fun _ _ _ q => q, ho⟩
    · rw [updN_ne e]; exact ⟨(h.co i hi).1.go k' fun _ _ _ q => q, (h.co i hi).2⟩
  · rcases List.mem_append.1 hm with q | q
    · exact (h.ms m q).go k'
    · exact (hout m q).go k'
theorem accept_ci (h : XI g x) {c : CC} (hc : CI g x k c) (ho : (c.accept m).ok) (hd : g.D m.From m.Part m.Ballot ∧ g.V m.Part m.Ballot = m.Value ∧ m.Value ≠ 0) : CI g x k (c.accept m) := by
  by_cases hv : m.Value ≠ 1 ∧ m.Value ≠ 2
  · have e : c.accept m = c := by unfold CC.accept; rw [if_pos hv]
    rw [e]; exact hc
  · have e : c.accept m = { c with A := updK c.A (k3 m.Part m.Ballot m.Value) (addF (c.A (k3 m.Part m.Ballot m.Value)) m.From), ch := if (c.nac : Int) < 2 * ((addF (c.A (k3 m.Part m.Ballot m.Value)) m.From).length : Int) then updI c.ch m.Part (max (c.ch m.Part) m.Value) else c.ch } := by
      unfold CC.accept; rw [if_neg hv]
    have hA : ∀ p b v f, f ∈ (c.accept m).A (k3 p b v) → g.D f p b ∧ g.V p b = v ∧ v ≠ 0 := by
      intro p b v f hf
      rw [e] at hf
      by_cases q : k3 p b v = k3 m.Part m.Ballot m.Value
      · have hf2 : f ∈ (if k3 p b v = k3 m.Part m.Ballot m.Value then addF (c.A (k3 m.Part m.Ballot m.Value)) m.From else c.A (k3 p b v)) := hf
        clear hf
        rw [if_pos q] at hf2
        obtain ⟨rfl, rfl, rfl⟩ := k3_inj.1 q
        unfold addF at hf2
        split at hf2
        · exact hc.A _ _ _ f hf2
        · rcases List.mem_append.1 hf2 with q2 | q2
          · exact hc.A _ _ _ f q2
          · rw [List.mem_singleton] at q2; subst q2; exact hd
      · have hf : f ∈ (if k3 p b v = k3 m.Part m.Ballot m.Value then addF (c.A (k3 m.Part m.Ballot m.Value)) m.From else c.A (k3 p b v)) := hf
        rw [if_neg q] at hf
        exact hc.A _ _ _ f hf
    have hn : (c.accept m).nac = x.many := by rw [e]; exact hc.nac
    have hch : ∀ p, (c.accept m).ch p = 0 ∨ Chosen x.many g p ((c.accept m).ch p) := by
      intro p
      have e2 : (c.accept m).ch = if (c.nac : Int) < 2 * ((addF (c.A (k3 m.Part m.Ballot m.Value)) m.From).length : Int) then updI c.ch m.Part (max (c.ch m.Part) m.Value) else c.ch := by rw [e]
      rw [e2]
      split
      · rename_i hbig
        by_cases hp : p = m.Part
        · subst hp
          rw [updI_at]
          have hcv : Chosen x.many g m.Part m.Value := by
            refine ⟨by omega, m.Ballot, hd.2.1, addF (c.A (k3 m.Part m.Ballot m.Value)) m.From, ?_, fun f hf => ?_, by rw [← hc.nac]; exact hbig⟩
            · have q := (ho.A (k3 m.Part m.Ballot m.Value)).1
              rw [e] at q
              have q : (if k3 m.Part m.Ballot m.Value = k3 m.Part m.Ballot m.Value then addF (c.A (k3 m.Part m.Ballot m.Value)) m.From else c.A (k3 m.Part m.Ballot m.Value)).Nodup := q
              rw [if_pos rfl] at q; exact q
            · have hf' : f ∈ (c.accept m).A (k3 m.Part m.Ballot m.Value) := by
                rw [e]
                show f ∈ (if k3 m.Part m.Ballot m.Value = k3 m.Part m.Ballot m.Value then addF (c.A (k3 m.Part m.Ballot m.Value)) m.From else c.A (k3 m.Part m.Ballot m.Value))
                rw [if_pos rfl]; exact hf
              have q := (ho.A _).2 f hf'
              rw [hn] at q
              exact ⟨q.1, q.2, (hA _ _ _ f hf').1⟩
          rcases hc.ch m.Part with q | q
          · rw [q]
            have : max (0 : Int) m.Value = m.Value := by have := hcv.1; omega
            rw [this]; exact .inr hcv
          · have := h.core.agree q hcv
            rw [this, Int.max_self]; exact .inr hcv
        · rw [updI_ne hp]; exact hc.ch p
      · exact hc.ch p
    refine ⟨by rw [e]; exact hc.me, by rw [e]; exact hc.txn, hn, by rw [e]; exact hc.parts, hA, hch, ?_⟩
    rw [e]; exact hc.run
/-- a coordinator is told a promise -/
theorem promise_xi (h : XI g x) (hk : k < 3) (hs : x.starts ≤ 1000) (hp : m.Part ∈ x.parts) (hx : PX g x m.Part m.Ballot (m.From, m.Index, m.Value)) (ho : ((x.co k).promise m).1.ok) :
    ∃ g', XI g' { x with co := updN x.co k ((x.co k).promise m).1, post := x.post ++ ((x.co k).promise m).2 } := by
  obtain ⟨hc, hco⟩ := h.co k hk
  have hps := part_sm h hp
  have hm7 := h.many7
  have hst := h.st
  unfold CC.promise at ho ⊢
  split
  · exact ⟨g, h.setCo hk hc hco (fun _ q => by cases q)⟩
  rename_i h1
  rw [if_neg h1] at ho
  split
  · exact ⟨g, h.setCo hk hc hco (fun _ q => by cases q)⟩
  rename_i h2
  rw [if_neg h2] at ho
  dsimp only at ho ⊢
  have hst1 : (x.co k).st = true := by
    cases e : (x.co k).st with
    | true => rfl
    | false => exact absurd (.inl e) h1
  have hb : m.Ballot = (x.co k).num := Classical.byContradiction fun q => h1 (.inr (.inl q))
  have hpo : (x.co k).po m.Part ≤ 0 := by
    have : ¬ 0 < (x.co k).po m.Part := fun q => h1 (.inr (.inr q))
    omega
  obtain ⟨s, s1, s2, s3, s4⟩ := hc.run hst1
  have hl : ∀ e ∈ (x.co k).pr m.Part ++ [(m.From, m.Index, m.Value)], PX g x m.Part (x.co k).num e := fun e he => by
    rcases List.mem_append.1 he with q | q
    · exact (s4 m.Part).1 e q
    · rw [List.mem_singleton] at q; subst q; rw [← hb]; exact hx
  have hpr : ∀ p, ∀ e ∈ updI (x.co k).pr m.Part ((x.co k).pr m.Part ++ [(m.From, m.Index, m.Value)]) p, PX g x p (x.co k).num e := fun p e he => by
    by_cases q : p = m.Part
    · subst q; rw [updI_at] at he; exact hl e he
    · rw [updI_ne q] at he; exact (s4 p).1 e he
  split
  · rename_i h3
    rw [if_pos h3] at ho
    exact ⟨g, h.setCo hk ⟨hc.me, hc.txn, hc.nac, hc.parts, hc.A, hc.ch, fun _ => ⟨s, s1, s2, s3, fun p => ⟨hpr p, (s4 p).2⟩⟩⟩ ho (fun _ q => by cases q)⟩
  rename_i h3
  rw [if_neg h3] at ho
  have hV0 : g.V m.Part (x.co k).num = 0 := (s4 m.Part).2 hpo
  obtain ⟨l, hle⟩ : ∃ l, l = (x.co k).pr m.Part ++ [(m.From, m.Index, m.Value)] := ⟨_, rfl⟩
  rw [← hle] at ho hl hpr h3 ⊢
  have hnd : (l.map Prod.fst).Nodup := by
    have q := (ho.pr m.Part).1
    have q : ((updI (x.co k).pr m.Part l m.Part).map Prod.fst).Nodup := q
    rw [updI_at] at q; exact q
  let g' : Gh := ⟨fun p b => if p = m.Part ∧ b = (x.co k).num then pickV l else g.V p b, g.D⟩
  have hV : ∀ p b, ¬ (p = m.Part ∧ b = (x.co k).num) → g'.V p b = g.V p b := fun p b q => if_neg q
  have hVn : g'.V m.Part (x.co k).num = pickV l := if_pos ⟨rfl, rfl⟩
  have hle' : Gle g g' := ⟨fun p b hz => hV p b fun q => hz (by rw [q.1, q.2]; exact hV0), fun _ _ _ q => q⟩
  obtain ⟨c2, hc2⟩ : ∃ c2 : CC, c2 = { { x.co k with pr := updI (x.co k).pr m.Part l } with po := updI (x.co k).po m.Part 1 } := ⟨_, rfl⟩
  obtain ⟨out, hout⟩ : ∃ out, out = (x.co k).all (says m.Part (pickV l)) := ⟨_, rfl⟩
  obtain ⟨xF, hxF⟩ : ∃ xF : Tb, xF = { x with co := updN x.co k c2, post := x.post ++ out } := ⟨_, rfl⟩
  have k' : Goes g x g' xF := by
    subst hxF
    refine ⟨hle', rfl, rfl, rfl, Int.le_refl _, fun q => q, fun _ _ => Int.le_refl _, fun _ _ _ q => .inl q, fun p b hz => ?_⟩
    by_cases q : p = m.Part ∧ b = (x.co k).num
    · obtain ⟨rfl, rfl⟩ := q
      refine .inr ⟨by omega, ?_, l, hnd, hl, by have := hc.nac; omega, hVn⟩
      show (x.co k).num ≤ 8 * x.starts + 3; omega
    · rw [hV p b q] at hz; exact .inl hz
  have hci : CI g x k c2 := by
    subst hc2
    refine ⟨hc.me, hc.txn, hc.nac, hc.parts, hc.A, hc.ch, fun _ => ⟨s, s1, s2, s3, fun p => ⟨hpr p, fun hp0 => ?_⟩⟩⟩
    by_cases q : p = m.Part
    · subst q
      have hp0 : updI (x.co k).po m.Part 1 m.Part ≤ 0 := hp0
      rw [updI_at] at hp0; omega
    · have hp0 : updI (x.co k).po m.Part 1 p ≤ 0 := hp0
      rw [updI_ne q] at hp0; exact (s4 p).2 hp0
  refine ⟨g', ?_⟩
  rw [← hc2] at ho
  rw [← hc2, ← hout, ← hxF]
  refine h.next k' (fun a p b hd => ?_) (fun a p q1 q2 => ?_) (fun i hi => ?_) (fun m' hm' => ?_) (by rw [hxF]; exact h.bad) (by rw [hxF])
  · subst hxF; exact h.ac a p b hd
  · have q := h.en a p q1 q2
    subst hxF
    exact ⟨q.p0, q.b0, q.le, q.sm, q.v, fun hz => ⟨(q.d hz).1, by rw [hle'.V _ _ (by rw [(q.d hz).2]; exact hz)]; exact (q.d hz).2⟩⟩
  · have e : xF.co i = updN x.co k c2 i := by rw [hxF]
    rw [e]
    by_cases q : i = k
    · subst q
      rw [updN_at]
      refine ⟨hci.go k' fun _ p hp0 hz => ?_, ho⟩
      rw [hV]; exact hz
      rintro ⟨rfl, _⟩
      rw [hc2] at hp0
      have hp0 : updI (x.co i).po m.Part 1 m.Part ≤ 0 := hp0
      rw [updI_at] at hp0; omega
    · rw [updN_ne q]
      refine ⟨(h.co i hi).1.go k' fun hs p _ hz => ?_, (h.co i hi).2⟩
      rw [hV]; exact hz
      rintro ⟨_, e2⟩
      obtain ⟨s', t1, t2, t3, _⟩ := (h.co i hi).1.run hs
      omega
  · have hm' : m' ∈ x.post ++ out := by rw [hxF] at hm'; exact hm'
    rcases List.mem_append.1 hm' with q | q
    · exact (h.ms m' q).go k'
    · rw [hout] at q
      obtain ⟨i, hi, rfl⟩ := List.mem_map.1 q
      have hi := List.mem_range.1 hi
      have hnac := hc.nac
      have hpv := pickV_12 l
      refine ⟨hc.txn, by rw [k'.parts]; exact hp, fun z hz => ?_, .inr (.inl ⟨rfl, ?_, ?_, ?_, hpv, hVn⟩)⟩
      · have e1 := hc.me
        have e2 := hc.txn
        simp only [says, Msg.ints, List.mem_cons, List.not_mem_nil, or_false, e1, e2] at hz
        unfold Sm
        omega
      · show 1 ≤ (i : Int) + 1; omega
      · rw [k'.many]; show (i : Int) + 1 ≤ x.many; omega
      · show 0 ≤ (x.co k).num; omega
/-- a message comes to a coordinator -/
theorem XI.step (h : XI g x) (hk : k < 3) (hs : x.starts ≤ 1000) (hm : MI g x m) (hK : m.Kind ≠ 8 ∧ m.Kind ≠ 10) : ∃ g', XI g' (x.stepC k m) := by
  obtain ⟨hc, hco⟩ := h.co k hk
  have hok := hco.step (m := m)
  unfold Tb.stepC
  unfold CC.step at hok ⊢
  split
  · exact ⟨g, h.setCo hk hc hco (fun _ q => by cases q)⟩
  rename_i h1
  rw [if_neg h1] at hok
  split
  · exact ⟨g, h.setCo hk hc hco (fun _ q => by cases q)⟩
  rename_i h2
  rw [if_neg h2] at hok
  split
  · rename_i h3
    rw [if_pos h3] at hok
    exact ⟨g, h.setCo hk ⟨hc.me, hc.txn, hc.nac, hc.parts, hc.A, hc.ch, hc.run⟩ hok (fun _ q => by cases q)⟩
  rename_i h3
  rw [if_neg h3] at hok
  have hOk : m.Ok = true := by cases e : m.Ok with | true => rfl | false => exact absurd e h3
  have hkd := hm.kind
  unfold MK at hkd
  split
  · rename_i h4
    rw [if_pos h4] at hok
    refine ⟨g, h.setCo hk (accept_ci h hc hok ?_) hok (fun _ q => by cases q)⟩
    rcases hkd with q | q | q | q
    · omega
    · omega
    · omega
    · exact q.2.2.2 hOk
  · rename_i h4
    rw [if_neg h4] at hok
    refine promise_xi h hk hs hm.part ?_ hok
    rcases hkd with q | q | q | q
    · omega
    · omega
    · exact q.2.2.2 hOk
    · omega
end
end Go.Proofs.Ytjmddkaokmdkbaa
