/- Behind a start above all others: promises, the start, the end; the law of PcommitEnds. -/
import Derived.Test.YtjmddkaokmdkbaaLf
import Derived.Test.YtjmddkaokmdkbaaTbE
namespace Go.Proofs.Ytjmddkaokmdkbaa
open Go Go.RowKit Kf
set_option maxRecDepth 20000
def Good9 (c : CC) (m : Msg) : Prop := m.Txn = c.txn ∧ 1 ≤ m.From ∧ m.From ≤ c.nac ∧ m.Part ∈ c.parts ∧ m.Ok = true ∧ m.Ballot = c.num
structure S9 (c c' : CC) : Prop where
  st : c'.st = c.st
  num : c'.num = c.num
  nac : c'.nac = c.nac
  ch : c'.ch = c.ch
  A : c'.A = c.A
theorem step9 {c : CC} {m : Msg} (hK : m.Kind = 9) (hst : c.st = true) : S9 c (c.step m).1 ∧
    (((c.step m).1.pr = c.pr ∧ (c.step m).1.po = c.po ∧ (c.step m).2 = [] ∧ (Good9 c m → 0 < c.po m.Part ∨ m.From ∈ (c.pr m.Part).map Prod.fst)) ∨
     (c.po m.Part ≤ 0 ∧ m.Part ∈ c.parts ∧ (c.step m).1.pr = updI c.pr m.Part (c.pr m.Part ++ [(m.From, m.Index, m.Value)]) ∧ (c.step m).1.po = c.po ∧ (c.step m).2 = [] ∧ 2 * ((c.pr m.Part ++ [(m.From, m.Index, m.Value)]).length : Int) ≤ c.nac) ∨
     (c.po m.Part ≤ 0 ∧ m.Part ∈ c.parts ∧ (c.step m).1.pr = updI c.pr m.Part (c.pr m.Part ++ [(m.From, m.Index, m.Value)]) ∧ (c.step m).1.po = updI c.po m.Part 1 ∧ ∃ v, (v = 1 ∨ v = 2) ∧ (c.step m).2 = allM c.me c.txn c.num c.nac (says m.Part v))) := by
  have rf : S9 c c := ⟨rfl, rfl, rfl, rfl, rfl⟩
  unfold CC.step
  split
  · rename_i h
    refine ⟨rf, .inl ⟨rfl, rfl, rfl, fun ⟨g1, g2, g3, g4, _, _⟩ => ?_⟩⟩
    rcases h with q | q | q | q
    · exact absurd g1 q
    · omega
    · omega
    · exact absurd g4 q
  rename_i hg
  have hpart : m.Part ∈ c.parts := Classical.byContradiction fun q => hg (.inr (.inr (.inr q)))
  split
  · rename_i h; omega
  split
  · rename_i h
    exact ⟨⟨rfl, rfl, rfl, rfl, rfl⟩, .inl ⟨rfl, rfl, rfl, fun ⟨_, _, _, _, g5, _⟩ => by rw [h] at g5; cases g5⟩⟩
  split
  · rename_i h; omega
  unfold CC.promise
  split
  · rename_i h
    refine ⟨rf, .inl ⟨rfl, rfl, rfl, fun ⟨_, _, _, _, _, g6⟩ => ?_⟩⟩
    rcases h with q | q | q
    · rw [hst] at q; cases q
    · exact absurd g6 q
    · exact .inl q
  rename_i h1
  have hpo : c.po m.Part ≤ 0 := by
    have : ¬ 0 < c.po m.Part := fun q => h1 (.inr (.inr q))
    omega
  split
  · rename_i h
    refine ⟨rf, .inl ⟨rfl, rfl, rfl, fun _ => .inr ?_⟩⟩
    obtain ⟨e, he, q⟩ := List.any_eq_true.1 h
    have q : e.1 = m.From := by simpa using q
    exact List.mem_map.2 ⟨e, he, q⟩
  dsimp only
  split
  · rename_i h
    exact ⟨⟨rfl, rfl, rfl, rfl, rfl⟩, .inr (.inl ⟨hpo, hpart, rfl, rfl, rfl, h⟩)⟩
  · exact ⟨⟨rfl, rfl, rfl, rfl, rfl⟩, .inr (.inr ⟨hpo, hpart, rfl, rfl, _, pickV_12 _, rfl⟩)⟩
section
variable {g : Gh} {x : Tb} {k n : Nat} {m : Msg} {rest : List Msg}
theorem come9 (hX : XI g x) (hk : k < 3) (hL : Lv k x) (hpost : x.post = m :: rest) (hK : m.Kind = 9) : Lv k (x.come 0) ∧ Phi k (x.come 0) + 1 ≤ Phi k x := by
  have hm0 : x.post[0]? = some m := by rw [hpost]; rfl
  have hM := hX.ms m (by rw [hpost]; simp)
  have hkd := hM.kind
  unfold MK at hkd
  have hTo := (hL.ms m (by rw [hpost]; simp)).c hK
  have hc := (hX.co k hk).1
  have hm7 := hX.many7
  rw [come_s hm0 (by omega), show (m.To - 1).toNat = k from by omega]
  obtain ⟨s9, hcase⟩ := step9 (c := x.co k) hK hL.st
  obtain ⟨x', hx'⟩ : ∃ x', x' = (x.less 0).stepC k m := ⟨_, rfl⟩
  obtain ⟨out, hou⟩ : ∃ out, out = ((x.co k).step m).2 := ⟨_, rfl⟩
  obtain ⟨c', hc'⟩ : ∃ c', c' = ((x.co k).step m).1 := ⟨_, rfl⟩
  have hpo' : x'.post = rest ++ out := by rw [hx', hou]; show (x.less 0).post ++ _ = _; rw [less0 hpost]; rfl
  have hco : x'.co k = c' := by rw [hx', hc']; show updN x.co k _ k = _; rw [updN_at]; rfl
  rw [← hx']
  rw [← hc'] at s9 hcase
  rw [← hou] at hcase
  have hent : ∀ a p, ent x' a p = ent x a p := fun a p => by rw [hx']; rfl
  have hmany : x'.many = x.many := by rw [hx']; rfl
  have hparts : x'.parts = x.parts := by rw [hx']; rfl
  have hmem : ∀ m1 ∈ x.post, m1 = m ∨ m1 ∈ x'.post := fun m1 h => by rw [hpost] at h; rw [hpo']; rcases List.mem_cons.1 h with e | e; exact .inl e; exact .inr (List.mem_append_left _ e)
  have hgood : ∀ p a, p ∈ x.parts → 1 ≤ a → a ≤ x.many → m.From = a → m.Part = p → m.Ballot = (x.co k).num → m.Ok = true → Good9 (x.co k) m := fun p a hp a1 a2 e1 e2 e3 e4 => ⟨by rw [hM.txn, hc.txn], by omega, by rw [hc.nac]; omega, by rw [hc.parts]; exact hM.part, e4, e3⟩
  have hB : ∀ p v a, SB x k (x.co k).num p v a → SB x' k (x.co k).num p v a := fun p v a h => by
    unfold SB
    rw [hco, s9.A]
    rcases h with ⟨m1, q1, q2, q3⟩ | ⟨m1, q1, q2, q3⟩ | h
    · rcases hmem m1 q1 with e | e
      · subst e; omega
      · exact .inl ⟨m1, e, q2, q3⟩
    · rcases hmem m1 q1 with e | e
      · subst e; omega
      · exact .inr (.inl ⟨m1, e, q2, q3⟩)
    · exact .inr (.inr h)
  have hac : AC c' (x.co k).num := fun p v h1 h2 => by
    rw [s9.A, s9.nac] at h2; rw [s9.ch]; exact hL.ac p v h1 h2
  have hW : Wm m = 1 := by unfold Wm; rw [if_neg (by omega), if_neg (by omega)]
  rcases hcase with ⟨e1, e2, e3, e4⟩ | ⟨e1, ep, e2, e3, e4, e5⟩ | ⟨e1, ep, e2, e3, v, hv, e4⟩
  · -- nothing is new
    have hpo2 : x'.post = rest := by rw [hpo', e3, List.append_nil]
    refine ⟨⟨by rw [hco, s9.st]; exact hL.st, fun a p h1 h2 => by rw [hent, hco, s9.num]; exact hL.prom a p h1 (by rw [← hmany]; exact h2), fun m1 h1 => ?_, by rw [hco, s9.num]; exact hac, fun p hp => ?_⟩, ?_⟩
    · rw [hco, s9.num]; rw [hpo2] at h1; exact hL.ms m1 (by rw [hpost]; exact List.mem_cons_of_mem _ h1)
    · rw [hparts] at hp
      rw [hco, s9.num]
      unfold Stg
      rw [hco, s9.ch, e2, e1, hmany]
      rcases hL.stg p hp with h | ⟨h1, h2, h3⟩ | ⟨h1, v, h2, h3⟩
      · exact .inl h
      · refine .inr (.inl ⟨h1, h2, fun a a1 a2 => ?_⟩)
        unfold SA
        rw [hco, e1, hent]
        rcases h3 a a1 a2 with ⟨m1, q1, q2, q3⟩ | ⟨m1, q1, q2, q3, q4, q5, q6⟩ | h
        · rcases hmem m1 q1 with e | e
          · subst e; omega
          · exact .inl ⟨m1, e, q2, q3⟩
        · rcases hmem m1 q1 with e | e
          · subst e
            rcases e4 (hgood p a hp a1 a2 q3 q4 q5 q6) with q | q
            · rw [q4] at q; omega
            · rw [q3, q4] at q; exact .inr (.inr q)
          · exact .inr (.inl ⟨m1, e, q2, q3, q4, q5, q6⟩)
        · exact .inr (.inr h)
      · exact .inr (.inr ⟨h1, v, h2, fun a a1 a2 => hB p v a (h3 a a1 a2)⟩)
    · refine Phi_app (m := m) (rest := rest) (out := []) hpost (by rw [hpo2, List.append_nil]) ?_
      have e5 : Wp (x'.co k) = Wp (x.co k) := by funext p; unfold Wp; rw [hco, e2]
      rw [hparts, e5, hW]; simp
  · -- a promise more
    have hpo2 : x'.post = rest := by rw [hpo', e4, List.append_nil]
    refine ⟨⟨by rw [hco, s9.st]; exact hL.st, fun a p h1 h2 => by rw [hent, hco, s9.num]; exact hL.prom a p h1 (by rw [← hmany]; exact h2), fun m1 h1 => ?_, by rw [hco, s9.num]; exact hac, fun p hp => ?_⟩, ?_⟩
    · rw [hco, s9.num]; rw [hpo2] at h1; exact hL.ms m1 (by rw [hpost]; exact List.mem_cons_of_mem _ h1)
    · rw [hparts] at hp
      rw [hco, s9.num]
      unfold Stg
      rw [hco, s9.ch, e3, e2, hmany]
      rcases hL.stg p hp with h | ⟨h1, h2, h3⟩ | ⟨h1, v, h2, h3⟩
      · exact .inl h
      · by_cases hpp : p = m.Part
        · subst hpp
          rw [updI_at]
          refine .inr (.inl ⟨h1, by rw [← hc.nac]; exact e5, fun a a1 a2 => ?_⟩)
          unfold SA
          rw [hco, e2, hent, updI_at]
          rcases h3 a a1 a2 with ⟨m1, q1, q2, q3⟩ | ⟨m1, q1, q2, q3, q4, q5, q6⟩ | h
          · rcases hmem m1 q1 with e | e
            · subst e; omega
            · exact .inl ⟨m1, e, q2, q3⟩
          · rcases hmem m1 q1 with e | e
            · subst e; exact .inr (.inr (by rw [List.map_append]; exact List.mem_append_right _ (by simp [q3])))
            · exact .inr (.inl ⟨m1, e, q2, q3, q4, q5, q6⟩)
          · exact .inr (.inr (by rw [List.map_append]; exact List.mem_append_left _ h))
        · rw [updI_ne hpp]
          refine .inr (.inl ⟨h1, h2, fun a a1 a2 => ?_⟩)
          unfold SA
          rw [hco, e2, hent, updI_ne hpp]
          rcases h3 a a1 a2 with ⟨m1, q1, q2, q3⟩ | ⟨m1, q1, q2, q3, q4, q5⟩ | h
          · rcases hmem m1 q1 with e | e
            · subst e; omega
            · exact .inl ⟨m1, e, q2, q3⟩
          · rcases hmem m1 q1 with e | e
            · subst e; exact absurd q4.symm hpp
            · exact .inr (.inl ⟨m1, e, q2, q3, q4, q5⟩)
          · exact .inr (.inr h)
      · exact .inr (.inr ⟨h1, v, h2, fun a a1 a2 => hB p v a (h3 a a1 a2)⟩)
    · refine Phi_app (m := m) (rest := rest) (out := []) hpost (by rw [hpo2, List.append_nil]) ?_
      have e5 : Wp (x'.co k) = Wp (x.co k) := by funext p; unfold Wp; rw [hco, e3]
      rw [hparts, e5, hW]; simp
  · -- it proposes
    have hout : ∀ m1 ∈ out, m1.Kind = 10 ∧ m1.Ballot = (x.co k).num := fun m1 h => by
      rw [e4] at h; obtain ⟨i, _, rfl⟩ := List.mem_map.1 h; exact ⟨rfl, rfl⟩
    have hol : out.length ≤ 7 := by rw [e4, allM_len, hc.nac]; omega
    refine ⟨⟨by rw [hco, s9.st]; exact hL.st, fun a p h1 h2 => by rw [hent, hco, s9.num]; exact hL.prom a p h1 (by rw [← hmany]; exact h2), fun m1 h1 => ?_, by rw [hco, s9.num]; exact hac, fun p hp => ?_⟩, ?_⟩
    · rw [hco, s9.num]; rw [hpo'] at h1
      rcases List.mem_append.1 h1 with e | e
      · exact hL.ms m1 (by rw [hpost]; exact List.mem_cons_of_mem _ e)
      · obtain ⟨a1, a2⟩ := hout m1 e
        exact ⟨fun q => by omega, fun _ => a2, fun q => by omega⟩
    · rw [hparts] at hp
      rw [hco, s9.num]
      unfold Stg
      rw [hco, s9.ch, e3, e2, hmany]
      by_cases hpp : p = m.Part
      · subst hpp
        refine .inr (.inr ⟨by rw [updI_at]; decide, v, hv, fun a a1 a2 => .inl ⟨{ says m.Part v with From := (x.co k).me, To := a, Txn := (x.co k).txn, Ballot := (x.co k).num }, ?_, rfl, rfl, rfl, rfl⟩⟩)
        rw [hpo', e4]
        refine List.mem_append_right _ (List.mem_map.2 ⟨(a - 1).toNat, List.mem_range.2 (by rw [hc.nac]; omega), ?_⟩)
        rw [show (((a - 1).toNat : Nat) : Int) + 1 = a from by omega]
      · rw [updI_ne hpp, updI_ne hpp]
        rcases hL.stg p hp with h | ⟨h1, h2, h3⟩ | ⟨h1, v, h2, h3⟩
        · exact .inl h
        · refine .inr (.inl ⟨h1, h2, fun a a1 a2 => ?_⟩)
          unfold SA
          rw [hco, e2, hent, updI_ne hpp]
          rcases h3 a a1 a2 with ⟨m1, q1, q2, q3⟩ | ⟨m1, q1, q2, q3, q4, q5⟩ | h
          · rcases hmem m1 q1 with e | e
            · subst e; omega
            · exact .inl ⟨m1, e, q2, q3⟩
          · rcases hmem m1 q1 with e | e
            · subst e; exact absurd q4.symm hpp
            · exact .inr (.inl ⟨m1, e, q2, q3, q4, q5⟩)
          · exact .inr (.inr h)
        · exact .inr (.inr ⟨h1, v, h2, fun a a1 a2 => hB p v a (h3 a a1 a2)⟩)
    · refine Phi_app (m := m) (rest := rest) (out := out) hpost hpo' ?_
      have hs := sum_upd (f := Wp (x.co k)) (f' := Wp (x'.co k)) (p := m.Part) (fun q => by
        unfold Wp; rw [hco, e3]
        by_cases h : q = m.Part
        · subst h; rw [updI_at, if_neg (by omega)]; exact Nat.zero_le _
        · rw [updI_ne h]; exact Nat.le_refl _) (by unfold Wp; rw [hco, e3, updI_at, if_neg (by omega), if_pos e1]; exact Nat.le_refl _) (l := x.parts) (by rw [← hc.parts]; exact ep)
      have := sum_10 (l := out) (fun m1 h => (hout m1 h).1)
      rw [hparts, hW]
      omega
theorem come_lv (h : InvO x n) (hn : n < 1000) (hk : k < 3) (hL : Lv k x) (hp : 0 < x.post.length) : Lv k (x.come 0) ∧ Phi k (x.come 0) + 1 ≤ Phi k x := by
  obtain ⟨⟨g, hX⟩, _, hkp⟩ := h
  obtain ⟨m, rest, hpost⟩ : ∃ m rest, x.post = m :: rest := by
    cases e : x.post with
    | nil => rw [e] at hp; simp at hp
    | cons m rest => exact ⟨m, rest, rfl⟩
  have hkd := (hX.ms m (by rw [hpost]; simp)).kind
  have hl : ∀ a, (x.kept a).length < 1024 := fun a => by have := hkp a; omega
  unfold MK at hkd
  rcases hkd with q | q | q | q
  · exact come8 hX hk hL hpost q.1 hl
  · exact come10 hX hk hL hpost q.1 hl
  · exact come9 hX hk hL hpost q.1
  · exact come11 hX hk hL hpost q.1
theorem sum_28 {f : Int → Nat} (h : ∀ q, f q ≤ 28) : ∀ l : List Int, (l.map f).sum ≤ 28 * l.length
  | [] => Nat.le_refl _
  | q :: l => by simp only [List.map_cons, List.sum_cons, List.length_cons]; have := sum_28 h l; have := h q; omega
theorem start_lv (hX : XI g x) (hb : Bd x (8 * x.starts + 3)) (hk : k < 3) (hpost : x.post = []) : Lv k (x.start k) ∧ Phi k (x.start k) ≤ 168 := by
  obtain ⟨hc, ho⟩ := hX.co k hk
  have hm7 := hX.many7
  obtain ⟨b, hbe⟩ : ∃ b : Int, b = 8 * (x.starts + 1) + (k : Int) + 1 := ⟨_, rfl⟩
  have hco : (x.start k).co k = (x.co k).started b := by show updN x.co k _ k = _; rw [updN_at, hbe]
  have hpo : (x.start k).post = (x.co k).startM b := by show x.post ++ _ = _; rw [hpost, hbe]; rfl
  have hnp : x.parts.length ≤ 4 := by obtain ⟨np, _, q1, q2⟩ := hX.parts; rw [q2, psN_len]; exact q1
  refine ⟨⟨by rw [hco]; rfl, fun a p h1 h2 => ?_, fun m hm => ?_, fun p v h12 hn => ?_, fun p hp => ?_⟩, ?_⟩
  · rw [hco]
    have := hb.p a p h1 h2
    show (ent x a p).Promised ≤ b
    omega
  · rw [hpo] at hm
    obtain ⟨e1, e2, e3⟩ := start_out hm
    rw [hco]
    exact ⟨fun _ => ⟨by rw [e3]; exact hc.me, e2⟩, fun q => by omega, fun q => by omega⟩
  · rw [hco] at hn
    exfalso
    have hn : (x.co k).nac < 2 * (((x.co k).A (k3 p b v)).length : Int) := hn
    cases e : (x.co k).A (k3 p b v) with
    | nil => rw [e, hc.nac] at hn; simp at hn; omega
    | cons f l =>
      obtain ⟨_, q1, q2⟩ := hc.A p b v f (by rw [e]; simp)
      have := (hX.neg p b (by omega)).2
      omega
  · have hp : p ∈ x.parts := hp
    rw [hco]
    show Stg (x.start k) k b p
    unfold Stg
    rw [hco]
    by_cases hz : (x.co k).ch p = 0
    · refine .inr (.inl ⟨Int.le_refl _, by show (0 : Int) ≤ x.many; omega, fun a a1 a2 => .inl ⟨{ asks p with From := (x.co k).me, To := a, Txn := (x.co k).txn, Ballot := b }, ?_, rfl, rfl, rfl, ?_⟩⟩)
      · rw [hpo]
        refine List.mem_flatMap.2 ⟨p, by rw [hc.parts]; exact hp, ?_⟩
        rw [if_pos hz]
        refine List.mem_map.2 ⟨(a - 1).toNat, List.mem_range.2 ?_, ?_⟩
        · show (a - 1).toNat < (x.co k).nac.toNat
          have a2 : a ≤ x.many := a2
          rw [hc.nac]; omega
        · rw [show (((a - 1).toNat : Nat) : Int) + 1 = a from by omega]; rfl
      · have := hb.p a p a1 a2
        show (ent x a p).Promised < b
        omega
    · exact .inl hz
  · unfold Phi
    rw [hpo, sum_8 (fun m hm => (start_out hm).1)]
    have h1 := tstart_len b ho
    have h2 := sum_28 (f := Wp ((x.start k).co k)) (fun q => by unfold Wp; split <;> omega) (x.start k).parts
    have h3 : (x.start k).parts.length ≤ 4 := hnp
    omega
theorem psN_nd : ∀ n, (psN n).Nodup
  | 0 => List.nodup_nil
  | n + 1 => by
    rw [psN_s, List.nodup_append]
    refine ⟨psN_nd n, by simp, fun a ha b hb e => ?_⟩
    rw [List.mem_singleton] at hb
    obtain ⟨i, hi, rfl⟩ := List.mem_map.1 ha
    have := List.mem_range.1 hi
    omega
theorem all_len {l : List Int} {n : Int} (h : ∀ a, 1 ≤ a → a ≤ n → a ∈ l) : n ≤ l.length := by
  have := nodup_sub (psN_nd n.toNat) (m := l) (fun a ha => by
    obtain ⟨i, hi, rfl⟩ := List.mem_map.1 ha
    have := List.mem_range.1 hi
    exact h _ (by omega) (by omega))
  rw [psN_len] at this
  omega
theorem value_ne {ch : Int → Int} : ∀ (l : List Int) (v : Int), v ≠ 0 → (∀ p ∈ l, ch p ≠ 0) → valueFrom ch v l ≠ 0
  | [], v, hv, _ => hv
  | p :: l, v, hv, h => by
    unfold valueFrom
    split
    · decide
    · rw [if_neg (h p (by simp))]
      exact value_ne l v hv fun q hq => h q (by simp [hq])
theorem fin_lv (hX : XI g x) (hL : Lv k x) (hk : k < 3) (hpost : x.post.length = 0) : (x.co k).value ≠ 0 := by
  have hc := (hX.co k hk).1
  have hm7 := hX.many7
  have hp0 : x.post = [] := List.length_eq_zero_iff.1 hpost
  unfold CC.value
  refine value_ne _ _ (by decide) fun p hp => ?_
  rcases hL.stg p (by rw [← hc.parts]; exact hp) with h | ⟨h1, h2, h3⟩ | ⟨h1, v, h2, h3⟩
  · exact h
  · exfalso
    have := all_len (l := ((x.co k).pr p).map Prod.fst) (n := x.many) fun a a1 a2 => by
      rcases h3 a a1 a2 with ⟨m, q, _⟩ | ⟨m, q, _⟩ | q
      · rw [hp0] at q; cases q
      · rw [hp0] at q; cases q
      · exact q
    rw [List.length_map] at this
    omega
  · have := all_len (l := (x.co k).A (k3 p (x.co k).num v)) (n := x.many) fun a a1 a2 => by
      rcases h3 a a1 a2 with ⟨m, q, _⟩ | ⟨m, q, _⟩ | q
      · rw [hp0] at q; cases q
      · rw [hp0] at q; cases q
      · exact q
    exact hL.ac p v h2 (by rw [hc.nac]; omega)
theorem len_sum : ∀ l : List Msg, l.length ≤ (l.map Wm).sum
  | [] => Nat.le_refl _
  | m :: l => by
    simp only [List.map_cons, List.sum_cons, List.length_cons]
    have := len_sum l
    have : 1 ≤ Wm m := by unfold Wm; split; omega; split <;> omega
    omega
theorem Lv.values (h : Lv k x) : Lv k x.values ∧ Phi k x.values = Phi k x := by
  obtain ⟨e1, e2, e3⟩ := values_keep x
  obtain ⟨e4, e5, e6⟩ := values_many x
  have hent : ∀ a p, ent x.values a p = ent x a p := fun a p => by unfold ent; rw [e2]
  refine ⟨⟨by rw [e6]; exact h.st, fun a p h1 h2 => by rw [hent, e6]; exact h.prom a p h1 (by rw [← e4]; exact h2), by rw [e3, e6]; exact h.ms, by rw [e6]; exact h.ac, fun p hp => ?_⟩, by unfold Phi; rw [e3, e5, e6]⟩
  rw [e5] at hp
  have q := h.stg p hp
  unfold Stg SA SB at q ⊢
  rw [e6, e4, e3]
  simp only [hent]
  exact q
end
theorem lawEnds : LawEnds InvE Run := by
  refine ⟨fun x n h hn => ?_, fun x n k h hn hk => ?_, fun k y j hk h => ?_, fun k y j hk h hp => ?_, fun k y j hk h => ?_, fun k y j hk h hj => ?_⟩
  · obtain ⟨⟨⟨g, hX⟩, hs, _⟩, _⟩ := h
    exact ⟨fun q hq => (hX.co q hq).2, hX.st, by omega⟩
  · obtain ⟨⟨⟨g, hX⟩, hs, hkp⟩, hb⟩ := h
    have hX0 : XI g { x with post := [] } := hX.setPost fun m hm => by cases hm
    have hb0 : Bd ({ x with post := [] } : Tb) (8 * x.starts + 3) := ⟨(fun m hm => by cases hm), hb.p⟩
    obtain ⟨a, b⟩ := start_lv hX0 hb0 hk rfl
    refine ⟨⟨⟨g, hX0.start hk (by show x.starts ≤ 1000; omega)⟩, by show x.starts + 1 ≤ _; omega, fun q => ?_⟩, a, b⟩
    have := hkp q
    show (x.kept q).length ≤ _
    omega
  · obtain ⟨h1, _, h3⟩ := h
    have hl := len_sum y.post
    unfold Phi at h3
    exact inv_ok h1 (by omega) (by omega)
  · obtain ⟨h1, h2, h3⟩ := h
    obtain ⟨a, b⟩ := come_lv h1 (by omega) hk h2 hp
    obtain ⟨c1, c2⟩ := a.values
    obtain ⟨⟨g', d1⟩, d2, d3⟩ := come_inv h1 (by omega) hp
    obtain ⟨v1, v2, _⟩ := values_keep (y.come 0)
    exact ⟨⟨⟨g', d1.values⟩, by rw [v1]; omega, fun q => by rw [v2]; have := d3 q; omega⟩, c1, by rw [c2]; omega⟩
  · obtain ⟨⟨⟨g, hX⟩, _⟩, _⟩ := h
    exact hX.bad
  · obtain ⟨⟨⟨g, hX⟩, _⟩, h2, h3⟩ := h
    rcases hj with q | q
    · omega
    · exact fin_lv hX h2 hk q
end Go.Proofs.Ytjmddkaokmdkbaa
