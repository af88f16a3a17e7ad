/- Behind a start above all others: what is under way ends, and then there is a value. -/
import Derived.Test.YtjmddkaokmdkbaaLe
namespace Go.Proofs.Ytjmddkaokmdkbaa
open Go Go.RowKit Kf
set_option maxRecDepth 20000
def Wm (m : Msg) : Nat := if m.Kind = 8 then 2 else if m.Kind = 10 then 4 else 1
def Wp (c : CC) (p : Int) : Nat := if c.po p ≤ 0 then 28 else 0
def Phi (k : Nat) (x : Tb) : Nat := (x.post.map Wm).sum + (x.parts.map (Wp (x.co k))).sum
structure Msk (k : Nat) (b : Int) (m : Msg) : Prop where
  a : m.Kind = 8 → m.From = (k : Int) + 1 ∧ m.Ballot = b
  b : m.Kind = 10 → m.Ballot = b
  c : m.Kind = 9 → m.To = (k : Int) + 1
def SA (x : Tb) (k : Nat) (b p a : Int) : Prop :=
  (∃ m ∈ x.post, m.Kind = 8 ∧ m.To = a ∧ m.Part = p ∧ (ent x a p).Promised < b) ∨ (∃ m ∈ x.post, m.Kind = 9 ∧ m.From = a ∧ m.Part = p ∧ m.Ballot = b ∧ m.Ok = true) ∨ a ∈ ((x.co k).pr p).map Prod.fst
def SB (x : Tb) (k : Nat) (b p v a : Int) : Prop :=
  (∃ m ∈ x.post, m.Kind = 10 ∧ m.To = a ∧ m.Part = p ∧ m.Value = v) ∨ (∃ m ∈ x.post, m.Kind = 11 ∧ m.From = a ∧ m.To = (k : Int) + 1 ∧ m.Part = p ∧ m.Ballot = b ∧ m.Value = v ∧ m.Ok = true) ∨ a ∈ (x.co k).A (k3 p b v)
def Stg (x : Tb) (k : Nat) (b p : Int) : Prop :=
  (x.co k).ch p ≠ 0 ∨ ((x.co k).po p ≤ 0 ∧ 2 * (((x.co k).pr p).length : Int) ≤ x.many ∧ ∀ a, 1 ≤ a → a ≤ x.many → SA x k b p a) ∨ (0 < (x.co k).po p ∧ ∃ v, (v = 1 ∨ v = 2) ∧ ∀ a, 1 ≤ a → a ≤ x.many → SB x k b p v a)
def AC (c : CC) (b : Int) : Prop := ∀ p v, (v = 1 ∨ v = 2) → (c.nac : Int) < 2 * ((c.A (k3 p b v)).length : Int) → c.ch p ≠ 0
structure Lv (k : Nat) (x : Tb) : Prop where
  st : (x.co k).st = true
  prom : ∀ a p, 1 ≤ a → a ≤ x.many → (ent x a p).Promised ≤ (x.co k).num
  ms : ∀ m ∈ x.post, Msk k (x.co k).num m
  ac : AC (x.co k) (x.co k).num
  stg : ∀ p ∈ x.parts, Stg x k (x.co k).num p
def Run (k : Nat) (x : Tb) (j : Nat) : Prop := InvO x (201 + j) ∧ Lv k x ∧ Phi k x + j ≤ 168
/-! ### What a coordinator does with an answer -/
structure Same11 (c c' : CC) : Prop where
  st : c'.st = c.st
  num : c'.num = c.num
  nac : c'.nac = c.nac
  pr : c'.pr = c.pr
  po : c'.po = c.po
  ch : ∀ p, c.ch p ≠ 0 → c'.ch p ≠ 0
  A : ∀ key f, f ∈ c.A key → f ∈ c'.A key
  ac : ∀ b, AC c b → AC c' b
theorem Same11.refl (c : CC) : Same11 c c := ⟨rfl, rfl, rfl, rfl, rfl, fun _ h => h, fun _ _ h => h, fun _ h => h⟩
theorem accept_same (c : CC) (m : Msg) : Same11 c (c.accept m) ∧ ((m.Value = 1 ∨ m.Value = 2) → m.From ∈ (c.accept m).A (k3 m.Part m.Ballot m.Value)) := by
  by_cases hv : m.Value ≠ 1 ∧ m.Value ≠ 2
  · have e : c.accept m = c := by unfold CC.accept; rw [if_pos hv]
    rw [e]; exact ⟨Same11.refl c, fun h => by omega⟩
  · obtain ⟨l, hl⟩ : ∃ l, l = addF (c.A (k3 m.Part m.Ballot m.Value)) m.From := ⟨_, rfl⟩
    have e : c.accept m = { c with A := updK c.A (k3 m.Part m.Ballot m.Value) l, ch := if (c.nac : Int) < 2 * (l.length : Int) then updI c.ch m.Part (max (c.ch m.Part) m.Value) else c.ch } := by
      rw [hl]; unfold CC.accept; rw [if_neg hv]
    have hm : max (c.ch m.Part) m.Value ≠ 0 := by have := Int.le_max_right (c.ch m.Part) m.Value; omega
    have hA : ∀ key, (c.accept m).A key = if key = k3 m.Part m.Ballot m.Value then l else c.A key := fun key => by rw [e]; rfl
    have hC : (c.accept m).ch = if (c.nac : Int) < 2 * (l.length : Int) then updI c.ch m.Part (max (c.ch m.Part) m.Value) else c.ch := by rw [e]
    have hch : ∀ p, c.ch p ≠ 0 → (c.accept m).ch p ≠ 0 := fun p hp => by
      rw [hC]
      split
      · by_cases q : p = m.Part
        · subst q; rw [updI_at]; exact hm
        · rw [updI_ne q]; exact hp
      · exact hp
    refine ⟨⟨by rw [e], by rw [e], by rw [e], by rw [e], by rw [e], hch, fun key f hf => ?_, fun b hac p v h12 hn => ?_⟩, fun _ => ?_⟩
    · rw [hA]
      split
      · rename_i q
        subst q
        rw [hl]; unfold addF
        split
        · exact hf
        · exact List.mem_append_left _ hf
      · exact hf
    · have hn2 : (c.accept m).nac < 2 * (((c.accept m).A (k3 p b v)).length : Int) := hn
      clear hn
      rw [hA, show (c.accept m).nac = c.nac from by rw [e]] at hn2
      by_cases q : k3 p b v = k3 m.Part m.Ballot m.Value
      · rw [if_pos q] at hn2
        obtain ⟨rfl, rfl, rfl⟩ := k3_inj.1 q
        rw [hC, if_pos hn2, updI_at]; exact hm
      · rw [if_neg q] at hn2
        exact hch p (hac p v h12 hn2)
    · rw [hA, if_pos rfl, hl]; unfold addF
      split
      · rename_i q; exact q
      · simp
theorem step11 {c : CC} {m : Msg} (hK : m.Kind = 11) : Same11 c (c.step m).1 ∧ (c.step m).2 = [] ∧ (m.Txn = c.txn → 1 ≤ m.From → m.From ≤ c.nac → m.Part ∈ c.parts → m.Ok = true → (m.Value = 1 ∨ m.Value = 2) → m.From ∈ (c.step m).1.A (k3 m.Part m.Ballot m.Value)) := by
  unfold CC.step
  split
  · rename_i h
    refine ⟨Same11.refl c, rfl, fun h1 h2 h3 h4 _ _ => ?_⟩
    rcases h with q | q | q | q
    · exact absurd h1 q
    · omega
    · omega
    · exact absurd h4 q
  split
  · rename_i h; omega
  split
  · rename_i h
    exact ⟨⟨rfl, rfl, rfl, rfl, rfl, fun _ h => h, fun _ _ h => h, fun _ h => h⟩, rfl, fun _ _ _ _ h5 _ => by rw [h] at h5; cases h5⟩
  obtain ⟨a1, a2⟩ := accept_same c m
  exact ⟨a1, rfl, fun _ _ _ _ _ h => a2 h⟩
theorem sum_upd {f f' : Int → Nat} {p : Int} (h : ∀ q, f' q ≤ f q) (hp : f' p + 28 ≤ f p) : ∀ {l : List Int}, p ∈ l → (l.map f').sum + 28 ≤ (l.map f).sum
  | [], h => by cases h
  | q :: l, hq => by
    simp only [List.map_cons, List.sum_cons]
    have mono : ∀ l : List Int, (l.map f').sum ≤ (l.map f).sum := fun l => by
      induction l with
      | nil => exact Nat.le_refl _
      | cons a l ih => simp only [List.map_cons, List.sum_cons]; have := h a; omega
    rcases List.mem_cons.1 hq with e | e
    · subst e; have := mono l; omega
    · have := sum_upd h hp e; have := h q; omega
theorem sum_10 : ∀ {l : List Msg}, (∀ m ∈ l, m.Kind = 10) → (l.map Wm).sum = 4 * l.length
  | [], _ => rfl
  | m :: l, h => by
    have e : Wm m = 4 := by unfold Wm; rw [if_neg (by have := h m (by simp); omega), if_pos (h m (by simp))]
    simp only [List.map_cons, List.sum_cons, List.length_cons, e]
    have := sum_10 (l := l) (fun m hm => h m (by simp [hm]))
    omega
theorem sum_8 : ∀ {l : List Msg}, (∀ m ∈ l, m.Kind = 8) → (l.map Wm).sum = 2 * l.length
  | [], _ => rfl
  | m :: l, h => by
    have e : Wm m = 2 := by unfold Wm; rw [if_pos (h m (by simp))]
    simp only [List.map_cons, List.sum_cons, List.length_cons, e]
    have := sum_8 (l := l) (fun m hm => h m (by simp [hm]))
    omega
theorem Phi_app {k : Nat} {x x' : Tb} {m : Msg} {rest out : List Msg} (h : x.post = m :: rest) (h' : x'.post = rest ++ out) (hp : (x'.parts.map (Wp (x'.co k))).sum + (out.map Wm).sum + 1 ≤ (x.parts.map (Wp (x.co k))).sum + Wm m) : Phi k x' + 1 ≤ Phi k x := by
  unfold Phi
  rw [h, h', List.map_append, List.sum_append, List.map_cons, List.sum_cons]
  omega
section
variable {g : Gh} {x : Tb} {k n : Nat} {m : Msg} {rest : List Msg}
theorem less0 (h : x.post = m :: rest) : (x.less 0).post = rest := by show x.post.take 0 ++ x.post.drop 1 = rest; rw [h]; rfl
/-- an answer 11 comes -/
theorem come11 (hX : XI g x) (hk : k < 3) (hL : Lv k x) (hpost : x.post = m :: rest) (hK : m.Kind = 11) : Lv k (x.come 0) ∧ Phi k (x.come 0) + 1 ≤ Phi k x := by
  have hm0 : x.post[0]? = some m := by rw [hpost]; rfl
  have hM := hX.ms m (by rw [hpost]; simp)
  have hkd := hM.kind
  unfold MK at hkd
  rw [come_s hm0 (by omega)]
  obtain ⟨q, hq, hqe⟩ : ∃ q, q < 3 ∧ (m.To - 1).toNat = q := ⟨(m.To - 1).toNat, by rcases hkd with h | h | h | h <;> omega, rfl⟩
  rw [hqe]
  have hTo : m.To = (q : Int) + 1 := by rcases hkd with h | h | h | h <;> omega
  obtain ⟨s1, s2, s3⟩ := step11 (c := x.co q) (m := m) hK
  have hpo' : ((x.less 0).stepC q m).post = rest := by show (x.less 0).post ++ ((x.co q).step m).2 = rest; rw [s2, less0 hpost, List.append_nil]
  obtain ⟨x', hx'⟩ : ∃ x', x' = (x.less 0).stepC q m := ⟨_, rfl⟩
  rw [← hx'] at hpo' ⊢
  have hco : x'.co = updN x.co q ((x.co q).step m).1 := by rw [hx']; rfl
  have hent : ∀ a p, ent x' a p = ent x a p := fun a p => by rw [hx']; rfl
  have hmany : x'.many = x.many := by rw [hx']; rfl
  have hparts : x'.parts = x.parts := by rw [hx']; rfl
  have sm : Same11 (x.co k) (x'.co k) := by
    rw [hco]
    by_cases e : k = q
    · subst e; rw [updN_at]; exact s1
    · rw [updN_ne e]; exact Same11.refl _
  have hmem : ∀ m1 ∈ x.post, m1 = m ∨ m1 ∈ x'.post := fun m1 h => by rw [hpost] at h; rw [hpo']; exact List.mem_cons.1 h
  refine ⟨⟨by rw [sm.st]; exact hL.st, fun a p h1 h2 => by rw [hent, sm.num]; exact hL.prom a p h1 (by rw [← hmany]; exact h2), fun m1 h1 => ?_, by rw [sm.num]; exact sm.ac _ hL.ac, fun p hp => ?_⟩, ?_⟩
  · rw [sm.num]
    exact hL.ms m1 (by rw [hpost]; rw [hpo'] at h1; exact List.mem_cons_of_mem _ h1)
  · rw [hparts] at hp
    rw [sm.num]
    unfold Stg
    rw [sm.po, sm.pr, hmany]
    rcases hL.stg p hp with h | ⟨h1, h2, h3⟩ | ⟨h1, v, h2, h3⟩
    · exact .inl (sm.ch p h)
    · refine .inr (.inl ⟨h1, h2, fun a a1 a2 => ?_⟩)
      unfold SA
      rw [sm.pr, hent]
      rcases h3 a a1 a2 with ⟨m1, q1, q2, q3⟩ | ⟨m1, q1, q2, q3⟩ | h
      · rcases hmem m1 q1 with e | e
        · subst e; omega
        · exact .inl ⟨m1, e, q2, q3⟩
      · rcases hmem m1 q1 with e | e
        · subst e; omega
        · exact .inr (.inl ⟨m1, e, q2, q3⟩)
      · exact .inr (.inr h)
    · refine .inr (.inr ⟨h1, v, h2, fun a a1 a2 => ?_⟩)
      unfold SB
      rcases h3 a a1 a2 with ⟨m1, q1, q2, q3⟩ | ⟨m1, q1, q2, q3, q4, q5, q6, q7, q8⟩ | h
      · rcases hmem m1 q1 with e | e
        · subst e; omega
        · exact .inl ⟨m1, e, q2, q3⟩
      · rcases hmem m1 q1 with e | e
        · subst e
          have hkq : k = q := by omega
          subst hkq
          have hc := (hX.co k hk).1
          refine .inr (.inr ?_)
          rw [hco, updN_at]
          have := s3 (by rw [hM.txn, hc.txn]) (by omega) (by rw [hc.nac]; omega) (by rw [hc.parts]; exact hM.part) q8 (by rw [q7]; exact h2)
          rw [q3, q5, q6, q7] at this
          exact this
        · exact .inr (.inl ⟨m1, e, q2, q3, q4, q5, q6, q7, q8⟩)
      · exact .inr (.inr (sm.A _ _ h))
  · refine Phi_app (m := m) (rest := rest) (out := []) hpost (by rw [hpo', List.append_nil]) ?_
    have e1 : Wp (x'.co k) = Wp (x.co k) := by funext p; unfold Wp; rw [sm.po]
    have e2 : Wm m = 1 := by unfold Wm; rw [if_neg (by omega), if_neg (by omega)]
    rw [hparts, e1, e2]
    simp
/-- an acceptor's answer to a prepare comes -/
theorem come8 (hX : XI g x) (hk : k < 3) (hL : Lv k x) (hpost : x.post = m :: rest) (hK : m.Kind = 8) (hl : ∀ a, (x.kept a).length < 1024) : Lv k (x.come 0) ∧ Phi k (x.come 0) + 1 ≤ Phi k x := by
  have hm0 : x.post[0]? = some m := by rw [hpost]; rfl
  have hM := hX.ms m (by rw [hpost]; simp)
  have hkd := hM.kind
  unfold MK at hkd
  obtain ⟨hf, hb⟩ := (hL.ms m (by rw [hpost]; simp)).a hK
  have hT : 1 ≤ m.To ∧ m.To ≤ x.many := by rcases hkd with h | h | h | h <;> omega
  have hmay : may m = true := by unfold may; simp [hK]
  have he := ent_took (x := x.less 0) hmay hT.1 (hl _) hM.txn
  have hout := (takeA_ent (l := x.kept m.To.toNat) (id := m.To) hmay (hl _) m.Part hM.txn).2
  obtain ⟨o, ho⟩ : ∃ o, o = (stepA (ent x m.To m.Part) m.To m).2 := ⟨_, rfl⟩
  have hst : stepA (ent x m.To m.Part) m.To m = stepP (ent x m.To m.Part) m (out0 m.To m) := by unfold stepA; rw [if_pos hK]
  have hoP : o.Kind = 9 ∧ o.To = (k : Int) + 1 ∧ o.From = m.To ∧ o.Part = m.Part ∧ o.Ballot = m.Ballot ∧ ((ent x m.To m.Part).Promised < m.Ballot → o.Ok = true) := by
    rw [ho, hst]; unfold stepP
    split
    · exact ⟨rfl, hf, rfl, rfl, rfl, fun _ => rfl⟩
    · rename_i h; exact ⟨rfl, hf, rfl, rfl, rfl, fun q => absurd q h⟩
  have hprom : (stepA (ent x m.To m.Part) m.To m).1.Promised ≤ (x.co k).num := stepA_prom (hL.prom _ _ hT.1 hT.2) (by omega)
  rw [come_t hm0 (.inl hK)]
  obtain ⟨x', hx'⟩ : ∃ x', x' = (x.less 0).takeM m := ⟨_, rfl⟩
  have hfold : x' = ((x.less 0).took m).out1 o := by
    rw [hx', ho]; unfold Tb.takeM
    rw [show (takeA ((x.less 0).kept m.To.toNat) m.To m).2.1 = [(stepA (ent x m.To m.Part) m.To m).2] from hout]; rfl
  have hfold2 : x' = { (x.less 0).took m with post := rest ++ [o] } := by
    rw [hfold]; unfold Tb.out1
    rw [if_neg (by omega), if_pos (by omega), show ((x.less 0).took m).post = rest from less0 hpost]
  rw [← hx']
  have hpo' : x'.post = rest ++ [o] := by rw [hfold2]
  have hco : x'.co = x.co := by rw [hfold2]; rfl
  have hent : ∀ a p, ent x' a p = if a = m.To ∧ p = m.Part then (stepA (ent x m.To m.Part) m.To m).1 else ent x a p := fun a p => by rw [hfold2]; exact he a p
  have hmany : x'.many = x.many := by rw [hfold2]; rfl
  have hparts : x'.parts = x.parts := by rw [hfold2]; rfl
  have hmem : ∀ m1 ∈ x.post, m1 = m ∨ m1 ∈ x'.post := fun m1 h => by rw [hpost] at h; rw [hpo']; rcases List.mem_cons.1 h with e | e; exact .inl e; exact .inr (List.mem_append_left _ e)
  have homem : o ∈ x'.post := by rw [hpo']; simp
  refine ⟨⟨by rw [hco]; exact hL.st, fun a p h1 h2 => ?_, fun m1 h1 => ?_, by rw [hco]; exact hL.ac, fun p hp => ?_⟩, ?_⟩
  · rw [hent, hco]
    split
    · exact hprom
    · exact hL.prom a p h1 (by rw [← hmany]; exact h2)
  · rw [hco]
    rw [hpo'] at h1
    rcases List.mem_append.1 h1 with e | e
    · exact hL.ms m1 (by rw [hpost]; exact List.mem_cons_of_mem _ e)
    · rw [List.mem_singleton] at e
      subst e
      exact ⟨fun q => by omega, fun q => by omega, fun _ => hoP.2.1⟩
  · rw [hparts] at hp
    rw [hco]
    unfold Stg
    rw [hco, hmany]
    rcases hL.stg p hp with h | ⟨h1, h2, h3⟩ | ⟨h1, v, h2, h3⟩
    · exact .inl h
    · refine .inr (.inl ⟨h1, h2, fun a a1 a2 => ?_⟩)
      unfold SA
      rw [hco, hent]
      rcases h3 a a1 a2 with ⟨m1, q1, q2, q3, q4, q5⟩ | ⟨m1, q1, q2, q3⟩ | h
      · by_cases hh : a = m.To ∧ p = m.Part
        · obtain ⟨rfl, rfl⟩ := hh
          exact .inr (.inl ⟨o, homem, hoP.1, hoP.2.2.1, hoP.2.2.2.1, by rw [hoP.2.2.2.2.1]; exact hb, hoP.2.2.2.2.2 (by omega)⟩)
        · rcases hmem m1 q1 with e | e
          · subst e; exact absurd ⟨q3.symm, q4.symm⟩ hh
          · rw [if_neg hh]; exact .inl ⟨m1, e, q2, q3, q4, q5⟩
      · rcases hmem m1 q1 with e | e
        · subst e; omega
        · exact .inr (.inl ⟨m1, e, q2, q3⟩)
      · exact .inr (.inr h)
    · refine .inr (.inr ⟨h1, v, h2, fun a a1 a2 => ?_⟩)
      unfold SB
      rw [hco]
      rcases h3 a a1 a2 with ⟨m1, q1, q2, q3⟩ | ⟨m1, q1, q2, q3⟩ | h
      · rcases hmem m1 q1 with e | e
        · subst e; omega
        · exact .inl ⟨m1, e, q2, q3⟩
      · rcases hmem m1 q1 with e | e
        · subst e; omega
        · exact .inr (.inl ⟨m1, e, q2, q3⟩)
      · exact .inr (.inr h)
  · refine Phi_app (m := m) (rest := rest) (out := [o]) hpost hpo' ?_
    have e1 : Wm m = 2 := by unfold Wm; rw [if_pos hK]
    have e2 : Wm o = 1 := by unfold Wm; rw [if_neg (by omega), if_neg (by omega)]
    rw [hparts, hco, e1]
    simp [e2]
/-- an acceptor's answer to a proposal comes -/
theorem come10 (hX : XI g x) (hk : k < 3) (hL : Lv k x) (hpost : x.post = m :: rest) (hK : m.Kind = 10) (hl : ∀ a, (x.kept a).length < 1024) : Lv k (x.come 0) ∧ Phi k (x.come 0) + 1 ≤ Phi k x := by
  have hm0 : x.post[0]? = some m := by rw [hpost]; rfl
  have hM := hX.ms m (by rw [hpost]; simp)
  have hkd := hM.kind
  unfold MK at hkd
  have hb := (hL.ms m (by rw [hpost]; simp)).b hK
  obtain ⟨hT1, hT2, hB0, h12, hV⟩ : 1 ≤ m.To ∧ m.To ≤ x.many ∧ 0 ≤ m.Ballot ∧ (m.Value = 1 ∨ m.Value = 2) ∧ g.V m.Part m.Ballot = m.Value := by
    rcases hkd with q | q | q | q
    · omega
    · exact q.2
    · omega
    · omega
  have hmay : may m = true := by unfold may; simp [hK]; exact h12
  have he := ent_took (x := x.less 0) hmay hT1 (hl _) hM.txn
  have hout := (takeA_ent (l := x.kept m.To.toNat) (id := m.To) hmay (hl _) m.Part hM.txn).2
  obtain ⟨o, ho⟩ : ∃ o, o = (stepA (ent x m.To m.Part) m.To m).2 := ⟨_, rfl⟩
  have hle : (ent x m.To m.Part).Promised ≤ m.Ballot := by rw [hb]; exact hL.prom _ _ hT1 hT2
  have hst : stepA (ent x m.To m.Part) m.To m = stepO (ent x m.To m.Part) m (out0 m.To m) := by unfold stepA; rw [if_neg (by omega)]
  have hoP : o.Kind = 11 ∧ o.From = m.To ∧ o.Part = m.Part ∧ o.Ballot = m.Ballot ∧ o.Value = m.Value ∧ o.Ok = true := by
    rw [ho, hst]; unfold stepO; dsimp only
    rw [if_pos hle]
    split <;> exact ⟨rfl, rfl, rfl, rfl, rfl, rfl⟩
  have hprom : (stepA (ent x m.To m.Part) m.To m).1.Promised ≤ (x.co k).num := stepA_prom (hL.prom _ _ hT1 hT2) (by omega)
  rw [come_t hm0 (.inr hK)]
  obtain ⟨x', hx'⟩ : ∃ x', x' = (x.less 0).takeM m := ⟨_, rfl⟩
  have hfold : x' = ((x.less 0).took m).out1 o := by
    rw [hx', ho]; unfold Tb.takeM
    rw [show (takeA ((x.less 0).kept m.To.toNat) m.To m).2.1 = [(stepA (ent x m.To m.Part) m.To m).2] from hout]; rfl
  obtain ⟨out, hou⟩ : ∃ out, out = (List.range 3).map fun (i : Nat) => ({ o with To := ((i : Int) + 1) } : Msg) := ⟨_, rfl⟩
  have hfold2 : x' = { (x.less 0).took m with post := rest ++ out } := by
    rw [hfold]; unfold Tb.out1
    rw [if_pos hoP.1]
    unfold Tb.tells Tb.tellsN
    rw [show ((x.less 0).took m).post = rest from less0 hpost, hou]
  rw [← hx']
  have hpo' : x'.post = rest ++ out := by rw [hfold2]
  have hco : x'.co = x.co := by rw [hfold2]; rfl
  have hent : ∀ a p, ent x' a p = if a = m.To ∧ p = m.Part then (stepA (ent x m.To m.Part) m.To m).1 else ent x a p := fun a p => by rw [hfold2]; exact he a p
  have hmany : x'.many = x.many := by rw [hfold2]; rfl
  have hparts : x'.parts = x.parts := by rw [hfold2]; rfl
  have hmem : ∀ m1 ∈ x.post, m1 = m ∨ m1 ∈ x'.post := fun m1 h => by rw [hpost] at h; rw [hpo']; rcases List.mem_cons.1 h with e | e; exact .inl e; exact .inr (List.mem_append_left _ e)
  have homem : ({ o with To := ((k : Int) + 1) } : Msg) ∈ x'.post := by rw [hpo', hou]; exact List.mem_append_right _ (List.mem_map.2 ⟨k, List.mem_range.2 hk, rfl⟩)
  refine ⟨⟨by rw [hco]; exact hL.st, fun a p h1 h2 => ?_, fun m1 h1 => ?_, by rw [hco]; exact hL.ac, fun p hp => ?_⟩, ?_⟩
  · rw [hent, hco]
    split
    · exact hprom
    · exact hL.prom a p h1 (by rw [← hmany]; exact h2)
  · rw [hco]
    rw [hpo'] at h1
    rcases List.mem_append.1 h1 with e | e
    · exact hL.ms m1 (by rw [hpost]; exact List.mem_cons_of_mem _ e)
    · rw [hou] at e
      obtain ⟨i, _, rfl⟩ := List.mem_map.1 e
      have := hoP.1
      exact ⟨fun q => by have q : o.Kind = 8 := q; omega, fun q => by have q : o.Kind = 10 := q; omega, fun q => by have q : o.Kind = 9 := q; omega⟩
  · rw [hparts] at hp
    rw [hco]
    unfold Stg
    rw [hco, hmany]
    rcases hL.stg p hp with h | ⟨h1, h2, h3⟩ | ⟨h1, v, h2, h3⟩
    · exact .inl h
    · have hpp : p ≠ m.Part := fun e => by
        subst e
        obtain ⟨s, _, _, s3, s4⟩ := (hX.co k hk).1.run hL.st
        have := (s4 m.Part).2 h1
        rw [← hb, hV] at this
        omega
      refine .inr (.inl ⟨h1, h2, fun a a1 a2 => ?_⟩)
      unfold SA
      rw [hco, hent, if_neg (fun q => hpp q.2)]
      rcases h3 a a1 a2 with ⟨m1, q1, q2, q3⟩ | ⟨m1, q1, q2, q3⟩ | h
      · rcases hmem m1 q1 with e | e
        · subst e; omega
        · exact .inl ⟨m1, e, q2, q3⟩
      · rcases hmem m1 q1 with e | e
        · subst e; omega
        · exact .inr (.inl ⟨m1, e, q2, q3⟩)
      · exact .inr (.inr h)
    · refine .inr (.inr ⟨h1, v, h2, fun a a1 a2 => ?_⟩)
      unfold SB
      rw [hco]
      rcases h3 a a1 a2 with ⟨m1, q1, q2, q3, q4, q5⟩ | ⟨m1, q1, q2, q3⟩ | h
      · rcases hmem m1 q1 with e | e
        · subst e
          exact .inr (.inl ⟨_, homem, hoP.1, hoP.2.1.trans q3, rfl, hoP.2.2.1.trans q4, hoP.2.2.2.1.trans hb, hoP.2.2.2.2.1.trans q5, hoP.2.2.2.2.2⟩)
        · exact .inl ⟨m1, e, q2, q3, q4, q5⟩
      · rcases hmem m1 q1 with e | e
        · subst e; omega
        · exact .inr (.inl ⟨m1, e, q2, q3⟩)
      · exact .inr (.inr h)
  · refine Phi_app (m := m) (rest := rest) (out := out) hpost hpo' ?_
    have e1 : Wm m = 4 := by unfold Wm; rw [if_neg (by omega), if_pos hK]
    have e2 : ∀ t, Wm { o with To := t } = 1 := fun t => by
      have := hoP.1
      unfold Wm
      rw [if_neg (show ¬ o.Kind = 8 by omega), if_neg (show ¬ o.Kind = 10 by omega)]
    rw [hparts, hco, e1, hou]
    simp [List.range_succ, e2]
end
end Go.Proofs.Ytjmddkaokmdkbaa
