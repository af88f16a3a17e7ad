/- Paxos for many parts, in plain mathematics: what is chosen stays. -/
import Derived.Test.YtjmddkaokmdkbaaTbM
namespace Go.Proofs.Ytjmddkaokmdkbaa
open Go Go.RowKit Kf
set_option maxRecDepth 20000
/-- what was proposed in each ballot, and who has ever accepted it -/
structure Gh where
  V : Int → Int → Int
  D : Int → Int → Int → Prop
/-- a promise tells what was accepted before -/
def PF (g : Gh) (p b : Int) (e : P3) : Prop := (∀ b', b' < b → g.D e.1 p b' → (e.2.2 = 1 ∨ e.2.2 = 2) ∧ b' ≤ e.2.1) ∧ ((e.2.2 = 1 ∨ e.2.2 = 2) → g.D e.1 p e.2.1 ∧ g.V p e.2.1 = e.2.2 ∧ e.2.1 < b)
/-- most of them -/
def Mjy (n : Int) (S : Int → Prop) : Prop := ∃ l : List Int, l.Nodup ∧ (∀ f ∈ l, 1 ≤ f ∧ f ≤ n ∧ S f) ∧ n < 2 * (l.length : Int)
theorem Mjy.mono {n : Int} {S T : Int → Prop} (h : Mjy n S) (k : ∀ f, S f → T f) : Mjy n T := by
  obtain ⟨l, h1, h2, h3⟩ := h; exact ⟨l, h1, fun f hf => ⟨(h2 f hf).1, (h2 f hf).2.1, k f (h2 f hf).2.2⟩, h3⟩
theorem Mjy.both {n : Int} {S T : Int → Prop} (h : Mjy n S) (k : Mjy n T) (hn : 0 ≤ n) : ∃ f, S f ∧ T f := by
  obtain ⟨l, h1, h2, h3⟩ := h
  obtain ⟨m, k1, k2, k3⟩ := k
  apply Classical.byContradiction
  intro hno
  have hd : (l ++ m).Nodup := by
    rw [List.nodup_append]
    refine ⟨h1, k1, fun a ha b hb e => hno ⟨a, (h2 a ha).2.2, ?_⟩⟩
    subst e; exact (k2 a hb).2.2
  have := nodup_le hd (n := n) (fun f hf => by
    rcases List.mem_append.1 hf with q | q
    · exact ⟨(h2 f q).1, (h2 f q).2.1⟩
    · exact ⟨(k2 f q).1, (k2 f q).2.1⟩)
  rw [List.length_append] at this
  omega
def valued (e : P3) : Prop := e.2.2 = 1 ∨ e.2.2 = 2
def PickQ (l : List P3) (s : Int × Int) : Prop := (s.1 = 0 ∧ ∀ e ∈ l, ¬ valued e) ∨ ((s.1 = 1 ∨ s.1 = 2) ∧ (∃ e ∈ l, e.2.2 = s.1 ∧ e.2.1 = s.2) ∧ ∀ e ∈ l, valued e → e.2.1 ≤ s.2)
theorem pick_step {l : List P3} {s : Int × Int} (h : PickQ l s) (e : P3) : PickQ (l ++ [e]) (pick1 s e) := by
  unfold pick1
  by_cases hv : valued e
  · by_cases hb : s.1 = 0 ∨ s.2 < e.2.1
    · rw [if_pos ⟨hv, hb⟩]
      refine .inr ⟨hv, ⟨e, by simp, rfl, rfl⟩, fun e' he' hv' => ?_⟩
      rcases List.mem_append.1 he' with q | q
      · rcases h with ⟨_, h⟩ | ⟨h1, _, h⟩
        · exact absurd hv' (h e' q)
        · have := h e' q hv'
          rcases hb with hb | hb
          · omega
          · show e'.2.1 ≤ e.2.1; omega
      · rw [List.mem_singleton] at q; subst q; exact Int.le_refl _
    · rw [if_neg (fun q => hb q.2)]
      rcases h with ⟨h0, _⟩ | ⟨h1, ⟨e0, h2, h3⟩, h⟩
      · exact absurd (.inl h0) hb
      · refine .inr ⟨h1, ⟨e0, List.mem_append_left _ h2, h3⟩, fun e' he' hv' => ?_⟩
        rcases List.mem_append.1 he' with q | q
        · exact h e' q hv'
        · rw [List.mem_singleton] at q; subst q; omega
  · rw [if_neg (fun q => hv q.1)]
    rcases h with ⟨h0, h⟩ | ⟨h1, ⟨e0, h2, h3⟩, h⟩
    · refine .inl ⟨h0, fun e' he' => ?_⟩
      rcases List.mem_append.1 he' with q | q
      · exact h e' q
      · rw [List.mem_singleton] at q; subst q; exact hv
    · refine .inr ⟨h1, ⟨e0, List.mem_append_left _ h2, h3⟩, fun e' he' hv' => ?_⟩
      rcases List.mem_append.1 he' with q | q
      · exact h e' q hv'
      · rw [List.mem_singleton] at q; subst q; exact absurd hv' hv
theorem pick_fold : ∀ (l pre : List P3) (s : Int × Int), PickQ pre s → PickQ (pre ++ l) (l.foldl pick1 s)
  | [], pre, s, h => by rw [List.append_nil]; exact h
  | e :: l, pre, s, h => by
    rw [List.foldl_cons, show pre ++ e :: l = (pre ++ [e]) ++ l by simp]
    exact pick_fold l _ _ (pick_step h e)
theorem pick_inv (l : List P3) : PickQ l (l.foldl pick1 (0, 0)) := by
  have := pick_fold l [] (0, 0) (.inl ⟨rfl, fun e h => by cases h⟩)
  simpa using this
/-- what is picked: a value of a promise of the highest ballot; 2 if there is none -/
theorem pickV_cases (l : List P3) : ((∀ e ∈ l, ¬ valued e) ∧ pickV l = 2) ∨ ∃ e ∈ l, valued e ∧ pickV l = e.2.2 ∧ ∀ e' ∈ l, valued e' → e'.2.1 ≤ e.2.1 := by
  unfold pickV
  dsimp only
  rcases pick_inv l with ⟨h0, h⟩ | ⟨h1, ⟨e, h2, h3, h4⟩, h⟩
  · exact .inl ⟨h, by rw [if_pos h0]⟩
  · refine .inr ⟨e, h2, by unfold valued; rw [h3]; exact h1, ?_, fun e' he hv => by rw [h4]; exact h e' he hv⟩
    rw [if_neg (by omega), h3]
theorem pickV_12 (l : List P3) : pickV l = 1 ∨ pickV l = 2 := by
  rcases pickV_cases l with ⟨_, h⟩ | ⟨e, _, h1, h2, _⟩
  · exact .inr h
  · rw [h2]; exact h1
/-- the core: proposals are safe -/
structure Core (n : Int) (g : Gh) : Prop where
  n0 : 0 ≤ n
  safe : ∀ p b, g.V p b ≠ 0 → 0 < b → ∃ l : List P3, (l.map Prod.fst).Nodup ∧ (∀ e ∈ l, 1 ≤ e.1 ∧ e.1 ≤ n ∧ PF g p b e) ∧ n < 2 * (l.length : Int) ∧ g.V p b = pickV l
  dv : ∀ a p b, g.D a p b → g.V p b ≠ 0
  neg : ∀ p b, g.V p b ≠ 0 → 0 ≤ b
def Chosen (n : Int) (g : Gh) (p v : Int) : Prop := (v = 1 ∨ v = 2) ∧ ∃ b, g.V p b = v ∧ Mjy n fun a => g.D a p b
section
variable {n : Int} {g : Gh}
theorem Core.later (h : Core n g) {p b0 : Int} (hc : Mjy n fun a => g.D a p b0) (h0 : 0 ≤ b0) : ∀ (k : Nat) (b : Int), b0 < b → b ≤ b0 + k → g.V p b ≠ 0 → g.V p b = g.V p b0
  | 0, b, h1, h2, _ => by omega
  | k + 1, b, h1, h2, hv => by
    obtain ⟨l, l1, l2, l3, l4⟩ := h.safe p b hv (by omega)
    have hq : Mjy n fun a => ∃ e ∈ l, e.1 = a := ⟨l.map Prod.fst, l1, fun f hf => by
      obtain ⟨e, he, rfl⟩ := List.mem_map.1 hf
      exact ⟨(l2 e he).1, (l2 e he).2.1, e, he, rfl⟩, by rw [List.length_map]; exact l3⟩
    obtain ⟨a, hd, e, he, rfl⟩ := hc.both hq h.n0
    have hp := (l2 e he).2.2.1 b0 h1 hd
    rcases pickV_cases l with ⟨q, _⟩ | ⟨e2, q1, q2, q3, q4⟩
    · exact absurd hp.1 (q e he)
    · have hp2 := (l2 e2 q1).2.2.2 q2
      have hle := q4 e he hp.1
      rw [l4, q3, ← hp2.2.1]
      by_cases hx : e2.2.1 = b0
      · rw [hx]
      · exact h.later hc h0 k _ (by omega) (by omega) (h.dv _ _ _ hp2.1)
theorem Core.agree (h : Core n g) {p v v' : Int} (h1 : Chosen n g p v) (h2 : Chosen n g p v') : v = v' := by
  obtain ⟨_, b, hb, hm⟩ := h1
  obtain ⟨_, b', hb', hm'⟩ := h2
  obtain ⟨f, hf, _⟩ := hm.both hm h.n0
  obtain ⟨f', hf', _⟩ := hm'.both hm' h.n0
  have q := h.dv _ _ _ hf
  have q' := h.dv _ _ _ hf'
  have p1 := h.neg _ _ q
  have p2 := h.neg _ _ q'
  subst hb hb'
  by_cases e : b = b'
  · rw [e]
  · by_cases e2 : b < b'
    · exact (h.later hm p1 (b' - b).toNat b' e2 (by omega) q').symm
    · exact h.later hm' p2 (b - b').toNat b (by omega) (by omega) q
end
/-- more is proposed, more is accepted -/
structure Gle (g g' : Gh) : Prop where
  V : ∀ p b, g.V p b ≠ 0 → g'.V p b = g.V p b
  D : ∀ a p b, g.D a p b → g'.D a p b
theorem Gle.refl (g : Gh) : Gle g g := ⟨fun _ _ _ => rfl, fun _ _ _ h => h⟩
theorem PF.mono {g g' : Gh} {p b : Int} {e : P3} (h : PF g p b e) (k : Gle g g') (hD : ∀ b', b' < b → g'.D e.1 p b' → g.D e.1 p b') : PF g' p b e := by
  refine ⟨fun b' hb hd => h.1 b' hb (hD b' hb hd), fun hv => ?_⟩
  obtain ⟨h1, h2, h3⟩ := h.2 hv
  refine ⟨k.D _ _ _ h1, ?_, h3⟩
  rw [k.V _ _ (by omega)]; exact h2
theorem Chosen.mono {n : Int} {g g' : Gh} {p v : Int} (h : Chosen n g p v) (k : Gle g g') : Chosen n g' p v := by
  obtain ⟨h1, b, h2, h3⟩ := h
  exact ⟨h1, b, by rw [k.V _ _ (by omega)]; exact h2, h3.mono fun a => k.D a p b⟩
/-! ### Acceptors -/
theorem findA_k : ∀ {l : List Acc} {t p : Int}, (findA l t p).1.Txn = t ∧ (findA l t p).1.Part = p
  | [], _, _ => ⟨rfl, rfl⟩
  | a :: l, t, p => by
    unfold findA
    by_cases h : mine t p a = true
    · rw [if_pos h]; unfold mine at h; simp at h; exact h
    · rw [if_neg h]; exact findA_k
theorem mine_key {a : Acc} : mine a.Txn a.Part a = true := by simp [mine]
theorem findA_set : ∀ {l : List Acc} {a : Acc} {t p : Int}, (findA l a.Txn a.Part).2 = true → (findA (setV l a) t p).1 = if t = a.Txn ∧ p = a.Part then a else (findA l t p).1
  | [], a, t, p, h => by cases h
  | x :: l, a, t, p, h => by
    unfold setV
    by_cases hx : mine a.Txn a.Part x = true
    · rw [if_pos hx]
      have hk : x.Txn = a.Txn ∧ x.Part = a.Part := by unfold mine at hx; simpa using hx
      by_cases e : t = a.Txn ∧ p = a.Part
      · rw [if_pos e, e.1, e.2]; unfold findA; rw [if_pos mine_key]
      · rw [if_neg e]
        have h1 : ¬ mine t p a = true := fun q => by unfold mine at q; simp at q; exact e ⟨q.1.symm, q.2.symm⟩
        have h2 : ¬ mine t p x = true := fun q => by unfold mine at q; simp at q; exact e ⟨by omega, by omega⟩
        unfold findA; rw [if_neg h1, if_neg h2]
    · rw [if_neg hx]
      unfold findA at h ⊢
      rw [if_neg hx] at h
      by_cases hm : mine t p x = true
      · rw [if_pos hm, if_pos hm, if_neg]
        rintro ⟨rfl, rfl⟩; exact hx hm
      · rw [if_neg hm, if_neg hm]; exact findA_set h
theorem findA_ins : ∀ {l : List Acc} {a : Acc} {t p : Int}, (findA l a.Txn a.Part).2 = false → (findA (insV l a) t p).1 = if t = a.Txn ∧ p = a.Part then a else (findA l t p).1
  | [], a, t, p, _ => by
    unfold insV findA
    by_cases e : t = a.Txn ∧ p = a.Part
    · rw [if_pos e, e.1, e.2, if_pos mine_key]
    · have h1 : ¬ mine t p a = true := fun q => by unfold mine at q; simp at q; exact e ⟨q.1.symm, q.2.symm⟩
      rw [if_neg e, if_neg h1]; rfl
  | x :: l, a, t, p, h => by
    unfold insV
    by_cases hb : behind x a = true
    · rw [if_pos hb]
      by_cases e : t = a.Txn ∧ p = a.Part
      · rw [if_pos e, e.1, e.2]; unfold findA; rw [if_pos mine_key]
      · have h1 : ¬ mine t p a = true := fun q => by unfold mine at q; simp at q; exact e ⟨q.1.symm, q.2.symm⟩
        rw [if_neg e, findA, if_neg h1]
    · rw [if_neg hb]
      unfold findA at h ⊢
      by_cases hx : mine a.Txn a.Part x = true
      · rw [if_pos hx] at h; cases h
      · rw [if_neg hx] at h
        by_cases hm : mine t p x = true
        · rw [if_pos hm, if_pos hm, if_neg]
          rintro ⟨rfl, rfl⟩; exact hx hm
        · rw [if_neg hm, if_neg hm]; exact findA_ins h
theorem setV_len : ∀ {l : List Acc} {a : Acc}, (setV l a).length = l.length
  | [], _ => rfl
  | x :: l, a => by unfold setV; split; rfl; simp [setV_len]
theorem insV_len : ∀ {l : List Acc} {a : Acc}, (insV l a).length = l.length + 1
  | [], _ => rfl
  | x :: l, a => by unfold insV; split; rfl; simp [insV_len]
end Go.Proofs.Ytjmddkaokmdkbaa
