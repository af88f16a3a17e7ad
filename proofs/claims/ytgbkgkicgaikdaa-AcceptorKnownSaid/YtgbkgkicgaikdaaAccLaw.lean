/- What becomes of votes, message by message, as plain data. -/
import Derived.Test.YtgbkgkicgaikdaaTake
namespace Go.Proofs.Ytgbkgkicgaikdaa
open Go Go.RowKit Kf

theorem mine_iff {t p : Int} {a : Acc} : mine t p a = true ↔ a.Txn = t ∧ a.Part = p := by simp [mine]
theorem mem_setV {l : List Acc} {a x : Acc} (h : x ∈ setV l a) : x = a ∨ x ∈ l := by
  induction l with
  | nil => cases h
  | cons y l ih =>
    unfold setV at h
    split at h
    · rcases List.mem_cons.1 h with h | h
      · exact .inl h
      · exact .inr (List.mem_cons_of_mem _ h)
    · rcases List.mem_cons.1 h with h | h
      · exact .inr (by rw [h]; simp)
      · exact (ih h).imp id (List.mem_cons_of_mem _)
theorem mem_insV {l : List Acc} {a x : Acc} (h : x ∈ insV l a) : x = a ∨ x ∈ l := by
  induction l with
  | nil => exact .inl (by simpa [insV] using h)
  | cons y l ih =>
    unfold insV at h
    split at h
    · exact List.mem_cons.1 h
    · rcases List.mem_cons.1 h with h | h
      · exact .inr (by rw [h]; simp)
      · exact (ih h).imp id (List.mem_cons_of_mem _)
theorem setV_len (l : List Acc) (a : Acc) : (setV l a).length = l.length := by
  induction l with
  | nil => rfl
  | cons y l ih => unfold setV; split <;> simp [ih]
theorem insV_len (l : List Acc) (a : Acc) : (insV l a).length = l.length + 1 := by
  induction l with
  | nil => rfl
  | cons y l ih => unfold insV; split <;> simp [ih]
theorem find_setV {l : List Acc} {a : Acc} (h : (findA l a.Txn a.Part).2 = true) : findA (setV l a) a.Txn a.Part = (a, true) := by
  induction l with
  | nil => cases h
  | cons y l ih =>
    unfold findA at h; unfold setV
    by_cases hm : mine a.Txn a.Part y = true
    · rw [if_pos hm]; unfold findA; rw [if_pos (mine_iff.2 ⟨rfl, rfl⟩)]
    · rw [if_neg hm] at h ⊢; unfold findA; rw [if_neg hm]; exact ih h
theorem find_insV {l : List Acc} {a : Acc} (h : (findA l a.Txn a.Part).2 = false) : findA (insV l a) a.Txn a.Part = (a, true) := by
  induction l with
  | nil => unfold insV findA; rw [if_pos (mine_iff.2 ⟨rfl, rfl⟩)]
  | cons y l ih =>
    unfold findA at h; unfold insV
    by_cases hm : mine a.Txn a.Part y = true
    · rw [if_pos hm] at h; cases h
    · rw [if_neg hm] at h
      split
      · unfold findA; rw [if_pos (mine_iff.2 ⟨rfl, rfl⟩)]
      · unfold findA; rw [if_neg hm]; exact ih h
theorem find_setV_other {l : List Acc} {a : Acc} {t p : Int} (hk : ¬ (t = a.Txn ∧ p = a.Part)) : findA (setV l a) t p = findA l t p := by
  induction l with
  | nil => rfl
  | cons y l ih =>
    unfold setV
    by_cases hm : mine a.Txn a.Part y = true
    · rw [if_pos hm]
      have h1 : mine t p a = false := by rw [Bool.eq_false_iff]; intro e; have := mine_iff.1 e; exact hk ⟨this.1.symm, this.2.symm⟩
      have h2 : mine t p y = false := by rw [Bool.eq_false_iff]; intro e; have := mine_iff.1 e; have h3 := mine_iff.1 hm; exact hk ⟨by rw [← this.1, h3.1], by rw [← this.2, h3.2]⟩
      unfold findA; rw [h1, h2]; rfl
    · rw [if_neg hm]; unfold findA; rw [ih]
theorem find_insV_other {l : List Acc} {a : Acc} {t p : Int} (hk : ¬ (t = a.Txn ∧ p = a.Part)) : findA (insV l a) t p = findA l t p := by
  have h1 : mine t p a = false := by rw [Bool.eq_false_iff]; intro e; have := mine_iff.1 e; exact hk ⟨this.1.symm, this.2.symm⟩
  induction l with
  | nil => unfold insV findA; rw [h1]; rfl
  | cons y l ih =>
    unfold insV
    split
    · rw [findA, h1]; rfl
    · unfold findA; rw [ih]
theorem find_mem {l : List Acc} {t p : Int} (h : (findA l t p).2 = true) : (findA l t p).1 ∈ l := by
  induction l with
  | nil => cases h
  | cons y l ih =>
    unfold findA at h ⊢
    split at h
    · rw [if_pos (by assumption)]; simp
    · rw [if_neg (by assumption)]; exact List.mem_cons_of_mem _ (ih h)
theorem find_not {l : List Acc} {t p : Int} (h : (findA l t p).2 = false) : findA l t p = (⟨t, p, 0, 0, 0⟩, false) ∧ ∀ x ∈ l, ¬ (x.Txn = t ∧ x.Part = p) := by
  induction l with
  | nil => exact ⟨rfl, fun x hx => by cases hx⟩
  | cons y l ih =>
    unfold findA at h ⊢
    split at h
    · cases h
    · rename_i hm
      rw [if_neg hm]
      refine ⟨(ih h).1, fun x hx => ?_⟩
      rcases List.mem_cons.1 hx with rfl | hx
      · exact fun e => hm (mine_iff.2 e)
      · exact (ih h).2 x hx
/-- what is found behind a message about it -/
def nextF (f : Acc × Bool) (id : Int) (m : Msg) : Acc × Bool := if may m = false then f else if (stepA f.1 id m).1 = f.1 then f else ((stepA f.1 id m).1, true)
theorem take_find {l : List Acc} {id : Int} {m : Msg} (hl : l.length < 1024) : findA (takeA l id m).1 m.Txn m.Part = nextF (findA l m.Txn m.Part) id m := by
  obtain ⟨was, has, hf⟩ : ∃ a b, findA l m.Txn m.Part = (a, b) := ⟨_, _, rfl⟩
  have hk := findA_key l m.Txn m.Part
  rw [hf] at hk
  have hs := stepA_key was id m
  unfold nextF
  rw [hf]
  by_cases hm : may m = false
  · rw [takeA_none hf (.inl hm), if_pos hm]; exact hf
  · rw [if_neg hm]
    have hg : ¬ (may m = false ∨ (has = false ∧ 1024 ≤ l.length)) := fun e => e.elim hm (fun e => by omega)
    by_cases he : (stepA was id m).1 = was
    · rw [takeA_same hf hg he, if_pos he]; exact hf
    · rw [takeA_new hf hg he, if_neg he]
      have e1 : (stepA was id m).1.Txn = m.Txn := hs.1.trans hk.1
      have e2 : (stepA was id m).1.Part = m.Part := hs.2.trans hk.2
      cases has
      · have := find_insV (l := l) (a := (stepA was id m).1) (by rw [e1, e2, hf])
        rw [e1, e2] at this; exact this
      · have := find_setV (l := l) (a := (stepA was id m).1) (by rw [e1, e2, hf])
        rw [e1, e2] at this; exact this
theorem take_other {l : List Acc} {id : Int} {m : Msg} {t p : Int} (h : ¬ (t = m.Txn ∧ p = m.Part)) : findA (takeA l id m).1 t p = findA l t p := by
  obtain ⟨was, has, hf⟩ : ∃ a b, findA l m.Txn m.Part = (a, b) := ⟨_, _, rfl⟩
  have hk := findA_key l m.Txn m.Part
  rw [hf] at hk
  have hs := stepA_key was id m
  by_cases hg : may m = false ∨ (has = false ∧ 1024 ≤ l.length)
  · rw [takeA_none hf hg]
  · by_cases he : (stepA was id m).1 = was
    · rw [takeA_same hf hg he]
    · rw [takeA_new hf hg he]
      have h' : ¬ (t = (stepA was id m).1.Txn ∧ p = (stepA was id m).1.Part) := by rw [hs.1, hs.2, hk.1, hk.2]; exact h
      cases has
      · exact find_insV_other h'
      · exact find_setV_other h'
theorem take_out {l l' : List Acc} {id : Int} {m : Msg} (h1 : l.length < 1024) (h2 : l'.length < 1024) (h : findA l m.Txn m.Part = findA l' m.Txn m.Part) : (takeA l id m).2 = (takeA l' id m).2 := by
  obtain ⟨was, has, hf⟩ : ∃ a b, findA l m.Txn m.Part = (a, b) := ⟨_, _, rfl⟩
  have hf' := h.symm.trans hf
  by_cases hm : may m = false
  · rw [takeA_none hf (.inl hm), takeA_none hf' (.inl hm)]
  · have hg : ¬ (may m = false ∨ (has = false ∧ 1024 ≤ l.length)) := fun e => e.elim hm (fun e => by omega)
    have hg' : ¬ (may m = false ∨ (has = false ∧ 1024 ≤ l'.length)) := fun e => e.elim hm (fun e => by omega)
    by_cases he : (stepA was id m).1 = was
    · rw [takeA_same hf hg he, takeA_same hf' hg' he]
    · rw [takeA_new hf hg he, takeA_new hf' hg' he]
theorem take_len (l : List Acc) (id : Int) (m : Msg) : (takeA l id m).1.length ≤ l.length + 1 := by
  unfold takeA
  dsimp only
  split
  · simp
  · split
    · simp
    · split
      · simp [setV_len]
      · simp [insV_len]
theorem take_mem {l : List Acc} {id : Int} {m : Msg} {x : Acc} (h : x ∈ (takeA l id m).1) : x ∈ l ∨ x = (stepA (findA l m.Txn m.Part).1 id m).1 := by
  unfold takeA at h
  dsimp only at h
  split at h
  · exact .inl h
  · split at h
    · exact .inl h
    · split at h
      · exact (mem_setV h).symm
      · exact (mem_insV h).symm
/-- votes about one thing: one at most -/
def OneOf (t p : Int) (l : List Acc) : Prop := l.length ≤ 1 ∧ ∀ x ∈ l, x.Txn = t ∧ x.Part = p
theorem OneOf.take {l : List Acc} {id : Int} {m : Msg} (h : OneOf m.Txn m.Part l) : OneOf m.Txn m.Part (takeA l id m).1 := by
  obtain ⟨was, has, hf⟩ : ∃ a b, findA l m.Txn m.Part = (a, b) := ⟨_, _, rfl⟩
  have hk := findA_key l m.Txn m.Part
  rw [hf] at hk
  have hs := stepA_key was id m
  refine ⟨?_, fun x hx => ?_⟩
  · by_cases hg : may m = false ∨ (has = false ∧ 1024 ≤ l.length)
    · rw [takeA_none hf hg]; exact h.1
    · by_cases he : (stepA was id m).1 = was
      · rw [takeA_same hf hg he]; exact h.1
      · rw [takeA_new hf hg he]
        cases has
        · have h0 : l = [] := by
            cases l with
            | nil => rfl
            | cons y l => exact absurd (h.2 y (by simp)) ((find_not (by rw [hf])).2 y (by simp))
          rw [h0]; simp [insV]
        · simp only [if_true, setV_len]; exact h.1
  · rcases take_mem hx with hx | hx
    · exact h.2 x hx
    · rw [hf] at hx; rw [hx, hs.1, hs.2]; exact hk

/-! ### No vote twice -/
def Uniq (l : List Acc) : Prop := l.Pairwise fun a b => ¬ (a.Txn = b.Txn ∧ a.Part = b.Part)
theorem Uniq.find {l : List Acc} (h : Uniq l) : ∀ x ∈ l, findA l x.Txn x.Part = (x, true) := by
  induction l with
  | nil => intro x hx; cases hx
  | cons y l ih =>
    obtain ⟨h1, h2⟩ := List.pairwise_cons.1 h
    intro x hx
    unfold findA
    rcases List.mem_cons.1 hx with rfl | hx
    · rw [if_pos (mine_iff.2 ⟨rfl, rfl⟩)]
    · rw [if_neg (fun e => h1 x hx (mine_iff.1 e))]; exact ih h2 x hx
theorem Uniq.set {l : List Acc} (h : Uniq l) (a : Acc) : Uniq (setV l a) := by
  induction l with
  | nil => exact h
  | cons y l ih =>
    obtain ⟨h1, h2⟩ := List.pairwise_cons.1 h
    unfold setV
    by_cases hm : mine a.Txn a.Part y = true
    · rw [if_pos hm]
      obtain ⟨e1, e2⟩ := mine_iff.1 hm
      exact List.pairwise_cons.2 ⟨fun x hx => by rw [← e1, ← e2]; exact h1 x hx, h2⟩
    · rw [if_neg hm]
      refine List.pairwise_cons.2 ⟨fun x hx => ?_, ih h2⟩
      rcases mem_setV hx with rfl | hx
      · exact fun e => hm (mine_iff.2 e)
      · exact h1 x hx
theorem Uniq.ins {l : List Acc} (h : Uniq l) {a : Acc} (hn : ∀ x ∈ l, ¬ (x.Txn = a.Txn ∧ x.Part = a.Part)) : Uniq (insV l a) := by
  induction l with
  | nil => unfold insV; exact List.pairwise_singleton _ _
  | cons y l ih =>
    obtain ⟨h1, h2⟩ := List.pairwise_cons.1 h
    unfold insV
    split
    · exact List.pairwise_cons.2 ⟨fun x hx e => hn x hx ⟨e.1.symm, e.2.symm⟩, h⟩
    · refine List.pairwise_cons.2 ⟨fun x hx => ?_, ih h2 fun x hx => hn x (by simp [hx])⟩
      rcases mem_insV hx with rfl | hx
      · exact hn y (by simp)
      · exact h1 x hx
theorem Uniq.take {l : List Acc} (h : Uniq l) (id : Int) (m : Msg) : Uniq (takeA l id m).1 := by
  obtain ⟨was, has, hf⟩ : ∃ a b, findA l m.Txn m.Part = (a, b) := ⟨_, _, rfl⟩
  have hk := findA_key l m.Txn m.Part
  rw [hf] at hk
  have hs := stepA_key was id m
  by_cases hg : may m = false ∨ (has = false ∧ 1024 ≤ l.length)
  · rw [takeA_none hf hg]; exact h
  · by_cases he : (stepA was id m).1 = was
    · rw [takeA_same hf hg he]; exact h
    · rw [takeA_new hf hg he]
      cases has
      · refine h.ins fun x hx => ?_
        rw [hs.1, hs.2, hk.1, hk.2]
        exact (find_not (by rw [hf])).2 x hx
      · exact h.set _
def Low (a : Acc) : Prop := a.Ballot ≤ a.Promised
theorem stepA_low {a : Acc} {id : Int} {m : Msg} (h : Low a) : Low (stepA a id m).1 ∧ a.Promised ≤ (stepA a id m).1.Promised := by
  unfold Low at *
  unfold stepA stepP stepO
  split
  · split
    · dsimp only; omega
    · exact ⟨h, Int.le_refl _⟩
  · dsimp only
    split
    · dsimp only; omega
    · exact ⟨h, Int.le_refl _⟩
theorem find_low {l : List Acc} (h : ∀ x ∈ l, Low x) (t p : Int) : Low (findA l t p).1 := by
  cases hb : (findA l t p).2
  · rw [(find_not hb).1]; exact Int.le_refl _
  · exact h _ (find_mem hb)
theorem take_low {l : List Acc} (h : ∀ x ∈ l, Low x) (id : Int) (m : Msg) : ∀ x ∈ (takeA l id m).1, Low x := by
  intro x hx
  rcases take_mem hx with hx | rfl
  · exact h x hx
  · exact (stepA_low (find_low h _ _)).1
/-- all that a message does of a vote -/
theorem take_says {V X : List Acc} {M : List Msg} {ch wh ih : Bool} {was is : Acc} {id : Int} {m : Msg} (hl : V.length < 1024) (hlow : ∀ x ∈ V, Low x) (hf : findA V m.Txn m.Part = (was, wh)) (hT : takeA V id m = (X, M, ch)) (hi : findA X m.Txn m.Part = (is, ih)) :
    was.Promised ≤ is.Promised ∧ is.Ballot ≤ is.Promised ∧ ch = !decide (is = was) ∧ (ch = true → ih = true) ∧ (wh = true → ih = true) ∧ M.length ≤ 1 ∧
    (is.Value ≠ was.Value → m.Kind = 10 ∧ was.Promised ≤ m.Ballot ∧ is.Ballot = m.Ballot ∧ is.Value = m.Value) ∧
    (∀ h : 0 < M.length, (M[0]'h).Ok = true → is.Promised = m.Ballot ∧ ((M[0]'h).Kind = 11 → is.Ballot = m.Ballot ∧ is.Value = (M[0]'h).Value) ∧ ((M[0]'h).Kind = 9 → (M[0]'h).Index = was.Ballot ∧ (M[0]'h).Value = was.Value)) := by
  have hfi := take_find (l := V) (id := id) (m := m) hl
  rw [hT, hf] at hfi
  have hfi : (is, ih) = nextF (was, wh) id m := hi.symm.trans hfi
  have hwl : Low was := by have := find_low hlow m.Txn m.Part; rwa [hf] at this
  have hfew : M.length ≤ 1 := by have := takeA_few V id m; rwa [hT] at this
  unfold nextF at hfi
  by_cases hm : may m = false
  · rw [if_pos hm] at hfi
    rw [takeA_none hf (.inl hm)] at hT
    injection hfi with e1 e2
    injection hT with _ e3
    injection e3 with e3 e4
    subst e1 e2 e3 e4
    exact ⟨Int.le_refl _, hwl, by simp, by simp, (fun h => h), by simp, (fun h => absurd rfl h), (fun h => by simp at h)⟩
  · rw [if_neg hm] at hfi
    have hg : ¬ (may m = false ∨ (wh = false ∧ 1024 ≤ V.length)) := fun e => e.elim hm (fun e => by omega)
    obtain ⟨hlw, hpr⟩ := stepA_low (id := id) (m := m) hwl
    have key : is = (stepA was id m).1 ∧ M = [(stepA was id m).2] ∧ ch = !decide (is = was) ∧ (ch = true → ih = true) ∧ (wh = true → ih = true) := by
      by_cases he : (stepA was id m).1 = was
      · rw [takeA_same hf hg he] at hT
        dsimp only at hfi
        rw [if_pos he] at hfi
        injection hfi with e1 e2
        injection hT with _ e3
        injection e3 with e3 e4
        subst e1 e2 e3 e4
        exact ⟨he.symm, rfl, by simp, by simp, fun h => h⟩
      · rw [takeA_new hf hg he] at hT
        dsimp only at hfi
        rw [if_neg he] at hfi
        injection hfi with e1 e2
        injection hT with _ e3
        injection e3 with e3 e4
        subst e1 e2 e3 e4
        exact ⟨rfl, rfl, by simp [he], fun _ => rfl, fun _ => rfl⟩
    obtain ⟨k1, k2, k3, k4, k5⟩ := key
    refine ⟨by rw [k1]; exact hpr, by rw [k1]; exact hlw, k3, k4, k5, hfew, ?_, ?_⟩
    · rw [k1]
      unfold stepA stepP stepO
      split
      · split <;> (intro h; exact absurd rfl h)
      · dsimp only
        split
        · rename_i h8 hp
          intro _
          have : m.Kind = 10 := by
            unfold may at hm
            simp only [h8, decide_false, Bool.false_or] at hm
            by_cases h10 : m.Kind = 10
            · exact h10
            · simp [h10] at hm
          exact ⟨this, hp, rfl, rfl⟩
        · intro h; exact absurd rfl h
    · subst k2
      intro h
      simp only [List.getElem_cons_zero]
      rw [k1]
      unfold stepA stepP stepO
      split
      · split
        · intro _; exact ⟨rfl, (fun h => by cases h), (fun _ => ⟨rfl, rfl⟩)⟩
        · intro h; cases h
      · dsimp only
        split
        · split <;> (intro _; exact ⟨rfl, (fun _ => ⟨rfl, rfl⟩), (fun h => by cases h)⟩)
        · split <;> (intro h; cases h)
/-- other votes stay -/
theorem take_stays {V : List Acc} {id : Int} {m : Msg} (hl : V.length < 1024) (hu : Uniq V) {x : Acc} (hx : x ∈ V) : (findA (takeA V id m).1 x.Txn x.Part).2 = true ∧ (¬ (x.Txn = m.Txn ∧ x.Part = m.Part) → (findA (takeA V id m).1 x.Txn x.Part).1 = x) := by
  have hf := hu.find x hx
  by_cases h : x.Txn = m.Txn ∧ x.Part = m.Part
  · refine ⟨?_, fun e => absurd h e⟩
    rw [h.1, h.2, take_find hl, ← h.1, ← h.2, hf]
    unfold nextF
    split
    · rfl
    · split <;> rfl
  · rw [take_other h, hf]; exact ⟨rfl, fun _ => rfl⟩
end Go.Proofs.Ytgbkgkicgaikdaa
