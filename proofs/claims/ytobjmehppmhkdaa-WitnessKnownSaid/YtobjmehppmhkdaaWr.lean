/- What layer 30 says of a history, as plain mathematics; the law of WitnessReal. -/
import Derived.Test.YtobjmehppmhkdaaEv
namespace Go.Proofs.Ytobjmehppmhkdaa
open Go Go.RowKit Kf
set_option maxRecDepth 20000
def ans (e : Ev) (kind code : Int) : Bool := decide (e.Kind = 2) && (decide (e.Call.Kind = kind) && decide (e.Answer.Code = code))
def chs (t : Int) (e : Ev) : Bool := decide (e.Kind = 3) && decide (e.Txn = t)
/-- the place of a transaction's first choice -/
def firstOf : List Ev → Int → Option Nat
  | [], _ => none
  | e :: l, t => if chs t e then some 0 else (firstOf l t).map (· + 1)
def chosenB (l : List Ev) (t : Int) (ahead : Int) : Bool := match firstOf l t with
  | some i => decide ((i : Int) < ahead)
  | none => false
def anyI (l : List Ev) (f : Nat → Ev → Bool) : Bool := (List.range l.length).any fun i => f i (l.getD i Ev.zero)
theorem anyI_no {l : List Ev} {f : Nat → Ev → Bool} (h : anyI l f = false) {i : Nat} (hi : i < l.length) : f i l[i] = false := by
  unfold anyI at h
  rw [List.any_eq_false] at h
  have := h i (List.mem_range.2 hi)
  rw [List.getD_eq_getElem?_getD, List.getElem?_eq_getElem hi] at this
  simpa using this
def twiceB (l : List Ev) : Bool := anyI l fun i e => decide (e.Kind = 3) && chosenB l e.Txn i
def deniesB (e : Ev) : Bool := ans e 4 24 || (ans e 7 24 || (ans e 9 24 || (ans e 2 24 || ans e 5 0)))
def deniedB (l : List Ev) : Bool := l.any fun e => deniesB e && chosenB l e.Txn l.length
def touchesB (l : List Ev) (t : Int) : Bool := l.any fun e => decide (e.Txn = t) && (ans e 3 0 || ans e 2 0)
def writesB (l : List Ev) (t : Int) : Bool := l.any fun e => decide (e.Txn = t) && ans e 3 0
def saysB (l : List Ev) (e : Ev) : Bool := ans e 7 0 || (ans e 9 0 || (ans e 4 0 && touchesB l e.Txn))
def earlyB (l : List Ev) : Bool := anyI l fun i e => saysB l e && !chosenB l e.Txn i
def goesOn (e : Ev) : Bool := decide (e.Kind = 1) && (decide (e.Call.Kind = 2) || (decide (e.Call.Kind = 3) || (decide (e.Call.Kind = 4) || decide (e.Call.Kind = 5))))
def lateB (l : List Ev) : Bool := anyI l fun i e => goesOn e && chosenB l e.Txn i
def orderL (l : List Ev) : List Int := (l.filter fun e => decide (e.Kind = 3)).map Ev.Txn
/-- a place in an order -/
def placeOf : List Int → Int → Option Nat
  | [], _ => none
  | x :: l, t => if x = t then some 0 else (placeOf l t).map (· + 1)
theorem placeOf_mem : ∀ {l : List Int} {t : Int}, t ∈ l → ∃ a, placeOf l t = some a
  | [], _, h => by cases h
  | x :: l, t, h => by
    unfold placeOf
    by_cases e : x = t
    · rw [if_pos e]; exact ⟨0, rfl⟩
    · rw [if_neg e]
      obtain ⟨a, ha⟩ := placeOf_mem (l := l) (t := t) (by rcases List.mem_cons.1 h with q | q; exact absurd q.symm e; exact q)
      exact ⟨a + 1, by rw [ha]; rfl⟩
theorem firstOf_mem : ∀ {l : List Ev} {t : Int} {j : Nat}, firstOf l t = some j → t ∈ orderL l
  | [], _, _, h => by cases h
  | e :: l, t, j, h => by
    unfold firstOf at h
    unfold orderL
    by_cases c : chs t e = true
    · unfold chs at c
      simp only [Bool.and_eq_true, decide_eq_true_eq] at c
      rw [List.filter_cons_of_pos (by simpa using c.1), List.map_cons]
      exact List.mem_cons.2 (.inl c.2.symm)
    · rw [if_neg c] at h
      cases hf : firstOf l t with
      | none => rw [hf] at h; cases h
      | some j' =>
        have := firstOf_mem hf
        by_cases k : e.Kind = 3
        · rw [List.filter_cons_of_pos (by simpa using k), List.map_cons]; exact List.mem_cons_of_mem _ this
        · rw [List.filter_cons_of_neg (by simpa using k)]; exact this
/-- who stands ahead in the order was chosen ahead -/
theorem first_le : ∀ {l : List Ev} {t : Int} {a b j : Nat} (hb : b < (orderL l).length), placeOf (orderL l) t = some a → b ≤ a → firstOf l t = some j → ∃ i, firstOf l (orderL l)[b] = some i ∧ i ≤ j
  | [], _, _, _, _, hb, _, _, _ => by simp [orderL] at hb
  | e :: l, t, a, b, j, hb, hp, hba, hf => by
    by_cases k : e.Kind = 3
    · have ho : orderL (e :: l) = e.Txn :: orderL l := by unfold orderL; rw [List.filter_cons_of_pos (by simpa using k), List.map_cons]
      simp only [ho] at hb hp ⊢
      cases b with
      | zero =>
        refine ⟨0, ?_, Nat.zero_le _⟩
        show firstOf (e :: l) e.Txn = some 0
        unfold firstOf; rw [if_pos (by simp [chs, k])]
      | succ b =>
        have hb' : b < (orderL l).length := by simp only [List.length_cons] at hb; omega
        show ∃ i, firstOf (e :: l) ((orderL l)[b]'hb') = some i ∧ i ≤ j
        unfold placeOf at hp
        by_cases q : e.Txn = t
        · rw [if_pos q] at hp; injection hp with hp; omega
        · rw [if_neg q] at hp
          cases hp' : placeOf (orderL l) t with
          | none => rw [hp'] at hp; cases hp
          | some a' =>
            rw [hp'] at hp
            simp only [Option.map_some, Option.some.injEq] at hp
            unfold firstOf at hf
            rw [if_neg (by simp [chs, q])] at hf
            cases hf' : firstOf l t with
            | none => rw [hf'] at hf; cases hf
            | some j' =>
              rw [hf'] at hf
              simp only [Option.map_some, Option.some.injEq] at hf
              simp only [List.length_cons] at hb
              obtain ⟨i, h1, h2⟩ := first_le (l := l) (b := b) (by omega) hp' (by omega) hf'
              unfold firstOf
              split
              · exact ⟨0, rfl, Nat.zero_le _⟩
              · rw [h1]; exact ⟨i + 1, rfl, by omega⟩
    · have ho : orderL (e :: l) = orderL l := by unfold orderL; rw [List.filter_cons_of_neg (by simpa using k)]
      simp only [ho] at hb hp ⊢
      have hn : ∀ u, chs u e = false := fun u => by simp [chs, k]
      unfold firstOf at hf ⊢
      simp only [hn] at hf ⊢
      cases hf' : firstOf l t with
      | none => rw [hf'] at hf; cases hf
      | some j' =>
        rw [hf'] at hf
        simp only [Option.map_some, Option.some.injEq, Bool.false_eq_true, if_false] at hf ⊢
        obtain ⟨i, h1, h2⟩ := first_le (l := l) (b := b) hb hp hba hf'
        rw [h1]; exact ⟨i + 1, rfl, by omega⟩
/-- in a history that is right, who was answered ahead of another one's call stands ahead of it -/
theorem real_law {l : List Ev} (he : earlyB l = false) (hl : lateB l = false) {i : Nat} (hi : i < l.length) (hs : ans l[i] 9 0 = true ∨ ans l[i] 7 0 = true ∨ (ans l[i] 4 0 = true ∧ writesB l l[i].Txn = true)) :
    ∃ a, placeOf (orderL l) l[i].Txn = some a ∧ ∀ (b : Nat) (hb : b < (orderL l).length) (f : Nat) (hf : f < l.length), l[f].Txn = (orderL l)[b] → goesOn l[f] = true → i < f → ¬ b ≤ a := by
  have h1 := anyI_no he hi
  have hsay : saysB l l[i] = true := by
    unfold saysB
    rcases hs with q | q | ⟨q, q2⟩
    · rw [q]; simp
    · rw [q]; simp
    · have : touchesB l l[i].Txn = true := by
        unfold writesB at q2
        unfold touchesB
        obtain ⟨e, he, h⟩ := List.any_eq_true.1 q2
        refine List.any_eq_true.2 ⟨e, he, ?_⟩
        simp only [Bool.and_eq_true, Bool.or_eq_true] at h ⊢
        exact ⟨h.1, .inl h.2⟩
      rw [q, this]; simp
  rw [hsay] at h1
  have hch : chosenB l l[i].Txn i = true := by simpa using h1
  unfold chosenB at hch
  cases hj : firstOf l l[i].Txn with
  | none => rw [hj] at hch; cases hch
  | some j =>
    rw [hj] at hch
    have hji : (j : Int) < i := by simpa using hch
    obtain ⟨a, ha⟩ := placeOf_mem (firstOf_mem hj)
    refine ⟨a, ha, fun b hb f hf ht hg hif hba => ?_⟩
    obtain ⟨i', q1, q2⟩ := first_le hb ha hba hj
    have h2 := anyI_no hl hf
    rw [hg, ht] at h2
    unfold chosenB at h2
    rw [q1] at h2
    simp at h2
    omega
end Go.Proofs.Ytobjmehppmhkdaa
