/- What is asked and noted of sessions, as plain data. -/
import Derived.Test.YtpimnlgfhpnjnaaSes
namespace Go.Proofs.Ytpimnlgfhpnjnaa.Se
open Go Go.RowKit Kf

/-- the first place of n where p is so, or -1 -/
def IdxZ (p : Nat → Bool) (n : Nat) (z : Int) : Prop := (∃ k : Nat, k < n ∧ z = (k : Int) ∧ p k = true ∧ ∀ j, j < k → p j = false) ∨ (z = -1 ∧ ∀ j, j < n → p j = false)
def Idx (p : Nat → Bool) (n : Nat) (r : Value) : Prop := ∃ z, r = i64 z ∧ IdxZ p n z
theorem IdxZ.pos {p : Nat → Bool} {n : Nat} {z : Int} (h : IdxZ p n z) (hz : 0 ≤ z) : ∃ k : Nat, z = (k : Int) ∧ k < n ∧ p k = true ∧ ∀ j, j < k → p j = false := by
  rcases h with ⟨k, h1, h2, h3, h4⟩ | ⟨h1, _⟩
  · exact ⟨k, h2, h1, h3, h4⟩
  · omega
theorem IdxZ.neg {p : Nat → Bool} {n : Nat} {z : Int} (h : IdxZ p n z) (hz : ¬ 0 ≤ z) : z = -1 ∧ ∀ j, j < n → p j = false := by
  rcases h with ⟨k, h1, h2, h3, h4⟩ | h
  · omega
  · exact h

def findS (l : List Ses) (c : Int) : Option Ses := l.find? fun s => decide (s.Client = c)
/-- the result, and what is told of it -/
def askS (l : List Ses) (c q : Int) : (Int × List UInt8) × Int :=
  if c = 0 then ((0, []), 0) else
  match findS l c with
  | none => ((0, []), 0)
  | some s => if s.Seq < q then ((0, []), 0) else if q < s.Seq then ((0, []), 15) else ((s.Code, s.Data), 7)
def hasS (l : List Ses) (c : Int) : Bool := l.any fun s => decide (s.Client = c)
def ofC (c : Int) (s : Ses) : Bool := decide (s.Client = c)
def overC (c : Int) (s : Ses) : Bool := decide (c < s.Client)
def noteS (l : List Ses) (s : Ses) : List Ses := if s.Client = 0 then l else layL (ofC s.Client) (overC s.Client) (hasS l s.Client) s l
theorem findS_at {l : List Ses} {c : Int} {k : Nat} (hk : k < l.length) (h : ofC c l[k] = true) (hn : ∀ j (hj : j < l.length), j < k → ofC c l[j] = false) : findS l c = some l[k] := by
  induction l generalizing k with
  | nil => simp at hk
  | cons x l ih =>
    unfold findS
    rw [List.find?_cons]
    cases k with
    | zero => rw [show decide (x.Client = c) = true from h]; rfl
    | succ k =>
      have h0 := hn 0 (by simp) (by omega)
      simp only [List.getElem_cons_zero] at h0
      rw [show decide (x.Client = c) = false from h0]
      simp only [List.length_cons] at hk
      exact ih (by omega) (by simpa using h) (fun j hj hjk => by have := hn (j + 1) (by simpa using hj) (by omega); simpa using this)
theorem findS_none {l : List Ses} {c : Int} (hn : ∀ j (hj : j < l.length), ofC c l[j] = false) : findS l c = none := by
  unfold findS
  rw [List.find?_eq_none]
  intro x hx
  obtain ⟨j, hj, rfl⟩ := List.getElem_of_mem hx
  have := hn j hj
  unfold ofC at this
  simpa using this
theorem hasS_at {l : List Ses} {c : Int} {k : Nat} (hk : k < l.length) (h : ofC c l[k] = true) : hasS l c = true := by
  unfold hasS
  rw [List.any_eq_true]
  exact ⟨l[k], List.getElem_mem hk, h⟩
theorem hasS_none {l : List Ses} {c : Int} (hn : ∀ j (hj : j < l.length), ofC c l[j] = false) : hasS l c = false := by
  unfold hasS
  rw [List.any_eq_false]
  intro x hx
  obtain ⟨j, hj, rfl⟩ := List.getElem_of_mem hx
  have := hn j hj
  unfold ofC at this
  simpa using this
theorem findS_drop {l : List Ses} {c : Int} {k : Nat} (hk : k < l.length) : findS (l.drop k) c = if ofC c l[k] then some l[k] else findS (l.drop (k + 1)) c := by
  rw [List.drop_eq_getElem_cons hk]
  unfold findS ofC
  rw [List.find?_cons]
  cases decide (l[k].Client = c) <;> rfl
theorem hasS_take {l : List Ses} {c : Int} {k : Nat} (hk : k < l.length) : hasS (l.take (k + 1)) c = (hasS (l.take k) c || ofC c l[k]) := by
  rw [List.take_succ_eq_append_getElem hk]
  unfold hasS ofC
  rw [List.any_append]; simp only [List.any_cons, List.any_nil, Bool.or_false]
end Go.Proofs.Ytpimnlgfhpnjnaa.Se
